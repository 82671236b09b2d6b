/- Calls: what comes out of a frame; the machine's runs are the model's calls. -/
import Derived.Test.YtjjocahgbmibeaaEngY
namespace Go.Eng
set_option linter.unusedVariables false
set_option linter.unusedSimpArgs false

section
variable {P : Program} {C : Ctx} {w : World} {σ : Sig} {F : Nat → Prop} {S : St} {a : Act}
def resVal (tmps : Array Value) : ResultVar → Sem Value
  | .tmp t => pure (tmps.getD t undef)
  | .cell a t => do loadVar t (← asAddr (tmps.getD a undef))
theorem resOne_ok (h : Inv C w σ F S.m) (he : EnvR w σ F S.e a.tmps) {rv : ResultVar} {ar : ARes} (hr : resRead P rv = some ar) {x : AV} (hx : resOne S ar = some x) : ∃ v, (resVal a.tmps rv).run P w = .ok v w ∧ RelL w σ F x v := by
  cases rv with
  | tmp t =>
    simp only [resRead, Option.some.injEq] at hr
    subst hr
    simp only [resOne, Option.some.injEq] at hx
    subst hx
    exact ⟨_, rfl, he t⟩
  | cell n t =>
    simp only [resRead] at hr
    split at hr
    · rename_i sz ag hsz hag
      split at hr
      · rename_i hc
        obtain rfl := Option.some.inj hr
        simp only [resOne, Option.bind_eq_some_iff] at hx
        obtain ⟨q, hq, hx⟩ := hx
        split at hx
        · rename_i hb
          obtain ⟨p, us, h1, h2, h3, h4⟩ := h.ptrCells_ok (cs := q.1) (j := q.2) hq (he n)
          have hr := one_rel (w := w) (σ := σ) (F := F) (us := (us.drop q.2).take sz) hx (by rw [List.length_take, List.length_take, List.length_drop, List.length_drop, h2]) (fun k u v hu hv => by
            rw [List.getElem?_take] at hu hv
            split at hu
            · rename_i hk; rw [if_pos hk] at hv; rw [List.getElem?_drop] at hu hv; exact h4 _ u v hu hv
            · cases hu)
          refine ⟨_, ?_, hr.1⟩
          simp only [resVal, Sem.run_bind, h1, asAddr, Sem.run_pure, Result.andThen_ok, run_ld hsz hag hc h2 hb h3]
        · cases hx
      · cases hr
    · cases hr
theorem resAll_ok (h : Inv C w σ F S.m) (he : EnvR w σ F S.e a.tmps) : ∀ {rvs : List ResultVar} {ars : List ARes} {xs : List AV}, rvs.mapM (resRead P) = some ars → resAll S ars = some xs →
    ∃ vs, (rvs.mapM (resVal a.tmps)).run P w = .ok vs w ∧ vs.length = xs.length ∧ ∀ (k : Nat) x v, xs[k]? = some x → vs[k]? = some v → RelL w σ F x v
  | [], ars, xs, h1, h2 => by
    simp only [List.mapM_nil, Option.pure_def, Option.some.injEq] at h1
    subst h1
    obtain rfl := Option.some.inj h2
    exact ⟨[], by simp, rfl, fun k x v hx => by simp at hx⟩
  | rv :: rvs, ars, xs, h1, h2 => by
    simp only [List.mapM_cons, Option.bind_eq_bind, Option.bind_eq_some_iff, Option.pure_def, Option.some.injEq] at h1
    obtain ⟨ar, har, ars', hars, rfl⟩ := h1
    simp only [resAll, Option.bind_eq_some_iff, Option.some.injEq] at h2
    obtain ⟨x, hx, xs', hxs, rfl⟩ := h2
    obtain ⟨v, hv, hr⟩ := resOne_ok h he har hx
    obtain ⟨vs, hvs, hl, hrs⟩ := resAll_ok h he hars hxs
    refine ⟨v :: vs, by simp [List.mapM_cons, hv, hvs], by simp [hl], fun k x' v' hk hv' => ?_⟩
    cases k with
    | zero => simp at hk hv'; subst hk; subst hv'; exact hr
    | succ k => exact hrs k x' v' (by simpa using hk) (by simpa using hv')
theorem resOf_ok (h : Inv C w σ F S.m) (he : EnvR w σ F S.e a.tmps) {cf : Func} {ars : List ARes} {x : AV} (h1 : cf.results.toList.mapM (resRead P) = some ars) (h2 : resOf S ars = some x) : ∃ v, (results cf a.tmps).run P w = .ok v w ∧ RelL w σ F x v := by
  simp only [resOf, Option.bind_eq_some_iff] at h2
  obtain ⟨xs, hxs, h2⟩ := h2
  obtain ⟨vs, hvs, hl, hr⟩ := resAll_ok h he h1 hxs
  have hrun : (results cf a.tmps).run P w = .ok (if h : vs.toArray.size = 1 then vs.toArray[0] else .tuple vs.toArray) w := by
    have : results cf a.tmps = (cf.results.mapM (resVal a.tmps)) >>= fun vs => pure (if h : vs.size = 1 then vs[0] else .tuple vs) := rfl
    rw [this, Array.mapM_eq_mapM_toList]
    simp [hvs]
  refine ⟨_, hrun, ?_⟩
  split at h2
  · obtain rfl := Option.some.inj h2
    obtain ⟨v, rfl⟩ : ∃ v, vs = [v] := List.length_eq_one_iff.1 hl
    exact hr 0 _ v rfl rfl
  · rename_i hne
    obtain rfl := Option.some.inj h2
    have : ¬ vs.toArray.size = 1 := fun hs => by
      rw [List.size_toArray, hl] at hs
      match xs, hs, hne with
      | [x], _, hne => exact hne x rfl
    rw [dif_neg this]
    exact .tup (by simp [hl]) fun k u v hu hv => hr k u v hu (by simpa using hv)
/-- What a frame leaves behind. -/
theorem leave_ok {sz : Nat} {tm : Nat → Value} {fn : AFn} {cf : Func} {r : AV} {outs : List AV} (h : FInv C sz fn.ps tm S a w) (hl : leave fn S = some (r, outs)) (hc : cf.results.toList.mapM (resRead P) = some fn.res) :
    ∃ v, (results cf a.tmps).run P w = .ok v w ∧ FnPost C.w0 C.F0 C.L0 w ((trues fn.modes 0).map tm) v r outs := by
  obtain ⟨⟨σ, F, hi, he, _⟩, _, _, hps⟩ := h
  simp only [leave, Option.bind_eq_some_iff, Option.some.injEq, Prod.mk.injEq] at hl
  obtain ⟨x, hx, p, hp, q, hq, rfl, rfl⟩ := hl
  obtain ⟨v, hv, hr⟩ := resOf_ok hi he hc hx
  obtain ⟨L1, b1, o1⟩ := expRes_ok hi (p := p.1) (u := p.2) hp hr
  obtain ⟨L2, b2, o2⟩ := expVals_ok o1.inv (ps := q.1) (u := q.2) (vs := (trues fn.modes 0).map tm) hq (by simp) (fun k c v hk hv' => by
    rw [List.getElem?_map, Option.map_eq_some_iff] at hk hv'
    obtain ⟨t, ht, rfl⟩ := hk
    obtain ⟨t', ht', rfl⟩ := hv'
    rw [ht] at ht'; obtain rfl := Option.some.inj ht'
    by_cases hg : fn.gone.contains t = true
    · rw [if_pos hg]; exact .junk
    · rw [if_neg hg, ← hps t (List.mem_filter.2 ⟨List.mem_of_getElem? ht, by simpa using hg⟩)]
      exact he t)
  have o := o1.append o2
  exact ⟨v, hv, F, L1, L2, o.inv.kept, o.inv.fold, o.inv.fnew, b1, b2, o.given.nodup, fun g hg => ⟨(o.given.ours g hg).1, o.given.lt g hg, (o.given.ours g hg).2⟩⟩
end

theorem mvals_trues : ∀ (md : List Bool) (vs : List Value) (i : Nat) (g : Nat → Value), md.length = vs.length → (∀ (k : Nat) v, vs[k]? = some v → g (i + k) = v) → mvals md vs = (trues md i).map g
  | [], [], i, g, _, _ => rfl
  | b :: md, v :: vs, i, g, hl, hg => by
    have ih := mvals_trues md vs (i + 1) g (by simpa using hl) fun k v hv => by rw [show i + 1 + k = i + (k + 1) by omega]; exact hg (k + 1) v (by simpa using hv)
    have h0 := hg 0 v rfl
    simp only [Nat.add_zero] at h0
    cases b <;> simp [mvals, trues, ih, h0]
theorem trues_lt : ∀ (md : List Bool) (i t : Nat), t ∈ trues md i → i ≤ t ∧ t < i + md.length
  | b :: md, i, t, h => by
    have ih := trues_lt md (i + 1) t
    cases b <;> simp [trues] at h ⊢
    · have := ih h; omega
    · rcases h with rfl | h
      · omega
      · have := ih h; omega
theorem bdvs_len {w : World} {F : Nat → Prop} {as : List AV} {vs : List Value} {L : List Nat} (h : BdVs w F as vs L) : vs.length = as.length := by
  induction h with
  | nil => rfl
  | cons _ _ ih => simp [ih]
theorem look_range {α : Type} : ∀ (l : List α) (i t : Nat), look ((List.range' i l.length).zip l) t = if t < i then none else l[t - i]?
  | [], i, t => by simp [look]
  | x :: l, i, t => by
    simp only [List.length_cons, List.range'_succ, List.zip_cons_cons, look]
    by_cases h : i = t
    · subst h; simp
    · rw [if_neg h, look_range l (i + 1) t]
      by_cases hk : t < i
      · rw [if_pos hk, if_pos (by omega)]
      · rw [if_neg hk, if_neg (by omega), show t - i = (t - (i + 1)) + 1 by omega]
        simp
/-- A frame at its start. -/
theorem enter_ok {w : World} {F : Nat → Prop} {as : List AV} {vs : List Value} {L : List Nat} (hb : BdVs w F as vs L) (hnd : L.Nodup) (hL : ∀ g, g ∈ L → ¬ F g ∧ g < w.heap.size) (hF : ∀ k, F k → k < w.heap.size) (n : Nat) (ps : List Nat) (hps : ∀ t, t ∈ ps → t < vs.length) :
    FInv ⟨w, F, L⟩ (vs.length + (n - vs.length)) ps (fun t => vs.getD t undef) (enter as) { tmps := vs.toArray ++ Array.replicate (n - vs.length) undef, defers := [] } w := by
  have h0 : Inv ⟨w, F, L⟩ w (fun _ => none) F (fun _ => none) := ⟨Kept'.refl w L, fun k hk => ⟨hF k hk, .inl hk⟩, fun k hk => hk, fun id o h => (by cases h), fun id id' o o' g h => (by cases h)⟩
  obtain ⟨σ, i1, hl, hr⟩ := impVals_ok (N := (impVals 0 as).2.2) (n := 0) h0 (fun id _ _ => rfl) hb ⟨hnd, fun g hg => ⟨(hL g hg).1, .inl hg⟩, fun g hg => (hL g hg).2, fun g hg id o h => by cases h⟩ (Nat.le_refl _)
  refine ⟨⟨σ, F, ?_, fun t => ?_, fun id hid => ?_⟩, by simp, rfl, fun t ht => ?_⟩
  · have : (enter as).m = putM (fun _ => none) (impVals 0 as).2.1 := by
      rw [putM_updL]
      have := look_rev (u := (impVals 0 as).2.1) (l := [])
      rw [List.append_nil] at this
      exact this
    rw [this]; exact i1.inv
  · have hE : (enter as).e t = ((impVals 0 as).1[t]?).getD .junk := by
      show (look ((List.range (impVals 0 as).1.length).zip (impVals 0 as).1) t).getD .junk = _
      rw [List.range_eq_range', look_range]; simp
    rw [hE]
    cases hq : (impVals 0 as).1[t]? with
    | none => exact .junk
    | some x =>
      have ht := (List.getElem?_eq_some_iff.1 hq).1
      have hv : vs[t]? = some (vs[t]'(by omega)) := List.getElem?_eq_getElem (by omega)
      have := hr t x _ hq hv
      have e1 : (vs.toArray ++ Array.replicate (n - vs.length) undef).getD t undef = vs[t]'(by omega) := by
        rw [Array.getD_eq_getD_getElem?, Array.getElem?_append_left (by simp; omega)]
        simp [hv]
      rw [e1]; exact this
  · cases hσ : σ id with
    | none => rfl
    | some ℓ =>
      rcases i1.new id (by rw [hσ]; simp) with q | q
      · exact (q rfl).elim
      · have : (enter as).next = (impVals 0 as).2.2 := rfl
        rw [this] at hid; omega
  · have h1 := hps t ht
    rw [Array.getD_eq_getD_getElem?, Array.getElem?_append_left (by simpa using h1)]
    simp
/-- What the machine's functions are. -/
def Reads (P : Program) (Γ : Nat → Option AFn) : Prop := ∀ f fn, Γ f = some fn → ∃ cf lv, P.funcs[f]? = some cf ∧ (cf.name == "runtime.NumGoroutine") = false ∧ readFn P cf fn.modes fn.gone lv = some fn
theorem says {P : Program} {Γ : Nat → Option AFn} {md : Nat → List Bool} {X : Nat → List AV → AV → List AV → Prop} (hΓ : Reads P Γ) (hX : ∀ f as r outs, X f as r outs → FnSound P (md f) f as r outs) {c : Cfg} {r : AV} {outs : List AV} (h : Runs Γ md X c r outs) : Says P md c r outs := by
  induction h with
  | ext h => exact hX _ _ _ _ h
  | @fn f fn args r outs h hm hl h' ih =>
    obtain ⟨cf, lv, hget, hname, hread⟩ := hΓ f fn h
    simp only [readFn, Option.bind_eq_some_iff] at hread
    obtain ⟨c, hbody, hread⟩ := hread
    split at hread
    case isFalse => cases hread
    rename_i hfit
    simp only [Option.bind_eq_some_iff, Option.some.injEq] at hread
    obtain ⟨p, hp, rs, hrs, hfn⟩ := hread
    have hcode : fn.code = p.1 := by rw [← hfn]
    have hres : fn.res = rs := by rw [← hfn]
    refine ⟨⟨cf, c, hget, hname, hbody⟩, fun w F vs L hb hnd hL hF => calls_of_wp hget hbody fun b k cs => ?_⟩
    have hlen := bdvs_len hb
    obtain ⟨e, a', w', ⟨he, S, r0, outs0, hf, hlv, hle1, hle2⟩, harr⟩ := ih.2 ⟨w, F, L⟩ cf.ntmps (vs.length + (cf.ntmps - vs.length)) (fun t => vs.getD t undef) [.code c] _ w (by omega)
      (.code (by rw [hcode]; exact readCode_is c lv p hp) hfit .nil) (enter_ok hb hnd hL hF cf.ntmps _ fun t ht => by have := (trues_lt _ _ _ (List.mem_filter.1 ht).1).2; omega) b k cs
    obtain ⟨v, hv, hpost⟩ := leave_ok hf hlv (by rw [hres]; exact hrs)
    have hpost := hpost.le hle1 hle2
    have hmv : mvals (md f) vs = (trues fn.modes 0).map fun t => vs.getD t undef := by
      rw [hm]; exact mvals_trues _ _ 0 _ (by omega) fun k v hk => by simp [List.getD_eq_getElem?_getD, hk]
    refine ⟨e, a', w', ?_, harr⟩
    rcases he with rfl | rfl
    · exact ⟨hf.defers, v, hv, v, rfl, by rw [hmv]; exact hpost⟩
    · exact ⟨hf.defers, v, hv, v, rfl, by rw [hmv]; exact hpost⟩
  | step h h' ih => exact says_step h ih
  | @call fn o rest i tr dr ps k S f cf as caps pargs d sn r' outs' p r outs hw ho hc hp hr hf h' ih1 ih2 =>
    refine ⟨fun rest' i' tr' dr' ps' k' he => ?_, fun C n sz tm ck a w _ ht => (todo_noops ht).elim⟩
    simp only [List.cons.injEq, AItem.ops.injEq] at he
    obtain ⟨⟨rfl, rfl, rfl, rfl, rfl⟩, rfl⟩ := he
    obtain ⟨S', tr', h1, h2, h3⟩ := ih2.1 _ _ _ _ _ _ rfl
    refine ⟨S', tr', .go hw (.call (av := p.1) (ups := p.2) ho hc hp ih1 hf) h1, h2, ?_⟩
    rw [List.length_cons, show i + (rest.length + 1) = i + 1 + rest.length by omega]; exact h3
  | @ret fn k S r0 outs0 r outs h hle1 hle2 =>
    refine ⟨fun _ _ _ _ _ _ he => by simp at he, fun C n sz tm ck a w hn ht hf b K cs => ?_⟩
    cases ht with
    | code hc hfit hk =>
      cases hc
      exact ⟨.ret, a, w, ⟨.inr rfl, S, _, _, hf, h, hle1, hle2⟩, _, .one step_ret⟩
  | @done fn S r0 outs0 r outs h hle1 hle2 =>
    refine ⟨fun _ _ _ _ _ _ he => by simp at he, fun C n sz tm ck a w hn ht hf b K cs => ?_⟩
    cases ht
    exact ⟨.normal, a, w, ⟨.inl rfl, S, _, _, hf, h, hle1, hle2⟩, Steps.refl P _⟩
  | weak hn h h' ih => exact says_same hn (fun C sz ps tm a w hf => weak_finv hf h) ih
  | fresh sl es hn h h' ih => exact says_same hn (fun C sz ps tm a w hf => fresh_finv hf h) ih
  | both hc hx hy ih1 ih2 => exact says_both hc ih1 ih2
  | sub h h' ih => exact FnSound.sub ih h
  | sup h ho h' ih => exact FnSound.sup ih h ho
/-- The engine's law. -/
theorem runs_sound {P : Program} {Γ : Nat → Option AFn} {md : Nat → List Bool} {X : Nat → List AV → AV → List AV → Prop} (hΓ : Reads P Γ) (hX : ∀ f as r outs, X f as r outs → FnSound P (md f) f as r outs) {f : Nat} {as : List AV} {r : AV} {outs : List AV} (h : Runs Γ md X (.fn f as) r outs) : FnSound P (md f) f as r outs := says hΓ hX h
end Go.Eng
