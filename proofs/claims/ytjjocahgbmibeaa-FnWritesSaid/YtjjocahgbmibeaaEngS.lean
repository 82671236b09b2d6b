/- One operation or call, as the model's weakest condition. -/
import Derived.Test.YtjjocahgbmibeaaEngR
namespace Go.Eng
set_option linter.unusedVariables false
set_option linter.unusedSimpArgs false

/-- What an operation comes to. -/
inductive Eff (P : Program) (md : Nat → List Bool) (nid : Nat) (e : Nat → AV) (m : Mem) (o : AOp AOpd) (av : AV) (ups : Ups) : Prop where
  | act (h : act nid m (o.map (AOpd.get e)) = some (av, ups))
  | call {cf as f caps ps d sn r outs} (ho : o = .call cf as) (hc : cf.get e = .clo f caps) (hp : prep m (md f) (as.map (AOpd.get e) ++ caps) = some (ps, d, sn)) (hs : FnSound P (md f) f ps r outs)
      (hf : fin nid m (md f) (as.map (AOpd.get e) ++ caps) d sn r outs = some (av, ups))

theorem opOf_call {P : Program} {o : Oper} {cf : AOpd} {as : List AOpd} (h : opOf P o = .call cf as) : ∃ c f, o.op = .call c ∧ c.callee = .value f ∧ cf = opd f ∧ as = c.args.toList.map opd := by
  cases hop : o.op with
  | call c =>
    cases hc : c.callee with
    | value f =>
      simp only [opOf, hop, hc, AOp.call.injEq] at h
      exact ⟨c, f, rfl, hc, h.1.symm, h.2.symm⟩
    | invoke r n => simp [opOf, hop, hc] at h
    | builtin b =>
      simp only [opOf, hop, hc] at h
      repeat' split at h
      all_goals cases h
  | makeFunc fn first caps =>
    cases fn with
    | func f => 
      simp only [opOf, hop] at h
      split at h <;> cases h
    | _ => simp only [opOf, hop] at h; cases h
  | binOp op t x y t' => simp only [opOf, hop] at h; repeat' split at h
                         all_goals cases h
  | _ => simp only [opOf, hop] at h; (try repeat' split at h); all_goals cases h

section
variable {P : Program} {md : Nat → List Bool} {C : Ctx} {w : World} {σ : Sig} {F : Nat → Prop} {m : Mem} {nid : Nat} {ups : Ups} {av : AV} {e : Nat → AV} {a : Act}
theorem eff_wp (h : Inv C w σ F m) (he : EnvR w σ F e a.tmps) (hσ : ∀ id, nid ≤ id → id < nid + 16 → σ id = none) {o : Oper} (hf : Eff P md nid e m (opOf P o) av ups) {next : Act → World → Prop} {Q : Exit → Act → World → Prop}
    (hn : ∀ v w', Good C w σ F m nid ups av v w' → next (a.put o.dst v) w') : o.wp P a w next Q := by
  unfold Oper.wp
  cases hf with
  | act hact =>
    rcases act_good (P := P) h he (hσ nid (Nat.le_refl _) (by omega)) o hact with ⟨v, w', hr, hg⟩ | ⟨w', hr, hg⟩
    · rw [hr, Oper.upon_value]; exact hn v w' hg
    · rw [hr, Oper.upon_skip]; exact hn undef w' hg
  | @call cf as f caps ps d sn r outs ho hc hp hs hfin =>
    obtain ⟨c, fo, hop, hcal, rfl, rfl⟩ := opOf_call ho
    have hclo := opd_rel he fo
    rw [hc] at hclo
    obtain ⟨us, hus, hl, hu⟩ := hclo.cloI
    let vs : List Value := c.args.toList.map a.eval ++ us.toList
    have hvl : vs.length = (c.args.toList.map opd |>.map (AOpd.get e)).length + caps.length := by simp [vs, hl]
    have hrel : ∀ (k : Nat) x v, ((c.args.toList.map opd).map (AOpd.get e) ++ caps)[k]? = some x → vs[k]? = some v → RelL w σ F x v := by
      intro k x v hx hv
      by_cases hk : k < c.args.toList.length
      · rw [List.getElem?_append_left (by simpa using hk)] at hx
        simp only [vs] at hv
        rw [List.getElem?_append_left (by simpa using hk)] at hv
        rw [List.map_map, List.getElem?_map] at hx
        rw [List.getElem?_map] at hv
        rw [List.getElem?_eq_getElem hk] at hx hv
        obtain rfl := Option.some.inj hx
        obtain rfl := Option.some.inj hv
        exact opd_rel he _
      · rw [List.getElem?_append_right (by simp at hk ⊢; omega)] at hx
        simp only [vs] at hv
        rw [List.getElem?_append_right (by simp at hk ⊢; omega)] at hv
        simp only [List.length_map] at hx hv
        exact hu _ x v hx (by simpa using hv)
    obtain ⟨L, hb, ho'⟩ := prep_ok (M1 := putM m d) h hp (vs := vs) (by rw [hvl, List.length_append]) hrel (Less.refl _) (fin_live hfin)
    obtain ⟨⟨fn, cc, hfn, hname, hbody⟩, hs⟩ := hs
    have hrun : (execOp a.eval o).run P w = .ok (.enter f vs.toArray) w := by
      have e1 : (c.args.map a.eval ++ us) = vs.toArray := by
        apply Array.ext'
        simp [vs]
      have hname' : ¬ fn.name = "runtime.NumGoroutine" := by simpa using hname
      simp [execOp, hop, resolve, hcal, hus, Deferred.ofValue, invoke, callFunc, hfn, hname', hbody, e1]
    rw [hrun, Oper.upon_enter]
    have hlt : ∀ k, FS σ (putM m d) F sn k → k < w.heap.size := by
      rintro k (hk | ⟨id, hid, o2, ho2, hown⟩)
      · exact (h.fnew k hk).1
      · exact (hown.lt (ho'.inv.objs id o2 ho2)).1
    have hLF : ∀ g, g ∈ L → ¬ FS σ (putM m d) F sn g ∧ g < w.heap.size := by
      intro g hg
      refine ⟨?_, ho'.given.lt g hg⟩
      rintro (hk | ⟨id, hid, o2, ho2, hown⟩)
      · exact (ho'.given.ours g hg).1 hk
      · exact ho'.given.free g hg id o2 ho2 hown
    refine (hs w _ vs L hb ho'.given.nodup hLF hlt).mono fun ex w' hpost => ?_
    obtain ⟨v, rfl, hpost⟩ := hpost
    exact hn v w' (fin_ok h hσ (by rw [hvl, List.length_append]) hrel ho' hpost hfin)
end
end Go.Eng
