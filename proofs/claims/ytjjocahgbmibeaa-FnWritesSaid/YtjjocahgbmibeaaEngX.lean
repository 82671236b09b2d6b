/- What is told less exactly is still true: frozen values, values at borders, a frame's state. -/
import Derived.Test.YtjjocahgbmibeaaEngW
namespace Go.Eng
set_option linter.unusedVariables false
set_option linter.unusedSimpArgs false

theorem flat_pair : ∀ (xs ys : List (List AV)), xs.length = ys.length → (∀ (i : Nat) x y, xs[i]? = some x → ys[i]? = some y → x.length = y.length) → ∀ (q : Nat) b, ys.flatten[q]? = some b →
    ∃ (a : AV) (i : Nat) (x y : List AV) (j : Nat), xs.flatten[q]? = some a ∧ xs[i]? = some x ∧ ys[i]? = some y ∧ x[j]? = some a ∧ y[j]? = some b
  | [], [], _, _, q, b, h => by simp at h
  | [], _ :: _, hl, _, _, _, _ => by simp at hl
  | _ :: _, [], hl, _, _, _, _ => by simp at hl
  | x :: xs, y :: ys, hl, hr, q, b, h => by
    have h0 : x.length = y.length := hr 0 x y rfl rfl
    rw [List.flatten_cons] at h
    by_cases hq : q < y.length
    · rw [List.getElem?_append_left hq] at h
      have hq' : q < x.length := by omega
      exact ⟨x[q], 0, x, y, q, by rw [List.flatten_cons, List.getElem?_append_left hq', List.getElem?_eq_getElem hq'], rfl, rfl, List.getElem?_eq_getElem hq', h⟩
    · rw [List.getElem?_append_right (by omega)] at h
      obtain ⟨a, i, x', y', j, h1, h2, h3, h4, h5⟩ := flat_pair xs ys (by simpa using hl) (fun i x y hx hy => hr (i + 1) x y (by simpa using hx) (by simpa using hy)) _ b h
      exact ⟨a, i + 1, x', y', j, by rw [List.flatten_cons, List.getElem?_append_right (by omega), h0]; exact h1, by simpa using h2, by simpa using h3, h4, h5⟩
theorem flat_lenP : ∀ (xs ys : List (List AV)), xs.length = ys.length → (∀ (i : Nat) x y, xs[i]? = some x → ys[i]? = some y → x.length = y.length) → ys.flatten.length = xs.flatten.length
  | [], [], _, _ => rfl
  | [], _ :: _, hl, _ => by simp at hl
  | _ :: _, [], hl, _ => by simp at hl
  | x :: xs, y :: ys, hl, hr => by
    have h0 : x.length = y.length := hr 0 x y rfl rfl
    have := flat_lenP xs ys (by simpa using hl) (fun i x y hx hy => hr (i + 1) x y (by simpa using hx) (by simpa using hy))
    rw [List.flatten_cons, List.flatten_cons, List.length_append, List.length_append, this, h0]
theorem mem_pair {xs ys : List (List AV)} {es : Nat} (hl : xs.length = ys.length) (hr : ∀ (i : Nat) x y, xs[i]? = some x → ys[i]? = some y → x.length = y.length) (h : ∀ x, x ∈ xs → x.length = es) : ∀ y, y ∈ ys → y.length = es := by
  intro y hy
  obtain ⟨i, hi, rfl⟩ := List.mem_iff_getElem.1 hy
  have hi' : i < xs.length := by omega
  rw [← hr i xs[i] ys[i] (List.getElem?_eq_getElem hi') (List.getElem?_eq_getElem hi)]
  exact h _ (List.getElem_mem hi')
theorem get_pair {α β : Type} {cs : List α} {ds : List β} (hl : cs.length = ds.length) {i : Nat} {v : β} (h : ds[i]? = some v) : ∃ u, cs[i]? = some u := by
  have hi := (List.getElem?_eq_some_iff.1 h).1
  exact ⟨_, List.getElem?_eq_getElem (by omega)⟩

section
variable {w : World}
theorem ff_weak {F : Nat → Prop} {fl fl' : Bool} (hf : fl' = true → fl = true) : Mono w (FF fl F) w (FF fl' F) := by
  intro k hk
  refine ⟨?_, rfl⟩
  cases fl <;> cases fl' <;> simp_all [FF, noF]
theorem RelF.le {a b : AV} (h : LeF a b) : ∀ {F : Nat → Prop} {v : Value}, RelF w F a v → RelF w F b v := by
  induction h with
  | refl => exact id
  | emp =>
    intro F v h
    cases h
    exact RelF.fro (xs := []) [] (fun x hx => by simp at hx) (Nat.le_refl _) rfl (fun h => (h rfl).elim) (fun q u v hu => by simp at hu)
  | @fro fl fl' es xs ys hf hl hr h ih =>
    intro F v h
    cases h with
    | fro vs hes hc hln hA hv =>
      rw [hl]
      refine .fro vs (mem_pair hl hr hes) (by omega) (by rw [flat_lenP xs ys hl hr]; exact hln) (fun hne => hA fun e => hne (by subst e; exact List.eq_nil_of_length_eq_zero (by simpa using hl.symm))) (fun q b v hb hv' => ?_)
      obtain ⟨a, i, x, y, j, h1, h2, h3, h4, h5⟩ := flat_pair xs ys hl hr q b hb
      exact (ih i x y j a b h2 h3 h4 h5 (hv q a v h1 hv')).mono (ff_weak hf)
  | @fptr j cs ds hl h ih =>
    intro F v h
    cases h with
    | fptr vs hln hF hA hv =>
      refine .fptr vs (hln.trans hl) hF hA (fun q b v hb hv' => ?_)
      obtain ⟨a, ha⟩ := get_pair hl hb
      exact ih q a b ha hb (hv q a v ha hv')
theorem RowsF.le {F : Nat → Prop} {fl fl' : Bool} {xs ys : List (List AV)} {arr : Array Value} (hf : fl' = true → fl = true) (hl : xs.length = ys.length) (hr : ∀ (i : Nat) x y, xs[i]? = some x → ys[i]? = some y → x.length = y.length)
    (h : ∀ (i : Nat) x y (j : Nat) u v, xs[i]? = some x → ys[i]? = some y → x[j]? = some u → y[j]? = some v → LeF u v) (hR : RowsF w (FF fl F) xs arr) : RowsF w (FF fl' F) ys arr := by
  intro q b hb
  obtain ⟨a, i, x, y, j, h1, h2, h3, h4, h5⟩ := flat_pair xs ys hl hr q b hb
  obtain ⟨v, hv, hrel⟩ := hR q a h1
  exact ⟨v, hv, (hrel.le (h i x y j a b h2 h3 h4 h5)).mono (ff_weak hf)⟩
variable {F : Nat → Prop}
theorem BdC.le {a b : AV} {v : Value} {L : List Nat} (hb : BdC w F a v L) (h : LeB a b) : ∃ L', L'.Sublist L ∧ BdC w F b v L' := by
  cases h with
  | fz h =>
    cases hb with
    | fz r => exact ⟨_, List.Sublist.refl _, .fz (r.le h)⟩
    | ownE => cases h; exact ⟨_, List.Sublist.refl _, .ownE⟩
    | own h1 h2 h3 h4 h5 h6 h7 h8 => cases h; exact ⟨_, List.Sublist.refl _, .own h1 h2 h3 h4 h5 h6 h7 h8⟩
    | junk h1 => cases h; exact ⟨_, List.Sublist.refl _, .junk h1⟩
  | empO =>
    cases hb with
    | fz r => cases r; exact ⟨_, List.Sublist.refl _, .ownE⟩
  | own hf hm hl hr h =>
    cases hb with
    | fz r => cases r
    | ownE =>
      obtain rfl := List.eq_nil_of_length_eq_zero hl.symm
      obtain rfl := Nat.le_zero.1 (Nat.le_trans hm (Nat.le_of_eq rfl))
      exact ⟨_, List.Sublist.refl _, .ownE⟩
    | own h1 h2 h3 h4 h5 h6 h7 h8 =>
      rw [hl] at h3 hm ⊢
      exact ⟨_, List.Sublist.refl _, .own h1 h2 h3 (Nat.le_trans hm (Nat.max_le.2 ⟨h4, h3⟩)) h5 h6 (mem_pair hl hr h7) (h8.le hf hl hr h)⟩
  | agg => cases hb with | fz r => cases r
  | tup => cases hb with | fz r => cases r
  | obx => cases hb with | fz r => cases r
  | clo => cases hb with | fz r => cases r
  | junk => exact ⟨[], List.nil_sublist _, .junk hb.one⟩
theorem BdCs.le {as : List AV} {vs : List Value} {L : List Nat} (hb : BdCs w F as vs L) : ∀ {bs : List AV}, as.length = bs.length → (∀ (i : Nat) u v, as[i]? = some u → bs[i]? = some v → LeB u v) → ∃ L', L'.Sublist L ∧ BdCs w F bs vs L' := by
  induction hb with
  | nil => intro bs hl _; obtain rfl := List.eq_nil_of_length_eq_zero hl.symm; exact ⟨_, List.Sublist.refl _, .nil⟩
  | cons h _ ih =>
    intro bs hl hp
    cases bs with
    | nil => simp at hl
    | cons b bs =>
      obtain ⟨L1, s1, b1⟩ := h.le (hp 0 _ _ rfl rfl)
      obtain ⟨L2, s2, b2⟩ := ih (by simpa using hl) (fun i u v hu hv => hp (i + 1) u v (by simpa using hu) (by simpa using hv))
      exact ⟨_, s1.append s2, .cons b1 b2⟩
theorem BdV.le {a b : AV} {v : Value} {L : List Nat} (hb : BdV w F a v L) (h : LeB a b) : ∃ L', L'.Sublist L ∧ BdV w F b v L' := by
  cases hb with
  | c hc => obtain ⟨L', s, h'⟩ := hc.le h; exact ⟨L', s, .c h'⟩
  | agg hcs =>
    cases h with
    | fz h => cases h; exact ⟨_, List.Sublist.refl _, .agg hcs⟩
    | agg hl hp => obtain ⟨L', s, h'⟩ := hcs.le hl hp; exact ⟨L', s, .agg h'⟩
    | junk => exact ⟨[], List.nil_sublist _, .junk⟩
  | obx hh hcs =>
    cases h with
    | fz h => cases h; exact ⟨_, List.Sublist.refl _, .obx hh hcs⟩
    | obx hl hp => obtain ⟨L', s, h'⟩ := hcs.le hl hp; exact ⟨_, s.cons_cons _, .obx hh h'⟩
    | junk => exact ⟨[], List.nil_sublist _, .junk⟩
  | clo hsz hr =>
    cases h with
    | fz h => cases h; exact ⟨_, List.Sublist.refl _, .clo hsz hr⟩
    | clo hl hp =>
      refine ⟨_, List.Sublist.refl _, .clo (hsz.trans hl) (fun k u v hu hv => ?_)⟩
      obtain ⟨x, hx⟩ := get_pair hl hu
      exact (hr k x v hx hv).le (hp k x u hx hu)
    | junk => exact ⟨[], List.nil_sublist _, .junk⟩
  | junk =>
    cases h with
    | fz h => cases h; exact ⟨_, List.Sublist.refl _, .junk⟩
    | junk => exact ⟨_, List.Sublist.refl _, .junk⟩
theorem BdVs.leP {as : List AV} {vs : List Value} {L : List Nat} (hb : BdVs w F as vs L) : ∀ {bs : List AV}, as.length = bs.length → (∀ (i : Nat) u v, as[i]? = some u → bs[i]? = some v → LeB u v) → ∃ L', L'.Sublist L ∧ BdVs w F bs vs L' := by
  induction hb with
  | nil => intro bs hl _; obtain rfl := List.eq_nil_of_length_eq_zero hl.symm; exact ⟨_, List.Sublist.refl _, .nil⟩
  | cons h _ ih =>
    intro bs hl hp
    cases bs with
    | nil => simp at hl
    | cons b bs =>
      obtain ⟨L1, s1, b1⟩ := h.le (hp 0 _ _ rfl rfl)
      obtain ⟨L2, s2, b2⟩ := ih (by simpa using hl) (fun i u v hu hv => hp (i + 1) u v (by simpa using hu) (by simpa using hv))
      exact ⟨_, s1.append s2, .cons b1 b2⟩
theorem LeBs.all : ∀ {as bs : List AV}, LeBs as bs → as.length = bs.length ∧ ∀ (i : Nat) u v, as[i]? = some u → bs[i]? = some v → LeB u v
  | [], [], _ => ⟨rfl, fun i u v hu => by simp at hu⟩
  | [], _ :: _, h => h.elim
  | _ :: _, [], h => h.elim
  | a :: as, b :: bs, h => by
    obtain ⟨h1, h2⟩ := h.2.all
    refine ⟨by simp [h1], fun i u v hu hv => ?_⟩
    cases i with
    | zero => obtain rfl := Option.some.inj hu; obtain rfl := Option.some.inj hv; exact h.1
    | succ i => exact h2 i u v (by simpa using hu) (by simpa using hv)
theorem BdVs.le {as bs : List AV} {vs : List Value} {L : List Nat} (hb : BdVs w F as vs L) (h : LeBs as bs) : ∃ L', L'.Sublist L ∧ BdVs w F bs vs L' := hb.leP h.all.1 h.all.2
theorem BdR.le {a b : AV} {v : Value} {L : List Nat} (hb : BdR w F a v L) (h : LeB a b) : ∃ L', L'.Sublist L ∧ BdR w F b v L' := by
  cases hb with
  | v hv => obtain ⟨L', s, h'⟩ := hv.le h; exact ⟨L', s, .v h'⟩
  | tup hcs =>
    cases h with
    | fz h => cases h; exact ⟨_, List.Sublist.refl _, .tup hcs⟩
    | tup hl hp => obtain ⟨L', s, h'⟩ := hcs.leP hl hp; exact ⟨L', s, .tup h'⟩
    | junk => exact ⟨[], List.nil_sublist _, .v .junk⟩
theorem FnPost.le {L : List Nat} {w' : World} {mv : List Value} {v : Value} {r r' : AV} {outs outs' : List AV} (h : FnPost w F L w' mv v r outs) (hr : LeB r r') (ho : LeBs outs outs') : FnPost w F L w' mv v r' outs' := by
  obtain ⟨F', L1, L2, h1, h2, h3, h4, h5, h6, h7⟩ := h
  obtain ⟨M1, s1, b1⟩ := h4.le hr
  obtain ⟨M2, s2, b2⟩ := h5.le ho
  exact ⟨F', M1, M2, h1, h2, h3, b1, b2, (s1.append s2).nodup h6, fun g hg => h7 g ((s1.append s2).subset hg)⟩
theorem FnPost.more {L M : List Nat} (hM : ∀ g, g ∈ M → g ∈ L) {w' : World} {mv : List Value} {v : Value} {r : AV} {outs : List AV} (h : FnPost w F M w' mv v r outs) : FnPost w F L w' mv v r outs := by
  obtain ⟨F', L1, L2, h1, h2, h3, h4, h5, h6, h7⟩ := h
  exact ⟨F', L1, L2, ⟨h1.os, h1.tape, h1.output, h1.size, fun k hk hl => h1.block k hk fun hm => hl (hM k hm)⟩, h2, fun k hk => ⟨(h3 k hk).1, (h3 k hk).2.imp_right fun q => q.imp_left (hM k)⟩, h4, h5, h6,
    fun g hg => ⟨(h7 g hg).1, (h7 g hg).2.1, (h7 g hg).2.2.imp_left (hM g)⟩⟩
end
theorem FnSound.sub {P : Program} {md : List Bool} {f : Nat} {as as' : List AV} {r : AV} {outs : List AV} (h : FnSound P md f as' r outs) (hs : LeBs as as') : FnSound P md f as r outs := by
  refine ⟨h.1, fun w F vs L hb hnd hL hF => ?_⟩
  obtain ⟨L', s, hb'⟩ := hb.le hs
  refine (h.2 w F vs L' hb' (s.nodup hnd) (fun g hg => hL g (s.subset hg)) hF).mono fun e w' ⟨v, he, hp⟩ => ⟨v, he, hp.more fun g hg => s.subset hg⟩
theorem FnSound.sup {P : Program} {md : List Bool} {f : Nat} {as : List AV} {r r' : AV} {outs outs' : List AV} (h : FnSound P md f as r outs) (hr : LeB r r') (ho : LeBs outs outs') : FnSound P md f as r' outs' :=
  ⟨h.1, fun w F vs L hb hnd hL hF => (h.2 w F vs L hb hnd hL hF).mono fun e w' ⟨v, he, hp⟩ => ⟨v, he, hp.le hr ho⟩⟩

/-- Names after a renaming. -/
def renS (r : List Nat) (σ : Sig) : Sig := fun k => (r[k]?).bind σ
section
variable {w : World} {σ : Sig} {F : Nat → Prop} {r : List Nat}
theorem renS_get {k id : Nat} {ℓ : Loc} (hk : r[k]? = some id) (h : σ id = some ℓ) : renS r σ k = some ℓ := by unfold renS; rw [hk]; exact h
theorem renS_eq {k id : Nat} (hk : r[k]? = some id) : renS r σ k = σ id := by unfold renS; rw [hk]; rfl
theorem RelL.le {a b : AV} (h : LeL r a b) : ∀ {v : Value}, RelL w σ F a v → RelL w (renS r σ) F b v := by
  induction h with
  | fz h hp => intro v hr; exact .fz ((hr.plain hp).le h)
  | row h => intro v hr; cases hr with | fz q => cases q | row q => exact .row (renS_get h q)
  | view h => intro v hr; cases hr with | fz q => cases q | view q q1 q2 q3 => exact .view (renS_get h q) q1 q2 q3
  | past h => intro v hr; cases hr with | fz q => cases q | past q q1 q2 q3 => exact .past (renS_get h q) q1 q2 q3
  | elt h => intro v hr; cases hr with | fz q => cases q | elt q q1 => exact .elt (renS_get h q) q1
  | agg hl h ih =>
    intro v hr
    obtain ⟨us, rfl, h1, h2, h3⟩ := hr.aggI
    refine .agg (h1.trans hl) h2 fun k u v hu hv => ?_
    obtain ⟨x, hx⟩ := get_pair hl hu
    exact ih k x u hx hu (h3 k x v hx hv)
  | tup hl h ih =>
    intro v hr
    obtain ⟨us, rfl, h1, h3⟩ := hr.tupI
    refine .tup (h1.trans hl) fun k u v hu hv => ?_
    obtain ⟨x, hx⟩ := get_pair hl hu
    exact ih k x u hx hu (h3 k x v hx hv)
  | clo hl h ih =>
    intro v hr
    obtain ⟨us, rfl, h1, h3⟩ := hr.cloI
    refine .clo (h1.trans hl) fun k u v hu hv => ?_
    obtain ⟨x, hx⟩ := get_pair hl hu
    exact ih k x u hx hu (h3 k x v hx hv)
  | junk => intro v _; exact .junk
theorem ObjOk.le {C : Ctx} {id k : Nat} {o o' : AObj} (h : ObjOk C w σ F id o) (hk : r[k]? = some id) (hle : LeO r o o') : ObjOk C w (renS r σ) F k o' := by
  have e1 : renS r σ k = σ id := renS_eq hk
  cases hle with
  | dead => exact trivial
  | box hl hp =>
    obtain ⟨ℓ, g, t, arr, h1, h2, h3, h4, h5⟩ := h
    refine ⟨ℓ, g, t, arr, e1.trans h1, h2, h3, ⟨h4.1.trans hl, fun q u hu => ?_⟩, h5⟩
    obtain ⟨x, hx⟩ := get_pair hl hu
    obtain ⟨v, hv, hr, h1⟩ := h4.2 q x hx
    exact ⟨v, hv, hr.le (hp q x u hx hu), h1⟩
  | row hm hle =>
    obtain ⟨ℓ, h1, h2, h3, h4, h5, h6, h7, h8⟩ := h
    cases hle with
    | refl => exact ⟨ℓ, e1.trans h1, h2, h3, Nat.le_trans hm h4, h5, h6, h7, h8⟩
    | fro hf hl hr hp =>
      refine ⟨ℓ, e1.trans h1, h2, h3.trans hl, Nat.le_trans hm h4, by omega, h6, mem_pair hl hr h7, fun h0 => ?_⟩
      obtain ⟨g, t, arr, g1, g2, g3, g4, g5⟩ := h8 h0
      exact ⟨g, t, arr, g1, g2, g3, g4.le hf hl hr hp, g5⟩
  | @frow _ _ _ xs ys hle =>
    obtain ⟨ℓ, h1, h2, h3, h4⟩ := h
    have hlen : xs.length = ys.length := by cases hle with | refl => rfl | fro _ hl _ _ => exact hl
    exact ⟨ℓ, e1.trans h1, h2, h3.trans hlen, h4.le hle⟩
theorem Owns.le {id k : Nat} {o o' : AObj} {g : Nat} (hk : r[k]? = some id) (hle : LeO r o o') (h : Owns (renS r σ) k o' g) : Owns σ id o g := by
  have e1 : renS r σ k = σ id := renS_eq hk
  cases hle with
  | dead => exact h.elim
  | box => obtain ⟨ℓ, h1, h2⟩ := h; exact ⟨ℓ, e1 ▸ h1, h2⟩
  | row => obtain ⟨ℓ, h1, h2⟩ := h; exact ⟨ℓ, e1 ▸ h1, h2⟩
  | frow => exact h.elim
end
theorem look_mem {α : Type} : ∀ {l : List (Nat × α)} {k : Nat} {v : α}, look l k = some v → (k, v) ∈ l
  | [], _, _, h => by cases h
  | (q, x) :: l, k, v, h => by
    simp only [look] at h
    split at h
    · rename_i hq; subst hq; obtain rfl := Option.some.inj h; exact List.mem_cons_self
    · exact List.mem_cons_of_mem _ (look_mem h)
theorem LeE.get {r : List Nat} {e : Nat → AV} : ∀ {l : List (Nat × AV)}, LeE r e l → ∀ p, p ∈ l → LeL r (e p.1) p.2
  | [], _, p, hp => by simp at hp
  | q :: l, h, p, hp => by
    rcases List.mem_cons.1 hp with rfl | hp
    · exact h.1
    · exact LeE.get h.2 p hp
theorem LeM.get {r : List Nat} {m : Mem} : ∀ {l : List (Nat × AObj)}, LeM r m l → ∀ p, p ∈ l → ∃ id o, r[p.1]? = some id ∧ m id = some o ∧ LeO r o p.2
  | [], _, p, hp => by simp at hp
  | q :: l, h, p, hp => by
    rcases List.mem_cons.1 hp with rfl | hp
    · exact h.1
    · exact LeM.get h.2 p hp
theorem weak_ok {C : Ctx} {w : World} {σ : Sig} {F : Nat → Prop} {r : List Nat} {S S' : St} {tmps : Array Value} (h : Inv C w σ F S.m) (he : EnvR w σ F S.e tmps) (hw : Weak r S S') :
    Inv C w (renS r σ) F S'.m ∧ EnvR w (renS r σ) F S'.e tmps ∧ ∀ id, S'.next ≤ id → renS r σ id = none := by
  have hm : ∀ k o', S'.m k = some o' → ∃ id o, r[k]? = some id ∧ S.m id = some o ∧ LeO r o o' := fun k o' hk => hw.mem.get _ (look_mem hk)
  refine ⟨⟨h.kept, h.fnew, h.fold, fun k o' hk => ?_, fun k k' o1 o2 g hk hk' hg hg' => ?_⟩, fun t => ?_, fun id hid => ?_⟩
  · obtain ⟨id, o, h1, h2, h3⟩ := hm k o' hk
    exact (h.objs id o h2).le h1 h3
  · obtain ⟨id, o, h1, h2, h3⟩ := hm k o1 hk
    obtain ⟨id', o', h1', h2', h3'⟩ := hm k' o2 hk'
    have := h.apart id id' o o' g h2 h2' (hg.le h1 h3) (hg'.le h1' h3')
    subst this
    obtain ⟨l1, e1⟩ := List.getElem?_eq_some_iff.1 h1
    obtain ⟨l2, e2⟩ := List.getElem?_eq_some_iff.1 h1'
    rcases Nat.lt_trichotomy k k' with hlt | rfl | hlt
    · exact (List.pairwise_iff_getElem.1 hw.nodup k k' l1 l2 hlt (e1.trans e2.symm)).elim
    · rfl
    · exact (List.pairwise_iff_getElem.1 hw.nodup k' k l2 l1 hlt (e2.trans e1.symm)).elim
  · unfold St.e
    cases hq : look S'.env t with
    | none => exact .junk
    | some x => exact (he t).le (hw.env.get _ (look_mem hq))
  · unfold renS
    rw [List.getElem?_eq_none (Nat.le_trans hw.next hid)]; rfl
section
variable {C : Ctx} {w : World} {σ : Sig} {F : Nat → Prop} {S S' : St} {tmps : Array Value}
theorem fresh_obj {A : Option Addr} {es n : Nat} : ObjOk C w (setS σ n ⟨A, 0, 0, es⟩) F n (.row true es 0 []) :=
  ⟨⟨A, 0, 0, es⟩, setS_same _ _ _, rfl, rfl, Nat.le_refl _, Nat.le_refl _, Nat.zero_le _, fun x hx => by simp at hx, fun h => (Nat.lt_irrefl _ h).elim⟩
theorem fresh_no {A : Option Addr} {es n g : Nat} : ¬ Owns (setS σ n ⟨A, 0, 0, es⟩) n (.row true es 0 []) g := by
  rintro ⟨ℓ, h1, h2, h3⟩
  rw [setS_same] at h1; obtain rfl := Option.some.inj h1
  exact (Nat.lt_irrefl _ h3).elim
theorem fresh_inv (h : Inv C w σ F S.m) (hn : σ S.next = none) (A : Option Addr) (es : Nat) : Inv C w (setS σ S.next ⟨A, 0, 0, es⟩) F (setM S.m S.next (.row true es 0 [])) := by
  have hs : Sub σ (setS σ S.next ⟨A, 0, 0, es⟩) := sub_setS hn
  refine ⟨h.kept, h.fnew, h.fold, fun id o ho => ?_, fun id id' o o' g ho ho' hg hg' => ?_⟩
  · by_cases hid : id = S.next
    · subst hid; rw [setM_same] at ho; obtain rfl := Option.some.inj ho; exact fresh_obj
    · rw [setM_other _ _ hid] at ho
      exact (h.objs id o ho).mono hs (Mono.refl _ _) fun g hg => ⟨rfl, (hg.lt (h.objs id o ho)).2.1⟩
  · have key : ∀ id o, setM S.m S.next (.row true es 0 []) id = some o → Owns (setS σ S.next ⟨A, 0, 0, es⟩) id o g → S.m id = some o ∧ Owns σ id o g := by
      intro id o ho hg
      by_cases hid : id = S.next
      · subst hid; rw [setM_same] at ho; obtain rfl := Option.some.inj ho; exact (fresh_no hg).elim
      · rw [setM_other _ _ hid] at ho
        exact ⟨ho, Owns.sub (h.objs id o ho) hs hg⟩
    obtain ⟨a1, a2⟩ := key id o ho hg
    obtain ⟨b1, b2⟩ := key id' o' ho' hg'
    exact h.apart id id' o o' g a1 b1 a2 b2
theorem look_cons_m {l : List (Nat × AObj)} {k : Nat} {o : AObj} : look ((k, o) :: l) = setM (look l) k o := by
  funext q
  simp only [look, setM, eq_comm]
theorem fresh_next (hnew : ∀ id, S.next ≤ id → σ id = none) {ℓ : Loc} (id : Nat) (hid : S.next + 1 ≤ id) : setS σ S.next ℓ id = none := by
  rw [setS_other _ _ (by omega)]; exact hnew id (by omega)
theorem env_cons {σ' : Sig} {e : List (Nat × AV)} {t : Nat} {x : AV} (he : ∀ q, RelL w σ' F ((look e q).getD .junk) (tmps.getD q undef)) (hx : RelL w σ' F x (tmps.getD t undef)) (q : Nat) : RelL w σ' F ((look ((t, x) :: e) q).getD .junk) (tmps.getD q undef) := by
  simp only [look]
  split
  · rename_i h; subst h; exact hx
  · exact he q
theorem cells_set {σ' : Sig} {cs : List AV} {arr : Array Value} {c : Nat} {x : AV} (h : CellsL w σ' F cs arr) (hx : ∀ v, arr[c]? = some v → RelL w σ' F x v) : CellsL w σ' F (cs.set c x) arr := by
  refine ⟨by rw [List.length_set]; exact h.1, fun k u hu => ?_⟩
  rw [List.getElem?_set] at hu
  split at hu
  · rename_i hc
    subst hc
    split at hu
    · rename_i hlt
      obtain rfl := Option.some.inj hu
      obtain ⟨v, h1, h2, h3⟩ := h.2 c _ (List.getElem?_eq_getElem hlt)
      exact ⟨v, h1, hx v h1, h3⟩
    · cases hu
  · exact h.2 k u hu
theorem freshen_ok (h : Inv C w σ F S.m) (he : EnvR w σ F S.e tmps) (hnew : ∀ id, S.next ≤ id → σ id = none) {sl : Slot} {es : Nat} (hf : freshen sl es S = some S') :
    ∃ σ', Inv C w σ' F S'.m ∧ EnvR w σ' F S'.e tmps ∧ ∀ id, S'.next ≤ id → σ' id = none := by
  have hn := hnew S.next (Nat.le_refl _)
  have hmono : ∀ A q, RelL w (setS σ S.next ⟨A, 0, 0, es⟩) F ((look S.env q).getD .junk) (tmps.getD q undef) := fun A q => (he q).mono (sub_setS hn) (Mono.refl _ _)
  unfold freshen at hf
  split at hf
  · rename_i t
    split at hf
    · rename_i ht
      obtain rfl := Option.some.inj hf
      have hv := he t
      rw [ht] at hv
      obtain ⟨A, hA⟩ := hv.empI
      refine ⟨setS σ S.next ⟨A, 0, 0, es⟩, ?_, env_cons (hmono A) ?_, fresh_next hnew⟩
      · unfold St.m; rw [look_cons_m]; exact fresh_inv h hn A es
      · rw [hA]; exact .row (setS_same _ _ _)
    · cases hf
  · rename_i t c
    split at hf
    · rename_i cs ht
      split at hf
      · rename_i hc
        obtain rfl := Option.some.inj hf
        have hv := he t
        rw [ht] at hv
        obtain ⟨us, hus, h1, h2, h3⟩ := hv.aggI
        have hlt : c < us.size := by rw [h1]; exact (List.getElem?_eq_some_iff.1 hc).1
        obtain ⟨A, hA⟩ := (h3 c _ us[c] hc (Array.getElem?_eq_getElem hlt)).empI
        refine ⟨setS σ S.next ⟨A, 0, 0, es⟩, ?_, env_cons (hmono A) ?_, fresh_next hnew⟩
        · unfold St.m; rw [look_cons_m]; exact fresh_inv h hn A es
        · rw [hus]
          refine .agg (by rw [List.length_set]; exact h1) h2 fun k u v hu hv => ?_
          rw [List.getElem?_set] at hu
          split at hu
          · rename_i hck
            subst hck
            split at hu
            · obtain rfl := Option.some.inj hu
              rw [Array.getElem?_eq_getElem hlt, hA] at hv
              obtain rfl := Option.some.inj hv
              exact .row (setS_same _ _ _)
            · cases hu
          · exact (h3 k u v hu hv).mono (sub_setS hn) (Mono.refl _ _)
      · cases hf
    · cases hf
  · rename_i id c
    split at hf
    · rename_i cs hid
      split at hf
      · rename_i hc
        obtain rfl := Option.some.inj hf
        obtain ⟨ℓ, g, t, arr, h1, h2, h3, h4, h5⟩ := h.objs id _ hid
        obtain ⟨v, hv, hr, hone⟩ := h4.2 c _ hc
        obtain ⟨A, rfl⟩ := hr.empI
        have hne : id ≠ S.next := by rintro rfl; rw [hn] at h1; cases h1
        have hs : Sub σ (setS σ S.next ⟨A, 0, 0, es⟩) := sub_setS hn
        have hi := fresh_inv h hn A es
        refine ⟨setS σ S.next ⟨A, 0, 0, es⟩, ?_, fun q => hmono A q, fresh_next hnew⟩
        unfold St.m
        rw [look_cons_m, look_cons_m]
        have hm : setM (look S.mem) S.next (.row true es 0 []) id = some (.box cs) := by rw [setM_other _ _ hne]; exact hid
        have hob : ObjOk C w (setS σ S.next ⟨A, 0, 0, es⟩) F id (.box (cs.set c (.row S.next))) :=
          ⟨ℓ, g, t, arr, hs _ _ h1, h2, h3, cells_set (h4.mono hs (Mono.refl _ _)) (fun v' hv' => by rw [hv] at hv'; obtain rfl := Option.some.inj hv'; exact .row (setS_same _ _ _)), h5⟩
        have hown : ∀ g', Owns (setS σ S.next ⟨A, 0, 0, es⟩) id (.box (cs.set c (.row S.next))) g' → Owns (setS σ S.next ⟨A, 0, 0, es⟩) id (.box cs) g' := fun g' hg => hg
        refine ⟨hi.kept, hi.fnew, hi.fold, fun k o ho => ?_, fun k k' o o' g' ho ho' hg hg' => ?_⟩
        · by_cases hk : k = id
          · subst hk; rw [setM_same] at ho; obtain rfl := Option.some.inj ho; exact hob
          · rw [setM_other _ _ hk] at ho; exact hi.objs k o ho
        · have key : ∀ k o, setM (setM (look S.mem) S.next (.row true es 0 [])) id (.box (cs.set c (.row S.next))) k = some o → Owns (setS σ S.next ⟨A, 0, 0, es⟩) k o g' →
              ∃ o1, setM (look S.mem) S.next (.row true es 0 []) k = some o1 ∧ Owns (setS σ S.next ⟨A, 0, 0, es⟩) k o1 g' := by
            intro k o ho hg
            by_cases hk : k = id
            · subst hk; rw [setM_same] at ho; obtain rfl := Option.some.inj ho; exact ⟨_, hm, hown _ hg⟩
            · rw [setM_other _ _ hk] at ho; exact ⟨o, ho, hg⟩
          obtain ⟨o1, a1, a2⟩ := key k o ho hg
          obtain ⟨o2, b1, b2⟩ := key k' o' ho' hg'
          exact hi.apart k k' o1 o2 g' a1 b1 a2 b2
      · cases hf
    · cases hf
end
end Go.Eng
