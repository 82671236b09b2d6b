/- Calls' borders: what comes in. -/
import Derived.Test.YtjjocahgbmibeaaEngO
namespace Go.Eng
set_option linter.unusedVariables false
set_option linter.unusedSimpArgs false

/-- What comes in: objects from n on, below n'. -/
structure In (C : Ctx) (w : World) (σ : Sig) (F : Nat → Prop) (m : Mem) (N n : Nat) (L : List Nat) (u : Ups) (n' : Nat) (σ' : Sig) : Prop where
  inv : Inv C w σ' F (putM m u)
  sub : Sub σ σ'
  above : ∀ id, n' ≤ id → id < N → σ' id = none
  le : n ≤ n'
  new : ∀ id, σ' id ≠ none → σ id ≠ none ∨ (n ≤ id ∧ id < n')
  free : ∀ g, g ∉ L → Free σ m g → Free σ' (putM m u) g
section
variable {C : Ctx} {w : World} {σ σ' : Sig} {F : Nat → Prop} {m : Mem} {N n : Nat}
theorem In.refl (h : Inv C w σ F m) (ha : ∀ id, n ≤ id → id < N → σ id = none) : In C w σ F m N n [] [] n σ := ⟨h, Sub.refl σ, ha, Nat.le_refl _, fun id hid => .inl hid, fun g _ hf => hf⟩
theorem In.append {L M : List Nat} {u1 u2 : Ups} {n1 n2 : Nat} {σ1 σ2 : Sig} (h : In C w σ F m N n L u1 n1 σ1) (k : In C w σ1 F (putM m u1) N n1 M u2 n2 σ2) : In C w σ F m N n (L ++ M) (u1 ++ u2) n2 σ2 := by
  refine ⟨by rw [putM_append]; exact k.inv, h.sub.trans k.sub, k.above, Nat.le_trans h.le k.le, fun id hid => ?_, fun g hg hf => ?_⟩
  · rcases k.new id hid with h1 | h1
    · rcases h.new id h1 with h2 | h2
      · exact .inl h2
      · exact .inr ⟨h2.1, Nat.lt_of_lt_of_le h2.2 k.le⟩
    · exact .inr ⟨Nat.le_trans h.le h1.1, h1.2⟩
  · rw [putM_append]
    exact k.free g (fun hm => hg (List.mem_append_right _ hm)) (h.free g (fun hm => hg (List.mem_append_left _ hm)) hf)
/-- Given blocks behind a coming in of others. -/
theorem Given.rest {L M : List Nat} {u : Ups} {n' : Nat} (hg : Given C w σ F m (L ++ M)) (h : In C w σ F m N n L u n' σ') : Given C w σ' F (putM m u) M := by
  have hn := List.nodup_append.1 hg.nodup
  refine ⟨hn.2.1, fun g hm => hg.ours g (List.mem_append_right _ hm), fun g hm => hg.lt g (List.mem_append_right _ hm), fun g hm => h.free g (fun hl => hn.2.2 g hl g hm rfl) (hg.free g (List.mem_append_right _ hm))⟩
theorem Given.left {L M : List Nat} (hg : Given C w σ F m (L ++ M)) : Given C w σ F m L :=
  ⟨(List.nodup_append.1 hg.nodup).1, fun g hm => hg.ours g (List.mem_append_left _ hm), fun g hm => hg.lt g (List.mem_append_left _ hm), fun g hm => hg.free g (List.mem_append_left _ hm)⟩
/-- One object comes in, under a name that is new. -/
theorem in_one (h : Inv C w σ F m) (hn : σ n = none) {ℓ : Loc} {o : AObj} (L : List Nat) (hok : ObjOk C w (setS σ n ℓ) F n o) (hown : ∀ g, Owns (setS σ n ℓ) n o g → g ∈ L ∧ Free σ m g) :
    Inv C w (setS σ n ℓ) F (setM m n o) ∧ ∀ g, g ∉ L → Free σ m g → Free (setS σ n ℓ) (setM m n o) g := by
  have hsub := sub_setS (ℓ := ℓ) hn
  refine ⟨?_, fun g hg hf id o' ho hg' => ?_⟩
  · refine h.go (fun _ => False) (fun k => k = n) (Turns.refl w _) (fun k hk => hk.elim) (fun k hk => hk) hsub (fun k hk => .inl hk) (fun k hk => setM_other m _ hk)
      (fun k o2 g2 hk ho hg2 => ⟨fun he => he, (hg2.lt (h.objs k o2 ho)).2.1⟩) (fun k o2 hk ho => ?_) (fun k k' o1 o2 g2 hk ho ho' hg1 hg2 => ?_)
    · subst hk; rw [setM_same] at ho; obtain rfl := Option.some.inj ho; exact hok
    · subst hk; rw [setM_same] at ho; obtain rfl := Option.some.inj ho
      by_cases hk' : k' = k
      · exact hk'.symm
      · rw [setM_other _ _ hk'] at ho'
        exact ((hown g2 hg1).2 k' o2 ho' (Owns.sub (h.objs _ _ ho') hsub hg2)).elim
  · by_cases hid : id = n
    · subst hid; rw [setM_same] at ho; obtain rfl := Option.some.inj ho
      exact hg (hown g hg').1
    · rw [setM_other _ _ hid] at ho
      exact hf id o' ho (Owns.sub (h.objs _ _ ho) hsub hg')
theorem BdC.one {c : AV} {v : Value} {L : List Nat} (h : BdC w F c v L) : v.oneCell' = true := by
  cases h with
  | fz h => exact h.one
  | ownE => rfl
  | own => rfl
  | junk h => exact h
theorem impCell_le (n : Nat) (c : AV) : n ≤ (impCell n c).2.2 := by cases c <;> simp [impCell]
theorem impCells_le : ∀ (n : Nat) (cs : List AV), n ≤ (impCells n cs).2.2
  | n, [] => Nat.le_refl _
  | n, c :: cs => Nat.le_trans (impCell_le n c) (impCells_le _ cs)
theorem impVal_le (n : Nat) (c : AV) : n ≤ (impVal n c).2.2 := by
  cases c with
  | obx cs j => exact Nat.le_trans (Nat.le_succ n) (impCells_le (n + 1) cs)
  | agg cs => exact impCells_le n cs
  | _ => exact impCell_le n _
theorem impVals_le : ∀ (n : Nat) (cs : List AV), n ≤ (impVals n cs).2.2
  | n, [] => Nat.le_refl _
  | n, c :: cs => Nat.le_trans (impVal_le n c) (impVals_le _ cs)
theorem impCell_ok (h : Inv C w σ F m) (ha : ∀ id, n ≤ id → id < N → σ id = none) {c : AV} {v : Value} {L : List Nat} (hb : BdC w F c v L) (hg : Given C w σ F m L) (hN : (impCell n c).2.2 ≤ N) :
    ∃ σ', In C w σ F m N n L (impCell n c).2.1 (impCell n c).2.2 σ' ∧ RelL w σ' F (impCell n c).1 v := by
  have plain : ∀ {c : AV}, RelF w F c v → ∃ σ', In C w σ F m N n [] (impCell n c).2.1 (impCell n c).2.2 σ' ∧ RelL w σ' F (impCell n c).1 v := by
    intro c hc
    have : impCell n c = (c, [], n) := by cases hc <;> rfl
    rw [this]
    exact ⟨σ, In.refl h ha, .fz hc⟩
  cases hb with
  | fz hc => exact plain hc
  | junk h1 => exact ⟨σ, In.refl h ha, .junk⟩
  | @ownE fl es A =>
    let ℓ : Loc := ⟨A, 0, 0, es⟩
    have hn := ha n (Nat.le_refl _) (by simp only [impCell] at hN; omega)
    obtain ⟨i1, i2⟩ := in_one h hn (ℓ := ℓ) (o := .row fl es 0 []) [] ⟨ℓ, setS_same _ _ _, rfl, rfl, Nat.le_refl _, Nat.le_refl _, Nat.zero_le _, fun x hx => by simp at hx, fun h0 => by simp [ℓ] at h0⟩ (fun g hg => by
      obtain ⟨ℓ', h1, h2, h3⟩ := hg
      rw [setS_same] at h1; obtain rfl := Option.some.inj h1
      simp [ℓ] at h3)
    refine ⟨setS σ n ℓ, ⟨i1, sub_setS hn, fun id hid hlt => ?_, Nat.le_succ _, fun id hid => ?_, i2⟩, .row (ℓ := ℓ) (setS_same _ _ _)⟩
    · rw [setS_other σ ℓ (by simp only [impCell] at hid; omega)]; exact ha id (by simp only [impCell] at hid; omega) hlt
    · by_cases hid' : id = n
      · exact .inr ⟨by omega, by simp only [impCell]; omega⟩
      · rw [setS_other σ ℓ hid'] at hid; exact .inl hid
  | @own fl es mc xs g t cap arr h1 h2 h3 h4 h5 h6 h7 h8 =>
    let ℓ : Loc := ⟨some ⟨g, 0, none⟩, xs.length, cap, es⟩
    have hn := ha n (Nat.le_refl _) (by simp only [impCell] at hN; omega)
    obtain ⟨i1, i2⟩ := in_one h hn (ℓ := ℓ) (o := .row fl es mc xs) [g] ⟨ℓ, setS_same _ _ _, rfl, rfl, h4, h3, h5, h7, fun _ => ⟨g, t, arr, rfl, h1, h2, h8, hg.ours g (by simp)⟩⟩ (fun g' hg' => by
      obtain ⟨ℓ', j1, j2, j3⟩ := hg'
      rw [setS_same] at j1; obtain rfl := Option.some.inj j1
      have : g = g' := by simpa [ℓ] using j2
      subst this
      exact ⟨by simp, hg.free g (by simp)⟩)
    refine ⟨setS σ n ℓ, ⟨i1, sub_setS hn, fun id hid hlt => ?_, Nat.le_succ _, fun id hid => ?_, i2⟩, .row (ℓ := ℓ) (setS_same _ _ _)⟩
    · rw [setS_other σ ℓ (by simp only [impCell] at hid; omega)]; exact ha id (by simp only [impCell] at hid; omega) hlt
    · by_cases hid' : id = n
      · exact .inr ⟨by omega, by simp only [impCell]; omega⟩
      · rw [setS_other σ ℓ hid'] at hid; exact .inl hid
end
theorem impCells_ok {C : Ctx} {w : World} {F : Nat → Prop} {N : Nat} : ∀ {cs : List AV} {vs : List Value} {L : List Nat} {σ : Sig} {m : Mem} {n : Nat}, Inv C w σ F m → (∀ id, n ≤ id → id < N → σ id = none) → BdCs w F cs vs L → Given C w σ F m L → (impCells n cs).2.2 ≤ N →
    ∃ σ', In C w σ F m N n L (impCells n cs).2.1 (impCells n cs).2.2 σ' ∧ vs.length = (impCells n cs).1.length ∧ ∀ (k : Nat) c v, (impCells n cs).1[k]? = some c → vs[k]? = some v → RelL w σ' F c v ∧ v.oneCell' = true
  | [], _, _, σ, m, n, h, ha, .nil, hg, hN => ⟨σ, In.refl h ha, rfl, fun k c v hk => by simp [impCells] at hk⟩
  | c :: cs, _, _, σ, m, n, h, ha, .cons (L := L) (M := M) (vs := vs) (v := v) hb hbs, hg, hN => by
    obtain ⟨σ1, i1, r1⟩ := impCell_ok h ha hb hg.left (Nat.le_trans (impCells_le _ cs) hN)
    obtain ⟨σ2, i2, hl, r2⟩ := impCells_ok i1.inv i1.above hbs (hg.rest i1) hN
    refine ⟨σ2, i1.append i2, by simp [impCells, hl], fun k c' v' hk hv => ?_⟩
    cases k with
    | zero =>
      obtain rfl := Option.some.inj hv
      obtain rfl : (impCell n c).1 = c' := by simpa [impCells] using hk
      exact ⟨r1.mono i2.sub (Mono.refl _ _), hb.one⟩
    | succ k => exact r2 k c' v' (by simpa [impCells] using hk) (by simpa using hv)
theorem impVal_ok {C : Ctx} {w : World} {F : Nat → Prop} {σ : Sig} {m : Mem} {N n : Nat} (h : Inv C w σ F m) (ha : ∀ id, n ≤ id → id < N → σ id = none) {c : AV} {v : Value} {L : List Nat} (hb : BdV w F c v L) (hg : Given C w σ F m L) (hN : (impVal n c).2.2 ≤ N) :
    ∃ σ', In C w σ F m N n L (impVal n c).2.1 (impVal n c).2.2 σ' ∧ RelL w σ' F (impVal n c).1 v := by
  cases hb with
  | c hc =>
    have : impVal n c = impCell n c := by
      cases hc with
      | fz hc => cases hc <;> rfl
      | ownE => rfl
      | own => rfl
      | junk => rfl
    rw [this] at hN ⊢
    exact impCell_ok h ha hc hg hN
  | @agg cs _ us hc =>
    obtain ⟨σ1, i1, hl, r1⟩ := impCells_ok h ha hc hg hN
    refine ⟨σ1, i1, .agg (by rw [← hl]; simp) (fun u hu => ?_) (fun k u v hu hv => (r1 k u v hu (by simpa using hv)).1)⟩
    obtain ⟨k, hk, rfl⟩ := Array.getElem_of_mem hu
    have hk' : k < (impCells n cs).1.length := by rw [← hl]; simpa using hk
    exact (r1 k _ _ (List.getElem?_eq_getElem hk') (by simp [Array.getElem?_eq_getElem hk])).2
  | @obx cs j g t M arr hh hc =>
    have hg' : Given C w σ F m (M ++ [g]) := ⟨(List.perm_append_singleton g M).nodup_iff.2 hg.nodup, fun k hk => hg.ours k (by simp at hk ⊢; exact hk.symm), fun k hk => hg.lt k (by simp at hk ⊢; exact hk.symm), fun k hk => hg.free k (by simp at hk ⊢; exact hk.symm)⟩
    obtain ⟨σ1, i1, hl, r1⟩ := impCells_ok (n := n + 1) h (fun id hid hlt => ha id (by omega) hlt) hc hg'.left hN
    have g1 := hg'.rest i1
    have hn : σ1 n = none := by
      cases hs : σ1 n with
      | none => rfl
      | some ℓ =>
        rcases i1.new n (by rw [hs]; simp) with h1 | h1
        · have := i1.le
          have hN' : (impCells (n + 1) cs).2.2 ≤ N := hN
          exact (h1 (ha n (Nat.le_refl _) (by omega))).elim
        · omega
    let ℓ : Loc := ⟨some ⟨g, 0, none⟩, 1, 1, 0⟩
    have hsub := sub_setS (ℓ := ℓ) hn
    have hcells : CellsL w σ1 F (impCells (n + 1) cs).1 arr := by
      refine ⟨by rw [← hl]; simp, fun k u hu => ?_⟩
      have hk : k < arr.size := by
        have := (List.getElem?_eq_some_iff.1 hu).1
        rw [← hl] at this; simpa using this
      have := r1 k u arr[k] hu (by simp [Array.getElem?_eq_getElem hk])
      exact ⟨_, Array.getElem?_eq_getElem hk, this.1, this.2⟩
    obtain ⟨j1, j2⟩ := in_one i1.inv hn (ℓ := ℓ) (o := .box (impCells (n + 1) cs).1) [g] ⟨ℓ, g, t, arr, setS_same _ _ _, rfl, hh, hcells.mono hsub (Mono.refl _ _), g1.ours g (by simp)⟩ (fun g' hg' => by
      obtain ⟨ℓ', k1, k2⟩ := hg'
      rw [setS_same] at k1; obtain rfl := Option.some.inj k1
      have : g = g' := by simpa [ℓ] using k2
      subst this
      exact ⟨by simp, g1.free g (by simp)⟩)
    refine ⟨setS σ1 n ℓ, ⟨by simp only [impVal]; rw [putM_append, putM_cons, putM_nil]; exact j1, i1.sub.trans hsub, fun id hid hlt => ?_, by have := i1.le; simp only [impVal]; omega, fun id hid => ?_, fun k hk hf => ?_⟩, ?_⟩
    · have := i1.le
      simp only [impVal] at hid
      rw [setS_other σ1 ℓ (by omega)]; exact i1.above id hid hlt
    · by_cases hid' : id = n
      · have := i1.le
        exact .inr ⟨by omega, by simp only [impVal]; omega⟩
      · rw [setS_other σ1 ℓ hid'] at hid
        rcases i1.new id hid with h1 | h1
        · exact .inl h1
        · exact .inr ⟨by omega, h1.2⟩
    · simp only [impVal]
      rw [putM_append, putM_cons, putM_nil]
      simp only [List.mem_cons, not_or] at hk
      exact j2 k (by simpa using hk.1) (i1.free k hk.2 hf)
    · have := RelL.elt (w := w) (F := F) (σ := setS σ1 n ℓ) (id := n) (i := 0) (j := j) (ℓ := ℓ) (a := ⟨g, 0, none⟩) (setS_same _ _ _) rfl
      rw [Nat.zero_mul, Nat.zero_add, addr_add_plain] at this
      exact this
  | clo h1 h2 => exact ⟨σ, In.refl h ha, .clo h1 (fun k u v hu hv => .fz (h2 k u v hu hv))⟩
  | junk => exact ⟨σ, In.refl h ha, .junk⟩
theorem impVals_ok {C : Ctx} {w : World} {F : Nat → Prop} {N : Nat} : ∀ {cs : List AV} {vs : List Value} {L : List Nat} {σ : Sig} {m : Mem} {n : Nat}, Inv C w σ F m → (∀ id, n ≤ id → id < N → σ id = none) → BdVs w F cs vs L → Given C w σ F m L → (impVals n cs).2.2 ≤ N →
    ∃ σ', In C w σ F m N n L (impVals n cs).2.1 (impVals n cs).2.2 σ' ∧ vs.length = (impVals n cs).1.length ∧ ∀ (k : Nat) c v, (impVals n cs).1[k]? = some c → vs[k]? = some v → RelL w σ' F c v
  | [], _, _, σ, m, n, h, ha, .nil, hg, hN => ⟨σ, In.refl h ha, rfl, fun k c v hk => by simp [impVals] at hk⟩
  | c :: cs, _, _, σ, m, n, h, ha, .cons (L := L) (M := M) (vs := vs) (v := v) hb hbs, hg, hN => by
    obtain ⟨σ1, i1, r1⟩ := impVal_ok h ha hb hg.left (Nat.le_trans (impVals_le _ cs) hN)
    obtain ⟨σ2, i2, hl, r2⟩ := impVals_ok i1.inv i1.above hbs (hg.rest i1) hN
    refine ⟨σ2, i1.append i2, by simp [impVals, hl], fun k c' v' hk hv => ?_⟩
    cases k with
    | zero =>
      obtain rfl := Option.some.inj hv
      obtain rfl : (impVal n c).1 = c' := by simpa [impVals] using hk
      exact r1.mono i2.sub (Mono.refl _ _)
    | succ k => exact r2 k c' v' (by simpa [impVals] using hk) (by simpa using hv)
theorem impRes_ok {C : Ctx} {w : World} {F : Nat → Prop} {σ : Sig} {m : Mem} {N n : Nat} (h : Inv C w σ F m) (ha : ∀ id, n ≤ id → id < N → σ id = none) {c : AV} {v : Value} {L : List Nat} (hb : BdR w F c v L) (hg : Given C w σ F m L) (hN : (impRes n c).2.2 ≤ N) :
    ∃ σ', In C w σ F m N n L (impRes n c).2.1 (impRes n c).2.2 σ' ∧ RelL w σ' F (impRes n c).1 v := by
  cases hb with
  | v hc =>
    have : impRes n c = impVal n c := by
      cases hc with
      | c hc =>
        cases hc with
        | fz hc => cases hc <;> rfl
        | _ => rfl
      | _ => rfl
    rw [this] at hN ⊢
    exact impVal_ok h ha hc hg hN
  | @tup cs _ us hc =>
    obtain ⟨σ1, i1, hl, r1⟩ := impVals_ok h ha hc hg hN
    exact ⟨σ1, i1, .tup (by rw [← hl]; simp) (fun k u v hu hv => r1 k u v hu (by simpa using hv))⟩
end Go.Eng
