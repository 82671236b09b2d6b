/- Locality: an operation, a call looks at no object but those that it is told to touch. -/
import Derived.Test.YtjjocahgbmibeaaEngS
namespace Go.Eng
set_option linter.unusedVariables false
set_option linter.unusedSimpArgs false

theorem putM_agr {m m' : Mem} {id : Nat} : ∀ (u : Ups), m id = m' id → putM m u id = putM m' u id := by
  intro u
  induction u generalizing m m' with
  | nil => exact fun h => h
  | cons p u ih =>
    intro h
    rw [putM_cons, putM_cons]
    exact ih (by unfold setM; split <;> simp [h])

section
variable {m m' : Mem}
theorem sliceOf_loc {es : Nat} {v : AV} (h : ∀ id, id ∈ v.ids → m id = m' id) : sliceOf m es v = sliceOf m' es v := by
  cases v <;> simp only [sliceOf]
  all_goals rw [h _ (by simp [AV.ids, AV.ids1, AV.ids0])]
theorem lenOf_loc {v : AV} (h : ∀ id, id ∈ v.ids → m id = m' id) : lenOf m v = lenOf m' v := by
  cases v <;> simp only [lenOf]
  all_goals rw [h _ (by simp [AV.ids, AV.ids1, AV.ids0])]
theorem ptrCells_loc {v : AV} (h : ∀ id, id ∈ v.ids → m id = m' id) : ptrCells m v = ptrCells m' v := by
  cases v <;> simp only [ptrCells]
  all_goals rw [h _ (by simp [AV.ids, AV.ids1, AV.ids0])]
theorem slOf_loc {es : Nat} {v : AV} {lo hi mx : Option AV} (h : ∀ id, id ∈ v.ids → m id = m' id) : slOf m es v lo hi mx = slOf m' es v lo hi mx := by
  cases v <;> simp only [slOf]
  all_goals rw [h _ (by simp [AV.ids, AV.ids1, AV.ids0])]
theorem apDst_loc {es : Nat} {v : AV} (h : ∀ id, id ∈ v.ids → m id = m' id) : apDst m es v = apDst m' es v := by
  cases v <;> simp only [apDst]
  all_goals rw [h _ (by simp [AV.ids, AV.ids1, AV.ids0])]
theorem fzCell_loc {v : AV} (h : ∀ id, id ∈ v.ids0 → m id = m' id) : fzCell m v = fzCell m' v := by
  cases v <;> simp only [fzCell]
  all_goals rw [h _ (by simp [AV.ids0])]
theorem fzCells_loc {vs : List AV} : ∀ {m m' : Mem}, (∀ v, v ∈ vs → ∀ id, id ∈ v.ids0 → m id = m' id) → fzCells m vs = fzCells m' vs := by
  induction vs with
  | nil => intros; rfl
  | cons v vs ih =>
    intro m m' h
    simp only [fzCells]
    rw [fzCell_loc (h v (by simp))]
    congr 1; funext p
    rw [ih fun x hx id hid => putM_agr p.2 (h x (by simp [hx]) id hid)]
theorem cells_ids {v : AV} {ps : List AV} (h : v.cells = some ps) : ∀ x, x ∈ ps → ∀ id, id ∈ x.ids0 → id ∈ v.ids := by
  intro x hx id hid
  cases v <;> simp [AV.cells] at h <;> subst h
  case agg cs => simp only [AV.ids, AV.ids1, List.mem_flatMap]; exact ⟨x, hx, hid⟩
  all_goals (simp only [List.mem_singleton] at hx; subst hx; simp only [AV.ids, AV.ids1]; first | exact hid | simp [AV.ids0] at hid)
theorem rowParts_loc {es n : Nat} {ps : List (Nat × AV)} : ∀ {m m' : Mem} {xs : List (List AV)}, (∀ p, p ∈ ps → ∀ id, id ∈ p.2.ids → m id = m' id) → rowParts m es n xs ps = rowParts m' es n xs ps := by
  induction ps with
  | nil => intros; rfl
  | cons p ps ih =>
    intro m m' xs h
    obtain ⟨k, v⟩ := p
    simp only [rowParts]
    cases hc : v.cells with
    | none => rfl
    | some cs =>
      simp only [Option.bind_some]
      split
      · rw [fzCells_loc (m' := m') fun x hx id hid => h (k, v) (by simp) id (cells_ids hc x hx id hid)]
        congr 1; funext q
        rw [ih fun x hx id hid => putM_agr q.2 (h x (by simp [hx]) id hid)]
      · rfl
end
theorem act_loc {nid : Nat} {m m' : Mem} {o : AOp AV} (h : ∀ id, id ∈ touchOf m o → m id = m' id) (hc : ∀ f as, o ≠ .call f as) : act nid m o = act nid m' o := by
  cases o with
  | call f as => exact (hc f as rfl).elim
  | rowOf es z n ps =>
    simp only [act]
    rw [rowParts_loc fun p hp id hid => h id (by simp only [touchOf, AOp.looks, AOp.args, if_true, List.mem_flatMap, List.mem_map]; exact ⟨p.2, ⟨p, hp, rfl⟩, hid⟩)]
  | ld sz ag x =>
    simp only [act]
    rw [ptrCells_loc fun id hid => h id (by simpa [touchOf, AOp.looks, AOp.args] using hid)]
  | st sz x v =>
    simp only [act]
    cases x <;> try rfl
    rename_i id i j
    simp only []
    cases hv : v.cells with
    | none => rfl
    | some ps =>
      simp only [Option.bind_some]
      rw [h id (by simp [touchOf, AOp.looks, AOp.args, AV.ids, AV.ids1, AV.ids0])]
      rw [fzCells_loc (m' := m') fun x hx id hid => h _ (by simp only [touchOf, AOp.looks, AOp.args, if_true, List.mem_flatMap]; exact ⟨v, by simp, cells_ids hv x hx id hid⟩)]
  | cvS x =>
    simp only [act]
    rw [sliceOf_loc fun id hid => h id (by simpa [touchOf, AOp.looks, AOp.args] using hid)]
  | sl es x lo hi mx =>
    simp only [act]
    rw [slOf_loc fun id hid => h id (by simp only [touchOf, AOp.looks, AOp.args, if_true, List.mem_flatMap]; exact ⟨x, by simp, hid⟩)]
  | ia es x i =>
    simp only [act]
    cases i <;> try rfl
    cases x <;> simp only []
    all_goals rw [h _ (by simp [touchOf, AOp.looks, AOp.args, AV.ids, AV.ids1, AV.ids0])]
  | ap es bytes x y =>
    simp only [act, apOf]
    rw [sliceOf_loc (m' := m') fun id hid => h id (by simp only [touchOf, AOp.looks, AOp.args, if_true, List.mem_flatMap]; exact ⟨y, by simp, hid⟩)]
    rw [apDst_loc (m' := m') fun id hid => h id (by simp only [touchOf, AOp.looks, AOp.args, if_true, List.mem_flatMap]; exact ⟨x, by simp, hid⟩)]
  | apz es bytes z x n =>
    simp only [act, apOf]
    rw [apDst_loc (m' := m') fun id hid => h id (by simp only [touchOf, AOp.looks, AOp.args, if_true, List.mem_flatMap]; exact ⟨x, by simp, hid⟩)]
  | len str x =>
    simp only [act]
    rw [lenOf_loc fun id hid => h id (by simpa [touchOf, AOp.looks, AOp.args] using hid)]
  | clr es z x =>
    simp only [act]
    cases x <;> simp only []
    all_goals rw [h _ (by simp [touchOf, AOp.looks, AOp.args, AV.ids, AV.ids1, AV.ids0])]
  | _ => rfl

/-- What a call may look at: T1 the objects that its arguments name, T2 those in the boxes among them too. -/
structure Near (T1 T2 : Nat → Prop) (m m' : Mem) : Prop where
  sub : ∀ id, T1 id → T2 id
  agr : ∀ id, T2 id → m id = m' id
  boxes : ∀ id cs, T1 id → m id = some (.box cs) → ∀ c, c ∈ cs → ∀ i, i ∈ c.ids0 → T2 i
def Deads (u : Ups) : Prop := ∀ p, p ∈ u → p.2 = .dead
theorem deads_get {u : Ups} (hu : Deads u) : ∀ {m : Mem} {id : Nat}, putM m u id = m id ∨ putM m u id = some .dead := by
  induction u with
  | nil => intro m id; exact .inl rfl
  | cons p u ih =>
    intro m id
    rw [putM_cons]
    rcases ih (fun q hq => hu q (by simp [hq])) (m := setM m p.1 p.2) (id := id) with h | h
    · rw [h]; unfold setM; split
      · exact .inr (by rw [hu p (by simp)])
      · exact .inl rfl
    · exact .inr h
section
variable {T1 T2 : Nat → Prop} {m m' : Mem}
theorem Near.deads (h : Near T1 T2 m m') {u : Ups} (hu : Deads u) : Near T1 T2 (putM m u) (putM m' u) :=
  ⟨h.sub, fun id hid => putM_agr u (h.agr id hid), fun id cs hid hm => by
    rcases deads_get hu (m := m) (id := id) with e | e
    · rw [e] at hm; exact h.boxes id cs hid hm
    · rw [e] at hm; cases hm⟩
theorem expCell_loc {v : AV} (h : ∀ id, id ∈ v.ids0 → m id = m' id) : expCell m v = expCell m' v := by
  cases v <;> simp only [expCell]
  all_goals rw [h _ (by simp [AV.ids0])]
theorem expCell_deads {v : AV} {p : AV × Ups} (h : expCell m v = some p) : Deads p.2 := by
  unfold expCell at h
  repeat' split at h
  all_goals (try cases h)
  all_goals (intro q hq; simp at hq; try (subst hq; rfl))
theorem expCells_loc {vs : List AV} : ∀ {m m' : Mem}, (∀ v, v ∈ vs → ∀ id, id ∈ v.ids0 → m id = m' id) → expCells m vs = expCells m' vs := by
  induction vs with
  | nil => intros; rfl
  | cons v vs ih =>
    intro m m' h
    simp only [expCells]
    rw [expCell_loc (h v (by simp))]
    congr 1; funext p
    rw [ih fun x hx id hid => putM_agr p.2 (h x (by simp [hx]) id hid)]
theorem expCells_deads {vs : List AV} : ∀ {m : Mem} {p : List AV × Ups}, expCells m vs = some p → Deads p.2 := by
  induction vs with
  | nil => intro m p h; obtain rfl := Option.some.inj h; intro q hq; simp at hq
  | cons v vs ih =>
    intro m p h
    simp only [expCells, Option.bind_eq_some_iff] at h
    obtain ⟨a, ha, b, hb, h⟩ := h
    obtain rfl := Option.some.inj h
    intro q hq
    rcases List.mem_append.1 hq with hq | hq
    · exact expCell_deads ha q hq
    · exact ih hb q hq
theorem expPtr_loc (h : Near T1 T2 m m') {v : AV} (hv : ∀ id, id ∈ v.ids0 → T1 id) : expPtr m v = expPtr m' v := by
  cases v <;> simp only [expPtr]
  case elt id i j =>
    have h1 := hv id (by simp [AV.ids0])
    rw [← h.agr id (h.sub id h1)]
    split
    · rename_i cs hcs
      rw [expCells_loc (m' := setM m' id .dead) fun x hx i hi => by unfold setM; split; rfl; exact h.agr i (h.boxes id cs h1 hcs x hx i hi)]
    · rfl
  all_goals exact expCell_loc fun id hid => h.agr id (h.sub id (hv id hid))
theorem expPtr_deads {v : AV} {p : AV × Ups} (h : expPtr m v = some p) : Deads p.2 := by
  unfold expPtr at h
  split at h
  · split at h
    · split at h
      · simp only [Option.bind_eq_some_iff] at h
        obtain ⟨q, hq, h⟩ := h
        obtain rfl := Option.some.inj h
        intro x hx
        simp only [List.mem_cons] at hx
        rcases hx with rfl | hx
        · rfl
        · exact expCells_deads hq x hx
      · cases h
    · cases h
  · exact expCell_deads h
theorem snapCell_loc {v : AV} (h : ∀ id, id ∈ v.ids0 → m id = m' id) : snapCell m v = snapCell m' v := by
  cases v <;> simp only [snapCell]
  all_goals rw [h _ (by simp [AV.ids0])]
theorem snapCell_sn {v : AV} {p : AV × List Nat} (h : snapCell m v = some p) : ∀ id, id ∈ p.2 → id ∈ v.ids0 := by
  cases v <;> simp only [snapCell] at h <;> repeat' split at h
  all_goals (try cases h)
  all_goals (intro id hid; simp [AV.ids0] at hid ⊢; try exact hid)
theorem snapCells_loc {vs : List AV} (h : ∀ v, v ∈ vs → ∀ id, id ∈ v.ids0 → m id = m' id) : snapCells m vs = snapCells m' vs := by
  induction vs with
  | nil => rfl
  | cons v vs ih =>
    simp only [snapCells]
    rw [snapCell_loc (h v (by simp)), ih fun x hx => h x (by simp [hx])]
theorem snapCells_sn {vs : List AV} : ∀ {p : List AV × List Nat}, snapCells m vs = some p → ∀ id, id ∈ p.2 → ∃ v, v ∈ vs ∧ id ∈ v.ids0 := by
  induction vs with
  | nil => intro p h id hid; obtain rfl := Option.some.inj h; simp at hid
  | cons v vs ih =>
    intro p h id hid
    simp only [snapCells, Option.bind_eq_some_iff] at h
    obtain ⟨a, ha, b, hb, h⟩ := h
    obtain rfl := Option.some.inj h
    rcases List.mem_append.1 hid with hid | hid
    · exact ⟨v, by simp, snapCell_sn ha id hid⟩
    · obtain ⟨x, hx, h1⟩ := ih hb id hid
      exact ⟨x, by simp [hx], h1⟩
theorem snapPtr_loc (h : Near T1 T2 m m') {v : AV} (hv : ∀ id, id ∈ v.ids0 → T1 id) : snapPtr m v = snapPtr m' v := by
  cases v <;> simp only [snapPtr]
  case elt id i j =>
    have h1 := hv id (by simp [AV.ids0])
    rw [← h.agr id (h.sub id h1)]
    split
    · rename_i cs hcs
      rw [snapCells_loc (m' := m') fun x hx i hi => h.agr i (h.boxes id cs h1 hcs x hx i hi)]
    · rfl
  all_goals exact snapCell_loc fun id hid => h.agr id (h.sub id (hv id hid))
theorem snapPtr_sn (h : Near T1 T2 m m') {v : AV} (hv : ∀ id, id ∈ v.ids0 → T1 id) {p : AV × List Nat} (hp : snapPtr m v = some p) : ∀ id, id ∈ p.2 → T2 id := by
  unfold snapPtr at hp
  split at hp
  · rename_i id0 i j
    have h1 := hv id0 (by simp [AV.ids0])
    split at hp
    · rename_i cs hcs
      split at hp
      · simp only [Option.bind_eq_some_iff] at hp
        obtain ⟨q, hq, hp⟩ := hp
        obtain rfl := Option.some.inj hp
        intro id hid
        simp only [List.mem_cons] at hid
        rcases hid with rfl | hid
        · exact h.sub _ h1
        · obtain ⟨x, hx, h2⟩ := snapCells_sn hq id hid
          exact h.boxes id0 cs h1 hcs x hx id h2
      · cases hp
    · cases hp
  · exact fun id hid => h.sub id (hv id (snapCell_sn hp id hid))
theorem snapPtrs_loc (h : Near T1 T2 m m') {vs : List AV} (hv : ∀ v, v ∈ vs → ∀ id, id ∈ v.ids0 → T1 id) : snapPtrs m vs = snapPtrs m' vs := by
  induction vs with
  | nil => rfl
  | cons v vs ih =>
    simp only [snapPtrs]
    rw [snapPtr_loc h (hv v (by simp)), ih fun x hx => hv x (by simp [hx])]
theorem snapPtrs_sn (h : Near T1 T2 m m') {vs : List AV} : ∀ {p : List AV × List Nat}, (∀ v, v ∈ vs → ∀ id, id ∈ v.ids0 → T1 id) → snapPtrs m vs = some p → ∀ id, id ∈ p.2 → T2 id := by
  induction vs with
  | nil => intro p _ hp id hid; obtain rfl := Option.some.inj hp; simp at hid
  | cons v vs ih =>
    intro p hv hp id hid
    simp only [snapPtrs, Option.bind_eq_some_iff] at hp
    obtain ⟨a, ha, b, hb, hp⟩ := hp
    obtain rfl := Option.some.inj hp
    rcases List.mem_append.1 hid with hid | hid
    · exact snapPtr_sn h (hv v (by simp)) ha id hid
    · exact ih (fun x hx => hv x (by simp [hx])) hb id hid
theorem snapVal_loc (h : Near T1 T2 m m') {v : AV} (hv : ∀ id, id ∈ v.ids → T1 id) : snapVal m v = snapVal m' v := by
  cases v <;> simp only [snapVal]
  case agg cs => rw [snapCells_loc (m' := m') fun x hx id hid => h.agr id (h.sub id (hv id (by simp only [AV.ids, AV.ids1, List.mem_flatMap]; exact ⟨x, hx, hid⟩)))]
  case clo f cs => rw [snapPtrs_loc h fun x hx id hid => hv id (by simp only [AV.ids, AV.ids1, List.mem_flatMap]; exact ⟨x, hx, hid⟩)]
  all_goals exact snapPtr_loc h fun id hid => hv id (by first | simpa [AV.ids, AV.ids1] using hid | simp [AV.ids0] at hid)
theorem snapVal_sn (h : Near T1 T2 m m') {v : AV} (hv : ∀ id, id ∈ v.ids → T1 id) {p : AV × List Nat} (hp : snapVal m v = some p) : ∀ id, id ∈ p.2 → T2 id := by
  cases v <;> simp only [snapVal] at hp
  case agg cs =>
    simp only [Option.bind_eq_some_iff] at hp
    obtain ⟨q, hq, hp⟩ := hp
    obtain rfl := Option.some.inj hp
    intro id hid
    obtain ⟨x, hx, h1⟩ := snapCells_sn hq id hid
    exact h.sub id (hv id (by simp only [AV.ids, AV.ids1, List.mem_flatMap]; exact ⟨x, hx, h1⟩))
  case clo f cs =>
    simp only [Option.bind_eq_some_iff] at hp
    obtain ⟨q, hq, hp⟩ := hp
    obtain rfl := Option.some.inj hp
    exact snapPtrs_sn h (fun x hx id hid => hv id (by simp only [AV.ids, AV.ids1, List.mem_flatMap]; exact ⟨x, hx, hid⟩)) hq
  case junk => obtain rfl := Option.some.inj hp; intro id hid; simp at hid
  all_goals exact snapPtr_sn h (fun id hid => hv id (by first | simpa [AV.ids, AV.ids1] using hid | simp [AV.ids0] at hid)) hp
end
theorem prep_loc {T1 T2 : Nat → Prop} {as : List AV} : ∀ {m m' : Mem} {md : List Bool}, Near T1 T2 m m' → (∀ v, v ∈ as → ∀ id, id ∈ v.ids → T1 id) → prep m md as = prep m' md as := by
  induction as with
  | nil => intros; rfl
  | cons a as ih =>
    intro m m' md h hv
    have h0 : ∀ id, id ∈ a.ids0 → id ∈ a.ids := fun id hid => by cases a <;> first | simpa [AV.ids, AV.ids1] using hid | simp [AV.ids0] at hid
    simp only [prep]
    split
    · rw [← expPtr_loc h fun id hid => hv a (by simp) id (h0 id hid)]
      cases hp : expPtr m a with
      | none => rfl
      | some p =>
        simp only [Option.bind_some]
        rw [ih (h.deads (expPtr_deads hp)) fun x hx => hv x (by simp [hx])]
    · rw [← snapVal_loc h (hv a (by simp)), ih h fun x hx => hv x (by simp [hx])]
theorem prep_sn {T1 T2 : Nat → Prop} {as : List AV} : ∀ {m m' : Mem} {md : List Bool} {p : List AV × Ups × List Nat}, Near T1 T2 m m' → (∀ v, v ∈ as → ∀ id, id ∈ v.ids → T1 id) → prep m md as = some p → ∀ id, id ∈ p.2.2 → T2 id := by
  induction as with
  | nil => intro m m' md p _ _ hp id hid; obtain rfl := Option.some.inj hp; simp at hid
  | cons a as ih =>
    intro m m' md p h hv hp id hid
    simp only [prep] at hp
    split at hp
    · simp only [Option.bind_eq_some_iff] at hp
      obtain ⟨x, hx, y, hy, hp⟩ := hp
      obtain rfl := Option.some.inj hp
      exact ih (h.deads (expPtr_deads hx)) (fun x hx => hv x (by simp [hx])) hy id hid
    · simp only [Option.bind_eq_some_iff] at hp
      obtain ⟨x, hx, y, hy, hp⟩ := hp
      obtain rfl := Option.some.inj hp
      rcases List.mem_append.1 hid with hid | hid
      · exact snapVal_sn h (hv a (by simp)) hx id hid
      · exact ih h (fun x hx => hv x (by simp [hx])) hy id hid
theorem backOne_loc {n : Nat} {m m' : Mem} {a o : AV} (h : ∀ id, id ∈ a.ids → m id = m' id) : backOne n m a o = backOne n m' a o := by
  unfold backOne
  split
  · rfl
  · rw [h _ (by simp [AV.ids, AV.ids1, AV.ids0])]
  all_goals rfl
theorem backs_loc {m m' : Mem} {as : List AV} : ∀ {n : Nat} {md : List Bool} {os : List AV}, (∀ v, v ∈ as → ∀ id, id ∈ v.ids → m id = m' id) → backs n m md as os = backs n m' md as os := by
  induction as with
  | nil => intro n md os h; cases os <;> rfl
  | cons a as ih =>
    intro n md os h
    simp only [backs]
    split
    · cases os with
      | nil => rfl
      | cons o os =>
        simp only []
        rw [backOne_loc (h a (by simp))]
        congr 1; funext p
        rw [ih fun x hx => h x (by simp [hx])]
    · exact ih fun x hx => h x (by simp [hx])
theorem freezeIds_loc {m m' : Mem} {ids : List Nat} (h : ∀ id, id ∈ ids → m id = m' id) : freezeIds m ids = freezeIds m' ids := by
  induction ids with
  | nil => rfl
  | cons i ids ih =>
    simp only [freezeIds]
    rw [h i (by simp), ih fun x hx => h x (by simp [hx])]
theorem liveIds_loc {m m' : Mem} {ids : List Nat} (h : ∀ id, id ∈ ids → m id = m' id) : liveIds m ids = liveIds m' ids := by
  induction ids with
  | nil => rfl
  | cons i ids ih =>
    have := ih fun x hx => h x (by simp [hx])
    simp only [liveIds, List.all_cons] at this ⊢
    rw [h i (by simp), this]
theorem Eff.loc {P : Program} {md : Nat → List Bool} {nid : Nat} {e e' : Nat → AV} {m m' : Mem} {o : AOp AOpd} {av : AV} {ups : Ups} (h : Eff P md nid e m o av ups)
    (he : o.map (AOpd.get e') = o.map (AOpd.get e)) (hm : ∀ id, id ∈ touchOf m (o.map (AOpd.get e)) → m id = m' id) : Eff P md nid e' m' o av ups := by
  cases h with
  | act ha =>
    refine .act ?_
    rw [he, ← act_loc hm fun f as hf => by rw [hf] at ha; cases ha]
    exact ha
  | @call cf as f caps ps d sn r outs ho hc hp hs hf =>
    subst ho
    simp only [AOp.map, AOp.call.injEq] at he hm
    obtain ⟨he1, he2⟩ := he
    rw [hc] at hm
    simp only [touchOf, AOp.looks, AOp.args, if_true] at hm
    have hT : ∀ v, v ∈ as.map (AOpd.get e) ++ caps → ∀ id, id ∈ v.ids → id ∈ (caps ++ as.map (AOpd.get e)).flatMap AV.ids := fun v hv id hid => by
      rw [List.mem_flatMap]; exact ⟨v, by simp only [List.mem_append] at hv ⊢; exact hv.symm, hid⟩
    have hn : Near (· ∈ (caps ++ as.map (AOpd.get e)).flatMap AV.ids) (· ∈ touch1 m ((caps ++ as.map (AOpd.get e)).flatMap AV.ids)) m m' :=
      ⟨fun id hid => by unfold touch1; exact List.mem_append_left _ hid, hm, fun id cs hid hm' c hc i hi => by
        unfold touch1
        refine List.mem_append_right _ (List.mem_flatMap.2 ⟨id, hid, ?_⟩)
        rw [hm']; exact List.mem_flatMap.2 ⟨c, hc, hi⟩⟩
    refine .call (cf := cf) (as := as) (f := f) (caps := caps) (ps := ps) (d := d) (sn := sn) (r := r) (outs := outs) rfl (by rw [he1]; exact hc) (by rw [he2, ← prep_loc hn hT]; exact hp) hs ?_
    have hsn := prep_sn hn hT hp
    unfold fin at hf ⊢
    dsimp only at hf ⊢
    rw [he2, ← backs_loc (m := m) fun v hv id hid => hn.agr id (hn.sub id (hT v hv id hid)), ← freezeIds_loc (m := putM m d) fun id hid => putM_agr d (hn.agr id (hsn id hid)), ← liveIds_loc (m := putM m d) fun id hid => putM_agr d (hn.agr id (hsn id hid))]
    exact hf
theorem act_turns {nid : Nat} {m : Mem} {o : AOp AV} {av : AV} {u : Ups} (h : act nid m o = some (av, u)) (ht : o.turns = false) : u = [] := by
  cases o <;> (first | (simp only [AOp.turns, reduceCtorEq] at ht; done) | skip)
  all_goals simp only [act] at h
  all_goals (repeat' (first | (cases h; done) | (cases h; rfl) | (simp only [Option.bind_eq_some_iff] at h; obtain ⟨_, _, h⟩ := h) | split at h | (obtain ⟨_, _, h⟩ := h)))
end Go.Eng
