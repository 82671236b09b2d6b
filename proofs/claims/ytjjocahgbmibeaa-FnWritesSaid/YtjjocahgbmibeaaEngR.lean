/- Calls: what a call leaves behind in the caller. -/
import Derived.Test.YtjjocahgbmibeaaEngQ
namespace Go.Eng
set_option linter.unusedVariables false
set_option linter.unusedSimpArgs false

/-- The values of the arguments of mode 'true'. -/
def mvals : List Bool → List Value → List Value
  | _, [] => []
  | md, a :: as => if md.headD false then a :: mvals md.tail as else mvals md.tail as
/-- What is asked of a call behind it. -/
def FnPost (w : World) (F : Nat → Prop) (L : List Nat) (w' : World) (mv : List Value) (v : Value) (r : AV) (outs : List AV) : Prop :=
  ∃ F' L1 L2, Kept' w w' L ∧ (∀ k, F k → F' k) ∧ (∀ k, F' k → k < w'.heap.size ∧ (F k ∨ k ∈ L ∨ w.heap.size ≤ k)) ∧ BdR w' F' r v L1 ∧ BdVs w' F' outs mv L2 ∧ (L1 ++ L2).Nodup ∧
    ∀ g, g ∈ L1 ++ L2 → ¬ F' g ∧ g < w'.heap.size ∧ (g ∈ L ∨ w.heap.size ≤ g)
/-- A function of the program's own. -/
def Callable (P : Program) (f : Nat) : Prop := ∃ fn c, P.funcs[f]? = some fn ∧ (fn.name == "runtime.NumGoroutine") = false ∧ fn.body = some c
def FnSound (P : Program) (md : List Bool) (f : Nat) (as : List AV) (r : AV) (outs : List AV) : Prop :=
  Callable P f ∧ ∀ (w : World) (F : Nat → Prop) (vs : List Value) (L : List Nat), BdVs w F as vs L → L.Nodup → (∀ g, g ∈ L → ¬ F g ∧ g < w.heap.size) → (∀ k, F k → k < w.heap.size) →
    Calls P f vs.toArray w fun e w' => ∃ v, e = .returned v ∧ FnPost w F L w' (mvals md vs) v r outs

section
variable {C : Ctx} {w w' : World} {σ σ' : Sig} {F F' : Nat → Prop} {m m' : Mem} {N n : Nat}
/-- An object comes back under the name that it had. -/
theorem in_at (h : Inv C w σ F m) {id : Nat} {o : AObj} (L : List Nat) (hok : ObjOk C w σ F id o) (hown : ∀ g, Owns σ id o g → g ∈ L ∧ Free σ m g) :
    Inv C w σ F (setM m id o) ∧ ∀ g, g ∉ L → Free σ m g → Free σ (setM m id o) g := by
  refine ⟨?_, fun g hg hf id' o' ho hg' => ?_⟩
  · refine h.go (fun _ => False) (fun k => k = id) (Turns.refl w _) (fun k hk => hk.elim) (fun k hk => hk) (Sub.refl _) (fun k hk => .inl hk) (fun k hk => setM_other m _ hk)
      (fun k o2 g2 hk ho hg2 => ⟨fun he => he, (hg2.lt (h.objs k o2 ho)).2.1⟩) (fun k o2 hk ho => ?_) (fun k k' o1 o2 g2 hk ho ho' hg1 hg2 => ?_)
    · subst hk; rw [setM_same] at ho; obtain rfl := Option.some.inj ho; exact hok
    · subst hk; rw [setM_same] at ho; obtain rfl := Option.some.inj ho
      by_cases hk' : k' = k
      · exact hk'.symm
      · rw [setM_other _ _ hk'] at ho'
        exact ((hown g2 hg1).2 k' o2 ho' hg2).elim
  · by_cases hid : id' = id
    · subst hid; rw [setM_same] at ho; obtain rfl := Option.some.inj ho
      exact hg (hown g hg').1
    · rw [setM_other _ _ hid] at ho
      exact hf id' o' ho hg'
theorem In.weak {L M : List Nat} {u : Ups} {n' : Nat} (h : In C w σ F m N n L u n' σ') (hM : ∀ g, g ∈ L → g ∈ M) : In C w σ F m N n M u n' σ' :=
  ⟨h.inv, h.sub, h.above, h.le, h.new, fun g hg hf => h.free g (fun hl => hg (hM g hl)) hf⟩
theorem backOne_ok {m0 : Mem} (h : Inv C w σ F m) (hes : ∀ id fl es mc xs, m0 id = some (.row fl es mc xs) → ∃ ℓ, σ id = some ℓ ∧ ℓ.es = es) (ha : ∀ id, n ≤ id → id < N → σ id = none) {a o : AV} {v : Value} {L : List Nat} {u : Ups} {n' : Nat} (hb : backOne n m0 a o = some (u, n'))
    (hr : RelL w σ F a v) (hv : BdV w F o v L) (hg : Given C w σ F m L) (hN : n' ≤ N) : ∃ σ', In C w σ F m N n L u n' σ' := by
  unfold backOne at hb
  split at hb
  · -- a box
    rename_i id cs
    simp only [Option.some.injEq, Prod.mk.injEq] at hb
    obtain ⟨rfl, rfl⟩ := hb
    cases hv with
    | c hc => cases hc with | fz hc => cases hc
    | @obx _ _ g t M arr hh hc =>
      obtain ⟨ℓ, ad, hl, hA, hpv⟩ := hr.eltI
      have had : ad = ⟨g, 0, none⟩ := by
        simp only [Nat.zero_mul, Nat.add_zero, Value.pointer.injEq, Option.some.injEq] at hpv
        rw [hpv]; simp [Addr.add]
      subst had
      have hg' : Given C w σ F m (M ++ [g]) := ⟨(List.perm_append_singleton g M).nodup_iff.2 hg.nodup, fun k hk => hg.ours k (by simp at hk ⊢; exact hk.symm), fun k hk => hg.lt k (by simp at hk ⊢; exact hk.symm), fun k hk => hg.free k (by simp at hk ⊢; exact hk.symm)⟩
      obtain ⟨σ1, i1, hl1, r1⟩ := impCells_ok h ha hc hg'.left hN
      have g1 := hg'.rest i1
      have hcells : CellsL w σ1 F (impCells n cs).1 arr := by
        refine ⟨by rw [← hl1]; simp, fun k u hu => ?_⟩
        have hk : k < arr.size := by
          have := (List.getElem?_eq_some_iff.1 hu).1
          rw [← hl1] at this; simpa using this
        have := r1 k u arr[k] hu (by simp [Array.getElem?_eq_getElem hk])
        exact ⟨_, Array.getElem?_eq_getElem hk, this.1, this.2⟩
      have hl' := i1.sub _ _ hl
      obtain ⟨j1, j2⟩ := in_at i1.inv (id := id) (o := .box (impCells n cs).1) [g] ⟨ℓ, g, t, arr, hl', hA, hh, hcells, g1.ours g (by simp)⟩ (fun g' hg' => by
        obtain ⟨ℓ', k1, k2⟩ := hg'
        rw [hl'] at k1; obtain rfl := Option.some.inj k1
        rw [hA] at k2
        have : g = g' := by simpa using k2
        subst this
        exact ⟨by simp, g1.free g (by simp)⟩)
      refine ⟨σ1, by rw [putM_append, putM_cons, putM_nil]; exact j1, i1.sub, i1.above, i1.le, i1.new, fun k hk hf => ?_⟩
      rw [putM_append, putM_cons, putM_nil]
      simp only [List.mem_cons, not_or] at hk
      exact j2 k (by simpa using hk.1) (i1.free k hk.2 hf)
  · -- a row
    rename_i id fl es mc xs
    obtain ⟨ℓ, hl, hsv⟩ := hr.rowI
    split at hb
    case h_2 => cases hb
    rename_i fl0 es' mc0 ys hm0
    split at hb
    case isFalse => cases hb
    rename_i hc
    obtain ⟨rfl, _⟩ := hc
    simp only [Option.some.injEq, Prod.mk.injEq] at hb
    obtain ⟨rfl, rfl⟩ := hb
    obtain ⟨ℓ', q1, q2⟩ := hes id _ _ _ _ hm0
    rw [hl] at q1; obtain rfl := Option.some.inj q1
    have key : ∀ (hok : ObjOk C w σ F id (.row fl es mc xs)) (hown : ∀ g, Owns σ id (.row fl es mc xs) g → g ∈ L ∧ Free σ m g), ∃ σ', In C w σ F m N n L [(id, .row fl es mc xs)] n σ' := by
      intro hok hown
      obtain ⟨j1, j2⟩ := in_at h L hok hown
      exact ⟨σ, j1, Sub.refl _, ha, Nat.le_refl _, fun id hid => .inl hid, j2⟩
    cases hv with
    | c hc =>
      cases hc with
      | fz hc => cases hc
      | ownE =>
        simp only [Value.slice.injEq] at hsv
        obtain ⟨hA, hlen, hcap⟩ := hsv
        refine key ⟨ℓ, hl, q2, by rw [← hlen]; rfl, Nat.zero_le _, Nat.zero_le _, by rw [← hcap]; exact Nat.zero_le _, fun x hx => by simp at hx, fun h0 => by omega⟩ (fun g hg => ?_)
        obtain ⟨ℓ', j1, j2, j3⟩ := hg
        rw [hl] at j1; obtain rfl := Option.some.inj j1
        omega
      | own h1 h2 h3 h4 h5 h6 h7 h8 =>
        rename_i g t cap arr
        simp only [Value.slice.injEq] at hsv
        obtain ⟨hA, hlen, rfl⟩ := hsv
        refine key ⟨ℓ, hl, q2, hlen.symm, h4, h3, h5, h7, fun _ => ⟨g, t, arr, hA.symm, h1, h2, h8, hg.ours g (by simp)⟩⟩ (fun g' hg' => ?_)
        obtain ⟨ℓ', j1, j2, j3⟩ := hg'
        rw [hl] at j1; obtain rfl := Option.some.inj j1
        rw [← hA] at j2
        have : g = g' := by simpa using j2
        subst this
        exact ⟨by simp, hg.free g (by simp)⟩
  · simp only [Option.some.injEq, Prod.mk.injEq] at hb
    obtain ⟨rfl, rfl⟩ := hb
    exact ⟨σ, (In.refl h ha).weak (fun g hg => by simp at hg)⟩
  · simp only [Option.some.injEq, Prod.mk.injEq] at hb
    obtain ⟨rfl, rfl⟩ := hb
    exact ⟨σ, (In.refl h ha).weak (fun g hg => by simp at hg)⟩
  · cases hb
end
theorem backOne_le {n : Nat} {m : Mem} {a o : AV} {p : Ups × Nat} (h : backOne n m a o = some p) : n ≤ p.2 := by
  unfold backOne at h
  split at h
  · obtain rfl := Option.some.inj h; exact impCells_le n _
  · split at h
    · split at h
      · obtain rfl := Option.some.inj h; exact Nat.le_refl _
      · cases h
    · cases h
  · obtain rfl := Option.some.inj h; exact Nat.le_refl _
  · obtain rfl := Option.some.inj h; exact Nat.le_refl _
  · cases h
theorem backs_le : ∀ {md : List Bool} {as os : List AV} {n : Nat} {m : Mem} {p : Ups × Nat}, backs n m md as os = some p → n ≤ p.2
  | md, [], [], n, m, p, h => by obtain rfl : ([], n) = p := by cases md <;> simpa [backs] using h
                                 exact Nat.le_refl _
  | md, [], o :: os, n, m, p, h => by cases md <;> simp [backs] at h
  | md, a :: as, os, n, m, p, h => by
    unfold backs at h
    split at h
    · split at h
      · simp only [Option.bind_eq_some_iff] at h
        obtain ⟨q, hq, r, hr, h⟩ := h
        obtain rfl := Option.some.inj h
        show n ≤ r.2
        exact Nat.le_trans (backOne_le hq) (backs_le hr)
      · cases h
    · exact backs_le h
theorem backs_ok {C : Ctx} {w : World} {F : Nat → Prop} {m0 : Mem} {N : Nat} : ∀ {md : List Bool} {as os : List AV} {vs : List Value} {L : List Nat} {σ : Sig} {m : Mem} {n : Nat} {u : Ups} {n' : Nat}, Inv C w σ F m →
    (∀ id fl es mc xs, m0 id = some (.row fl es mc xs) → ∃ ℓ, σ id = some ℓ ∧ ℓ.es = es) → (∀ id, n ≤ id → id < N → σ id = none) → backs n m0 md as os = some (u, n') → vs.length = as.length →
    (∀ (k : Nat) a v, as[k]? = some a → vs[k]? = some v → RelL w σ F a v) → BdVs w F os (mvals md vs) L → Given C w σ F m L → n' ≤ N → ∃ σ', In C w σ F m N n L u n' σ'
  | md, [], [], vs, L, σ, m, n, u, n', h, hes, ha, hb, hl, hr, hv, hg, hN => by
    obtain ⟨rfl, rfl⟩ : ([] : Ups) = u ∧ n = n' := by cases md <;> simpa [backs] using hb
    exact ⟨σ, (In.refl h ha).weak (fun g hg => by simp at hg)⟩
  | md, [], o :: os, vs, L, σ, m, n, u, n', h, hes, ha, hb, hl, hr, hv, hg, hN => by cases md <;> simp [backs] at hb
  | md, a :: as, os, [], L, σ, m, n, u, n', h, hes, ha, hb, hl, hr, hv, hg, hN => by simp at hl
  | md, a :: as, os, v :: vs, L, σ, m, n, u, n', h, hes, ha, hb, hl, hr, hv, hg, hN => by
    unfold backs at hb
    split at hb
    · rename_i hmd
      split at hb
      case h_2 => cases hb
      rename_i o os
      simp only [Option.bind_eq_some_iff] at hb
      obtain ⟨p, hp, q, hq, he⟩ := hb
      obtain ⟨rfl, rfl⟩ : p.1 ++ q.1 = u ∧ q.2 = n' := by simpa using he
      simp only [mvals, if_pos hmd] at hv
      cases hv with
      | @cons _ _ L1 _ _ L2 hv1 hv2 =>
        obtain ⟨σ1, i1⟩ := backOne_ok h hes ha (u := p.1) (n' := p.2) hp (hr 0 a v rfl rfl) hv1 hg.left (Nat.le_trans (backs_le hq) hN)
        obtain ⟨σ2, i2⟩ := backs_ok i1.inv (fun id fl es mc xs hm => let ⟨ℓ, h1, h2⟩ := hes id fl es mc xs hm; ⟨ℓ, i1.sub _ _ h1, h2⟩) i1.above (u := q.1) (n' := q.2) hq (by simpa using hl) (fun k a v hk hv => (hr (k + 1) a v hk hv).mono i1.sub (Mono.refl _ _)) hv2 (hg.rest i1) hN
        exact ⟨σ2, i1.append i2⟩
    · rename_i hmd
      simp only [mvals, if_neg hmd] at hv
      exact backs_ok h hes ha hb (by simpa using hl) (fun k a v hk hv => hr (k + 1) a v hk hv) hv hg hN
theorem freezeIds_live : ∀ {ids : List Nat} {m : Mem} {z : Ups}, freezeIds m ids = some z → ∀ id, id ∈ ids → (∃ fl es mc xs, m id = some (.row fl es mc xs)) ∨ ∃ fl es xs, m id = some (.frow fl es xs)
  | [], m, z, h, id, hid => by simp at hid
  | i :: ids, m, z, h, id, hid => by
    simp only [freezeIds] at h
    split at h
    · rename_i fl es mc xs hm
      simp only [Option.bind_eq_some_iff] at h
      obtain ⟨u, hu, _⟩ := h
      rcases List.mem_cons.1 hid with rfl | hid
      · exact .inl ⟨_, _, _, _, hm⟩
      · exact freezeIds_live hu id hid
    · rename_i fl es xs hm
      rcases List.mem_cons.1 hid with rfl | hid
      · exact .inr ⟨_, _, _, hm⟩
      · exact freezeIds_live h id hid
    · cases h
/-- What freezing makes of memory. -/
theorem freezeIds_put : ∀ {ids : List Nat} {m m0 : Mem} {z : Ups}, freezeIds m ids = some z → (∀ id, m0 id = m id ∨ ∃ fl es mc xs, m id = some (.row fl es mc xs) ∧ m0 id = some (.frow fl es xs)) →
    (∀ id, id ∉ ids → putM m0 z id = m0 id) ∧ ∀ id fl es mc xs, id ∈ ids → m id = some (.row fl es mc xs) → putM m0 z id = some (.frow fl es xs)
  | [], m, m0, z, h, h0 => by
    obtain rfl := Option.some.inj h
    exact ⟨fun _ _ => rfl, fun id fl es mc xs hid => by simp at hid⟩
  | i :: ids, m, m0, z, h, h0 => by
    simp only [freezeIds] at h
    split at h
    · rename_i fl es mc xs hm
      simp only [Option.bind_eq_some_iff] at h
      obtain ⟨u, hu, h⟩ := h
      obtain rfl := Option.some.inj h
      rw [show putM m0 ((i, AObj.frow fl es xs) :: u) = putM (setM m0 i (.frow fl es xs)) u from rfl]
      obtain ⟨k1, k2⟩ := freezeIds_put (m0 := setM m0 i (.frow fl es xs)) hu (fun id => by
        by_cases hid : id = i
        · subst hid; exact .inr ⟨fl, es, mc, xs, hm, setM_same _ _ _⟩
        · rw [setM_other _ _ hid]; exact h0 id)
      refine ⟨fun id hid => ?_, fun id fl' es' mc' xs' hid hm' => ?_⟩
      · rw [k1 id (fun h => hid (List.mem_cons_of_mem _ h)), setM_other _ _ (fun e => hid (by rw [e]; exact List.mem_cons_self))]
      · by_cases hin : id ∈ ids
        · exact k2 id _ _ _ _ hin hm'
        · obtain rfl : id = i := (List.mem_cons.1 hid).resolve_right hin
          rw [k1 id hin, setM_same]
          rw [hm] at hm'
          simp only [Option.some.injEq, AObj.row.injEq] at hm'
          obtain ⟨rfl, rfl, _, rfl⟩ := hm'; rfl
    · rename_i fl es xs hm
      obtain ⟨k1, k2⟩ := freezeIds_put (m0 := m0) h h0
      refine ⟨fun id hid => k1 id (fun h => hid (List.mem_cons_of_mem _ h)), fun id fl' es' mc' xs' hid hm' => ?_⟩
      rcases List.mem_cons.1 hid with rfl | hid
      · rw [hm] at hm'; cases hm'
      · exact k2 id _ _ _ _ hid hm'
    · cases h
theorem fin_live {nid : Nat} {m : Mem} {md : List Bool} {as : List AV} {d : Ups} {sn : List Nat} {r : AV} {outs : List AV} {p : AV × Ups} (h : fin nid m md as d sn r outs = some p) : ∀ id, id ∈ sn → LiveM (putM m d) id := by
  unfold fin at h
  simp only [Option.bind_eq_some_iff] at h
  obtain ⟨q, hq, z, hz, h⟩ := h
  intro id hid
  split at hz
  · rcases freezeIds_live hz id hid with ⟨fl, es, mc, xs, hm⟩ | ⟨fl, es, xs, hm⟩
    · exact ⟨_, hm, by simp⟩
    · exact ⟨_, hm, by simp⟩
  · split at hz
    · rename_i hl
      have := List.all_eq_true.1 hl id hid
      split at this
      · rename_i hm; exact ⟨_, hm, by simp⟩
      · rename_i hm; exact ⟨_, hm, by simp⟩
      · rename_i hm; exact ⟨_, hm, by simp⟩
      · cases this
    · cases hz
theorem fin_ok {C : Ctx} {w w' : World} {σ : Sig} {F : Nat → Prop} {m : Mem} {nid : Nat} (h : Inv C w σ F m) (hσ : ∀ id, nid ≤ id → id < nid + 16 → σ id = none) {md : List Bool} {as : List AV} {vs : List Value} {d : Ups} {sn L : List Nat} {v : Value} {r av : AV} {outs : List AV} {ups : Ups}
    (hvl : vs.length = as.length) (hrel : ∀ (k : Nat) a v, as[k]? = some a → vs[k]? = some v → RelL w σ F a v) (ho : Out C w σ F m (putM m d) L)
    (hp : FnPost w (FS σ (putM m d) F sn) L w' (mvals md vs) v r outs) (hf : fin nid m md as d sn r outs = some (av, ups)) : Good C w σ F m nid ups av v w' := by
  obtain ⟨F', L1, L2, hk, hF1, hF2, hbr, hbo, hnd, hL⟩ := hp
  have hf0 := hf
  unfold fin at hf
  simp only [Option.bind_eq_some_iff] at hf
  obtain ⟨q, hq, z, hz, hf⟩ := hf
  split at hf
  case isFalse => cases hf
  rename_i hN
  simp only [Option.some.injEq, Prod.mk.injEq] at hf
  obtain ⟨rfl, rfl⟩ := hf
  have hi := ho.inv
  have hturn : Turns w w' (fun k => k ∈ L) := ⟨hk.os, hk.tape, hk.output, hk.size, hk.block⟩
  have hBours : ∀ k, k ∈ L → Ours C F k := ho.given.ours
  -- memory behind the call, ahead of what comes in
  have step : ∃ F2, Inv C w' σ F2 (putM (putM m d) z) ∧ Mono w F w' F2 ∧ BdR w' F2 r v L1 ∧ BdVs w' F2 outs (mvals md vs) L2 ∧ Given C w' σ F2 (putM (putM m d) z) (L1 ++ L2) := by
    have freeNew : ∀ (m2 : Mem), (∀ id o g, m2 id = some o → Owns σ id o g → putM m d id = some o) → ∀ g, (g ∈ L ∨ w.heap.size ≤ g) → Free σ m2 g := by
      intro m2 hm2 g hg id o ho' hown
      have h1 := hm2 id o g ho' hown
      rcases hg with hg | hg
      · exact ho.given.free g hg id o h1 hown
      · have := (hown.lt (hi.objs id o h1)).1; omega
    have oursNew : ∀ {F2 : Nat → Prop}, (∀ k, F2 k → F' k) → ∀ g, g ∈ L1 ++ L2 → Ours C F2 g := by
      intro F2 h2 g hg
      refine ⟨fun hf => (hL g hg).1 (h2 g hf), ?_⟩
      rcases (hL g hg).2.2 with h1 | h1
      · exact (hBours g h1).2
      · exact .inr (Nat.le_trans h.kept.size h1)
    split at hz
    · -- what was looked at is frozen
      obtain ⟨z1, z2⟩ := freezeIds_put (m0 := putM m d) hz (fun id => .inl rfl)
      have hlive := freezeIds_live hz
      have hother : ∀ id, ¬ (id ∈ sn ∧ ∃ fl es mc xs, putM m d id = some (.row fl es mc xs)) → putM (putM m d) z id = putM m d id := by
        intro id hid
        by_cases hin : id ∈ sn
        · rcases hlive id hin with ⟨fl, es, mc, xs, hm⟩ | ⟨fl, es, xs, hm⟩
          · exact (hid ⟨hin, fl, es, mc, xs, hm⟩).elim
          · have : ∀ {ids : List Nat} {m1 m0 : Mem} {z : Ups}, freezeIds m1 ids = some z → m1 id = some (.frow fl es xs) → putM m0 z id = m0 id := by
              intro ids
              induction ids with
              | nil => intro m1 m0 z hz hm; obtain rfl := Option.some.inj hz; rfl
              | cons i ids ih =>
                intro m1 m0 z hz hm
                simp only [freezeIds] at hz
                split at hz
                · rename_i hm'
                  simp only [Option.bind_eq_some_iff] at hz
                  obtain ⟨u, hu, hz⟩ := hz
                  obtain rfl := Option.some.inj hz
                  have hne : id ≠ i := fun e => by subst e; rw [hm] at hm'; cases hm'
                  rw [putM_cons, ih hu hm, setM_other _ _ hne]
                · exact ih hz hm
                · cases hz
            exact this hz hm
        · exact z1 id hin
      refine ⟨F', ?_, fun k hk' => ⟨hF1 k (.inl hk'), hk.block k (h.fnew k hk').1 (fun hl => (hBours k hl).1 hk')⟩, hbr, hbo, ⟨hnd, oursNew (fun k hk => hk), fun g hg => (hL g hg).2.1, fun g hg => freeNew _ (fun id o g ho' hown => ?_) g (hL g hg).2.2⟩⟩
      · refine hi.go (fun k => k ∈ L) (fun id => id ∈ sn ∧ ∃ fl es mc xs, putM m d id = some (.row fl es mc xs)) hturn hBours (fun k hk' => hF1 k (.inl hk')) (Sub.refl _) (fun k hk' => ?_) hother
          (fun id o g hid hm hown => ⟨fun hl => ho.given.free g hl id o hm hown, fun hF => ?_⟩) (fun id o hid hm => ?_) (fun id id' o1 o2 g hid hm1 hm2 hg1 hg2 => ?_)
        · rcases (hF2 k hk').2 with (h1 | ⟨id, hid, o, hm, hown⟩) | h1 | h1
          · exact .inl h1
          · exact .inr ⟨(hF2 k hk').1, (hown.lt (hi.objs id o hm)).2.2⟩
          · exact .inr ⟨(hF2 k hk').1, (hBours k h1).2⟩
          · exact .inr ⟨(hF2 k hk').1, .inr (Nat.le_trans h.kept.size h1)⟩
        · have hlt := hown.lt (hi.objs id o hm)
          rcases (hF2 g hF).2 with (h1 | ⟨id', hid', o', hm', hown'⟩) | h1 | h1
          · exact hlt.2.1 h1
          · have := hi.apart id' id o' o g hm' hm hown' hown
            subst this
            rcases hlive id' hid' with hrow | ⟨fl, es, xs, hm2⟩
            · exact hid ⟨hid', hrow⟩
            · rw [hm'] at hm2; obtain rfl := Option.some.inj hm2; exact hown'
          · exact ho.given.free g h1 id o hm hown
          · omega
        · obtain ⟨hin, fl, es, mc, xs, hrow⟩ := hid
          rw [z2 id fl es mc xs hin hrow] at hm
          obtain rfl := Option.some.inj hm
          obtain ⟨ℓ, vs', g1, g2, g3, g4, g5, g6, g7, g8⟩ := hi.readRow hrow
          have hr : RelF w (FS σ (putM m d) F sn) (.fro fl es xs) (.slice ℓ.A ℓ.len ℓ.cap) := by
            rw [g3]
            refine Reads'.fro ⟨g7.es, g7.len, g7.at_, fun q u v hu hv => (g7.rel q u v hu hv).mono (Mono.ff _ (fun k hk => ⟨.inl hk, rfl⟩))⟩ g5 (fun hne => ?_)
            have h0 : 0 < ℓ.cap := by
              rcases Nat.eq_zero_or_pos ℓ.cap with h0 | h0
              · exact (hne (List.eq_nil_of_length_eq_zero (by omega))).elim
              · exact h0
            obtain ⟨g, t, arr, i1, i2, i3, i4, i5⟩ := g8 h0
            exact ⟨_, i1, .inr ⟨id, hin, _, hrow, ℓ, g1, i1, h0⟩⟩
          refine ⟨ℓ, g1, g2, g3, hr.mono (fun k hk' => ⟨hF1 k hk', ?_⟩)⟩
          rcases hk' with hk' | ⟨id', hid', o', hm', hown'⟩
          · exact hk.block k (h.fnew k hk').1 (fun hl => (hBours k hl).1 hk')
          · exact hk.block k (hown'.lt (hi.objs id' o' hm')).1 (fun hl => ho.given.free k hl id' o' hm' hown')
        · obtain ⟨hin, fl, es, mc, xs, hrow⟩ := hid
          rw [z2 id fl es mc xs hin hrow] at hm1
          obtain rfl := Option.some.inj hm1
          exact hg1.elim
      · by_cases hT : id ∈ sn ∧ ∃ fl es mc xs, putM m d id = some (.row fl es mc xs)
        · obtain ⟨hin, fl, es, mc, xs, hrow⟩ := hT
          rw [z2 id fl es mc xs hin hrow] at ho'
          obtain rfl := Option.some.inj ho'
          exact hown.elim
        · rw [hother id hT] at ho'; exact ho'
    · rename_i hlead
      split at hz
      case isFalse => cases hz
      obtain rfl := Option.some.inj hz
      simp only [Bool.or_eq_true, not_or, Bool.not_eq_true] at hlead
      rw [putM_nil]
      refine ⟨F, ?_, fun k hk' => ⟨hk', hk.block k (h.fnew k hk').1 (fun hl => (hBours k hl).1 hk')⟩, hbr.nolead hlead.1, hbo.nolead (hbo.leads_any hlead.2), ⟨hnd, oursNew (fun k hk' => hF1 k (.inl hk')), fun g hg => (hL g hg).2.1, fun g hg => freeNew _ (fun id o g ho' _ => ho') g (hL g hg).2.2⟩⟩
      exact hi.go (fun k => k ∈ L) (fun _ => False) hturn hBours (fun k hk' => hk') (Sub.refl _) (fun k hk' => .inl hk') (fun id _ => rfl)
        (fun id o g _ hm hown => ⟨fun hl => ho.given.free g hl id o hm hown, (hown.lt (hi.objs id o hm)).2.1⟩) (fun id o hid => hid.elim) (fun id id' o1 o2 g hid => hid.elim)
  obtain ⟨F2, hi2, hmono, hbr2, hbo2, hg2⟩ := step
  obtain ⟨σ1, i1, r1⟩ := impRes_ok (N := nid + 16) hi2 hσ hbr2 hg2.left (Nat.le_trans (backs_le hq) hN)
  obtain ⟨σ2, i2⟩ := backs_ok (m0 := m) i1.inv (fun id fl es mc xs hm => by
    obtain ⟨ℓ, h1, h2, _⟩ := h.objs id _ hm
    exact ⟨ℓ, i1.sub _ _ h1, h2⟩) i1.above (u := q.1) (n' := q.2) hq hvl (fun k a v hk' hv => (hrel k a v hk' hv).mono i1.sub hmono) hbo2 (hg2.rest i1) hN
  have i3 := i1.append i2
  refine ⟨σ2, F2, ?_, r1.mono i2.sub (Mono.refl _ _), hmono, i3.sub, fun id hid => ?_⟩
  · rw [putM_append, putM_append, putM_append]; exact i2.inv
  · rcases i3.new id hid with h1 | h1
    · exact .inl h1
    · exact .inr ⟨h1.1, by omega⟩
end Go.Eng
