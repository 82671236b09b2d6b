/- One operation of the abstract machine is one operation of the model: those that leave memory alone, and those that make objects. -/
import Derived.Test.YtjjocahgbmibeaaEngE
import Derived.Laws.Tables
import Derived.Laws.BytesString
import Derived.Laws.StructEq
import Derived.Laws.MakeOwn
import Derived.Laws.Small
import Derived.Great.BuildSlice
namespace Go.Eng
set_option linter.unusedVariables false
set_option linter.unusedSimpArgs false

/-- What is asked of a step: memory is as told, the value is as told, what was told stays. -/
def Good (C : Ctx) (w : World) (σ : Sig) (F : Nat → Prop) (m : Mem) (nid : Nat) (ups : Ups) (av : AV) (v : Value) (w' : World) : Prop :=
  ∃ σ' F', Inv C w' σ' F' (putM m ups) ∧ RelL w' σ' F' av v ∧ Mono w F w' F' ∧ Sub σ σ' ∧ ∀ id, σ' id ≠ none → σ id ≠ none ∨ (nid ≤ id ∧ id < nid + 16)
def OpGood (P : Program) (o : Oper) (a : Act) (C : Ctx) (w : World) (σ : Sig) (F : Nat → Prop) (m : Mem) (nid : Nat) (ups : Ups) (av : AV) : Prop :=
  (∃ v w', (execOp a.eval o).run P w = .ok (.value v) w' ∧ Good C w σ F m nid ups av v w') ∨ (∃ w', (execOp a.eval o).run P w = .ok .skip w' ∧ Good C w σ F m nid ups av undef w')

section
variable {P : Program} {C : Ctx} {w w' : World} {σ σ' : Sig} {F F' : Nat → Prop} {m : Mem} {nid : Nat} {ups : Ups} {av : AV} {v : Value} {e : Nat → AV} {a : Act}

theorem good_quiet (h : Inv C w σ F m) (hr : RelL w σ F av v) : Good C w σ F m nid [] av v w := ⟨σ, F, h, hr, Mono.refl _ _, Sub.refl _, fun id hid => .inl hid⟩

theorem ofCell_rel (v : Value) (h : v.oneCell' = true) : RelL w σ F (ofCell v) v := by
  cases v with
  | bool => exact .fz .b
  | int => exact .fz .i
  | string => exact .fz .s
  | slice A n c =>
    cases A with
    | some a => exact .junk
    | none =>
      cases n with
      | succ n => exact .junk
      | zero =>
        cases c with
        | succ c => exact .junk
        | zero => exact .fz .emp
  | _ => exact .junk
theorem ofVal_rel (v : Value) : RelL w σ F (ofVal v) v := by
  unfold ofVal
  split
  · rename_i cs
    split
    · rename_i hc
      refine .agg (by simp) (fun u hu => (Array.all_eq_true_iff_forall_mem.1 hc) u hu) (fun k u v hu hv => ?_)
      rw [List.getElem?_map] at hu
      have h1 : cs.toList[k]? = some v := by simpa using hv
      rw [h1] at hu
      obtain rfl := Option.some.inj hu
      exact ofCell_rel v ((Array.all_eq_true_iff_forall_mem.1 hc) v (Array.mem_of_getElem? hv))
    · exact .junk
  · rename_i hn
    cases v with
    | agg cs => exact (hn cs rfl).elim
    | tuple => exact .junk
    | _ => exact ofCell_rel _ rfl
theorem opd_rel (he : EnvR w σ F e a.tmps) (x : Operand) : RelL w σ F ((opd x).get e) (a.eval x) := by
  cases x with
  | tmp t => exact he t
  | const v => exact ofVal_rel v
  | global g => exact .junk
  | func f => exact .clo rfl (fun k u v hk => by simp at hk)

/-! ### The zero of a type. -/
theorem cellsOf_rel {z : Value} (h : z.cells.all Value.oneCell' = true) : CellsL w σ F (cellsOf z) z.cells := by
  refine ⟨by simp [cellsOf], fun k u hu => ?_⟩
  rw [cellsOf, List.getElem?_map] at hu
  cases hk : z.cells.toList[k]? with
  | none => rw [hk] at hu; cases hu
  | some v =>
    rw [hk] at hu
    obtain rfl := Option.some.inj hu
    have hv : z.cells[k]? = some v := by simpa using hk
    have h1 := (Array.all_eq_true_iff_forall_mem.1 h) v (Array.mem_of_getElem? hv)
    exact ⟨v, hv, ofCell_rel v h1, h1⟩

/-- A new box. -/
theorem good_box (h : Inv C w σ F m) (hn : σ nid = none) {cs : List AV} {arr : Array Value} (t : TypeId) (hc : CellsL w σ F cs arr) :
    Good C w σ F m nid [(nid, .box cs)] (.elt nid 0 0) (.pointer (some ⟨w.heap.size, 0, none⟩)) (w.alloc (.cells arr t)) := by
  let ℓ : Loc := ⟨some ⟨w.heap.size, 0, none⟩, 1, 1, 0⟩
  have hm : Mono w F (w.alloc (.cells arr t)) F := fun k hk => ⟨hk, heap_alloc_old w _ k (h.fnew k hk).1⟩
  have hs := sub_setS (ℓ := ℓ) hn
  refine ⟨setS σ nid ℓ, F, h.add hn (o := .box cs) ⟨ℓ, w.heap.size, t, arr, setS_same _ _ _, rfl, heap_alloc_new w _, hc.mono hs hm, ?_, .inr h.kept.size⟩ (fun g hg => ?_), ?_, hm, hs, fun id hid => ?_⟩
  · exact fun hF => Nat.lt_irrefl _ (h.fnew _ hF).1
  · obtain ⟨ℓ', h1, h2⟩ := hg
    rw [setS_same] at h1; obtain rfl := Option.some.inj h1
    simpa [ℓ] using h2.symm
  · exact .elt (ℓ := ℓ) (a := ⟨w.heap.size, 0, none⟩) (i := 0) (j := 0) (setS_same _ _ _) rfl
  · by_cases hid' : id = nid
    · exact .inr ⟨by omega, by omega⟩
    · rw [setS_other σ ℓ hid'] at hid; exact .inl hid
/-- A new row. -/
theorem good_row (h : Inv C w σ F m) (hn : σ nid = none) {fl : Bool} {es mc cap : Nat} {xs : List (List AV)} {arr : Array Value} (t : TypeId) (hes : ∀ x, x ∈ xs → x.length = es)
    (hmc : mc ≤ cap) (hc : xs.length ≤ cap) (hmax : cap ≤ maxLen) (hsz : arr.size = cap * es) (hr : RowsF w (FF fl F) xs arr) :
    Good C w σ F m nid [(nid, .row fl es mc xs)] (.row nid) (.slice (some ⟨w.heap.size, 0, none⟩) xs.length cap) (w.alloc (.cells arr t)) := by
  let ℓ : Loc := ⟨some ⟨w.heap.size, 0, none⟩, xs.length, cap, es⟩
  have hm : Mono w F (w.alloc (.cells arr t)) F := fun k hk => ⟨hk, heap_alloc_old w _ k (h.fnew k hk).1⟩
  have hs := sub_setS (ℓ := ℓ) hn
  refine ⟨setS σ nid ℓ, F, h.add hn (o := .row fl es mc xs) ⟨ℓ, setS_same _ _ _, rfl, rfl, hmc, hc, hmax, hes, fun _ => ⟨w.heap.size, t, arr, rfl, heap_alloc_new w _, hsz, hr.mono (hm.ff _), ?_, .inr h.kept.size⟩⟩ (fun g hg => ?_), ?_, hm, hs, fun id hid => ?_⟩
  · exact fun hF => Nat.lt_irrefl _ (h.fnew _ hF).1
  · obtain ⟨ℓ', h1, h2, _⟩ := hg
    rw [setS_same] at h1; obtain rfl := Option.some.inj h1
    simpa [ℓ] using h2.symm
  · exact .row (ℓ := ℓ) (setS_same _ _ _)
  · by_cases hid' : id = nid
    · exact .inr ⟨by omega, by omega⟩
    · rw [setS_other σ ℓ hid'] at hid; exact .inl hid
/-- A draw ahead of a step. -/
theorem Good.ahead {w1 : World} (ht : Turns w w1 (fun _ => False)) (h : Inv C w σ F m) (hg : Good C w1 σ F m nid ups av v w') : Good C w σ F m nid ups av v w' := by
  obtain ⟨σ', F', h1, h2, h3, h4, h5⟩ := hg
  exact ⟨σ', F', h1, h2, Mono.trans (fun k hk => ⟨hk, ht.block k (h.fnew k hk).1 (fun hf => hf)⟩) h3, h4, h5⟩
/-- Something is frozen, dropped ahead of a step. -/
theorem Good.after {F1 : Nat → Prop} {u1 : Ups} (hm : Mono w F w F1) (hg : Good C w σ F1 (putM m u1) nid ups av v w') : Good C w σ F m nid (u1 ++ ups) av v w' := by
  obtain ⟨σ', F', h1, h2, h3, h4, h5⟩ := hg
  exact ⟨σ', F', by rw [putM_append]; exact h1, h2, hm.trans h3, h4, h5⟩

/-! ### Parts laid over cells. -/
theorem fold_lay (off : Nat) : ∀ (us : List Value) (k : Nat) (cells : Array Value), off + k + us.length ≤ cells.size → ((us.zipIdx k).foldl (fun cs p => cs.setIfInBounds (off + p.2) p.1) cells).toList = lay cells.toList (off + k) us
  | [], k, cells, h => by simp [lay]
  | u :: us, k, cells, h => by
    rw [List.zipIdx_cons, List.foldl_cons, fold_lay off us (k + 1) _ (by simp at h ⊢; omega), Array.toList_setIfInBounds]
    simp only [List.length_cons] at h
    apply List.ext_getElem?
    intro q
    rw [lay_get _ _ _ (by simp; omega), lay_get _ _ _ (by simp; omega), List.length_cons]
    by_cases h1 : q < off + k
    · rw [if_pos (by omega), if_pos h1, List.getElem?_set_ne (by omega)]
    · rw [if_neg h1]
      by_cases h2 : q = off + k
      · subst h2
        rw [if_pos (by omega), if_pos (by omega), Nat.sub_self, List.getElem?_set_self (by rw [Array.length_toList]; omega)]
        rfl
      · rw [if_neg (by omega)]
        by_cases h3 : q < off + k + (us.length + 1)
        · rw [if_pos (by omega), if_pos h3, show q - (off + k) = (q - (off + (k + 1))) + 1 by omega, List.getElem?_cons_succ]
        · rw [if_neg (by omega), if_neg h3, List.getElem?_set_ne (by omega)]
theorem fill_step (off : Nat) (u : Value) (cells : Array Value) (h : off + u.cells.size ≤ cells.size) : (u.cells.zipIdx.foldl (fun cs p => cs.setIfInBounds (off + p.2) p.1) cells) = (lay cells.toList off u.cells.toList).toArray := by
  apply Array.ext'
  rw [← Array.foldl_toList, Array.toList_zipIdx, fold_lay off u.cells.toList 0 cells (by simpa using h)]
  simp
theorem CellsL.lay {cs ps : List AV} {arr us : Array Value} {off : Nat} (h : CellsL w σ F cs arr) (hp : CellsL w σ F ps us) (hb : off + ps.length ≤ cs.length) :
    CellsL w σ F (lay cs off ps) (Eng.lay arr.toList off us.toList).toArray := by
  have h1 := h.1
  have h2 := hp.1
  refine ⟨by rw [lay_len cs off ps hb, List.size_toArray, lay_len _ _ _ (by simp; omega), Array.length_toList, h1], fun k u hu => ?_⟩
  rw [lay_get cs off ps hb] at hu
  rw [List.getElem?_toArray, lay_get _ _ _ (by simp; omega)]
  by_cases g1 : k < off
  · rw [if_pos g1] at hu ⊢
    obtain ⟨v, h3, h4⟩ := h.2 k u hu
    exact ⟨v, by simpa using h3, h4⟩
  · rw [if_neg g1] at hu ⊢
    by_cases g2 : k < off + ps.length
    · rw [if_pos g2] at hu
      rw [if_pos (by simp; omega)]
      obtain ⟨v, h3, h4⟩ := hp.2 _ u hu
      exact ⟨v, by simpa using h3, h4⟩
    · rw [if_neg g2] at hu
      rw [if_neg (by simp; omega)]
      obtain ⟨v, h3, h4⟩ := h.2 k u hu
      exact ⟨v, by simpa using h3, h4⟩
end
end Go.Eng
