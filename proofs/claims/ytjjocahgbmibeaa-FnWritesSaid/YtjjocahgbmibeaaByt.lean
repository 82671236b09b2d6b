/- An argument of bytes, as the machine sees it; what the machine says of a law that answers true. -/
import Derived.Test.YtjjocahgbmibeaaRds
import Derived.Test.YtjjocahgbmibeaaDat
import Derived.SizedLaws
import Derived.ChangeArms
import Derived.DataReads
import Derived.Below
namespace Go.Proofs.Ytjjocahgbmibeaa
open Go.Eng Go.RowKit Go.ChangeShapes
set_option linter.unusedVariables false
theorem list_of {α : Type} {Q : Nat → α → Prop} : ∀ {n : Nat}, (∀ i, i < n → ∃ x, Q i x) → ∃ xs : List α, xs.length = n ∧ ∀ i x, xs[i]? = some x → Q i x := by
  intro n
  induction n with
  | zero => intro _; exact ⟨[], rfl, fun i x h => by simp at h⟩
  | succ n ih =>
    intro h
    obtain ⟨xs, hl, hx⟩ := ih (fun i hi => h i (by omega))
    obtain ⟨y, hy⟩ := h n (by omega)
    refine ⟨xs ++ [y], by simp [hl], fun i x hi => ?_⟩
    rcases Nat.lt_or_ge i xs.length with hlt | hge
    · rw [List.getElem?_append_left hlt] at hi
      exact hx i x hi
    · rw [List.getElem?_append_right hge] at hi
      have : i = n := by
        have := (List.getElem?_eq_some_iff.1 hi).1
        simp at this
        omega
      subst this
      simp [hl] at hi
      subst hi
      exact hy
theorem flat_bytes : ∀ l : List UInt8, (l.map Bc).flatten = l.map fun u => AV.i .u8 (u.toNat : Int)
  | [] => rfl
  | u :: l => by rw [List.map_cons, List.flatten_cons, flat_bytes l]; rfl
theorem bytes_arg {P : Program} {H : Type} {enc : TypeId × Value → H} {W : World} {t e : TypeId} {v : Value} {dd : DataW H} {ps : List MemPlace} (hu : P.underlying t = some (.slice e)) (he : P.underlying e = some (.int .u8)) (hc : P.cellsOf e = 1)
    (hs : ∃ A n c, v = .slice A n c) (h : DataW.Trod enc P W 0 (fun _ => true) true t v dd ps) : ∃ l : List UInt8, RelF W (fun k => k < W.heap.size) (.fro true 1 (l.map Bc)) v := by
  obtain ⟨A, n, c, rfl⟩ := hs
  obtain ⟨fuel, hf⟩ := h
  rcases DataW.trod_slice hu hf with ⟨hn, _⟩ | ⟨a, len, cap, elems, rest, m, _, hv, _, _, hl, hcap, hlen, hget, _⟩
  · simp only [Value.cells, List.cons.injEq, Value.slice.injEq, and_true] at hn
    obtain ⟨rfl, rfl, rfl⟩ := hn
    exact ⟨[], .fro (xs := []) [] (by simp) (Nat.le_refl _) rfl (fun q => absurd rfl q) (by simp)⟩
  · simp only [Value.cells, List.cons.injEq, Value.slice.injEq, and_true] at hv
    obtain ⟨rfl, rfl, rfl⟩ := hv
    have hex : ∀ i, i < n → ∃ u : UInt8, W.cell? (a.add i) = some (.int .u8 (u.toNat : Int)) := by
      intro i hi
      have h1 := hget i hi
      rw [List.getElem?_eq_getElem (by omega), hc] at h1
      obtain ⟨cs', hcs, hy⟩ := Option.bind_eq_some_iff.1 h1
      obtain ⟨x, rfl, _, hw⟩ := DataW.trod_int he hy
      obtain ⟨_, _, hcc⟩ := World.cells?_some hcs
      have h2 := hcc 0 (by omega)
      simp only [Lit.wf, Bool.and_eq_true, decide_eq_true_eq] at hw
      have h3 : 0 ≤ x ∧ x ≤ 255 := hw
      refine ⟨UInt8.ofNat x.toNat, ?_⟩
      have e1 : ((UInt8.ofNat x.toNat).toNat : Int) = x := by
        rw [UInt8.toNat_ofNat']
        omega
      rw [e1]
      simpa [Addr.add] using h2
    obtain ⟨l, hll, hx⟩ := list_of hex
    have key : RelF W (fun k => k < W.heap.size) (.fro true 1 (l.map Bc)) (.slice (some a) (l.map Bc).length c) := by
      refine .fro (l.map fun u => Value.int .u8 (u.toNat : Int)) (fun x hm => ?_) (by rw [List.length_map]; omega) (by rw [flat_bytes]; simp) (fun hne => ⟨a, rfl, ?_, fun q v hq => ?_⟩) (fun q u v hu hv => ?_)
      · obtain ⟨u, _, rfl⟩ := List.mem_map.1 hm; rfl
      · match l, hx, hne with
        | u :: l, hx, _ =>
          have h1 := hx 0 u rfl
          have h2 : W.heap[(a.add 0).block]? ≠ none := fun q => by simp [World.cell?, q] at h1
          rw [addr_add_block] at h2
          rcases Nat.lt_or_ge a.block W.heap.size with q | q
          · exact q
          · exact absurd (Array.getElem?_eq_none q) h2
      · rw [List.getElem?_map] at hq
        cases hu : l[q]? with
        | none => rw [hu] at hq; cases hq
        | some u => rw [hu] at hq; obtain rfl := Option.some.inj hq; exact hx q u hu
      · rw [flat_bytes, List.getElem?_map] at hu
        rw [List.getElem?_map] at hv
        cases hq : l[q]? with
        | none => rw [hq] at hu; cases hu
        | some b => rw [hq] at hu hv; obtain rfl := Option.some.inj hu; obtain rfl := Option.some.inj hv; exact .i
    rw [List.length_map, hll] at key
    exact ⟨l, key⟩
/-- A law of bytes that the machine runs to true: its call. -/
theorem law_call {f : Nat} {l : List UInt8} {v : Value} {W : World} (h : RF Y f [.fro true 1 (l.map Bc)] (.b true) []) (hr : RelF W (fun k => k < W.heap.size) (.fro true 1 (l.map Bc)) v) :
    Calls Try.prog f #[v] W fun e w' => e = .returned (.bool true) ∧ Below W.heap.size W w' := by
  obtain ⟨_, hs⟩ := runs_sound rds (fun _ _ _ _ q => q) h
  refine (hs W (fun k => k < W.heap.size) [v] [] (by simpa using BdVs.cons (.c (.fz hr)) .nil) List.nodup_nil (by simp) (fun k hk => hk)).mono ?_
  rintro e w' ⟨x, rfl, F', L1, L2, hk, _, _, hb, _⟩
  have hx : x = .bool true := by
    cases hb with
    | v hb => cases hb with
      | c hb => cases hb with
        | fz hb => cases hb; rfl
  subst hx
  exact ⟨rfl, hk.os, hk.tape, hk.output, hk.size, fun k q => hk.block k q (by simp)⟩
end Go.Proofs.Ytjjocahgbmibeaa
