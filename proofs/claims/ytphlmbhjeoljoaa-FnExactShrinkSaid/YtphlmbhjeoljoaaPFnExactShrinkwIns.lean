-- Laid by a program of this session: of the words of print.sh those that this law needs. Not trusted: Lean checks it.
-- Rows of one's own that the library's own text turns (slices.Delete, slices.Insert). The session's own text. Lean checks it.
import Derived.Test.YtphlmbhjeoljoaaPFnExactShrinkwMore
import Derived.Laws.IdiomCopy
import Derived.Laws.Externs
namespace Go.Proofs.YtphlmbhjeoljoaaW.PrintMore
open Go.RowKit Go.Proofs.YtphlmbhjeoljoaaW.PrintWords
/-! Rows of one's own that the library's own text turns: an element taken out, an element put in. -/
namespace Kd
open Go.Proofs.YtphlmbhjeoljoaaW.PrintWords.Kd
section
variable {α : Type} {d : Kd α} {e base n m c g : Nat} {ok ok' : Nat → Prop} {W W1 : World} {xs ys : List α}
/-- A row of one's own, laid open. -/
theorem R_lay (h : d.R e W base ok (.slice (some ⟨g, 0, none⟩) n c) xs) :
    ∃ (cur : Array Value) (inner : List Value), W.heap[g]? = some (.cells cur e (0, 0)) ∧ cur.size = c * d.sz ∧ c ≤ maxLen ∧ n = xs.length ∧ n ≤ c ∧ cur.toList.take (n * d.sz) = inner ∧ Reps (d.M W base (fun k => (ok k ∧ k ≠ g) ∧ k < W.heap.size)) d.sz xs inner ∧ ok g ∧ base ≤ g := by
  obtain ⟨hok, inner, hown, hr⟩ := h
  rcases hown.2 with ⟨hv, _⟩ | ⟨g', cap', cur, hv, hb, hh, hnc, hcm, hcs, htake⟩
  · cases hv
  injection hv with ha hn hc
  injection ha with ha
  injection ha with hg
  subst hg; subst hc
  refine ⟨cur, inner, hh, hcs, hcm, hn, by rw [hn]; exact hnc, by rw [hn]; exact htake, hr.imp_ (fun p q hp => d.M_mono (fun k hk => ⟨⟨hk.1.1, fun e => hk.1.2 (by rw [e]; rfl)⟩, hk.2.2.1⟩) (d.M_bound hp)), hok g rfl, hb⟩
/-- .. and shut again: its block turned, all else as it was. -/
theorem R_shut (d : Kd α) {cur : Array Value} {inner : List Value} (hh : W1.heap[g]? = some (.cells cur e (0, 0))) (hcs : cur.size = c * d.sz) (hcm : c ≤ maxLen) (hm : m = ys.length) (hmc : m ≤ c) (ht : cur.toList.take (m * d.sz) = inner)
    (hr : Reps (d.M W base ok') d.sz ys inner) (ho : ∀ k, ok' k → ok k ∧ k ≠ g) (hok : ok g) (hb : base ≤ g) (hfar : ∀ k, ok' k → W1.heap[k]? = W.heap[k]?) : d.R e W1 base ok (.slice (some ⟨g, 0, none⟩) m c) ys := by
  subst hm
  refine ⟨fun k hk => ?_, inner, ⟨hr.1, .inr ⟨g, c, cur, rfl, hb, hh, hmc, hcm, hcs, ht⟩⟩, hr.imp_ (fun p q hp => ?_)⟩
  · have : g = k := by simpa [Value.ownBlock] using hk
    exact this ▸ hok
  · exact d.M_mono (fun k hk => ⟨(ho k hk).1, fun e => (ho k hk).2 (by simpa [Value.ownBlock] using e)⟩) (d.M_move hfar hp)
end
section
variable {α : Type} {d : Kd α} {e base n m c g i : Nat} {ok okp : Nat → Prop} {W W1 : World} {xs ys : List α}
theorem grown_setCells (W : World) (g o : Nat) (cs : List Value) : W.grownBy (W.setCells g o cs) (some g) := by
  obtain ⟨s1, s2, s3, s4⟩ := setCells_same g cs o W
  exact ⟨s1, s2, s3, by rw [s4]; exact Nat.le_refl _, fun k _ hk => setCells_far cs _ k (fun he => hk (by rw [he]))⟩
/-- The spare cells behind a row of one's own may be written. -/
theorem R_spare (h : d.R e W base ok (.slice (some ⟨g, 0, none⟩) n c) xs) {cs : List Value} {o : Nat} (ho : n * d.sz ≤ o) (hl : o + cs.length ≤ c * d.sz) : d.R e (W.setCells g o cs) base ok (.slice (some ⟨g, 0, none⟩) n c) xs := by
  obtain ⟨cur, inner, hh, hcs, hcm, hn, hnc, ht, hr, hokg, hb⟩ := R_lay h
  obtain ⟨cur', h3, h4, h5⟩ := setCells_row cs o W cur hh (by rw [hcs]; exact hl)
  refine R_shut d h3 (by rw [h4, hcs]) hcm hn hnc ?_ hr (fun k hk => hk.1) hokg hb (fun k hk => setCells_far cs _ k hk.1.2)
  rw [h5, List.append_assoc, List.take_append_of_le_length (by rw [List.length_take, Array.length_toList, hcs]; omega), List.take_take, Nat.min_eq_left ho]
  exact ht
end
end Kd
section
variable {P : Program}
end
section
variable {P : Program}
theorem clear_own_run {w : World} {t ty e : TypeId} {z : Value} (ht : P.underlying t = some (.slice e)) (hv : ∀ w, (zeroValue e).run P w = .ok z w) {g o n c : Nat} {cur : Array Value} (hh : w.heap[g]? = some (.cells cur e (0, 0)))
    (h1 : ∀ u ∈ (Builtin.zeroCells z.cells n).toList, u.oneCell' = true) (hn : 0 < n) (hroom : o + (Builtin.zeroCells z.cells n).toList.length ≤ cur.size) :
    (Builtin.clear_ #[t] ty #[.slice (some ⟨g, o, none⟩) n c]).run P w = .ok (.tuple #[]) (w.setCells g o (Builtin.zeroCells z.cells n).toList) := by
  have hst := run_storeCells_cells (P := P) g o (Builtin.zeroCells z.cells n).toList 0 w (fun j hj => by rw [cell_of_row w g _ cur e (0, 0) hh]; simp; omega) (fun j _ => blk_frozen hh _) h1
  simp only [Nat.add_zero] at hst
  obtain ⟨m, rfl⟩ : ∃ m, n = m + 1 := ⟨n - 1, by omega⟩
  simp [Builtin.clear_, run_underlying ht, hv, hst]
theorem zeroCells_one {z : Array Value} {n : Nat} (hz : 0 < z.size) (h : ∀ u ∈ z.toList, u.oneCell' = true) : ∀ u ∈ (Builtin.zeroCells z n).toList, u.oneCell' = true := by
  intro u hu
  unfold Builtin.zeroCells at hu
  rw [Array.toList_map, List.mem_map] at hu
  obtain ⟨i, _, rfl⟩ := hu
  have hm : i % z.size < z.size := Nat.mod_lt _ hz
  rw [getElem!_pos z _ hm]
  exact h _ (by simp)
end
section
variable {P : Program} {ops : Array Oper} {rest : List Oper} {o : Oper} {a : Act} {Q : Exit → Act → World → Prop} {Kc : Act → World → Prop}
theorem gone_clear {W w' : World} (hgd : o.guard = none) (d : Operand) (t : TypeId) (ho : o.op = .call { callee := .builtin .clear, args := #[d], argTypes := #[t] }) {v v' : Value} (hd : a.eval d = v)
    (hr : (Builtin.clear_ #[t] o.type #[v]).run P W = .ok v' w') (h : wpList P ops Q rest (a.put o.dst v') w') : wpList P ops Q (o :: rest) a W := by
  refine wpList_plain hgd fun K hK => ?_
  unfold Oper.wp execOp
  simp only [ho, resolve, invoke, builtin, Sem.run_bind, Sem.run_pure, Result.andThen_ok, List.map_toArray, List.map_cons, List.map_nil, hd, hr]
  exact hK _ _ h
end
section
variable {P : Program} {α : Type}
/-- clear(s[i:]) of a row of one's own: what stands ahead of i stays. -/
theorem Kd.clear_cut (d : Kd α) {W : World} {base e n c i : Nat} {ok : Nat → Prop} {A : Option Addr} {xs : List α} (t : TypeId) (ht : P.underlying t = some (.slice e)) (z : Value) (hv : ∀ w, (zeroValue e).run P w = .ok z w) (hz : z.cells.size = d.sz) (hs0 : 0 < d.sz) (h1 : ∀ u ∈ z.cells.toList, u.oneCell' = true)
    (HO : d.R e W base ok (.slice A n c) xs) (hi : i ≤ n) :
    ∃ W', (∀ ty, (Builtin.clear_ #[t] ty #[.slice (if c = i then A else A.map (·.add (i * d.sz))) (n - i) (c - i)]).run P W = .ok (.tuple #[]) W') ∧ d.R e W' base ok (.slice A i c) (xs.take i) ∧ W.grownBy W' (Value.slice A n c).ownBlock := by
  have hn := (Kd.R_reads' HO).1
  have hT := Kd.R_take (m := i) HO (by omega)
  by_cases h0 : n - i = 0
  · refine ⟨W, fun ty => ?_, hT, World.grownBy.refl W _⟩
    rw [h0]
    generalize (if c = i then A else A.map (·.add (i * d.sz))) = B
    cases B <;> simp [Builtin.clear_, run_underlying ht]
  · obtain ⟨g, c', hv', hg, hgs, -⟩ := Kd.R_form HO (by omega)
    injection hv' with hA _ hc
    subst hA
    subst hc
    obtain ⟨cur, inner, hh, hcs, hcm, _, hnc, _, _, hokg, hb⟩ := Kd.R_lay HO
    have hci : ¬ c = i := by omega
    have q1 : (n - i) * d.sz = n * d.sz - i * d.sz := Nat.sub_mul _ _ _
    have q2 : n * d.sz ≤ c * d.sz := Nat.mul_le_mul_right _ hnc
    have q3 : i * d.sz ≤ n * d.sz := Nat.mul_le_mul_right _ hi
    have hroom : i * d.sz + (Builtin.zeroCells z.cells (n - i)).toList.length ≤ c * d.sz := by
      rw [Array.length_toList, size_zeroCells, hz]
      omega
    refine ⟨W.setCells g (i * d.sz) (Builtin.zeroCells z.cells (n - i)).toList, fun ty => ?_, Kd.R_spare hT (Nat.le_refl _) hroom, Kd.grown_setCells W g _ _⟩
    rw [if_neg hci, Option.map_some, add_plain]
    exact clear_own_run ht hv hh (zeroCells_one (by rw [hz]; exact hs0) h1) (by omega) (by rw [hcs]; exact hroom)
end
end Go.Proofs.YtphlmbhjeoljoaaW.PrintMore
