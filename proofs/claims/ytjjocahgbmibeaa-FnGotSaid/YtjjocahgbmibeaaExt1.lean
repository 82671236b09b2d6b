/- slices.Insert of one pair into a row of one's own, not at its end: its run. -/
import Derived.Test.YtjjocahgbmibeaaExt0
namespace Go.Proofs.Ytjjocahgbmibeaa.Ext
open Go.RowKit Go.Eng
set_option linter.unusedVariables false
set_option linter.unusedSimpArgs false
theorem infoE : (Try.prog.info? 94).map (fun i => (i.zero, i.size, i.bytes)) = some (some (.agg #[(.int .i64 0), (.int .i64 0)]), 2, 16) := by kernel_rfl
/-- What the call leaves: a row of one's own, in the old block or a new one. -/
def InsPost (w : World) (g n : Nat) (cells : List Value) (e : Ending) (w' : World) : Prop :=
  ∃ g' c' t' arr', e = .returned (.slice (some ⟨g', 0, none⟩) (n + 1) c') ∧ w'.heap[g']? = some (.cells arr' t' (0, 0)) ∧ arr'.size = c' * 2 ∧ n + 1 ≤ c' ∧ c' ≤ maxLen ∧ arr'.toList.take ((n + 1) * 2) = cells ∧
    (g' = g ∨ w.heap.size ≤ g') ∧ Kept' w w' [g]
theorem cell_in {w : World} {g n c j : Nat} {t : TypeId} {arr : Array Value} {inner : List Value} {u : Value} (hh : w.heap[g]? = some (.cells arr t (0, 0))) (ht : arr.toList.take (n * 2) = inner) (hj : inner[j]? = some u) : w.cell? ⟨g, j, none⟩ = some u := by
  rw [cell_of_row w g _ arr t (0, 0) hh, ← Array.getElem?_toList]
  rw [← ht, List.getElem?_take] at hj
  split at hj
  · exact hj
  · cases hj
section
variable {g n c i c2 : Nat} {t : TypeId} {arr : Array Value} {inner news : List Value} {ad : Addr} {w : World}
set_option maxHeartbeats 8000000 in
set_option maxRecDepth 100000 in
theorem ins_room (hh : w.heap[g]? = some (.cells arr t (0, 0))) (hcs : arr.size = c * 2) (hcm : c ≤ maxLen) (hlt : i < n) (hroom : n + 1 ≤ c) (hbig : n < 1000000)
    (hin : inner.length = n * 2) (ht : arr.toList.take (n * 2) = inner) (h1 : ∀ u ∈ inner, u.oneCell' = true) (hnl : news.length = 2) (hone : ∀ u ∈ news, u.oneCell' = true) (hnews : ∀ j u, news[j]? = some u → w.cell? (ad.add j) = some u)
    (hadg : ad.block ≠ g) (hc2 : 1 ≤ c2) :
    Calls Try.prog 158 #[.slice (some ⟨g, 0, none⟩) n c, .int .i64 (i : Int), .slice (some ad) 1 c2] w (InsPost w g n (inner.take (i * 2) ++ news ++ inner.drop (i * 2))) := by
  simp only [maxLen] at hcm
  obtain ⟨i0, hi0, hz0, hsz0, hby0⟩ := info_parts infoE
  obtain ⟨tail, htl⟩ : ∃ tail, tail = inner.drop (i * 2) := ⟨_, rfl⟩
  have hll : tail.length = (n - i) * 2 := by rw [htl, List.length_drop, hin]; omega
  have q5 : ∀ u ∈ tail, u.oneCell' = true := fun u hu => h1 u (by rw [htl] at hu; exact List.mem_of_mem_drop hu)
  have hd : w.drew.heap[g]? = some (.cells arr t (0, 0)) := hh
  obtain ⟨W1, hW1⟩ : ∃ W1, W1 = w.drew.setCells g ((i + 1) * 2) tail := ⟨_, rfl⟩
  obtain ⟨W2, hW2⟩ : ∃ W2, W2 = W1.setCells g (i * 2) news := ⟨_, rfl⟩
  obtain ⟨cur1, h3, h4, h5⟩ := setCells_row tail ((i + 1) * 2) w.drew arr hd (by rw [hll, hcs]; omega)
  rw [← hW1] at h3
  obtain ⟨cur2, h6, h7, h8⟩ := setCells_row news (i * 2) W1 cur1 h3 (by rw [hnl, h4, hcs]; omega)
  rw [← hW2] at h6
  have hfar : ∀ k, k ≠ g → W2.heap[k]? = w.heap[k]? := fun k hk => by rw [hW2, setCells_far _ _ k hk, hW1, setCells_far _ _ k hk]; rfl
  have hu : ∃ u, w.cell? ad = some u := ⟨news[0], by have := hnews 0 news[0] (List.getElem?_eq_getElem (by omega)); rwa [Addr.add_zero'] at this⟩
  obtain ⟨u, hu⟩ := hu
  have hov : ∀ lb cb, (callFunc 172 #[.slice (some ad) 1 c2, .slice (some ⟨g, (i + 1) * 2, none⟩) lb cb]).run Try.prog w = .ok (.value (.bool false)) w := fun lb cb => by
    rw [run_callFunc_extern Try.func172 (by kernel_rfl) (by kernel_rfl) (by kernel_rfl) (e := Extern.SlicesOverlaps.overlaps #[24, 24] #[4]) (by kernel_rfl),
      overlaps_own_run (P := Try.prog) (w := w) (tS := 24) (tR := 4) Try.underlying24 (size := 2) (by intro w; simp [sizeOf, typeInfo, hi0, hsz0]) (a := ad) (b := ⟨g, (i + 1) * 2, none⟩) hadg hh (by rw [hcs]; omega) hu]
    rfl
  have HC1 : Aside0 (∀ ty, (Builtin.copy_ #[24, 24] ty #[.slice (some ⟨g, (i + 1) * 2, none⟩) (n - i) (c - (i + 1)), .slice (some ⟨g, i * 2, none⟩) (n + 1 - i) (c - i)]).run Try.prog w.drew = .ok (goInt (Nat.min (n + 1 - i) (n - i))) W1) := by
    refine ⟨fun ty => ?_⟩
    rw [hW1]
    refine copy_own_run (w := w.drew) Try.underlying24 hi0 (cur := arr) hd ?_ (fun j u hu => ?_) ?_ q5
    · rw [hsz0, hll, show Nat.min (n + 1 - i) (n - i) = n - i from Nat.min_eq_right (by omega)]
    · rw [add_at]
      rw [htl, List.getElem?_drop] at hu
      exact cell_in (n := n) (c := c) hd ht hu
    · rw [hll, hcs]; omega
  have HC2 : Aside0 (∀ ty, (Builtin.copy_ #[24, 24] ty #[.slice (some ⟨g, i * 2, none⟩) (n + 1 - i) (c - i), .slice (some ad) 1 c2]).run Try.prog W1 = .ok (goInt (Nat.min 1 (n + 1 - i))) W2) := by
    refine ⟨fun ty => ?_⟩
    rw [hW2]
    refine copy_own_run Try.underlying24 hi0 h3 ?_ (fun j u hu => ?_) ?_ hone
    · rw [hsz0, hnl, show Nat.min 1 (n + 1 - i) = 1 from Nat.min_eq_left (by omega)]
    · have h_ := hnews j u hu
      rw [hW1]
      rw [← h_]
      exact World.cell?_of_block (w := w) (by rw [addr_add_block]; exact setCells_far tail ((i + 1) * 2) (w := w.drew) ad.block hadg)
    · rw [hnl, h4, hcs]; omega
  have HF : Aside0 (InsPost w g n (inner.take (i * 2) ++ news ++ inner.drop (i * 2)) (.returned (.slice (some ⟨g, 0, none⟩) (n + 1) c)) W2) := by
    refine ⟨g, c, t, cur2, rfl, h6, by rw [h7, h4, hcs], hroom, by simp only [maxLen]; omega, ?_, .inl rfl, ?_⟩
    · have t1 : cur1.toList.take (i * 2) = inner.take (i * 2) := by
        rw [h5, List.append_assoc, List.take_append_of_le_length (by rw [List.length_take, Array.length_toList, hcs]; omega), List.take_take, Nat.min_eq_left (by omega), ← ht, List.take_take, Nat.min_eq_left (by omega)]
      have t2 : cur1.toList.drop (i * 2 + news.length) = tail ++ arr.toList.drop ((i + 1) * 2 + tail.length) := by
        rw [h5, List.append_assoc, hnl, show i * 2 + 2 = (i + 1) * 2 by omega, List.drop_left' (by rw [List.length_take, Array.length_toList, hcs]; omega)]
      rw [h8, t1, t2, ← List.append_assoc, htl]
      exact List.take_left' (by rw [List.length_append, List.length_append, List.length_take, List.length_drop, hnl, hin]; omega)
    · obtain ⟨a1, a2, a3, a4⟩ := setCells_same g tail ((i + 1) * 2) w.drew
      obtain ⟨b1, b2, b3, b4⟩ := setCells_same g news (i * 2) W1
      rw [← hW1] at a1 a2 a3 a4
      rw [← hW2] at b1 b2 b3 b4
      exact ⟨b1.trans a1, b2.trans a2, b3.trans a3, by rw [b4, a4]; exact Nat.le_refl _, fun k _ hk => hfar k (fun he => hk (by rw [he]; simp))⟩
  have f1 : (i : Int) ≤ (n : Int) := by omega
  have f2 : ¬ ((i : Int) = (n : Int)) := by omega
  have f3 : i ≤ c := by omega
  have f4 : ¬ (c = i) := by omega
  have f5 : i ≤ n := by omega
  have f6 : IntKind.i64.wrap ((n : Int) + 1) = (n : Int) + 1 := by rw [IntKind.wrap_i64]; omega
  have f7 : IntKind.i64.wrap ((i : Int) + 1) = (i : Int) + 1 := by rw [IntKind.wrap_i64]; omega
  have f8 : ((i : Int) + 1).toNat = i + 1 := by omega
  have f9 : ((n : Int) + 1).toNat = n + 1 := by omega
  have f10 : (0 : Int) ≤ (i : Int) + 1 := by omega
  have f11 : (0 : Int) ≤ (n : Int) + 1 := by omega
  have g1 : ¬ ((c : Int) < (n : Int) + 1) := by omega
  have g4 : ¬ (c = i + 1) := by omega
  have g6 : (i : Int) + 1 ≤ (n : Int) + 1 := by omega
  have g7 : (n : Int) + 1 ≤ (c : Int) := by omega
  have g8 : i ≤ n + 1 := by omega
  have g9 : (i : Int) ≤ (n : Int) + 1 := by omega
  clear hh hcs hcm hlt hroom hbig hin ht h1 hnl hone hnews hadg hc2 hi0 hz0 hsz0 hby0 htl hll q5 hd hW1 hW2 h3 h4 h5 h6 h7 h8 hfar hu
  go_enter Try.func158, Try.ntmps158
  go_wp2_with (first | (simp only [hov]) | ((with_reducible refine gate_builtin (b := .copy) (xs := #[.tmp 80, .tmp 81]) rfl ?_); refine gone_copy rfl (.tmp 80) (.tmp 81) 24 24 rfl rfl rfl (HC2.out _) ?_))
  go_region_law (refine step_copy rfl _ _ 24 24 rfl (by simp [Act.eval, Act.put]) (by simp [Act.eval, Act.put]) (HC1.out _) ?_)
  go_wp2_with ((with_reducible refine gate_builtin (b := .copy) (xs := #[.tmp 80, .tmp 81]) rfl ?_); refine gone_copy rfl (.tmp 80) (.tmp 81) 24 24 rfl rfl rfl (HC2.out _) ?_)
  go_ret
  exact HF.out
end
end Go.Proofs.Ytjjocahgbmibeaa.Ext
