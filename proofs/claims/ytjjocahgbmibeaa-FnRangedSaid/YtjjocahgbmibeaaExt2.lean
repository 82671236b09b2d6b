/- slices.Insert of one pair into a row of one's own, not at its end, where there is no room; both as one law of the machine. -/
import Derived.Test.YtjjocahgbmibeaaExt1
namespace Go.Proofs.Ytjjocahgbmibeaa.Ext
open Go.RowKit Go.Eng
set_option linter.unusedVariables false
set_option linter.unusedSimpArgs false
section
variable {g n c i c2 : Nat} {t : TypeId} {arr : Array Value} {inner news : List Value} {ad : Addr} {w : World}
set_option maxHeartbeats 8000000 in
set_option maxRecDepth 100000 in
theorem ins_anew (hh : w.heap[g]? = some (.cells arr t (0, 0))) (hcs : arr.size = c * 2) (hnc : n ≤ c) (hlt : i < n) (hfull : c < n + 1) (hbig : n < 1000000)
    (hin : inner.length = n * 2) (ht : arr.toList.take (n * 2) = inner) (h1 : ∀ u ∈ inner, u.oneCell' = true) (hnl : news.length = 2) (hone : ∀ u ∈ news, u.oneCell' = true) (hnews : ∀ j u, news[j]? = some u → w.cell? (ad.add j) = some u)
    (hadl : ad.block < w.heap.size) (hc2 : 1 ≤ c2) :
    Calls Try.prog 158 #[.slice (some ⟨g, 0, none⟩) n c, .int .i64 (i : Int), .slice (some ad) 1 c2] w (InsPost w g n (inner.take (i * 2) ++ news ++ inner.drop (i * 2))) := by
  obtain ⟨i0, hi0, hz0, hsz0, hby0⟩ := info_parts infoE
  have hgl : g < w.heap.size := blk_lt hh
  obtain ⟨tail, htl⟩ : ∃ tail, tail = inner.drop (i * 2) := ⟨_, rfl⟩
  obtain ⟨olds, hol⟩ : ∃ olds, olds = inner.take (i * 2) := ⟨_, rfl⟩
  have hll : tail.length = (n - i) * 2 := by rw [htl, List.length_drop, hin]; omega
  have hoo : olds.length = i * 2 := by rw [hol, List.length_take, hin]; omega
  have q5 : ∀ u ∈ tail, u.oneCell' = true := fun u hu => h1 u (by rw [htl] at hu; exact List.mem_of_mem_drop hu)
  have g2 : RowKit.wrap64 ((n : Int) + 1 - (i : Int)) = ((n + 1 - i : Nat) : Int) := by unfold RowKit.wrap64; omega
  obtain ⟨c1, hc1⟩ : ∃ c1, c1 = grownCap w (n + 1) c 94 := ⟨_, rfl⟩
  have hge : n + 1 ≤ c1 := by rw [hc1]; exact grownCap_ge w (n + 1) c 94
  have hcm1 : c1 ≤ maxLen := by rw [hc1]; exact grownCap_le_maxLen w (n + 1) c 94 (by simp only [maxLen]; omega)
  obtain ⟨z, hz⟩ : ∃ z, z = (Builtin.zeroCells (.agg #[(.int .i64 0), (.int .i64 0)] : Value).cells (n + 1 - i)).toList ++ (Builtin.zeroCells (.agg #[(.int .i64 0), (.int .i64 0)] : Value).cells (c1 - (n + 1))).toList := ⟨_, rfl⟩
  have hzl : i * 2 + z.length = c1 * 2 := by
    rw [hz, List.length_append, Array.length_toList, Array.length_toList, size_zeroCells, size_zeroCells]
    show i * 2 + ((n + 1 - i) * 2 + (c1 - (n + 1)) * 2) = c1 * 2
    omega
  obtain ⟨W1, hW1⟩ : ∃ W1, W1 = w.drew.alloc (.cells (olds ++ z).toArray 94) := ⟨_, rfl⟩
  obtain ⟨W2, hW2⟩ : ∃ W2, W2 = W1.setCells w.heap.size (i * 2) news := ⟨_, rfl⟩
  obtain ⟨W3, hW3⟩ : ∃ W3, W3 = W2.drew.setCells w.heap.size ((i + 1) * 2) tail := ⟨_, rfl⟩
  have hal : W1.heap[w.heap.size]? = some (.cells (olds ++ z).toArray 94 (0, 0)) := by rw [hW1]; exact heap_alloc_new w.drew _
  have hsz : (olds ++ z).toArray.size = c1 * 2 := by rw [List.size_toArray, List.length_append, hoo, hzl]
  obtain ⟨cur2, h3, h4, h5⟩ := setCells_row news (i * 2) W1 _ hal (by rw [hnl, hsz]; omega)
  rw [← hW2] at h3
  obtain ⟨cur3, h6, h7, h8⟩ := setCells_row tail ((i + 1) * 2) W2.drew cur2 h3 (by rw [hll, h4, hsz]; omega)
  rw [← hW3] at h6
  have hb1 : ∀ k, k < w.heap.size → W1.heap[k]? = w.heap[k]? := fun k hk => by rw [hW1]; exact heap_alloc_old w.drew _ hk
  have hb2 : ∀ k, k < w.heap.size → W2.heap[k]? = w.heap[k]? := fun k hk => by rw [hW2, setCells_far _ _ k (by omega)]; exact hb1 k hk
  have hb3 : ∀ k, k < w.heap.size → W3.heap[k]? = w.heap[k]? := fun k hk => by rw [hW3, setCells_far _ _ k (by omega)]; exact hb2 k hk
  have HA : Aside0 ((Builtin.append_ #[24, 3] 24 #[.slice (some ⟨g, 0, none⟩) i c, .int .i64 (RowKit.wrap64 ((n : Int) + 1 - (i : Int)))]).run Try.prog w = .ok (.slice (some ⟨w.heap.size, 0, none⟩) (n + 1) c1) W1) := by
    have e_ : i + (n + 1 - i) = n + 1 := by omega
    have hfc : (Builtin.firstCells i0.size i (.slice (some ⟨g, 0, none⟩) i c)).run Try.prog w.drew = .ok olds.toArray w.drew :=
      run_firstCells_some w.drew _ i _ i c olds (by rw [hsz0]; exact hoo) (fun j u hu => by
        rw [addr_add_plain]
        refine cell_in (n := n) (c := c) (w := w.drew) hh ht (u := u) ?_
        rw [hol, List.getElem?_take] at hu
        split at hu
        · exact hu
        · cases hu)
    have h_ := run_append_zeros_anew (P := Try.prog) w (ty := 24) Try.underlying24 Try.underlying3 hi0 hz0 (by rw [hsz0]; decide) (by rw [hby0]; decide) (A := some ⟨g, 0, none⟩) (n := i) (m := n + 1 - i) (c := c) (by omega) (by omega) (olds := olds) hfc .i64 (by rw [hby0, e_]; omega)
    rw [e_, ← hc1, ← hz, ← hW1] at h_
    rw [g2]
    exact ⟨h_⟩
  have HC1 : Aside0 (∀ ty, (Builtin.copy_ #[24, 24] ty #[.slice (some ⟨w.heap.size, i * 2, none⟩) (n + 1 - i) (c1 - i), .slice (some ad) 1 c2]).run Try.prog W1 = .ok (goInt (Nat.min 1 (n + 1 - i))) W2) := by
    refine ⟨fun ty => ?_⟩
    rw [hW2]
    refine copy_own_run Try.underlying24 hi0 hal ?_ (fun j u hu => ?_) ?_ hone
    · rw [hsz0, hnl, show Nat.min 1 (n + 1 - i) = 1 from Nat.min_eq_left (by omega)]
    · rw [← hnews j u hu]
      exact World.cell?_of_block (w := w) (hb1 _ (by rw [addr_add_block]; exact hadl))
    · rw [hnl, hsz]; omega
  have HC2 : Aside0 (∀ ty, (Builtin.copy_ #[24, 24] ty #[.slice (some ⟨w.heap.size, (i + 1) * 2, none⟩) (n - i) (c1 - (i + 1)), .slice (some ⟨g, i * 2, none⟩) (n - i) (c - i)]).run Try.prog W2.drew = .ok (goInt (Nat.min (n - i) (n - i))) W3) := by
    refine ⟨fun ty => ?_⟩
    rw [hW3]
    refine copy_own_run (w := W2.drew) Try.underlying24 hi0 (cur := cur2) h3 ?_ (fun j u hu => ?_) ?_ q5
    · rw [hsz0, hll, show Nat.min (n - i) (n - i) = n - i from Nat.min_self _]
    · rw [add_at]
      rw [htl, List.getElem?_drop] at hu
      rw [← cell_in (n := n) (c := c) hh ht hu]
      exact World.cell?_of_block (w := w) (hb2 _ hgl)
    · rw [hll, h4, hsz]; omega
  have HF : Aside0 (InsPost w g n (inner.take (i * 2) ++ news ++ inner.drop (i * 2)) (.returned (.slice (some ⟨w.heap.size, 0, none⟩) (n + 1) c1)) W3) := by
    refine ⟨w.heap.size, c1, 94, cur3, rfl, h6, by rw [h7, h4, hsz], hge, hcm1, ?_, .inr (Nat.le_refl _), ?_⟩
    · have t0 : cur2.toList = olds ++ news ++ z.drop 2 := by
        rw [h5, hnl, List.take_left' hoo]
        congr 1
        rw [List.drop_append, hoo, List.drop_eq_nil_of_le (by omega), List.nil_append, Nat.add_sub_cancel_left]
      have t1 : (olds ++ news ++ z.drop 2).take ((i + 1) * 2) = olds ++ news := List.take_left' (by rw [List.length_append, hoo, hnl]; omega)
      rw [h8, t0, t1, hol, htl]
      exact List.take_left' (by rw [List.length_append, List.length_append, List.length_take, List.length_drop, hnl, hin]; omega)
    · obtain ⟨a1, a2, a3, a4⟩ := setCells_same w.heap.size news (i * 2) W1
      obtain ⟨b1, b2, b3, b4⟩ := setCells_same w.heap.size tail ((i + 1) * 2) W2.drew
      rw [← hW2] at a1 a2 a3 a4
      rw [← hW3] at b1 b2 b3 b4
      have e1 : W1.os = w.os ∧ W1.tape = w.tape ∧ W1.output = w.output ∧ w.heap.size ≤ W1.heap.size := by rw [hW1]; exact ⟨rfl, rfl, rfl, (turns_alloc w.drew _ (fun _ => False)).size⟩
      exact ⟨b1.trans (a1.trans e1.1), b2.trans (a2.trans e1.2.1), b3.trans (a3.trans e1.2.2.1), by rw [b4]; show w.heap.size ≤ W2.heap.size; rw [a4]; exact e1.2.2.2, fun k hk _ => hb3 k hk⟩
  have f1 : (i : Int) ≤ (n : Int) := by omega
  have f2 : ¬ ((i : Int) = (n : Int)) := by omega
  have f3 : i ≤ c := by omega
  have f4 : ¬ (c = i) := by omega
  have f5 : i ≤ n := by omega
  have f6 : IntKind.i64.wrap ((n : Int) + 1) = (n : Int) + 1 := by rw [IntKind.wrap_i64]; omega
  have f7 : IntKind.i64.wrap ((i : Int) + 1) = (i : Int) + 1 := by rw [IntKind.wrap_i64]; omega
  have f8 : ((i : Int) + 1).toNat = i + 1 := by omega
  have f9 : ((n : Int) + 1).toNat = n + 1 := by omega
  have f10 : (0 : Int) ≤ (i : Int) + 1 := by omega
  have f11 : (0 : Int) ≤ (n : Int) + 1 := by omega
  have g1 : (c : Int) < (n : Int) + 1 := by omega
  have g3 : i ≤ c1 := by omega
  have g4 : ¬ (c1 = i) := by omega
  have g5 : ¬ (c1 = i + 1) := by omega
  have g6 : (i : Int) + 1 ≤ (n : Int) + 1 := by omega
  have g7 : (n : Int) + 1 ≤ (c1 : Int) := by omega
  have g8 : i ≤ n + 1 := by omega
  have g9 : (i : Int) ≤ (n : Int) + 1 := by omega
  clear hh hcs hnc hlt hfull hbig hin ht h1 hnl hone hnews hadl hc2 hi0 hz0 hsz0 hby0 htl hol hll hoo q5 g2 hc1 hge hcm1 hz hzl hW1 hW2 hW3 hal hsz h3 h4 h5 h6 h7 h8 hb1 hb2 hb3 hgl
  go_enter Try.func158, Try.ntmps158
  go_wp2_with (first | ((with_reducible refine gate_builtin (b := .append) (xs := #[.tmp 34, .tmp 39]) rfl ?_); refine gone_append rfl (.tmp 34) (.tmp 39) 24 3 rfl rfl rfl HA.out ?_) | ((with_reducible refine gate_builtin (b := .copy) (xs := #[.tmp 43, .tmp 44]) rfl ?_); refine gone_copy rfl (.tmp 43) (.tmp 44) 24 24 rfl rfl rfl (HC1.out _) ?_))
  go_region_law (refine step_copy rfl _ _ 24 24 rfl (by simp [Act.eval, Act.put]) (by simp [Act.eval, Act.put]) (HC2.out _) ?_)
  go_wp2
  go_ret
  exact HF.out
end
end Go.Proofs.Ytjjocahgbmibeaa.Ext
