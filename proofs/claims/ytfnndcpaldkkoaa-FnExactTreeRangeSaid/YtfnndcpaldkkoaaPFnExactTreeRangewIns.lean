-- Laid by a program of this session: of the words of print.sh those that this law needs. Not trusted: Lean checks it.
-- Rows of one's own that the library's own text turns (slices.Delete, slices.Insert). The session's own text. Lean checks it.
import Derived.Test.YtfnndcpaldkkoaaPFnExactTreeRangewMore
import Derived.Test.YtfnndcpaldkkoaaPFnExactTreeRangewLast
import Derived.Test.YtfnndcpaldkkoaaPFnExactTreeRangewTab
import Derived.KernelRfl
import Derived.WalkKit
import Derived.Laws.IdiomCopy
import Derived.Laws.Externs
namespace Go.Proofs.YtfnndcpaldkkoaaW.PrintMore
open Go.RowKit Go.Proofs.YtfnndcpaldkkoaaW.PrintWords Go.Proofs.YtfnndcpaldkkoaaW.PrintLast
/-! Rows of one's own that the library's own text turns: an element taken out, an element put in. -/
namespace Kd
open Go.Proofs.YtfnndcpaldkkoaaW.PrintWords.Kd
section
variable {α : Type} {d : Kd α} {e base n m c g : Nat} {ok ok' : Nat → Prop} {W W1 : World} {xs ys : List α}
/-- A row of one's own, laid open. -/
theorem R_lay (h : d.R e W base ok (.slice (some ⟨g, 0, none⟩) n c) xs) :
    ∃ (cur : Array Value) (inner : List Value), W.heap[g]? = some (.cells cur e (0, 0)) ∧ cur.size = c * d.sz ∧ c ≤ maxLen ∧ n = xs.length ∧ n ≤ c ∧ cur.toList.take (n * d.sz) = inner ∧ Reps (d.M W base (fun k => (ok k ∧ k ≠ g) ∧ k < W.heap.size)) d.sz xs inner ∧ ok g ∧ base ≤ g := by
  obtain ⟨hok, inner, hown, hr⟩ := h
  rcases hown.2 with ⟨hv, _⟩ | ⟨g', cap', cur, hv, hb, hh, hnc, hcm, hcs, htake⟩
  · cases hv
  injection hv with ha hn hc
  injection ha with ha
  injection ha with hg
  subst hg; subst hc
  refine ⟨cur, inner, hh, hcs, hcm, hn, by rw [hn]; exact hnc, by rw [hn]; exact htake, hr.imp_ (fun p q hp => d.M_mono (fun k hk => ⟨⟨hk.1.1, fun e => hk.1.2 (by rw [e]; rfl)⟩, hk.2.2.1⟩) (d.M_bound hp)), hok g rfl, hb⟩
/-- .. and shut again: its block turned, all else as it was. -/
theorem R_shut (d : Kd α) {cur : Array Value} {inner : List Value} (hh : W1.heap[g]? = some (.cells cur e (0, 0))) (hcs : cur.size = c * d.sz) (hcm : c ≤ maxLen) (hm : m = ys.length) (hmc : m ≤ c) (ht : cur.toList.take (m * d.sz) = inner)
    (hr : Reps (d.M W base ok') d.sz ys inner) (ho : ∀ k, ok' k → ok k ∧ k ≠ g) (hok : ok g) (hb : base ≤ g) (hfar : ∀ k, ok' k → W1.heap[k]? = W.heap[k]?) : d.R e W1 base ok (.slice (some ⟨g, 0, none⟩) m c) ys := by
  subst hm
  refine ⟨fun k hk => ?_, inner, ⟨hr.1, .inr ⟨g, c, cur, rfl, hb, hh, hmc, hcm, hcs, ht⟩⟩, hr.imp_ (fun p q hp => ?_)⟩
  · have : g = k := by simpa [Value.ownBlock] using hk
    exact this ▸ hok
  · exact d.M_mono (fun k hk => ⟨(ho k hk).1, fun e => (ho k hk).2 (by simpa [Value.ownBlock] using e)⟩) (d.M_move hfar hp)
theorem one_cell_of_reps {okx : Nat → Prop} {inner : List Value} (hr : Reps (d.M W base okx) d.sz xs inner) (hs0 : 0 < d.sz) : ∀ u ∈ inner, u.oneCell' = true := by
  intro u hu
  obtain ⟨q, hq, rfl⟩ := List.mem_iff_getElem.1 hu
  have hql : q / d.sz < xs.length := by
    rw [Nat.div_lt_iff_lt_mul hs0, ← hr.1]
    exact hq
  refine d.K_one (d.K_of_M (hr.2 (q / d.sz) _ (List.getElem?_eq_getElem hql))) _ ?_
  rw [List.mem_iff_getElem?]
  refine ⟨q % d.sz, ?_⟩
  rw [List.getElem?_take, if_pos (Nat.mod_lt _ hs0), List.getElem?_drop, Nat.mul_comm, Nat.div_add_mod, List.getElem?_eq_getElem hq]
end
section
variable {α : Type} {d : Kd α} {e base n m c g i : Nat} {ok okp : Nat → Prop} {W W1 : World} {xs ys : List α}
theorem grown_setCells (W : World) (g o : Nat) (cs : List Value) : W.grownBy (W.setCells g o cs) (some g) := by
  obtain ⟨s1, s2, s3, s4⟩ := setCells_same g cs o W
  exact ⟨s1, s2, s3, by rw [s4]; exact Nat.le_refl _, fun k _ hk => setCells_far cs _ k (fun he => hk (by rw [he]))⟩
/-- The spare cells behind a row of one's own may be written. -/
theorem R_spare (h : d.R e W base ok (.slice (some ⟨g, 0, none⟩) n c) xs) {cs : List Value} {o : Nat} (ho : n * d.sz ≤ o) (hl : o + cs.length ≤ c * d.sz) : d.R e (W.setCells g o cs) base ok (.slice (some ⟨g, 0, none⟩) n c) xs := by
  obtain ⟨cur, inner, hh, hcs, hcm, hn, hnc, ht, hr, hokg, hb⟩ := R_lay h
  obtain ⟨cur', h3, h4, h5⟩ := setCells_row cs o W cur hh (by rw [hcs]; exact hl)
  refine R_shut d h3 (by rw [h4, hcs]) hcm hn hnc ?_ hr (fun k hk => hk.1) hokg hb (fun k hk => setCells_far cs _ k hk.1.2)
  rw [h5, List.append_assoc, List.take_append_of_le_length (by rw [List.length_take, Array.length_toList, hcs]; omega), List.take_take, Nat.min_eq_left ho]
  exact ht
/-- Elements put into a row of one's own where there is room: what stands behind is moved, then they are laid. -/
theorem R_put_in (h : d.R e W base ok (.slice (some ⟨g, 0, none⟩) n c) xs) (hi : i ≤ n) (hm : ys.length = m) (hroom : n + m ≤ c) (hs0 : 0 < d.sz) {news : List Value} (hnr : Reps (d.M W base okp) d.sz ys news) (hokp : ∀ k, okp k → ok k ∧ k ≠ g) :
    ∃ tail : List Value, tail.length = (n - i) * d.sz ∧ (∀ j u, tail[j]? = some u → W.cell? ⟨g, i * d.sz + j, none⟩ = some u) ∧ (∀ u ∈ tail, u.oneCell' = true) ∧
      (∃ cur, W.heap[g]? = some (.cells cur e (0, 0)) ∧ cur.size = c * d.sz) ∧
      (∃ cur1, (W.setCells g ((i + m) * d.sz) tail).heap[g]? = some (.cells cur1 e (0, 0)) ∧ cur1.size = c * d.sz) ∧
      d.R e ((W.setCells g ((i + m) * d.sz) tail).setCells g (i * d.sz) news) base ok (.slice (some ⟨g, 0, none⟩) (n + m) c) (xs.take i ++ ys ++ xs.drop i) ∧
      W.grownBy ((W.setCells g ((i + m) * d.sz) tail).setCells g (i * d.sz) news) (some g) := by
  obtain ⟨cur, inner, hh, hcs, hcm, hn, hnc, ht, hr, hokg, hb⟩ := R_lay h
  have q1 : (i + m) * d.sz = i * d.sz + m * d.sz := Nat.add_mul _ _ _
  have q2 : (n - i) * d.sz = n * d.sz - i * d.sz := Nat.sub_mul _ _ _
  have q3 : (n + m) * d.sz = n * d.sz + m * d.sz := Nat.add_mul _ _ _
  have q4 : (n + m) * d.sz ≤ c * d.sz := Nat.mul_le_mul_right _ hroom
  have q5 : i * d.sz ≤ n * d.sz := Nat.mul_le_mul_right _ hi
  have hin : inner.length = n * d.sz := by rw [hr.1, hn]
  have hnl : news.length = m * d.sz := by rw [hnr.1, hm]
  have hcur : ∀ q, q < n * d.sz → cur.toList[q]? = inner[q]? := fun q hq => by rw [← ht, List.getElem?_take, if_pos hq]
  obtain ⟨tail, htl⟩ : ∃ tail, tail = inner.drop (i * d.sz) := ⟨_, rfl⟩
  have hll : tail.length = (n - i) * d.sz := by rw [htl, List.length_drop, hin, q2]
  obtain ⟨cur1, h3, h4, h5⟩ := setCells_row tail ((i + m) * d.sz) W cur hh (by rw [hll, hcs]; omega)
  obtain ⟨cur2, h6, h7, h8⟩ := setCells_row news (i * d.sz) _ cur1 h3 (by rw [hnl, h4, hcs]; omega)
  have hfar : ∀ k, k ≠ g → ((W.setCells g ((i + m) * d.sz) tail).setCells g (i * d.sz) news).heap[k]? = W.heap[k]? := fun k hk => by rw [setCells_far _ _ k hk, setCells_far _ _ k hk]
  have hone := one_cell_of_reps hr hs0
  refine ⟨tail, hll, fun j u hu => ?_, fun u hu => hone u (by rw [htl] at hu; exact List.mem_of_mem_drop hu), ⟨cur, hh, hcs⟩, ⟨cur1, h3, by rw [h4, hcs]⟩, R_shut (ok' := fun k => (ok k ∧ k ≠ g)) d h6 (by rw [h7, h4, hcs]) hcm ?_ hroom (inner := inner.take (i * d.sz) ++ news ++ tail) ?_ ?_ (fun k hk => hk) hokg hb (fun k hk => hfar k hk.2), ?_⟩
  · have hj : j < tail.length := (List.getElem?_eq_some_iff.1 hu).1
    rw [cell_of_row W g _ cur e (0, 0) hh, ← Array.getElem?_toList]
    rw [htl, List.getElem?_drop] at hu
    rw [← hu]
    exact hcur _ (by omega)
  · rw [List.length_append, List.length_append, List.length_take, List.length_drop, hm]
    omega
  · have t1 : cur1.toList.take (i * d.sz) = inner.take (i * d.sz) := by
      rw [h5, List.append_assoc, List.take_append_of_le_length (by rw [List.length_take, Array.length_toList, hcs]; omega), List.take_take, Nat.min_eq_left (by omega), ← ht, List.take_take, Nat.min_eq_left q5]
    have t2 : cur1.toList.drop (i * d.sz + news.length) = tail ++ cur.toList.drop ((i + m) * d.sz + tail.length) := by
      rw [h5, List.append_assoc, hnl, ← q1, List.drop_left' (by rw [List.length_take, Array.length_toList, hcs]; omega)]
    rw [h8, t1, t2, ← List.append_assoc]
    exact List.take_left' (by rw [List.length_append, List.length_append, List.length_take, hnl, hll]; omega)
  · have k1 : ∀ p q, d.M W base (fun k => (ok k ∧ k ≠ g) ∧ k < W.heap.size) p q → d.M W base (fun k => ok k ∧ k ≠ g) p q := fun p q hp => d.M_mono (fun k hk => hk.1) hp
    subst htl
    exact reps_append (reps_append ((reps_take hr (by omega)).imp_ k1) (hnr.imp_ (fun p q hp => d.M_mono hokp hp))) ((reps_drop hr).imp_ k1)
  · obtain ⟨a1, a2, a3, a4⟩ := setCells_same g tail ((i + m) * d.sz) W
    obtain ⟨b1, b2, b3, b4⟩ := setCells_same g news (i * d.sz) (W.setCells g ((i + m) * d.sz) tail)
    exact ⟨b1.trans a1, b2.trans a2, b3.trans a3, by rw [b4, a4]; exact Nat.le_refl _, fun k _ hk => hfar k (fun he => hk (by rw [he]))⟩
/-- .. and where there is none: a new row: what stood ahead, room; then they are laid, then what stands behind. -/
theorem R_put_anew (h : d.R e W base ok (.slice (some ⟨g, 0, none⟩) n c) xs) (hi : i ≤ n) (hm : ys.length = m) (hs0 : 0 < d.sz) {news : List Value} (hnr : Reps (d.M W base okp) d.sz ys news) (hokp : ∀ k, okp k → ok k) (hfresh : ok W.heap.size) (hbase : base ≤ W.heap.size)
    {z : List Value} {c1 : Nat} (hz : i * d.sz + z.length = c1 * d.sz) (hc1 : n + m ≤ c1) (hcm1 : c1 ≤ maxLen) :
    ∃ olds tail : List Value, olds.length = i * d.sz ∧ (∀ j u, olds[j]? = some u → W.cell? ⟨g, j, none⟩ = some u) ∧ tail.length = (n - i) * d.sz ∧ (∀ j u, tail[j]? = some u → W.cell? ⟨g, i * d.sz + j, none⟩ = some u) ∧ (∀ u ∈ tail, u.oneCell' = true) ∧ g < W.heap.size ∧
      (∃ cur1, (W.drew.alloc (.cells (olds ++ z).toArray e)).heap[W.heap.size]? = some (.cells cur1 e (0, 0)) ∧ cur1.size = c1 * d.sz) ∧
      (∃ cur2, ((W.drew.alloc (.cells (olds ++ z).toArray e)).setCells W.heap.size (i * d.sz) news).heap[W.heap.size]? = some (.cells cur2 e (0, 0)) ∧ cur2.size = c1 * d.sz) ∧
      d.R e ((((W.drew.alloc (.cells (olds ++ z).toArray e)).setCells W.heap.size (i * d.sz) news).drew).setCells W.heap.size ((i + m) * d.sz) tail) base ok (.slice (some ⟨W.heap.size, 0, none⟩) (n + m) c1) (xs.take i ++ ys ++ xs.drop i) ∧
      W.grownBy ((((W.drew.alloc (.cells (olds ++ z).toArray e)).setCells W.heap.size (i * d.sz) news).drew).setCells W.heap.size ((i + m) * d.sz) tail) none := by
  obtain ⟨cur, inner, hh, hcs, hcm, hn, hnc, ht, hr, hokg, hb⟩ := R_lay h
  have hg : g < W.heap.size := blk_lt hh
  have q1 : (i + m) * d.sz = i * d.sz + m * d.sz := Nat.add_mul _ _ _
  have q2 : (n - i) * d.sz = n * d.sz - i * d.sz := Nat.sub_mul _ _ _
  have q3 : (n + m) * d.sz = n * d.sz + m * d.sz := Nat.add_mul _ _ _
  have q4 : (n + m) * d.sz ≤ c1 * d.sz := Nat.mul_le_mul_right _ hc1
  have q5 : i * d.sz ≤ n * d.sz := Nat.mul_le_mul_right _ hi
  have q6 : n * d.sz ≤ c * d.sz := Nat.mul_le_mul_right _ hnc
  have hin : inner.length = n * d.sz := by rw [hr.1, hn]
  have hnl : news.length = m * d.sz := by rw [hnr.1, hm]
  have hcur : ∀ q, q < n * d.sz → cur.toList[q]? = inner[q]? := fun q hq => by rw [← ht, List.getElem?_take, if_pos hq]
  obtain ⟨tail, htl⟩ : ∃ tail, tail = inner.drop (i * d.sz) := ⟨_, rfl⟩
  obtain ⟨olds, hol⟩ : ∃ olds, olds = inner.take (i * d.sz) := ⟨_, rfl⟩
  have hll : tail.length = (n - i) * d.sz := by rw [htl, List.length_drop, hin, q2]
  have hoo : olds.length = i * d.sz := by rw [hol, List.length_take, hin]; omega
  have hal : (W.drew.alloc (.cells (olds ++ z).toArray e)).heap[W.heap.size]? = some (.cells (olds ++ z).toArray e (0, 0)) := heap_alloc_new W.drew _
  have hsz : (olds ++ z).toArray.size = c1 * d.sz := by rw [List.size_toArray, List.length_append, hoo, hz]
  obtain ⟨cur2, h3, h4, h5⟩ := setCells_row news (i * d.sz) _ _ hal (by rw [hnl, hsz]; omega)
  obtain ⟨cur3, h6, h7, h8⟩ := setCells_row (w := ((W.drew.alloc (.cells (olds ++ z).toArray e)).setCells W.heap.size (i * d.sz) news).drew) tail ((i + m) * d.sz) cur2 h3 (by rw [hll, h4, hsz]; omega)
  have hold : ∀ k, k < W.heap.size → ((((W.drew.alloc (.cells (olds ++ z).toArray e)).setCells W.heap.size (i * d.sz) news).drew).setCells W.heap.size ((i + m) * d.sz) tail).heap[k]? = W.heap[k]? := fun k hk => by
    rw [setCells_far _ _ k (by omega)]
    show ((W.drew.alloc _).setCells _ _ _).heap[k]? = _
    rw [setCells_far _ _ k (by omega)]
    exact heap_alloc_old W.drew _ hk
  have hone := one_cell_of_reps hr hs0
  refine ⟨olds, tail, hoo, fun j u hu => ?_, hll, fun j u hu => ?_, fun u hu => hone u (by rw [htl] at hu; exact List.mem_of_mem_drop hu), hg, ⟨_, hal, hsz⟩, ⟨cur2, h3, by rw [h4, hsz]⟩, R_shut (ok' := fun k => ok k ∧ k < W.heap.size) d h6 (by rw [h7, h4, hsz]) hcm1 ?_ hc1 (inner := olds ++ news ++ tail) ?_ ?_ (fun k hk => ⟨hk.1, by omega⟩) hfresh hbase (fun k hk => hold k hk.2), ?_⟩
  · have hj : j < olds.length := (List.getElem?_eq_some_iff.1 hu).1
    rw [cell_of_row W g _ cur e (0, 0) hh, ← Array.getElem?_toList, hcur _ (by omega), ← hu, hol, List.getElem?_take, if_pos (by omega)]
  · have hj : j < tail.length := (List.getElem?_eq_some_iff.1 hu).1
    rw [cell_of_row W g _ cur e (0, 0) hh, ← Array.getElem?_toList]
    rw [htl, List.getElem?_drop] at hu
    rw [← hu]
    exact hcur _ (by omega)
  · rw [List.length_append, List.length_append, List.length_take, List.length_drop, hm]
    omega
  · have t0 : cur2.toList = olds ++ news ++ z.drop (m * d.sz) := by
      rw [h5, hnl, List.take_left' hoo]
      congr 1
      rw [← q1, List.drop_append, hoo, List.drop_eq_nil_of_le (by omega), List.nil_append, q1, Nat.add_sub_cancel_left]
    have t1 : (olds ++ news ++ z.drop (m * d.sz)).take ((i + m) * d.sz) = olds ++ news := List.take_left' (by rw [List.length_append, hoo, hnl, q1])
    rw [h8, t0, t1]
    exact List.take_left' (by rw [List.length_append, List.length_append, hoo, hnl, hll]; omega)
  · have k1 : ∀ p q, d.M W base (fun k => (ok k ∧ k ≠ g) ∧ k < W.heap.size) p q → d.M W base (fun k => ok k ∧ k < W.heap.size) p q := fun p q hp => d.M_mono (fun k hk => ⟨hk.1.1, hk.2⟩) hp
    subst htl hol
    exact reps_append (reps_append ((reps_take hr (by omega)).imp_ k1) (hnr.imp_ (fun p q hp => d.M_mono (fun k hk => ⟨hokp k hk.1, hk.2.2.1⟩) (d.M_bound hp)))) ((reps_drop hr).imp_ k1)
  · obtain ⟨a1, a2, a3, a4⟩ := setCells_same W.heap.size news (i * d.sz) (W.drew.alloc (.cells (olds ++ z).toArray e))
    obtain ⟨b1, b2, b3, b4⟩ := setCells_same W.heap.size tail ((i + m) * d.sz) ((W.drew.alloc (.cells (olds ++ z).toArray e)).setCells W.heap.size (i * d.sz) news).drew
    refine ⟨b1.trans a1, b2.trans a2, b3.trans a3, ?_, fun k hk _ => hold k hk⟩
    rw [b4]
    show W.heap.size ≤ ((W.drew.alloc _).setCells _ _ _).heap.size
    rw [a4]
    simp
end
end Kd
section
variable {P : Program}
/-- append(s[:i], make([]T, n)...) where there is no room. -/
theorem run_append_zeros_anew (w : World) {t ti ty e : TypeId} {i : TypeInfo} {z : Value} (ht : P.underlying t = some (.slice e)) {k : IntKind} (hti : P.underlying ti = some (.int k)) (hi : P.info? e = some i) (hz : i.zero = some z) (hsz : 0 < i.size) (hb0 : 0 < i.bytes) {A : Option Addr} {n m c : Nat} (hm : 0 < m) (hcap : c < n + m) {olds : List Value} (hol : (Builtin.firstCells i.size n (.slice A n c)).run P w.drew = .ok olds.toArray w.drew)
    (kx : IntKind) (hl : (n + m) * i.bytes ≤ 140737488355328) :
    (Builtin.append_ #[t, ti] ty #[.slice A n c, .int kx (m : Int)]).run P w = .ok (.slice (some ⟨w.heap.size, 0, none⟩) (n + m) (grownCap w (n + m) c e))
      (w.drew.alloc (.cells (olds ++ ((Builtin.zeroCells z.cells m).toList ++ (Builtin.zeroCells z.cells (grownCap w (n + m) c e - (n + m))).toList)).toArray e)) := by
  have hle : n + m ≤ 140737488355328 := Nat.le_trans (Nat.le_mul_of_pos_right _ hb0) hl
  have hw : IntKind.i64.wrap (m : Int) = m := by rw [IntKind.wrap_i64]; omega
  have hneg : ¬ ((m : Int) < 0) := by omega
  have hmb : m * i.bytes ≤ 140737488355328 := Nat.le_trans (Nat.mul_le_mul_right _ (Nat.le_add_left m n)) hl
  have hbig : ¬ (281474976710656 < (m : Int) * (i.bytes : Int)) := by
    rw [← Int.natCast_mul]
    omega
  have hn : ¬ (n + m ≤ c) := by omega
  have h63' : ¬ (9223372036854775807 < ((n : Int) + (m : Int))) := by omega
  have hfit := growslice_fits hcap hl
  have h48' : ¬ (281474976710656 < Builtin.nextslicecap (n + m) c * i.bytes) := by omega
  have hmz : ¬ (m * i.size = 0) := Nat.mul_ne_zero (by omega) (by omega)
  simp [Builtin.append_, run_underlying ht, run_underlying hti, sizeOf, typeInfo, zeroValue, hi, hz, asInt, asIntOf, hw, hneg, hbig, hn, h63', h48', Question.forced, hol, newRow, grownCap, hmz]
  congr 2
  apply Array.ext'
  simp
end
section
variable {P : Program}
theorem copy_own_run {w : World} {t ty e : TypeId} {i : TypeInfo} (ht : P.underlying t = some (.slice e)) (hi : P.info? e = some i) {g o dLen dCap sLen sCap : Nat} {cur : Array Value} (hh : w.heap[g]? = some (.cells cur e (0, 0))) {a : Addr} {cs : List Value} (hn : cs.length = Nat.min sLen dLen * i.size)
    (hsrc : ∀ j v, cs[j]? = some v → w.cell? (a.add j) = some v) (hroom : o + cs.length ≤ cur.size) (h1 : ∀ v ∈ cs, v.oneCell' = true) :
    (Builtin.copy_ #[t, t] ty #[.slice (some ⟨g, o, none⟩) dLen dCap, .slice (some a) sLen sCap]).run P w = .ok (goInt (Nat.min sLen dLen)) (w.setCells g o cs) := by
  have hl := run_loadCells_list (P := P) w a cs hsrc
  have hst := run_storeCells_cells (P := P) g o cs 0 w (fun j hj => by rw [cell_of_row w g _ cur e (0, 0) hh]; simp; omega) (fun j _ => blk_frozen hh _) h1
  simp [Builtin.copy_, run_underlying ht, Builtin.lenOf, Builtin.firstCells, sizeOf, typeInfo, hi, ← hn, hl, hst]
theorem clear_own_run {w : World} {t ty e : TypeId} {z : Value} (ht : P.underlying t = some (.slice e)) (hv : ∀ w, (zeroValue e).run P w = .ok z w) {g o n c : Nat} {cur : Array Value} (hh : w.heap[g]? = some (.cells cur e (0, 0)))
    (h1 : ∀ u ∈ (Builtin.zeroCells z.cells n).toList, u.oneCell' = true) (hn : 0 < n) (hroom : o + (Builtin.zeroCells z.cells n).toList.length ≤ cur.size) :
    (Builtin.clear_ #[t] ty #[.slice (some ⟨g, o, none⟩) n c]).run P w = .ok (.tuple #[]) (w.setCells g o (Builtin.zeroCells z.cells n).toList) := by
  have hst := run_storeCells_cells (P := P) g o (Builtin.zeroCells z.cells n).toList 0 w (fun j hj => by rw [cell_of_row w g _ cur e (0, 0) hh]; simp; omega) (fun j _ => blk_frozen hh _) h1
  simp only [Nat.add_zero] at hst
  obtain ⟨m, rfl⟩ : ∃ m, n = m + 1 := ⟨n - 1, by omega⟩
  simp [Builtin.clear_, run_underlying ht, hv, hst]
theorem zeroCells_one {z : Array Value} {n : Nat} (hz : 0 < z.size) (h : ∀ u ∈ z.toList, u.oneCell' = true) : ∀ u ∈ (Builtin.zeroCells z n).toList, u.oneCell' = true := by
  intro u hu
  unfold Builtin.zeroCells at hu
  rw [Array.toList_map, List.mem_map] at hu
  obtain ⟨i, _, rfl⟩ := hu
  have hm : i % z.size < z.size := Nat.mod_lt _ hz
  rw [getElem!_pos z _ hm]
  exact h _ (by simp)
/-- slices.overlaps: two blocks; the second one's is a row of one's own. -/
theorem overlaps_own_run {w : World} {tS tR e : TypeId} (ht : P.underlying tS = some (.slice e)) {size : Nat} (hz : ∀ w, (Go.sizeOf e).run P w = .ok size w) {a b : Addr} {la ca lb cb : Nat} (hne : a.block ≠ b.block) {cur : Array Value} (hb : w.heap[b.block]? = some (.cells cur e (0, 0))) (hcur : 0 < cur.size) {u : Value} (ha : w.cell? a = some u) :
    (Extern.SlicesOverlaps.overlaps #[tS, tS] #[tR] #[.slice (some a) la ca, .slice (some b) lb cb]).run P w = .ok (.bool false) w := by
  have hnb : (a.block != b.block) = true := by simpa using hne
  have hnb' : (a.block == b.block) = false := by simpa using hne
  have hsb : w.shape? b.block = some (e, cur.size) := by simp [World.shape?, hb]
  have hfb : ∀ o, w.frozen? ⟨b.block, o, none⟩ = false := fun o => by simp only [World.frozen?, hb]; simp
  have hfb' : w.frozen? b = false := by simp only [World.frozen?, hb]; simp
  obtain ⟨tA, kA, hsa⟩ : ∃ tA kA, w.shape? a.block = some (tA, kA + 1) := by
    unfold World.cell? at ha
    unfold World.shape?
    cases hx : w.heap[a.block]? with
    | none => rw [hx] at ha; cases ha
    | some o =>
      rw [hx] at ha
      cases o with
      | cells cc t fz =>
        have h0 : 0 < cc.size := by
          by_cases hs : a.spot.isSome = true
          · simp [hs] at ha
          · simp only [hs] at ha
            have := (Array.getElem?_eq_some_iff.1 ha).1
            omega
        exact ⟨t, cc.size - 1, by simp; omega⟩
      | _ => cases ha
  change Sem.run P (α := Value) (do
    let some t := (#[tS, tS] : Array TypeId)[0]? | stuck "slices.overlaps: no parameter types"
    let .slice elem ← underlying t | stuck "slices.overlaps: slice type expected"
    let size ← sizeOf elem
    match (some a : Option Addr), (some b : Option Addr) with
    | some a, some b =>
      if la = 0 ∨ lb = 0 ∨ size = 0 then pure (Value.bool false)
      else if a.block != b.block && (← frozen a) && (← frozen b) then unsupported .addressObserved
      else do
        if a.block != b.block then do
          noView a; noView b
          if ← mayBeOne a b then return Value.bool ((← choose (.extern "sameAddr.stringBytes" 2)) == 1)
        pure (Value.bool (a.block == b.block && a.off < b.off + lb * size && b.off < a.off + la * size))
    | _, _ => pure (Value.bool false)) w = _
  by_cases h0 : la = 0 ∨ lb = 0 ∨ size = 0
  · simp [run_underlying ht, hz, h0]
  · obtain ⟨kB, hkB⟩ : ∃ kB, cur.size = kB + 1 := ⟨cur.size - 1, by omega⟩
    rw [hkB] at hsb
    cases hfa : w.frozen? a <;> cases hfe : w.frozen? { block := a.block, off := kA + 1 } <;> simp [run_underlying ht, hz, h0, hnb, hnb', frozen, noView, viewAt, mayBeOne, stringish, shape, Sem.run, hsa, hsb, hfa, hfe, hfb, hfb']
end
section
variable {P : Program} {ops : Array Oper} {rest : List Oper} {o : Oper} {a : Act} {Q : Exit → Act → World → Prop} {Kc : Act → World → Prop}
theorem gone_copy {W w' : World} (hgd : o.guard = none) (d s : Operand) (t t' : TypeId) (ho : o.op = .call { callee := .builtin .copy, args := #[d, s], argTypes := #[t, t'] }) {v u v' : Value} (hd : a.eval d = v) (hs : a.eval s = u)
    (hr : (Builtin.copy_ #[t, t'] o.type #[v, u]).run P W = .ok v' w') (h : wpList P ops Q rest (a.put o.dst v') w') : wpList P ops Q (o :: rest) a W := by
  refine wpList_plain hgd fun K hK => ?_
  unfold Oper.wp execOp
  simp only [ho, resolve, invoke, builtin, Sem.run_bind, Sem.run_pure, Result.andThen_ok, List.map_toArray, List.map_cons, List.map_nil, hd, hs, hr]
  exact hK _ _ h
theorem gone_append {W w' : World} (hgd : o.guard = none) (d s : Operand) (t t' : TypeId) (ho : o.op = .call { callee := .builtin .append, args := #[d, s], argTypes := #[t, t'] }) {v u v' : Value} (hd : a.eval d = v) (hs : a.eval s = u)
    (hr : (Builtin.append_ #[t, t'] o.type #[v, u]).run P W = .ok v' w') (h : wpList P ops Q rest (a.put o.dst v') w') : wpList P ops Q (o :: rest) a W := by
  refine wpList_plain hgd fun K hK => ?_
  unfold Oper.wp execOp
  simp only [ho, resolve, invoke, builtin, Sem.run_bind, Sem.run_pure, Result.andThen_ok, List.map_toArray, List.map_cons, List.map_nil, hd, hs, hr]
  exact hK _ _ h
theorem gone_clear {W w' : World} (hgd : o.guard = none) (d : Operand) (t : TypeId) (ho : o.op = .call { callee := .builtin .clear, args := #[d], argTypes := #[t] }) {v v' : Value} (hd : a.eval d = v)
    (hr : (Builtin.clear_ #[t] o.type #[v]).run P W = .ok v' w') (h : wpList P ops Q rest (a.put o.dst v') w') : wpList P ops Q (o :: rest) a W := by
  refine wpList_plain hgd fun K hK => ?_
  unfold Oper.wp execOp
  simp only [ho, resolve, invoke, builtin, Sem.run_bind, Sem.run_pure, Result.andThen_ok, List.map_toArray, List.map_cons, List.map_nil, hd, hr]
  exact hK _ _ h
theorem step_copy {W w' : World} {E : Prop} (hgd : o.guard = none) (d s : Operand) (t t' : TypeId) (ho : o.op = .call { callee := .builtin .copy, args := #[d, s], argTypes := #[t, t'] }) {v u v' : Value} (hd : a.eval d = v) (hs : a.eval s = u)
    (hr : (Builtin.copy_ #[t, t'] o.type #[v, u]).run P W = .ok v' w') (h : Kc (a.put o.dst v') w') : if Region.wanted o (yielded ops a.tmps) = true then Oper.wp P o a W Kc Q else E := by
  have hw : Region.wanted o (yielded ops a.tmps) = true := by simp [Region.wanted, hgd]
  rw [if_pos hw]
  unfold Oper.wp execOp
  simp only [ho, resolve, invoke, builtin, Sem.run_bind, Sem.run_pure, Result.andThen_ok, List.map_toArray, List.map_cons, List.map_nil, hd, hs, hr]
  exact h
theorem step_append {W w' : World} {E : Prop} (hgd : o.guard = none) (d s : Operand) (t t' : TypeId) (ho : o.op = .call { callee := .builtin .append, args := #[d, s], argTypes := #[t, t'] }) {v u v' : Value} (hd : a.eval d = v) (hs : a.eval s = u)
    (hr : (Builtin.append_ #[t, t'] o.type #[v, u]).run P W = .ok v' w') (h : Kc (a.put o.dst v') w') : if Region.wanted o (yielded ops a.tmps) = true then Oper.wp P o a W Kc Q else E := by
  have hw : Region.wanted o (yielded ops a.tmps) = true := by simp [Region.wanted, hgd]
  rw [if_pos hw]
  unfold Oper.wp execOp
  simp only [ho, resolve, invoke, builtin, Sem.run_bind, Sem.run_pure, Result.andThen_ok, List.map_toArray, List.map_cons, List.map_nil, hd, hs, hr]
  exact h
end
section
variable {P : Program} {α : Type}
end
section
variable {P : Program} {md : Region.Mode} {ops : Array Oper} {Q : Exit → Act → World → Prop} {S : World → Prop} {ds : List Nat}
/-- So many that have come up, so many that have not. -/
abbrev tf (a b : Nat) : Array Bool := (List.replicate a true ++ List.replicate b false).toArray
/-- One operation of a region that draws, taken as it stands. -/
theorem p1_ {oi : Oper} {v : Value} {fuel : Nat} {l : Array Bool} {a a' : Act} {w : World} {T : Bool × List (List Nat × List Nat)} (i : Nat) (N : Option Tmp) (l' : Array Bool) (hT : rtab md ops = T) (h : wpAnyLast P md ops Q S ds fuel l' a' w)
    (hi : ops[i]? = some oi := by rfl) (hN : oi.dst = N := by rfl) (hc : anyT T l.toList l'.toList i = true := by kernel_rfl) (hQ : ∀ c a w, Q (.panic c) (a.put oi.dst v) w → Q (.panic c) a w := by exact fun _ _ _ h => h)
    (hg : Region.wanted oi (yielded ops a.tmps) = true := by rfl) (hy : ∀ w, (execOp a.eval oi).run P w = .ok (.value v) w := by (intro w'; go_simp; with_reducible rfl))
    (ha : a.put N v = a' := by (simp only [Act.put, List.setIfInBounds_toArray, List.set_cons_zero, List.set_cons_succ, i64_w, i32_w]; rfl)) : wpAnyLast P md ops Q S ds (fuel + 1) l a w :=
  pure_ l' hi hN (any_of hT hc) hQ (Or.inl ⟨hg, hy⟩) ha h
/-- .. one that isn't wanted. -/
theorem p2_ {oi : Oper} {fuel : Nat} {l : Array Bool} {a a' : Act} {w : World} {T : Bool × List (List Nat × List Nat)} (i : Nat) (N : Option Tmp) (l' : Array Bool) (hT : rtab md ops = T) (h : wpAnyLast P md ops Q S ds fuel l' a' w)
    (hi : ops[i]? = some oi := by rfl) (hN : oi.dst = N := by rfl) (hc : anyT T l.toList l'.toList i = true := by kernel_rfl) (hQ : ∀ c a w, Q (.panic c) (a.put oi.dst undef) w → Q (.panic c) a w := by exact fun _ _ _ h => h)
    (hg : Region.wanted oi (yielded ops a.tmps) = false := by rfl)
    (ha : a.put N undef = a' := by (simp only [Act.put, List.setIfInBounds_toArray, List.set_cons_zero, List.set_cons_succ, i64_w, i32_w]; rfl)) : wpAnyLast P md ops Q S ds (fuel + 1) l a w :=
  pure_ l' hi hN (any_of hT hc) hQ (Or.inr ⟨hg, rfl⟩) ha h
end
end Go.Proofs.YtfnndcpaldkkoaaW.PrintMore
