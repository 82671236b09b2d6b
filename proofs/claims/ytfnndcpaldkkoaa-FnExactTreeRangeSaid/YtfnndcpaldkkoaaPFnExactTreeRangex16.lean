-- Written by a program of this session, which goes by the kit's print. Not trusted: Lean checks it.
import Derived.Test.YtfnndcpaldkkoaaPFnExactTreeRangex0
import Derived.Test.YtfnndcpaldkkoaaPFnExactTreeRangex12
import Derived.Test.YtfnndcpaldkkoaaPFnExactTreeRangex13
import Derived.Test.YtfnndcpaldkkoaaPFnExactTreeRangex15
namespace Go.Proofs.Ytfnndcpaldkkoaa.PFnExactTreeRange
open Go.RowKit Go.Proofs.YtfnndcpaldkkoaaW.PrintWords Go.Proofs.YtfnndcpaldkkoaaW.PrintLast Go.Proofs.YtfnndcpaldkkoaaW.PrintMore
attribute [local go_sem] Instr.field asAgg max2_int min2_int max_two min_two max_three min_three max_four min_four   -- for this text's walks alone
set_option linter.unusedVariables false
set_option linter.unusedSimpArgs false

/-! ### impl_changed: function 114 -/
mutual
def impl_changed.j0 : Nat → List (S92) → Int → Bool → Int → Bool → Int → Int → Int → Option ((List (S92)))
 | 0, _, _, _, _, _, _, _, _ => none
 | k + 1, x0, x5, x6, x7, x22, x383000, x383001, x383002 => if x22 = true then ((slices_Delete_Pair.f x0 x5 (wrap64 (x5 + 1))).bind fun t385 => (some t385)) else (if x383000 = 2 then (some x0) else (if x383000 = 3 then (impl_changed.j1 k x0 x5 x6 x7 x6 x383000 x383001 x383002) else (impl_changed.j1 k x0 x5 x6 x7 false x383000 x383001 x383002)))
def impl_changed.j1 : Nat → List (S92) → Int → Bool → Int → Bool → Int → Int → Int → Option ((List (S92)))
 | 0, _, _, _, _, _, _, _, _ => none
 | k + 1, x0, x5, x6, x7, x39, x383000, x383001, x383002 => if x39 = true then (if 0 ≤ x5 then (if x5 < (x0.length : Int) then ((impl_limited.f (wrap64 (((rd_T92 x0 x5).f1) + x383002))).bind fun t389 => (if x6 = true then (some (x0.set (x5 : Int).toNat (⟨(rd_T92 x0 x5).f0, t389⟩ : S92))) else ((slices_Insert_Pair.f x0 x5 (([(⟨x383001, t389⟩ : S92)] : List (S92)))).bind fun t394 => (some t394)))) else (none)) else (none)) else (if x6 = true then (if 0 ≤ x5 then (if x5 < (x0.length : Int) then (some (x0.set (x5 : Int).toNat (⟨(rd_T92 x0 x5).f0, x7⟩ : S92))) else (none)) else (none)) else ((slices_Insert_Pair.f x0 x5 (([(⟨x383001, x7⟩ : S92)] : List (S92)))).bind fun t401 => (some t401)))
end
def impl_changed.f (k : Nat) (l0 : List (S92)) (a1_0 : Int) (a1_1 : Int) (a1_2 : Int) : Option ((List (S92))) := (slices_BinarySearchFunc_Pair_133.f k l0 a1_1).bind fun bt383 => (if a1_0 = 4 then (some l0) else (if a1_0 = 2 then (impl_changed.j0 k l0 bt383.1 bt383.2 a1_2 bt383.2 a1_0 a1_1 a1_2) else (impl_changed.j0 k l0 bt383.1 bt383.2 a1_2 false a1_0 a1_1 a1_2)))
theorem impl_changed.mono_l : ∀ k, (∀ y0 y1 y2 y3 y4 y5 y6 y7, LeO (impl_changed.j0 k y0 y1 y2 y3 y4 y5 y6 y7) (impl_changed.j0 (k + 1) y0 y1 y2 y3 y4 y5 y6 y7)) ∧ (∀ y0 y1 y2 y3 y4 y5 y6 y7, LeO (impl_changed.j1 k y0 y1 y2 y3 y4 y5 y6 y7) (impl_changed.j1 (k + 1) y0 y1 y2 y3 y4 y5 y6 y7))
 | 0 => ⟨fun _ _ _ _ _ _ _ _ r h => by simp [impl_changed.j0] at h, fun _ _ _ _ _ _ _ _ r h => by simp [impl_changed.j1] at h⟩
 | k + 1 => by
  obtain ⟨ih0, ih1⟩ := impl_changed.mono_l k
  refine ⟨?_, ?_⟩
  ·intro y0 y1 y2 y3 y4 y5 y6 y7
   unfold impl_changed.j0
   have m0 := @slices_BinarySearchFunc_Pair_133.mono
   exact zm_
  ·intro y0 y1 y2 y3 y4 y5 y6 y7
   unfold impl_changed.j1
   have m0 := @slices_BinarySearchFunc_Pair_133.mono
   exact zm_
theorem impl_changed.mono : ∀ a0 a1 a2 a3 k, LeO (impl_changed.f k a0 a1 a2 a3) (impl_changed.f (k + 1) a0 a1 a2 a3) := by
 intro a0 a1 a2 a3 k
 obtain ⟨ih0, ih1⟩ := impl_changed.mono_l k
 unfold impl_changed.f
 have m0 := @slices_BinarySearchFunc_Pair_133.mono
 exact zm_
def impl_changed.T10 : Bool × List (List Nat × List Nat) := (true, [([], []), ([], []), ([0, 1], [0, 1]), ([2], [2]), ([3], [3]), ([], []), ([5], [5]), ([4, 6], [4, 6]), ([7], [7]), ([8, 8, 0, 1, 2, 3, 4, 5, 6, 7, 8], [8])])
def impl_changed.B10 : List Nat := [0, 0, 3, 7, 15, 0, 32, 127, 255, 511]
theorem impl_changed.tab10 : rtab .any (opsOf Try.f114 10) = impl_changed.T10 := by kernel_rfl
theorem impl_changed.bits10 : waitsOk impl_changed.T10.2 impl_changed.B10 = true := by kernel_rfl
set_option maxHeartbeats 8000000 in
set_option maxRecDepth 100000 in
theorem impl_changed.calls (k : Nat) (P0_ : Nat → Prop) (u9000_ : Value) (l0 : List (S92)) (a1_0 : Int) (a1_1 : Int) (a1_2 : Int) (r : List (S92)) (w0 w : World) (hB : Below w0.heap.size w0 w) (ho0 : Kd.R k92 92 w w0.heap.size P0_ u9000_ l0) (h : impl_changed.f k l0 a1_0 a1_1 a1_2 = some r) :
  Calls Try.prog 114 #[u9000_, .agg #[.int .i64 a1_0, .int .i64 a1_1, .int .i64 a1_2]] w fun e w' => ∃ v0_ : Value, e = .returned (v0_) ∧ Kd.R k92 92 w' w0.heap.size (fun k_ => (P0_ k_ ∨ w.heap.size ≤ k_)) v0_ r ∧ Below w0.heap.size w0 w' ∧ Kept w w' (fun k_ => P0_ k_) := by
 have hu72 := Try.underlying72
 have hu92 := Try.underlying92
 have HO0 := q_ (show Kd.R k92 92 w w0.heap.size (fun k_ => (P0_ k_ ∨ w.heap.size ≤ k_)) u9000_ l0 from Kd.R_mono ho0 (fun k_ hk => (.inl hk)))
 have HK := q_ (Kept.refl w (fun k_ => P0_ k_))
 have HW0 := q_ hB.size
 have HB := q_ hB
 clear hB
 have H := h; clear h
 unfold impl_changed.f at H
 replace H := bi_ H; obtain ⟨⟨t383, t384⟩, A3, H⟩ := H
 (try dsimp only at H)
 have HC4 := q_ H
 clear H
 go_enter Try.func114, Try.ntmps114
 go_upto_if 17 with (first | ((with_reducible refine gate_dst (N := 3) rfl ?_); refine box_event ?hg (N := 3) ?hd (cs := #[.int .i64 a1_0, .int .i64 a1_1, .int .i64 a1_2]) (t := 72) ?hr ?_; (case hd => rfl); (case hg => rfl); (case hr => exact z95_); intro gb382 hg w5 hbox hb; replace HO0 := q_ (Kd.R_below z24_ hb); have BK382 := q_ (hbox); have GW382 := q_ ((by rw [hg]; exact z93_ : w.heap.size ≤ gb382)); replace HK := q_ (Kept.below (S := (fun k_ => P0_ k_)) z5_ hb); have GE382 := q_ ((by rw [hg]; exact (below_size cb_) : w0.heap.size ≤ gb382)); replace HB := hb_ hb; clear hb hbox hg; obtain ⟨hz_, hz_, hz_, hz_, hz_, hz_⟩ := cs3_ BK382.out; obtain ⟨Ao7, co7, eo7⟩ := Kd.R_slice HO0.out; subst eo7) | ((with_reducible refine gate_callee (f := 132) rfl ?_); refine goesL_ (some 12) rfl rfl Try.func132 (by kernel_rfl) rfl #[.slice Ao7 l0.length co7, .int .i64 a1_1, .func (.func 133) #[] #[]] rfl z0_ ?_; (with_reducible refine (slices_BinarySearchFunc_Pair_133.calls k _ _ l0 a1_1  t383 t384 _ ?side1 ?side2 A3.out).mono ?_); (case side1 => repeat (first | exact (Kd.R_reads' HO0.out).2.2 | (with_reducible refine Kd.C_alloc ?_ _) | (with_reducible refine Kd.C_drewN ?_ _) | (with_reducible refine Kd.C_drew ?_))); (case side2 => exact (Kd.R_reads' HO0.out).2.1); rintro e w8 ⟨rfl, hb⟩; refine ⟨_, rfl, ?_⟩; replace HO0 := q_ (Kd.R_below z24_ hb); replace BK382 := rb_ BK382 hb; replace HK := q_ (Kept.below (S := (fun k_ => P0_ k_)) z14_ hb); replace HB := hb_ hb; (try clear hb); (try clear hb2); (try clear hk); (try clear hi); obtain ⟨hz_, hz_, hz_, hz_, hz_, hz_⟩ := cs3_ BK382.out))
 (try simp only [Act.put, List.setIfInBounds_toArray, List.set_cons_zero, List.set_cons_succ])
 have H := HC4.out
 clear HC4
 replace H := ke_ H; rcases H with ⟨c10b0, c10b1, H⟩ | ⟨c10, c10b0, c10b1, H⟩
 ·(first | rw [c10b0] | rw [c10b1] | (simp only [i64_w, i32_w]; first | rw [c10b0] | rw [c10b1]) | rw [c10b2] | skip)
  obtain rfl := si_ H
  go_wp2
  go_ret
  exact ⟨_, z2_, z24_, cb_, z14_⟩
 ·(first | rw [c10b0] | rw [c10b1] | (simp only [i64_w, i32_w]; first | rw [c10b0] | rw [c10b1]) | rw [c10b2] | skip)
  have HC11 := q_ H
  clear H
  go_upto_region 5 with (fail)
  go_cut [22] (fun v22 wc => ∃ (kq : Nat) (x22_10 : Bool), v22 = .bool x22_10 ∧ Aside0 (impl_changed.j0 kq l0 t383 t384 a1_2 x22_10 a1_0 a1_1 a1_2 = some r) ∧ Aside0 (kq ≤ k) ∧ Aside0 (Kd.R k92 92 wc w0.heap.size (fun k_ => (P0_ k_ ∨ w.heap.size ≤ k_)) (.slice Ao7 l0.length co7) l0) ∧ Aside0 (wc.heap[gb382]? = some (.cells #[.int .i64 a1_0, .int .i64 a1_1, .int .i64 a1_2] 72 (0, 0))) ∧ Aside0 (Kept w wc (fun k_ => P0_ k_)) ∧ Aside0 (Below w0.heap.size w0 wc))
  case first =>
   have H := HC11.out
   clear HC11
   replace H := ke_ H; rcases H with ⟨c12b0, c12b1, H⟩ | ⟨c12, c12b0, c12b1, H⟩
   ·(first | rw [c12b0] | rw [c12b1] | (simp only [i64_w, i32_w]; first | rw [c12b0] | rw [c12b1]) | rw [c12b2] | skip)
    have H' := q_ H
    clear H
    obtain ⟨hz_, hz_, hz_, hz_, hz_, hz_⟩ := cs3_ BK382.out
    go_wp2
    go_meet
    case rel => exact ⟨_, (t384), z4_, H', ⟨z34_⟩, ⟨z24_⟩, ⟨z51_⟩, ⟨z14_⟩, ⟨cb_⟩⟩
   ·(first | rw [c12b0] | rw [c12b1] | (simp only [i64_w, i32_w]; first | rw [c12b0] | rw [c12b1]) | rw [c12b2] | skip)
    have H' := q_ H
    clear H
    obtain ⟨hz_, hz_, hz_, hz_, hz_, hz_⟩ := cs3_ BK382.out
    go_wp2
    go_meet
    case rel => exact ⟨_, (false), z4_, H', ⟨z34_⟩, ⟨z24_⟩, ⟨z51_⟩, ⟨z14_⟩, ⟨cb_⟩⟩
  case rest =>
   clear HC11
   try clear c1
   try clear p2
   try clear c10
   try clear c10b0
   try clear c10b1
   try clear c10b2
   try clear c11
   try clear c12
   try clear c12b0
   try clear c12b1
   try clear c12b2
   repeat clear hz_
   obtain ⟨kq, x22_10, rfl, HA, HJ10, HO_0, BK382, HK, HB⟩ := hcut
   obtain ⟨kj10, rfl, H⟩ := rn_ (k := kq) HA (by rintro rfl; simp only [impl_changed.j0])
   clear HA
   simp only [impl_changed.j0] at H
   replace H := kb_ H; rcases H with ⟨rfl, H⟩ | ⟨rfl, H⟩
   ·replace H := bi_ H; obtain ⟨t385, A16, H⟩ := H
    obtain rfl := si_ H
    go_wp2_with (first | ((with_reducible refine gate_callee (f := 134) rfl ?_); refine goesL_ (some 33) rfl rfl Try.func134 (by kernel_rfl) rfl #[.slice Ao7 l0.length co7, .int .i64 t383, .int .i64 (wrap64 (t383 + 1))] rfl z0_ ?_; (with_reducible refine (slices_Delete_Pair.calls (fun k_ => some k_ = (.slice Ao7 l0.length co7 : Value).ownBlock) (.slice Ao7 l0.length co7) l0 t383 (wrap64 (t383 + 1)) t385 w0 _ ?side1 ?side2 A16.out).mono ?_); (case side1 => exact z118_); (case side2 => exact Kd.R_tight rfl HO_0.out); rintro e w17 ⟨v386, rfl, ho0, hb, hkp⟩; refine ⟨_, rfl, ?_⟩; have HO387 := q_ (Kd.R_mono (ok' := fun k_ => (P0_ k_ ∨ w.heap.size ≤ k_)) ho0 (fun k_ hk_ => Or.elim hk_ (fun hs_ => (HO_0.out.1 k_ (hs_).symm)) (fun hn_ => (.inr (Nat.le_trans z93_ hn_))))); replace HK := q_ (Kept.then_ (S := (fun k_ => P0_ k_)) z5_ hkp (fun k_ hs_ => (fun e_ => (HO_0.out.1 k_ e_.symm)) hs_)); replace HB := q_ (hb); clear HO_0; (try clear hb); (try clear hkp); (try clear ho0)))
    go_ret
    exact ⟨_, z2_, by (with_reducible repeat (first | apply Kd.R_alloc | apply Kd.R_drewN | apply Kd.R_drew)); exact HO387.out, cb_, z5_⟩
   ·have HC18 := q_ H
    clear H
    obtain ⟨hz_, hz_, hz_, hz_, hz_, hz_⟩ := cs3_ BK382.out
    go_upto_if 34 with (fail)
    have H := HC18.out
    clear HC18
    replace H := ke_ H; rcases H with ⟨c20b0, c20b1, H⟩ | ⟨c20, c20b0, c20b1, H⟩
    ·(first | rw [c20b0] | rw [c20b1] | (simp only [i64_w, i32_w]; first | rw [c20b0] | rw [c20b1]) | rw [c20b2] | skip)
     obtain rfl := si_ H
     go_wp2
     go_ret
     exact ⟨_, z2_, z6_, cb_, z14_⟩
    ·(first | rw [c20b0] | rw [c20b1] | (simp only [i64_w, i32_w]; first | rw [c20b0] | rw [c20b1]) | rw [c20b2] | skip)
     have HC21 := q_ H
     clear H
     go_upto_region 9 with (fail)
     go_cut [39] (fun v39 wc => ∃ (kq : Nat) (x39_20 : Bool), v39 = .bool x39_20 ∧ Aside0 (impl_changed.j1 kq l0 t383 t384 a1_2 x39_20 a1_0 a1_1 a1_2 = some r) ∧ Aside0 (kq ≤ kj10) ∧ Aside0 (Kd.R k92 92 wc w0.heap.size (fun k_ => (P0_ k_ ∨ w.heap.size ≤ k_)) (.slice Ao7 l0.length co7) l0) ∧ Aside0 (wc.heap[gb382]? = some (.cells #[.int .i64 a1_0, .int .i64 a1_1, .int .i64 a1_2] 72 (0, 0))) ∧ Aside0 (Kept w wc (fun k_ => P0_ k_)) ∧ Aside0 (Below w0.heap.size w0 wc))
     case first =>
      have H := HC21.out
      clear HC21
      replace H := ke_ H; rcases H with ⟨c22b0, c22b1, H⟩ | ⟨c22, c22b0, c22b1, H⟩
      ·(first | rw [c22b0] | rw [c22b1] | (simp only [i64_w, i32_w]; first | rw [c22b0] | rw [c22b1]) | rw [c22b2] | skip)
       have H' := q_ H
       clear H
       obtain ⟨hz_, hz_, hz_, hz_, hz_, hz_⟩ := cs3_ BK382.out
       go_wp2
       go_meet
       case rel => exact ⟨_, (t384), z4_, H', ⟨z86_⟩, ⟨z6_⟩, ⟨z51_⟩, ⟨z14_⟩, ⟨cb_⟩⟩
      ·(first | rw [c22b0] | rw [c22b1] | (simp only [i64_w, i32_w]; first | rw [c22b0] | rw [c22b1]) | rw [c22b2] | skip)
       have H' := q_ H
       clear H
       obtain ⟨hz_, hz_, hz_, hz_, hz_, hz_⟩ := cs3_ BK382.out
       go_wp2
       go_meet
       case rel => exact ⟨_, (false), z4_, H', ⟨z86_⟩, ⟨z6_⟩, ⟨z51_⟩, ⟨z14_⟩, ⟨cb_⟩⟩
     case rest =>
      clear HC21
      try clear c1
      try clear c2
      try clear p2
      try clear p6
      try clear c10
      try clear c10b0
      try clear c10b1
      try clear c10b2
      try clear c11
      try clear c12
      try clear c12b0
      try clear c12b1
      try clear c12b2
      try clear c13
      try clear c15
      try clear c20
      try clear c20b0
      try clear c20b1
      try clear c20b2
      try clear c22
      try clear c22b0
      try clear c22b1
      try clear c22b2
      repeat clear hz_
      try clear p2
      obtain ⟨kq, x39_20, rfl, HA, HJ20, HO_0, BK382, HK, HB⟩ := hcut
      obtain ⟨kj20, rfl, H⟩ := rn_ (k := kq) HA (by rintro rfl; simp only [impl_changed.j1])
      clear HA
      simp only [impl_changed.j1] at H
      replace H := kb_ H; rcases H with ⟨rfl, H⟩ | ⟨rfl, H⟩
      ·replace H := kdn_ H; obtain ⟨c26b0, H⟩ := H
       replace H := kdn_ H; obtain ⟨c27b0, H⟩ := H
       replace H := bi_ H; obtain ⟨t389, A28, H⟩ := H
       have HC29 := q_ H
       clear H
       try go_wp2
       replace HO_0 := q_ (Kd.R_drew HO_0.out)
       replace BK382 := q_ (blk_drew BK382.out)
       replace HK := q_ (Kept.drew HK.out)
       replace HB := q_ (below_drew1 HB.out)
       have p388 : 0 ≤ (t383 : Int) := of_decide_eq_true z1_
       have q388 : t383 < (l0.length : Int) := of_decide_eq_true z1_
       obtain ⟨ad388, e388, hx388_0, hx388_1⟩ := at_T92 (Kd.R_reads' HO_0.out).2.2 t383 p388 q388
       cases e388
       replace p388 := eq_true p388
       replace q388 := eq_true q388
       refine start_ (n := 10) (S := fun w' => w'.cell? ⟨gb382, 0, none⟩ = some (.int .i64 a1_0) ∧ w'.cell? ⟨gb382, 1, none⟩ = some (.int .i64 a1_1) ∧ w'.cell? ⟨gb382, 2, none⟩ = some (.int .i64 a1_2) ∧ w'.cell? (ad388.add ((t383).toNat * 2)) = some (.int .i64 ((rd_T92 l0 t383).f0)) ∧ w'.cell? ⟨(ad388.add ((t383).toNat * 2)).block, (ad388.add ((t383).toNat * 2)).off + 1, none⟩ = some (.int .i64 ((rd_T92 l0 t383).f1))) (ds := []) (tf 0 10) (by kernel_rfl) rfl rfl ⟨(blk_cell BK382.out 0).trans rfl, (blk_cell BK382.out 1).trans rfl, (blk_cell BK382.out 2).trans rfl, hx388_0, hx388_1⟩ (fun hHeld => ?_); refine with_tabW impl_changed.tab10 impl_changed.bits10 (fun HT_ HW_ => ?_)
       generalize wc.drew = w30 at HO_0 BK382 HK HB hx388_0 hx388_1 hHeld ⊢
       refine p1_ 0 (some 46) (tf 1 9) HT_.out ?_
       refine p1_ 1 (some 47) (tf 2 8) HT_.out ?_
       refine p1_ 2 (some 48) (tf 3 7) HT_.out ?_
       refine p1_ 3 (some 49) (tf 4 6) HT_.out ?_
       refine p1_ 5 (some 51) #[true, true, true, true, false, true, false, false, false, false] HT_.out ?_
       refine take_ (i := 4) (N := some 50) (v := ?_) (a' := ?_) (tf 6 4) rfl rfl (take_ofW HT_.out HW_.out (by kernel_rfl)) (fun _ _ _ h => h) (Or.inl ⟨by rfl, ?_⟩) hHeld ?_ ?_
       rotate_left
       ·rintro w' ⟨s0, s1, s2, s3, s4⟩
        go_simp
        with_reducible rfl
       rotate_left
       ·simp only [Act.put, List.setIfInBounds_toArray, List.set_cons_zero, List.set_cons_succ, i64_w, i32_w]
        rfl
       refine take_ (i := 6) (N := some 52) (v := ?_) (a' := ?_) (tf 7 3) rfl rfl (take_ofW HT_.out HW_.out (by kernel_rfl)) (fun _ _ _ h => h) (Or.inl ⟨by rfl, ?_⟩) hHeld ?_ ?_
       rotate_left
       ·rintro w' ⟨s0, s1, s2, s3, s4⟩
        go_simp
        with_reducible rfl
       rotate_left
       ·simp only [Act.put, List.setIfInBounds_toArray, List.set_cons_zero, List.set_cons_succ, i64_w, i32_w]
        rfl
       refine p1_ 7 (some 53) (tf 8 2) HT_.out ?_
       refine one_ (i := 8) (N := some 54) (tf 9 1) rfl rfl (one_of HT_.out (by kernel_rfl)) (by decide) (fun K hK => ?_)
       refine goes_ Try.func135 (by kernel_rfl) rfl #[.int .i64 (wrap64 (((rd_T92 l0 t383).f1) + a1_2))] (by rfl) rfl rfl z0_ ?_
       with_reducible refine (impl_limited.calls (wrap64 (((rd_T92 l0 t383).f1) + a1_2)) t389 _ A28.out).mono ?_
       rintro e w31 ⟨rfl, hb⟩
       have HS3_ := (hb.cell (World.block_lt_of_cell? _ _ (hHeld.2.2.2.1))).trans (hHeld.2.2.2.1)
       have HS4_ := (hb.cell (World.block_lt_of_cell? _ _ (hHeld.2.2.2.2))).trans (hHeld.2.2.2.2)
       refine ⟨_, rfl, ?_⟩
       replace HO_0 := q_ (Kd.R_below z6_ hb)
       replace BK382 := rb_ BK382 hb
       replace HK := q_ (Kept.below (S := (fun k_ => P0_ k_)) z14_ hb)
       replace HB := hb_ hb
       (try clear hb)
       (try clear hb2)
       (try clear hk)
       (try clear hi)
       refine hK.out _ _ ⟨(blk_cell BK382.out 0).trans rfl, (blk_cell BK382.out 1).trans rfl, (blk_cell BK382.out 2).trans rfl, HS3_, HS4_⟩ (fun hHeld => ?_)
       clear hK K
       refine norm_ (a' := ?_) ?_ ?_
       rotate_left
       ·show Act.put _ (some 54) _ = _
        simp only [Act.put, List.setIfInBounds_toArray, List.set_cons_zero, List.set_cons_succ, i64_w, i32_w]
        rfl
       refine p1_ 9 (some 7) (tf 10 0) HT_.out ?_
       refine done_ (done_of HT_.out (by kernel_rfl)) ?_
       go_upto_if 55 with (fail)
       have H := HC29.out
       clear HC29
       replace H := kb_ H; rcases H with ⟨rfl, H⟩ | ⟨rfl, H⟩
       ·obtain ⟨y390, hy_⟩ : ∃ y_ : List (S92), y_ = (l0.set (t383 : Int).toNat (⟨(rd_T92 l0 t383).f0, t389⟩ : S92)) := ⟨_, rfl⟩
        replace H : (some y390) = some r := z3_
        have Ny390 := q_ hy_
        clear hy_
        obtain rfl := si_ H
        have p33 : 0 ≤ (t383 : Int) := of_decide_eq_true z1_
        have q33 : (t383 : Int) < ((l0.length : Int) : Int) := of_decide_eq_true z1_
        obtain ⟨go33, co33, eo33, gb33, gl33, cl33, HG33⟩ := Kd.R_form HO_0.out (by omega)
        (first | cases eo33 | (injection eo33 with ea_ en_ ec_; (first | subst ea_ | (injection ea_ with ea_; subst ea_)); subst ec_; clear en_))
        have GB33 := q_ gb33
        have GG33 := q_ HG33
        clear gb33 gl33 HG33
        have HMgo33 := q_ (show (P0_ go33 ∨ w.heap.size ≤ go33) from (HO_0.out.1 _ rfl))
        (first | simp only [add_plain] at hx388_0 | skip)
        (first | simp only [add_plain] at hx388_1 | skip)
        obtain ⟨ce33, hcl33, hM33, hcc33, hfr33⟩ := Kd.R_elem HO_0.out z92 (t383 : Int) p33 q33
        obtain rfl := k92_openM hM33
        have hx33_0 : w31.cell? ⟨go33, (t383 : Int).toNat * 2, none⟩ = some (.int .i64 ((rd_T92 l0 t383).f0)) := hcc33 0 _ rfl
        have hx33_1 : w31.cell? ⟨go33, (t383 : Int).toNat * 2 + 1, none⟩ = some (.int .i64 ((rd_T92 l0 t383).f1)) := hcc33 1 _ rfl
        have hf33_0 : w31.frozen? ⟨go33, (t383 : Int).toNat * 2, none⟩ = false := hfr33 0
        have hf33_1 : w31.frozen? ⟨go33, (t383 : Int).toNat * 2 + 1, none⟩ = false := hfr33 1
        clear hcl33 hcc33 hfr33 hM33
        replace p33 := eq_true p33
        replace q33 := eq_true q33
        have HX34 := q_ (show Kd.R k92 92 w31 w0.heap.size (fun k_ => (P0_ k_ ∨ w.heap.size ≤ k_)) (.slice (some ⟨go33, 0, none⟩) l0.length co7) l0 from z6_)
        obtain ⟨ce34, hcl34, hM34, hcc34, hfr34⟩ := Kd.R_elem HX34.out z92 (t383 : Int) (of_decide_eq_true z1_) z92_
        obtain rfl := k92_openM hM34
        have HP34 := Kd.R_seg HX34.out (t383 : Int) (of_decide_eq_true z1_) z92_ (seg := [.int .i64 t389]) (j := 1) hcl34 hcc34 (show 2 ≤ 2 from by decide) (x' := (⟨(rd_T92 l0 t383).f0, t389⟩ : S92)) (k92_mkM _ _ _ (⟨(rd_T92 l0 t383).f0, t389⟩ : S92) ) (fun _ hk => hk)
        have hx34_1 := hcc34 1 _ rfl
        (try simp only [show (k92).sz = 2 from rfl, Nat.mul_one, Nat.add_zero] at hx34_1)
        have hf34_1 := hfr34 1
        (try simp only [show (k92).sz = 2 from rfl, Nat.mul_one, Nat.add_zero] at hf34_1)
        clear hcl34 hcc34 hfr34 hM34
        go_wp2_with (first | ((with_reducible refine gate_store (t := 3) (p := 60) rfl ?_); refine store_event (t := 3) (p := 60) (v := ?vo_w35) (w1 := (w31.setCell ⟨go33, (t383 : Int).toNat * 2 + 1, none⟩ (.int .i64 t389))) ?hg ?ho ?hn ?hr ?_; (case ho => rfl); (case hg => rfl); (case hn => rfl); (case hr => exact z95_); intro w35 hw; have hg : w31.grownBy w35 (some go33) := (by rw [hw]; exact HP34.2); have hp_ : Kd.R k92 92 w35 w0.heap.size (fun k_ => (P0_ k_ ∨ w.heap.size ≤ k_)) (.slice (some ⟨go33, 0, none⟩) l0.length co7) y390 := (by rw [hw, Ny390.out]; exact HP34.1); clear HP34; replace HB := q_ ((by rw [hw]; exact below_set (HB.out) GB33.out : Below w0.heap.size w0 w35)); replace HK := q_ (Kept.of_grown (S := (fun k_ => P0_ k_)) hg z5_ (fun k_ e_ => (HO_0.out.1 k_ e_))); replace HO_0 := q_ (hp_); clear hg hw hp_))
        go_ret
        exact ⟨_, z2_, z6_, cb_, z5_⟩
       ·obtain ⟨y391, hy_⟩ : ∃ y_ : List (S92), y_ = (([(⟨a1_1, t389⟩ : S92)] : List (S92))) := ⟨_, rfl⟩
        replace H : ((slices_Insert_Pair.f l0 t383 y391).bind fun t394 => (some t394)) = some r := z3_
        have Ny391 := q_ hy_
        clear hy_
        replace H := bi_ H; obtain ⟨t394, A36, H⟩ := H
        obtain rfl := si_ H
        obtain ⟨hz_, hz_, hz_, hz_, hz_, hz_⟩ := cs3_ BK382.out
        go_wp2_with (first | ((with_reducible refine gate_dst (N := 68) rfl ?_); refine Kd.R_lit k92 _ 92 ?hg (N := 68) ?hd (xs := ([(⟨a1_1, t389⟩ : S92)] : List (S92))) (inner := [.int .i64 a1_1, .int .i64 t389]) (ok := fun _ => True) (okp := fun _ => True) ?hr ?hp (fun _ hk => hk) trivial (Below.refl _ _) (Nat.le_refl _) (by simp) ?_; (case hd => rfl); (case hg => rfl); (case hr => exact z95_); (case hp => exact (Reps.c2 (show Kd.M k92 _ _ _ (⟨a1_1, t389⟩ : S92) [.int .i64 a1_1, .int .i64 t389] from (k92_mkM _ _ _ (⟨a1_1, t389⟩ : S92) )) (Reps.none _ _))); intro v392 w38 ho39 hb hg_ hnew_; clear hg_ hnew_; (first | rw [← Ny391.out] at ho39 | (simp only [Int.reduceToNat] at ho39; rw [← Ny391.out] at ho39)); have HO393 := q_ (Kd.R_lower (Kd.R_new' (Kd.R_newM (M := fun k_ => (P0_ k_ ∨ w.heap.size ≤ k_)) ho39 z93_ (fun k_ h_ => .inr h_)) (Kd.R_lt z6_)) (below_size cb_)); replace HO_0 := q_ (Kd.R_elder' z6_ (Kd.R_base ho39) hb); replace HK := q_ (Kept.below (S := (fun k_ => P0_ k_)) z5_ hb); replace HB := hb_ hb; clear hb ho39; obtain ⟨Ao40, co40, eo40⟩ := Kd.R_slice HO393.out; subst eo40) | ((with_reducible refine gate_callee (f := 136) rfl ?_); refine goesL_ (some 69) rfl rfl Try.func136 (by kernel_rfl) rfl #[.slice (some ad388) l0.length co7, .int .i64 t383, .slice Ao40 y391.length co40] rfl z0_ ?_; (with_reducible refine (slices_Insert_Pair.calls (fun k_ => some k_ = (.slice (some ad388) l0.length co7 : Value).ownBlock) (.slice (some ad388) l0.length co7) l0 t383 _ _ y391 t394 w0 _ ?side1 ?side2 ?side3 ?side4 A36.out).mono ?_); (case side1 => exact z118_); (case side2 => exact Kd.R_tight rfl HO_0.out); (case side3 => exact Kd.C_kept_own (HO393.out) (fun k_ hk_ hs_ => (hk_.2) hs_)); (case side4 => exact (Kd.R_reads' HO393.out).2.1); rintro e w41 ⟨v395, rfl, ho0, hb, hkp⟩; refine ⟨_, rfl, ?_⟩; have HO396 := q_ (Kd.R_mono (ok' := fun k_ => (P0_ k_ ∨ w.heap.size ≤ k_) ∧ some k_ ≠ (.slice Ao40 y391.length co40 : Value).ownBlock) ho0 (fun k_ hk_ => ⟨Or.elim hk_ (fun hs_ => (HO_0.out.1 k_ (hs_).symm).1) (fun hn_ => (.inr (Nat.le_trans z93_ hn_))), Or.elim hk_ (fun hs_ => fun e_ => (((HO393.out).1 k_ e_.symm).2) hs_) (fun hn_ => (Kd.fresh' (Kd.R_lt (by (with_reducible repeat (first | apply Kd.R_alloc | apply Kd.R_drewN | apply Kd.R_drew)); exact HO393.out)) k_ hn_))⟩)); replace HO393 := q_ (Kd.R_mono (ok' := fun k_ => (P0_ k_ ∨ w.heap.size ≤ k_) ∧ some k_ ≠ (v395 : Value).ownBlock) (Kd.R_keptB (HO393.out) hkp (fun k_ hk_ hs_ => (hk_.2) hs_)) (fun k_ hk_ => ⟨hk_.1.1.1, fun e_ => Or.elim (ho0.1 k_ e_.symm) (fun hs_ => hk_.2.1 hs_) (fun hn_ => Nat.not_le.2 hk_.2.2 hn_)⟩)); replace HK := q_ (Kept.then_ (S := (fun k_ => P0_ k_)) z5_ hkp (fun k_ hs_ => (fun e_ => (HO_0.out.1 k_ e_.symm).1) hs_)); replace HB := q_ (hb); clear HO_0; (try clear hb); (try clear hkp); (try clear ho0)))
        go_ret
        exact ⟨_, z2_, by (with_reducible repeat (first | apply Kd.R_alloc | apply Kd.R_drewN | apply Kd.R_drew)); exact Kd.R_mono HO396.out (fun _ hk => hk.1), cb_, z5_⟩
      ·replace H := kb_ H; rcases H with ⟨rfl, H⟩ | ⟨rfl, H⟩
       ·replace H := kdn_ H; obtain ⟨c43b0, H⟩ := H
        replace H := kdn_ H; obtain ⟨c44b0, H⟩ := H
        obtain ⟨y397, hy_⟩ : ∃ y_ : List (S92), y_ = (l0.set (t383 : Int).toNat (⟨(rd_T92 l0 t383).f0, a1_2⟩ : S92)) := ⟨_, rfl⟩
        replace H : (some y397) = some r := z3_
        have Ny397 := q_ hy_
        clear hy_
        obtain rfl := si_ H
        have p45 : 0 ≤ (t383 : Int) := of_decide_eq_true z1_
        have q45 : (t383 : Int) < ((l0.length : Int) : Int) := of_decide_eq_true z1_
        obtain ⟨go45, co45, eo45, gb45, gl45, cl45, HG45⟩ := Kd.R_form HO_0.out (by omega)
        (first | cases eo45 | (injection eo45 with ea_ en_ ec_; (first | subst ea_ | (injection ea_ with ea_; subst ea_)); subst ec_; clear en_))
        have GB45 := q_ gb45
        have GG45 := q_ HG45
        clear gb45 gl45 HG45
        have HMgo45 := q_ (show (P0_ go45 ∨ w.heap.size ≤ go45) from (HO_0.out.1 _ rfl))
        obtain ⟨ce45, hcl45, hM45, hcc45, hfr45⟩ := Kd.R_elem HO_0.out z92 (t383 : Int) p45 q45
        obtain rfl := k92_openM hM45
        have hx45_0 : wc.cell? ⟨go45, (t383 : Int).toNat * 2, none⟩ = some (.int .i64 ((rd_T92 l0 t383).f0)) := hcc45 0 _ rfl
        have hx45_1 : wc.cell? ⟨go45, (t383 : Int).toNat * 2 + 1, none⟩ = some (.int .i64 ((rd_T92 l0 t383).f1)) := hcc45 1 _ rfl
        have hf45_0 : wc.frozen? ⟨go45, (t383 : Int).toNat * 2, none⟩ = false := hfr45 0
        have hf45_1 : wc.frozen? ⟨go45, (t383 : Int).toNat * 2 + 1, none⟩ = false := hfr45 1
        clear hcl45 hcc45 hfr45 hM45
        replace p45 := eq_true p45
        replace q45 := eq_true q45
        have HX46 := q_ (show Kd.R k92 92 wc w0.heap.size (fun k_ => (P0_ k_ ∨ w.heap.size ≤ k_)) (.slice (some ⟨go45, 0, none⟩) l0.length co7) l0 from z6_)
        obtain ⟨ce46, hcl46, hM46, hcc46, hfr46⟩ := Kd.R_elem HX46.out z92 (t383 : Int) (of_decide_eq_true z1_) z92_
        obtain rfl := k92_openM hM46
        have HP46 := Kd.R_seg HX46.out (t383 : Int) (of_decide_eq_true z1_) z92_ (seg := [.int .i64 a1_2]) (j := 1) hcl46 hcc46 (show 2 ≤ 2 from by decide) (x' := (⟨(rd_T92 l0 t383).f0, a1_2⟩ : S92)) (k92_mkM _ _ _ (⟨(rd_T92 l0 t383).f0, a1_2⟩ : S92) ) (fun _ hk => hk)
        have hx46_1 := hcc46 1 _ rfl
        (try simp only [show (k92).sz = 2 from rfl, Nat.mul_one, Nat.add_zero] at hx46_1)
        have hf46_1 := hfr46 1
        (try simp only [show (k92).sz = 2 from rfl, Nat.mul_one, Nat.add_zero] at hf46_1)
        clear hcl46 hcc46 hfr46 hM46
        go_wp2_with (first | ((with_reducible refine gate_store (t := 3) (p := 60) rfl ?_); refine store_event (t := 3) (p := 60) (v := ?vo_w47) (w1 := (wc.setCell ⟨go45, (t383 : Int).toNat * 2 + 1, none⟩ (.int .i64 a1_2))) ?hg ?ho ?hn ?hr ?_; (case ho => rfl); (case hg => rfl); (case hn => rfl); (case hr => exact z95_); intro w47 hw; have hg : wc.grownBy w47 (some go45) := (by rw [hw]; exact HP46.2); have hp_ : Kd.R k92 92 w47 w0.heap.size (fun k_ => (P0_ k_ ∨ w.heap.size ≤ k_)) (.slice (some ⟨go45, 0, none⟩) l0.length co7) y397 := (by rw [hw, Ny397.out]; exact HP46.1); clear HP46; replace HB := q_ ((by rw [hw]; exact below_set (HB.out) GB45.out : Below w0.heap.size w0 w47)); replace HK := q_ (Kept.of_grown (S := (fun k_ => P0_ k_)) hg z5_ (fun k_ e_ => (HO_0.out.1 k_ e_))); replace HO_0 := q_ (hp_); clear hg hw hp_))
        go_ret
        exact ⟨_, z2_, z6_, cb_, z5_⟩
       ·obtain ⟨y398, hy_⟩ : ∃ y_ : List (S92), y_ = (([(⟨a1_1, a1_2⟩ : S92)] : List (S92))) := ⟨_, rfl⟩
        replace H : ((slices_Insert_Pair.f l0 t383 y398).bind fun t401 => (some t401)) = some r := z3_
        have Ny398 := q_ hy_
        clear hy_
        replace H := bi_ H; obtain ⟨t401, A48, H⟩ := H
        obtain rfl := si_ H
        obtain ⟨hz_, hz_, hz_, hz_, hz_, hz_⟩ := cs3_ BK382.out
        go_wp2_with (first | ((with_reducible refine gate_dst (N := 68) rfl ?_); refine Kd.R_lit k92 _ 92 ?hg (N := 68) ?hd (xs := ([(⟨a1_1, a1_2⟩ : S92)] : List (S92))) (inner := [.int .i64 a1_1, .int .i64 a1_2]) (ok := fun _ => True) (okp := fun _ => True) ?hr ?hp (fun _ hk => hk) trivial (Below.refl _ _) (Nat.le_refl _) (by simp) ?_; (case hd => rfl); (case hg => rfl); (case hr => exact z95_); (case hp => exact (Reps.c2 (show Kd.M k92 _ _ _ (⟨a1_1, a1_2⟩ : S92) [.int .i64 a1_1, .int .i64 a1_2] from (k92_mkM _ _ _ (⟨a1_1, a1_2⟩ : S92) )) (Reps.none _ _))); intro v399 w50 ho51 hb hg_ hnew_; clear hg_ hnew_; (first | rw [← Ny398.out] at ho51 | (simp only [Int.reduceToNat] at ho51; rw [← Ny398.out] at ho51)); have HO400 := q_ (Kd.R_lower (Kd.R_new' (Kd.R_newM (M := fun k_ => (P0_ k_ ∨ w.heap.size ≤ k_)) ho51 z93_ (fun k_ h_ => .inr h_)) (Kd.R_lt z6_)) (below_size cb_)); replace HO_0 := q_ (Kd.R_elder' z6_ (Kd.R_base ho51) hb); replace HK := q_ (Kept.below (S := (fun k_ => P0_ k_)) z5_ hb); replace HB := hb_ hb; clear hb ho51; obtain ⟨Ao52, co52, eo52⟩ := Kd.R_slice HO400.out; subst eo52) | ((with_reducible refine gate_callee (f := 136) rfl ?_); refine goesL_ (some 69) rfl rfl Try.func136 (by kernel_rfl) rfl #[.slice Ao7 l0.length co7, .int .i64 t383, .slice Ao52 y398.length co52] rfl z0_ ?_; (with_reducible refine (slices_Insert_Pair.calls (fun k_ => some k_ = (.slice Ao7 l0.length co7 : Value).ownBlock) (.slice Ao7 l0.length co7) l0 t383 _ _ y398 t401 w0 _ ?side1 ?side2 ?side3 ?side4 A48.out).mono ?_); (case side1 => exact z118_); (case side2 => exact Kd.R_tight rfl HO_0.out); (case side3 => exact Kd.C_kept_own (HO400.out) (fun k_ hk_ hs_ => (hk_.2) hs_)); (case side4 => exact (Kd.R_reads' HO400.out).2.1); rintro e w53 ⟨v402, rfl, ho0, hb, hkp⟩; refine ⟨_, rfl, ?_⟩; have HO403 := q_ (Kd.R_mono (ok' := fun k_ => (P0_ k_ ∨ w.heap.size ≤ k_) ∧ some k_ ≠ (.slice Ao52 y398.length co52 : Value).ownBlock) ho0 (fun k_ hk_ => ⟨Or.elim hk_ (fun hs_ => (HO_0.out.1 k_ (hs_).symm).1) (fun hn_ => (.inr (Nat.le_trans z93_ hn_))), Or.elim hk_ (fun hs_ => fun e_ => (((HO400.out).1 k_ e_.symm).2) hs_) (fun hn_ => (Kd.fresh' (Kd.R_lt (by (with_reducible repeat (first | apply Kd.R_alloc | apply Kd.R_drewN | apply Kd.R_drew)); exact HO400.out)) k_ hn_))⟩)); replace HO400 := q_ (Kd.R_mono (ok' := fun k_ => (P0_ k_ ∨ w.heap.size ≤ k_) ∧ some k_ ≠ (v402 : Value).ownBlock) (Kd.R_keptB (HO400.out) hkp (fun k_ hk_ hs_ => (hk_.2) hs_)) (fun k_ hk_ => ⟨hk_.1.1.1, fun e_ => Or.elim (ho0.1 k_ e_.symm) (fun hs_ => hk_.2.1 hs_) (fun hn_ => Nat.not_le.2 hk_.2.2 hn_)⟩)); replace HK := q_ (Kept.then_ (S := (fun k_ => P0_ k_)) z5_ hkp (fun k_ hs_ => (fun e_ => (HO_0.out.1 k_ e_.symm).1) hs_)); replace HB := q_ (hb); clear HO_0; (try clear hb); (try clear hkp); (try clear ho0)))
        go_ret
        exact ⟨_, z2_, by (with_reducible repeat (first | apply Kd.R_alloc | apply Kd.R_drewN | apply Kd.R_drew)); exact Kd.R_mono HO403.out (fun _ hk => hk.1), cb_, z5_⟩

/-! ### impl_MapAll: function 82 -/
def impl_MapAll.l0 : Nat → List (S92) → List (S72) → Int → Int → Option ((List (S92)))
 | 0, _, _, _, _ => none
 | k + 1, x5, x14, x15, x16 => if x16 < x15 then (if 0 ≤ x16 then (if x16 < (x14.length : Int) then ((impl_MsgOk.f k ((rd_T72 x14 x16).f0) ((rd_T72 x14 x16).f1) ((rd_T72 x14 x16).f2)).bind fun t410 => (if t410 = true then ((impl_changed.f k x5 ((rd_T72 x14 x16).f0) ((rd_T72 x14 x16).f1) ((rd_T72 x14 x16).f2)).bind fun t411 => (impl_MapAll.l0 k t411 x14 x15 (wrap64 (x16 + 1)))) else (impl_MapAll.l0 k x5 x14 x15 (wrap64 (x16 + 1))))) else (none)) else (none)) else (some x5)
def impl_MapAll.f (k : Nat) (l0 : List (S92)) (l1 : List (S72)) : Option ((List (S92))) := (slices_Clone_Pair.f l0).bind fun t404 => ((impl_MapOk.f k l0).bind fun t407 => (if t407 = true then (impl_MapAll.l0 k t404 l1 (l1.length : Int) 0) else (some t404)))
theorem impl_MapAll.mono_l : ∀ k, (∀ y0 y1 y2 y3, LeO (impl_MapAll.l0 k y0 y1 y2 y3) (impl_MapAll.l0 (k + 1) y0 y1 y2 y3))
 | 0 => fun _ _ _ _ r h => by simp [impl_MapAll.l0] at h
 | k + 1 => by
  have ih0 := impl_MapAll.mono_l k
  ·intro y0 y1 y2 y3
   unfold impl_MapAll.l0
   have m0 := @impl_MapOk.mono
   have m1 := @impl_MsgOk.mono
   have m2 := @impl_changed.mono
   exact zm_
theorem impl_MapAll.mono : ∀ a0 a1 k, LeO (impl_MapAll.f k a0 a1) (impl_MapAll.f (k + 1) a0 a1) := by
 intro a0 a1 k
 have ih0 := impl_MapAll.mono_l k
 unfold impl_MapAll.f
 have m0 := @impl_MapOk.mono
 have m1 := @impl_MsgOk.mono
 have m2 := @impl_changed.mono
 exact zm_
set_option maxHeartbeats 8000000 in
set_option maxRecDepth 100000 in
theorem impl_MapAll.calls (k : Nat) (A0 : Option Addr) (c0 : Nat) (l0 : List (S92)) (A1 : Option Addr) (c1 : Nat) (l1 : List (S72)) (r : List (S92)) (w : World) (hr0 : Kd.C k92 w A0 l0.length l0) (hc0 : l0.length ≤ c0) (hr1 : Kd.C k72 w A1 l1.length l1) (hc1 : l1.length ≤ c1) (h : impl_MapAll.f k l0 l1 = some r) :
  Calls Try.prog 82 #[.slice A0 l0.length c0, .slice A1 l1.length c1] w fun e w' => ∃ v0_ : Value, e = .returned (v0_) ∧ Kd.R k92 92 w' w.heap.size (fun _ => True) v0_ r ∧ Below w.heap.size w w' := by
 have hu72 := Try.underlying72
 have HR0 := q_ hr0
 have HC0 := q_ hc0
 clear hr0 hc0
 have HR1 := q_ hr1
 have HC1 := q_ hc1
 clear hr1 hc1
 have HB := q_ (Below.refl w.heap.size w)
 have H := h; clear h
 unfold impl_MapAll.f at H
 replace H := bi_ H; obtain ⟨t404, A3, H⟩ := H
 replace H := bi_ H; obtain ⟨t407, A4, H⟩ := H
 have HC5 := q_ H
 clear H
 go_enter Try.func82, Try.ntmps82
 go_upto_if 12 with (first | ((with_reducible refine gate_callee (f := 113) rfl ?_); refine goesL_ (some 9) rfl rfl Try.func113 (by kernel_rfl) rfl #[.slice A0 l0.length c0] rfl z0_ ?_; (with_reducible refine (slices_Clone_Pair.calls _ _ l0 t404 _ ?side1 ?side2 A3.out).mono ?_); (case side1 => exact z116_); (case side2 => exact HC0.out); rintro e w6 ⟨v405, rfl, ho0, hb⟩; refine ⟨_, rfl, ?_⟩; have HO406 := q_ (Kd.R_lower ho0 (below_size cb_)); replace HB := hb_ hb; (try clear hb); (try clear hb2); (try clear hk); (try clear hi); (try clear ho0)) | ((with_reducible refine gate_callee (f := 51) rfl ?_); refine goesL_ (some 11) rfl rfl Try.func51 (by kernel_rfl) rfl #[.slice A0 l0.length c0] rfl z0_ ?_; (with_reducible refine (impl_MapOk.calls k _ _ l0 t407 _ ?side1 ?side2 A4.out).mono ?_); (case side1 => exact z99_); (case side2 => exact HC0.out); rintro e w7 ⟨rfl, hb⟩; refine ⟨_, rfl, ?_⟩; replace HO406 := q_ (Kd.R_below z61_ hb); replace HB := hb_ hb; (try clear hb); (try clear hb2); (try clear hk); (try clear hi)))
 (try simp only [Act.put, List.setIfInBounds_toArray, List.set_cons_zero, List.set_cons_succ])
 have H := HC5.out
 clear HC5
 replace H := kb_ H; rcases H with ⟨rfl, H⟩ | ⟨rfl, H⟩
 ·have H' := q_ H
  clear H
  go_wp2
  go_loopg [5, 16] k (fun kq v5 v16 w' => ∃ (x5_1 : List (S92)) (x16_1 : Int), v16 = .int .i64 x16_1 ∧ Aside0 (impl_MapAll.l0 kq x5_1 l1 (l1.length : Int) x16_1 = some r) ∧ Aside0 (kq ≤ k) ∧ Aside0 (Kd.R k92 92 w' w.heap.size (fun _ => True) v5 x5_1) ∧ Aside0 (Below w.heap.size w w'))
  case atStart => exact ⟨(t404), (0), z4_, H', ⟨Nat.le_refl _⟩, ⟨z61_⟩, ⟨cb_⟩⟩
  case round =>
   clear H'
   try clear c1
   try clear p2
   try clear c5
   try clear c8
   obtain ⟨x5_1, x16_1, rfl, HA, HK1, HO_5, HB⟩ := hrel
   obtain ⟨k1, rfl, H⟩ := rn_ (k := gk) HA (by rintro rfl; simp only [impl_MapAll.l0])
   clear HA
   simp only [impl_MapAll.l0] at H
   replace H := kd_ H; rcases H with ⟨c9b0, H⟩ | ⟨c9b0, H⟩
   ·(first | rw [c9b0] | rw [c9b1] | (simp only [i64_w, i32_w]; first | rw [c9b0] | rw [c9b1]) | rw [c9b2] | skip)
    replace H := kdn_ H; obtain ⟨c10b0, H⟩ := H
    replace H := kdn_ H; obtain ⟨c11b0, H⟩ := H
    replace H := bi_ H; obtain ⟨t410, A12, H⟩ := H
    have HC13 := q_ H
    clear H
    have p408 : 0 ≤ (x16_1 : Int) := of_decide_eq_true z1_
    have q408 : x16_1 < (l1.length : Int) := of_decide_eq_true z1_
    obtain ⟨ad408, e408, hx408_0, hx408_1, hx408_2⟩ := at_T72 HR1.out x16_1 p408 q408
    cases e408
    replace hx408_0 := up_ HB hx408_0
    replace hx408_1 := up_ HB hx408_1
    replace hx408_2 := up_ HB hx408_2
    replace p408 := eq_true p408
    replace q408 := eq_true q408
    go_upto_if 21 with (first | ((with_reducible refine gate_dst (N := 7) rfl ?_); refine box_event ?hg (N := 7) ?hd (cs := #[.int .i64 0, .int .i64 0, .int .i64 0]) (t := 72) ?hr ?_; (case hd => rfl); (case hg => rfl); (case hr => exact z95_); intro gb409 hg w14 hbox hb; replace HO_5 := q_ (Kd.R_below z28_ hb); have BK409 := q_ (hbox); have GW409 := ge_ hg; have GE409 := ge_ hg; replace HB := hb_ hb; clear hb hbox hg; obtain ⟨hz_, hz_, hz_, hz_, hz_, hz_⟩ := cs3_ BK409.out) | ((with_reducible refine gate_callee (f := 105) rfl ?_); refine goesL_ (some 21) rfl rfl Try.func105 (by kernel_rfl) rfl #[.agg #[.int .i64 ((rd_T72 l1 x16_1).f0), .int .i64 ((rd_T72 l1 x16_1).f1), .int .i64 ((rd_T72 l1 x16_1).f2)]] rfl z0_ ?_; (with_reducible refine (impl_MsgOk.calls k1 ((rd_T72 l1 x16_1).f0) ((rd_T72 l1 x16_1).f1) ((rd_T72 l1 x16_1).f2) t410 _ A12.out).mono ?_); rintro e w16 ⟨rfl, hb⟩; refine ⟨_, rfl, ?_⟩; replace HO_5 := q_ (Kd.R_below (by (with_reducible repeat (first | apply Kd.R_alloc | apply Kd.R_drewN | apply Kd.R_drew)); exact (Kd.R_mono (Kd.R_far (p := ⟨gb409, 2, none⟩) (Kd.R_far (p := ⟨gb409, 1, none⟩) (Kd.R_far (p := ⟨gb409, 0, none⟩) (Kd.R_types HO_5.out BK409.out (by decide)) (fun _ hk => hk.2) (.int .i64 ((rd_T72 l1 x16_1).f0))) (fun _ hk => hk.2) (.int .i64 ((rd_T72 l1 x16_1).f1))) (fun _ hk => hk.2) (.int .i64 ((rd_T72 l1 x16_1).f2))) (fun _ h_ => h_.1))) hb); replace BK409 := q_ (blk_below (g := gb409) (o := .cells #[.int .i64 ((rd_T72 l1 x16_1).f0), .int .i64 ((rd_T72 l1 x16_1).f1), .int .i64 ((rd_T72 l1 x16_1).f2)] 72 (0, 0)) (by (with_reducible repeat (first | refine blk_drewN ?_ _ | refine blk_drew ?_ | refine blk_alloc ?_ _)); refine blk_put (cs := #[.int .i64 ((rd_T72 l1 x16_1).f0), .int .i64 ((rd_T72 l1 x16_1).f1), .int .i64 0]) ?_ 2 _ rfl; (with_reducible repeat (first | refine blk_drewN ?_ _ | refine blk_drew ?_ | refine blk_alloc ?_ _)); refine blk_put (cs := #[.int .i64 ((rd_T72 l1 x16_1).f0), .int .i64 0, .int .i64 0]) ?_ 1 _ rfl; (with_reducible repeat (first | refine blk_drewN ?_ _ | refine blk_drew ?_ | refine blk_alloc ?_ _)); refine blk_put (cs := #[.int .i64 0, .int .i64 0, .int .i64 0]) ?_ 0 _ rfl; (with_reducible repeat (first | refine blk_drewN ?_ _ | refine blk_drew ?_ | refine blk_alloc ?_ _)); exact BK409.out) hb); replace HB := hb_ hb; (try clear hb); (try clear hb2); (try clear hk); (try clear hi)))
    (try simp only [Act.put, List.setIfInBounds_toArray, List.set_cons_zero, List.set_cons_succ])
    have H := HC13.out
    clear HC13
    replace H := kb_ H; rcases H with ⟨rfl, H⟩ | ⟨rfl, H⟩
    ·replace H := bi_ H; obtain ⟨t411, A18, H⟩ := H
     have H' := q_ H
     clear H
     obtain ⟨hz_, hz_, hz_, hz_, hz_, hz_⟩ := cs3_ BK409.out
     obtain ⟨Ao20, co20, eo20⟩ := Kd.R_slice HO_5.out
     subst eo20
     go_wp2_with (first | ((with_reducible refine gate_callee (f := 114) rfl ?_); refine goesL_ (some 24) rfl rfl Try.func114 (by kernel_rfl) rfl #[.slice Ao20 x5_1.length co20, .agg #[.int .i64 ((rd_T72 l1 x16_1).f0), .int .i64 ((rd_T72 l1 x16_1).f1), .int .i64 ((rd_T72 l1 x16_1).f2)]] rfl z0_ ?_; (with_reducible refine (impl_changed.calls k1 (fun k_ => some k_ = (.slice Ao20 x5_1.length co20 : Value).ownBlock) (.slice Ao20 x5_1.length co20) x5_1 ((rd_T72 l1 x16_1).f0) ((rd_T72 l1 x16_1).f1) ((rd_T72 l1 x16_1).f2) t411 w _ ?side1 ?side2 A18.out).mono ?_); (case side1 => repeat (first | (with_reducible first | exact HB.out | apply below_alloc | apply pw_below_drewN | apply below_drew1 | refine below_set ?_ GE409.out) | exact HB.out)); (case side2 => exact Kd.R_tight rfl HO_5.out); rintro e w21 ⟨v412, rfl, ho0, hb, hkp⟩; refine ⟨_, rfl, ?_⟩; replace BK409 := q_ (blk_kept (by (with_reducible repeat (first | refine blk_drewN ?_ _ | refine blk_drew ?_ | refine blk_alloc ?_ _)); exact BK409.out) hkp (fun hs_ => (fun e_ => (Kd.R_ne HO_5.out BK409.out (by decide)) e_) hs_)); have HO413 := q_ (Kd.R_mono (ok' := fun k_ => True) ho0 (fun k_ hk_ => trivial)); replace HB := q_ (hb); clear HO_5; (try clear hb); (try clear hkp); (try clear ho0)))
     go_roundg k1
     case measure => have := HK1.out; omega
     case rel => exact ⟨(t411), (wrap64 (x16_1 + 1)), z4_, H', ⟨z25_⟩, ⟨by (with_reducible repeat (first | apply Kd.R_alloc | apply Kd.R_drewN | apply Kd.R_drew)); exact HO413.out⟩, ⟨cb_⟩⟩
    ·have H' := q_ H
     clear H
     go_wp2
     go_roundg k1
     case measure => have := HK1.out; omega
     case rel => exact ⟨(x5_1), (wrap64 (x16_1 + 1)), z4_, H', ⟨z25_⟩, ⟨z28_⟩, ⟨cb_⟩⟩
   ·(first | rw [c9b0] | rw [c9b1] | (simp only [i64_w, i32_w]; first | rw [c9b0] | rw [c9b1]) | rw [c9b2] | skip)
    obtain rfl := si_ H
    go_wp2
    go_ret
    exact ⟨_, z2_, z28_, cb_⟩
 ·obtain rfl := si_ H
  go_wp2
  go_ret
  exact ⟨_, z2_, z61_, cb_⟩

end Go.Proofs.Ytfnndcpaldkkoaa.PFnExactTreeRange
