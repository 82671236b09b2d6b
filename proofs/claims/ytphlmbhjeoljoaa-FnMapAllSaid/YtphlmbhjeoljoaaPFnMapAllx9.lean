-- Written by a program of this session, which goes by the kit's print. Not trusted: Lean checks it.
import Derived.Test.YtphlmbhjeoljoaaPFnMapAllx0
import Derived.Test.YtphlmbhjeoljoaaPFnMapAllx8
namespace Go.Proofs.Ytphlmbhjeoljoaa.PFnMapAll
open Go.RowKit Go.Proofs.YtphlmbhjeoljoaaW.PrintWords Go.Proofs.YtphlmbhjeoljoaaW.PrintLast Go.Proofs.YtphlmbhjeoljoaaW.PrintMore
attribute [local go_sem] max2_int min2_int max_two min_two max_three min_three max_four min_four   -- for this text's walks alone
set_option linter.unusedVariables false
set_option linter.unusedSimpArgs false

/-! ### spec_l1DrawMsg: function 175 -/
def spec_l1DrawMsg.j0 : Nat → Bool → List Int → Int → Int → Int → Int → Int → Option (Int × Int × Int × Int × Int)
 | 0, _, _, _, _, _, _, _ => none
 | k + 1, x17, x1000, x1001, x1002, x324000, x324001, x324002 => if x17 = true then ((spec_l1Below.f x1000 x1001 x1002 99).bind fun bt324 => ((spec_l1PickInt.f x1000 bt324.2.1 bt324.2.2 (([1, (-2), 5, 700, 1000000000, (-1000000000), bt324.1] : List Int))).bind fun bt330 => (some (x324000, x324001, bt330.1, bt330.2.1, bt330.2.2)))) else (some (x324000, x324001, x324002, x1001, x1002))
def spec_l1DrawMsg.f (k : Nat) (s0_0 : List Int) (s0_1 : Int) (s0_2 : Int) : Option (Int × Int × Int × Int × Int) := (spec_l1PickInt.f s0_0 s0_1 s0_2 (([1, 1, 1, 2, 3, 3, 4] : List Int))).bind fun bt317 => ((spec_l1DrawKey.f s0_0 bt317.2.1 bt317.2.2).bind fun bt320 => (if bt317.1 = 1 then (spec_l1DrawMsg.j0 k true s0_0 bt320.2.1 bt320.2.2 bt317.1 bt320.1 0) else (spec_l1DrawMsg.j0 k (bt317.1 == 3) s0_0 bt320.2.1 bt320.2.2 bt317.1 bt320.1 0)))
theorem spec_l1DrawMsg.mono_l : ∀ k, (∀ y0 y1 y2 y3 y4 y5 y6, LeO (spec_l1DrawMsg.j0 k y0 y1 y2 y3 y4 y5 y6) (spec_l1DrawMsg.j0 (k + 1) y0 y1 y2 y3 y4 y5 y6))
 | 0 => fun _ _ _ _ _ _ _ r h => by simp [spec_l1DrawMsg.j0] at h
 | k + 1 => by
  have ih0 := spec_l1DrawMsg.mono_l k
  ·intro y0 y1 y2 y3 y4 y5 y6
   unfold spec_l1DrawMsg.j0
   repeat' first
   | (with_reducible exact ih0 _ _ _ _ _ _ _)
   | (with_reducible exact LeO.refl _)
   | (with_reducible exact LeO.none _)
   | (with_reducible refine LeO.ite ?_ ?_)
   | (with_reducible refine LeO.bind ?_ (fun _ => ?_))
   | exact ih0 _ _ _ _ _ _ _
   | exact LeO.none _
   | refine LeO.ite ?_ ?_
   | refine LeO.bind ?_ (fun _ => ?_)
theorem spec_l1DrawMsg.mono : ∀ a0 a1 a2 k, LeO (spec_l1DrawMsg.f k a0 a1 a2) (spec_l1DrawMsg.f (k + 1) a0 a1 a2) := by
 intro a0 a1 a2 k
 have ih0 := spec_l1DrawMsg.mono_l k
 unfold spec_l1DrawMsg.f
 repeat' first
   | (with_reducible exact ih0 _ _ _ _ _ _ _)
   | (with_reducible exact LeO.refl _)
   | (with_reducible exact LeO.none _)
   | (with_reducible refine LeO.ite ?_ ?_)
   | (with_reducible refine LeO.bind ?_ (fun _ => ?_))
   | exact ih0 _ _ _ _ _ _ _
   | exact LeO.none _
   | refine LeO.ite ?_ ?_
   | refine LeO.bind ?_ (fun _ => ?_)
set_option maxHeartbeats 8000000 in
set_option maxRecDepth 100000 in
theorem spec_l1DrawMsg.calls (k : Nat) (g : Nat) (s0_0 : List Int) (s0_1 : Int) (s0_2 : Int) (r1 : Int) (r2 : Int) (r3 : Int) (r4 : Int) (r5 : Int) (w0 w : World) (hI : IsS189 w0 w g s0_0 s0_1 s0_2) (hB : Below w0.heap.size w0 w) (h : spec_l1DrawMsg.f k s0_0 s0_1 s0_2 = some (r1, r2, r3, r4, r5)) :
  Calls Try.prog 175 #[.pointer (some ⟨g, 0, none⟩)] w fun e w' => e = .returned (.agg #[.int .i64 r1, .int .i64 r2, .int .i64 r3]) ∧ IsS189 w0 w' g s0_0 r4 r5 ∧ Below w0.heap.size w0 w' ∧ KeepBut w w' g none := by
 have hu67 := Try.underlying67
 have HI0 := q_ hI
 have HK := q_ (KeepBut.refl w g none)
 have HL := q_ hB.size
 clear hI
 have HW0 := q_ hB.size
 have HB := q_ hB
 clear hB
 have H : ((spec_l1PickInt.f s0_0 s0_1 s0_2 (([1, 1, 1, 2, 3, 3, 4] : List Int))).bind fun bt317 => ((spec_l1DrawKey.f s0_0 bt317.2.1 bt317.2.2).bind fun bt320 => (if bt317.1 = 1 then (spec_l1DrawMsg.j0 k true s0_0 bt320.2.1 bt320.2.2 bt317.1 bt320.1 0) else (spec_l1DrawMsg.j0 k (bt317.1 == 3) s0_0 bt320.2.1 bt320.2.2 bt317.1 bt320.1 0)))) = some (r1, r2, r3, r4, r5) := h
 clear h
 obtain ⟨y314, hy314⟩ : ∃ y_ : List Int, y_ = (([1, 1, 1, 2, 3, 3, 4] : List Int)) := ⟨_, rfl⟩
 replace H : ((spec_l1PickInt.f s0_0 s0_1 s0_2 y314).bind fun bt317 => ((spec_l1DrawKey.f s0_0 bt317.2.1 bt317.2.2).bind fun bt320 => (if bt317.1 = 1 then (spec_l1DrawMsg.j0 k true s0_0 bt320.2.1 bt320.2.2 bt317.1 bt320.1 0) else (spec_l1DrawMsg.j0 k (bt317.1 == 3) s0_0 bt320.2.1 bt320.2.2 bt317.1 bt320.1 0)))) = some (r1, r2, r3, r4, r5) := by first | (rw [hy314]; with_reducible exact H) | (have H2_ := (Option.bind_some _ _).symm.trans H; rw [hy314]; with_reducible exact H2_) | (have H2_ := (Option.bind_some _ _).symm.trans H; with_reducible exact H2_) | with_reducible exact H | (rw [hy314]; exact H) | exact H
 have Ny314 := q_ hy314
 clear hy314
 replace H := Option.bind_eq_some_iff.mp H
 obtain ⟨⟨t317, t318, t319⟩, A20, H⟩ := H
 replace H : ((spec_l1DrawKey.f s0_0 t318 t319).bind fun bt320 => (if t317 = 1 then (spec_l1DrawMsg.j0 k true s0_0 bt320.2.1 bt320.2.2 t317 bt320.1 0) else (spec_l1DrawMsg.j0 k (t317 == 3) s0_0 bt320.2.1 bt320.2.2 t317 bt320.1 0))) = some (r1, r2, r3, r4, r5) := H
 have A2 := q_ A20
 clear A20
 replace H := Option.bind_eq_some_iff.mp H
 obtain ⟨⟨t320, t321, t322⟩, A30, H⟩ := H
 replace H : (if t317 = 1 then (spec_l1DrawMsg.j0 k true s0_0 t321 t322 t317 t320 0) else (spec_l1DrawMsg.j0 k (t317 == 3) s0_0 t321 t322 t317 t320 0)) = some (r1, r2, r3, r4, r5) := H
 have A3 := q_ A30
 clear A30
 have HC4 := q_ H
 clear H
 go_enter Try.func175, Try.ntmps175
 go_upto_region 2 with (first | ((with_reducible refine gate_dst (N := 2) rfl ?_); refine box_event ?hg (N := 2) ?hd (cs := #[.int .i64 0, .int .i64 0, .int .i64 0]) (t := 67) ?hr ?_; (case hd => rfl); (case hg => rfl); (case hr => exact z108_); intro gb313 hg w5 hbox hb; have n0_ := q_ (IsS189.below z3_ hb); have n1_ := q_ (KeepBut.trans z2_ (KeepBut.of_below hb g none) (.inl rfl)); have n2_ := q_ (below_step z6_ hb); have n3_ := q_ (hbox); have n4_ := q_ ((z92_ : w.heap.size ≤ gb313)); have n5_ := q_ ((Nat.le_trans HW0.out (z92_ : w.heap.size ≤ gb313) : w0.heap.size ≤ gb313)); have n6_ := q_ ((z98_ : g ≠ gb313)); have n7_ := q_ ((z99_ : gb313 ≠ g)); clear HI0; clear HK; clear HB; have HI0 := n0_; have HK := n1_; have HB := n2_; have BK313 := n3_; have GW313 := n4_; have GE313 := n5_; have NB0_313 := n6_; have NB313_0 := n7_; clear n0_ n1_ n2_ n3_ n4_ n5_ n6_ n7_; clear hb hbox hg) | ((with_reducible refine gate_dst (N := 5) rfl ?_); refine Kd.R_lit (Kd.int .i64) _ 3 ?hg (N := 5) ?hd (xs := ([1, 1, 1, 2, 3, 3, 4] : List Int)) (inner := [.int .i64 1, .int .i64 1, .int .i64 1, .int .i64 2, .int .i64 3, .int .i64 3, .int .i64 4]) (ok := fun _ => True) (okp := fun _ => True) ?hr ?hp (fun _ hk => hk) trivial (Below.refl _ _) (Nat.le_refl _) (by simp) ?_; (case hd => rfl); (case hg => rfl); (case hr => exact z108_); (case hp => exact (Reps.one (show Kd.M (Kd.int .i64) _ _ _ 1 [.int .i64 1] from rfl) (Reps.one (show Kd.M (Kd.int .i64) _ _ _ 1 [.int .i64 1] from rfl) (Reps.one (show Kd.M (Kd.int .i64) _ _ _ 1 [.int .i64 1] from rfl) (Reps.one (show Kd.M (Kd.int .i64) _ _ _ 2 [.int .i64 2] from rfl) (Reps.one (show Kd.M (Kd.int .i64) _ _ _ 3 [.int .i64 3] from rfl) (Reps.one (show Kd.M (Kd.int .i64) _ _ _ 3 [.int .i64 3] from rfl) (Reps.one (show Kd.M (Kd.int .i64) _ _ _ 4 [.int .i64 4] from rfl) (Reps.none _ _))))))))); intro v315 w6 ho7 hb hg_ hnew_; clear hg_ hnew_; (first | rw [← Ny314.out] at ho7 | (simp only [Int.reduceToNat] at ho7; rw [← Ny314.out] at ho7)); have n0_ := q_ (Kd.R_lower ho7 (keep_size (w := w) (g := g) (row := none) z38_)); have n1_ := q_ (IsS189.below z36_ hb); have n2_ := q_ (blk_below (g := gb313) (o := .cells #[.int .i64 0, .int .i64 0, .int .i64 0] 67 (0, 0)) z40_ hb); have n3_ := q_ (KeepBut.trans z38_ (KeepBut.of_below hb g none) (.inl rfl)); have n4_ := q_ (below_step z69_ hb); clear HI0; clear BK313; clear HK; clear HB; have HO316 := n0_; have HI0 := n1_; have BK313 := n2_; have HK := n3_; have HB := n4_; clear n0_ n1_ n2_ n3_ n4_; clear hb ho7; obtain ⟨Ao8, co8, eo8⟩ := Kd.R_slice HO316.out; subst eo8) | ((with_reducible refine gate_callee (f := 167) rfl ?_); refine goesL_ (some 6) rfl rfl Try.func167 (by kernel_rfl) rfl #[.pointer (some ⟨g, 0, none⟩), .slice Ao8 y314.length co8] rfl z1_ ?_; (with_reducible refine (spec_l1PickInt.calls g s0_0 s0_1 s0_2 _ _ y314 t317 t318 t319 w0 _ ?side1 ?side2 ?side3 ?side4 ?side5 A2.out).mono ?_); (case side1 => exact z124_); (case side2 => exact z126_); (case side3 => repeat (first | exact (Kd.R_reads' HO316.out).2.2 | (with_reducible refine Kd.C_alloc ?_ _) | (with_reducible refine Kd.C_drewN ?_ _) | (with_reducible refine Kd.C_drew ?_))); (case side4 => exact (Kd.R_reads' HO316.out).2.1); (case side5 => exact far_slice (IsS189.own_ne HI0.out HO316.out (by decide))); rintro e w9 ⟨rfl, hi, hb, hk⟩; refine ⟨_, rfl, ?_⟩; have n0_ := q_ (KeepBut.blk hk (g' := gb313) (o := .cells #[.int .i64 0, .int .i64 0, .int .i64 0] 67 (0, 0)) z40_ NB313_0.out (by simp)); have n1_ := q_ (Kd.R_mono (Kd.R_keep (IsS189.apart (show IsS189 w0 _ g s0_0 s0_1 s0_2 from z36_) z73_ (by decide)) hk (fun _ h => h.2)) (fun _ h => h.1)); have n2_ := q_ (KeepBut.trans z38_ hk (.inl rfl)); have n3_ := q_ (hb); have n4_ := q_ (hi); clear BK313; clear HO316; clear HK; clear HB; clear HI0; have BK313 := n0_; have HO316 := n1_; have HK := n2_; have HB := n3_; have HI0 := n4_; clear n0_ n1_ n2_ n3_ n4_; (try clear hb); (try clear hb2); (try clear hk); (try clear hi)) | ((with_reducible refine gate_callee (f := 141) rfl ?_); refine goesL_ (some 8) rfl rfl Try.func141 (by kernel_rfl) rfl #[.pointer (some ⟨g, 0, none⟩)] rfl z1_ ?_; (with_reducible refine (spec_l1DrawKey.calls g s0_0 t318 t319 t320 t321 t322 w0 _ ?side1 ?side2 A3.out).mono ?_); (case side1 => exact z124_); (case side2 => exact z126_); rintro e w10 ⟨rfl, hi, hb, hk⟩; refine ⟨_, rfl, ?_⟩; have n0_ := q_ (KeepBut.blk hk (g' := gb313) (o := .cells #[.int .i64 0, .int .i64 0, .int .i64 0] 67 (0, 0)) z40_ NB313_0.out (by simp)); have n1_ := q_ (Kd.R_mono (Kd.R_keep (IsS189.apart (show IsS189 w0 _ g s0_0 t318 t319 from z36_) z73_ (by decide)) hk (fun _ h => h.2)) (fun _ h => h.1)); have n2_ := q_ (KeepBut.trans z38_ hk (.inl rfl)); have n3_ := q_ (hb); have n4_ := q_ (hi); clear BK313; clear HO316; clear HK; clear HB; clear HI0; have BK313 := n0_; have HO316 := n1_; have HK := n2_; have HB := n3_; have HI0 := n4_; clear n0_ n1_ n2_ n3_ n4_; (try clear hb); (try clear hb2); (try clear hk); (try clear hi)) | ((with_reducible refine gate_dst (N := 3) rfl ?_); refine box_event ?hg (N := 3) ?hd (cs := #[.int .i64 0, .int .i64 0, .int .i64 0]) (t := 67) ?hr ?_; (case hd => rfl); (case hg => rfl); (case hr => exact z108_); intro gb323 hg w11 hbox hb; have n0_ := q_ (Kd.R_below z73_ hb); have n1_ := q_ (IsS189.below z36_ hb); have n2_ := q_ (blk_below (g := gb313) (o := .cells #[.int .i64 0, .int .i64 0, .int .i64 0] 67 (0, 0)) z40_ hb); have n3_ := q_ (KeepBut.trans z38_ (KeepBut.of_below hb g none) (.inl rfl)); have n4_ := q_ (below_step z69_ hb); have n5_ := q_ (hbox); have n6_ := q_ ((z105_ : w.heap.size ≤ gb323)); have n7_ := q_ ((Nat.le_trans HW0.out (z105_ : w.heap.size ≤ gb323) : w0.heap.size ≤ gb323)); have n8_ := q_ ((by rw [hg]; exact Nat.ne_of_lt (blk_lt (g := gb313) (o := .cells #[.int .i64 0, .int .i64 0, .int .i64 0] 67 (0, 0)) z40_) : gb313 ≠ gb323)); have n9_ := q_ ((by rw [hg]; exact Nat.ne_of_gt (blk_lt (g := gb313) (o := .cells #[.int .i64 0, .int .i64 0, .int .i64 0] 67 (0, 0)) z40_) : gb323 ≠ gb313)); have n10_ := q_ ((by rw [hg]; exact Nat.ne_of_lt (IsS189.lt (show IsS189 w0 _ g s0_0 t321 t322 from z36_)) : g ≠ gb323)); have n11_ := q_ ((by rw [hg]; exact Nat.ne_of_gt (IsS189.lt (show IsS189 w0 _ g s0_0 t321 t322 from z36_)) : gb323 ≠ g)); clear HO316; clear HI0; clear BK313; clear HK; clear HB; have HO316 := n0_; have HI0 := n1_; have BK313 := n2_; have HK := n3_; have HB := n4_; have BK323 := n5_; have GW323 := n6_; have GE323 := n7_; have NB313_323 := n8_; have NB323_313 := n9_; have NB0_323 := n10_; have NB323_0 := n11_; clear n0_ n1_ n2_ n3_ n4_ n5_ n6_ n7_ n8_ n9_ n10_ n11_; clear hb hbox hg; have hnb12 := NB323_313.out; have hnc12 := NB313_323.out; have hnb13 := NB323_0.out; have hnc13 := NB0_323.out; obtain ⟨hcz14_0, hcz14_1, hcz14_2, hfz14_0, hfz14_1, hfz14_2⟩ := cs3_ BK323.out))
 (try simp only [Act.put, List.setIfInBounds_toArray, List.set_cons_zero, List.set_cons_succ])
 go_cut [17] (fun v17 wc => ∃ (kq : Nat) (x17_3 : Bool), v17 = .bool x17_3 ∧ Aside0 (spec_l1DrawMsg.j0 kq x17_3 s0_0 t321 t322 t317 t320 0 = some (r1, r2, r3, r4, r5)) ∧ Aside0 (kq ≤ k) ∧ Aside0 (wc.heap[gb313]? = some (.cells #[.int .i64 0, .int .i64 0, .int .i64 0] 67 (0, 0))) ∧ Aside0 (wc.heap[gb323]? = some (.cells #[.int .i64 t317, .int .i64 t320, .int .i64 0] 67 (0, 0))) ∧ Aside0 (IsS189 w0 wc g s0_0 t321 t322) ∧ Aside0 (KeepBut w wc g none) ∧ Aside0 (Below w0.heap.size w0 wc))
 case first =>
  have H := HC4.out
  clear HC4
  by_cases c15 : t317 = 1
  ·rw [if_pos c15] at H
   have c15b0 : (t317 == 1) = true := beq_iff_eq.mpr c15
   have c15b1 : (t317 != 1) = false := bne_eq_false_iff_eq.mpr c15
   clear c15
   (first | rw [c15b0] | (simp only [i64_w, i32_w]; rw [c15b0]) | skip)
   have H' := q_ H
   clear H
   have hnb16 := NB323_313.out
   have hnc16 := NB313_323.out
   have hnb17 := NB323_0.out
   have hnc17 := NB0_323.out
   obtain ⟨hcz18_0, hcz18_1, hcz18_2, hfz18_0, hfz18_1, hfz18_2⟩ := cs3_ BK323.out
   go_wp2
   go_meet
   case rel => exact ⟨_, (true), z7_, H', ⟨z74_⟩, ⟨z42_⟩, ⟨z34_⟩, ⟨z24_⟩, ⟨z21_⟩, ⟨z39_⟩⟩
  ·rw [if_neg c15] at H
   have c15b0 : (t317 == 1) = false := beq_eq_false_iff_ne.mpr c15
   have c15b1 : (t317 != 1) = true := bne_iff_ne.mpr c15
   (first | rw [c15b0] | (simp only [i64_w, i32_w]; rw [c15b0]) | skip)
   have H' := q_ H
   clear H
   have hnb19 := NB323_313.out
   have hnc19 := NB313_323.out
   have hnb20 := NB323_0.out
   have hnc20 := NB0_323.out
   obtain ⟨hcz21_0, hcz21_1, hcz21_2, hfz21_0, hfz21_1, hfz21_2⟩ := cs3_ BK323.out
   go_wp2
   go_meet
   case rel => exact ⟨_, ((t317 == 3)), z7_, H', ⟨z74_⟩, ⟨z42_⟩, ⟨z34_⟩, ⟨z24_⟩, ⟨z21_⟩, ⟨z39_⟩⟩
 case rest =>
  clear HC4
  try clear c1
  try clear c2
  try clear p2
  try clear c12
  try clear c13
  try clear c14
  try clear c15
  try clear c15b0
  try clear c15b1
  try clear c16
  try clear c17
  try clear c19
  try clear c20
  try clear hcz14_0
  try clear hcz14_1
  try clear hcz14_2
  try clear hcz18_0
  try clear hcz18_1
  try clear hcz18_2
  try clear hcz21_0
  try clear hcz21_1
  try clear hcz21_2
  try clear hfz14_0
  try clear hfz14_1
  try clear hfz14_2
  try clear hfz18_0
  try clear hfz18_1
  try clear hfz18_2
  try clear hfz21_0
  try clear hfz21_1
  try clear hfz21_2
  obtain ⟨kq, x17_3, rfl, HA, HJ3, BK313, BK323, HI0, HK, HB⟩ := hcut
  cases kq with
  | zero => exact absurd HA.out (by simp [spec_l1DrawMsg.j0])
  | succ kj3 =>
   have H := HA.out
   clear HA
   simp only [spec_l1DrawMsg.j0] at H
   by_cases c22 : x17_3 = true
   ·subst c22
    have H1 : ((spec_l1Below.f s0_0 t321 t322 99).bind fun bt324 => ((spec_l1PickInt.f s0_0 bt324.2.1 bt324.2.2 (([1, (-2), 5, 700, 1000000000, (-1000000000), bt324.1] : List Int))).bind fun bt330 => (some (t317, t320, bt330.1, bt330.2.1, bt330.2.2)))) = some (r1, r2, r3, r4, r5) := z51_
    clear H
    have H := H1
    clear H1
    replace H := Option.bind_eq_some_iff.mp H
    obtain ⟨⟨t324, t325, t326⟩, A230, H⟩ := H
    replace H : ((spec_l1PickInt.f s0_0 t325 t326 (([1, (-2), 5, 700, 1000000000, (-1000000000), t324] : List Int))).bind fun bt330 => (some (t317, t320, bt330.1, bt330.2.1, bt330.2.2))) = some (r1, r2, r3, r4, r5) := H
    have A23 := q_ A230
    clear A230
    obtain ⟨y327, hy327⟩ : ∃ y_ : List Int, y_ = (([1, (-2), 5, 700, 1000000000, (-1000000000), t324] : List Int)) := ⟨_, rfl⟩
    replace H : ((spec_l1PickInt.f s0_0 t325 t326 y327).bind fun bt330 => (some (t317, t320, bt330.1, bt330.2.1, bt330.2.2))) = some (r1, r2, r3, r4, r5) := by first | (rw [hy327]; with_reducible exact H) | (have H2_ := (Option.bind_some _ _).symm.trans H; rw [hy327]; with_reducible exact H2_) | (have H2_ := (Option.bind_some _ _).symm.trans H; with_reducible exact H2_) | with_reducible exact H | (rw [hy327]; exact H) | exact H
    have Ny327 := q_ hy327
    clear hy327
    replace H := Option.bind_eq_some_iff.mp H
    obtain ⟨⟨t330, t331, t332⟩, A240, H⟩ := H
    replace H : (some (t317, t320, t330, t331, t332)) = some (r1, r2, r3, r4, r5) := H
    have A24 := q_ A240
    clear A240
    simp only [Option.some.injEq, Prod.mk.injEq] at H
    obtain ⟨rfl, rfl, rfl, rfl, rfl⟩ := H
    go_wp2_with (first | ((with_reducible refine gate_callee (f := 126) rfl ?_); refine goesL_ (some 20) rfl rfl Try.func126 (by kernel_rfl) rfl #[.pointer (some ⟨g, 0, none⟩), .int .i64 99] rfl z1_ ?_; (with_reducible refine (spec_l1Below.calls g s0_0 t321 t322 99 t324 t325 t326 w0 _ ?side1 ?side2 A23.out).mono ?_); (case side1 => exact z122_); (case side2 => exact z123_); rintro e w25 ⟨rfl, hi, hb, hk⟩; refine ⟨_, rfl, ?_⟩; have n0_ := q_ (KeepBut.blk hk (g' := gb313) (o := .cells #[.int .i64 0, .int .i64 0, .int .i64 0] 67 (0, 0)) z40_ NB313_0.out (by simp)); have n1_ := q_ (KeepBut.blk hk (g' := gb323) (o := .cells #[.int .i64 t317, .int .i64 t320, .int .i64 0] 67 (0, 0)) z70_ NB323_0.out (by simp)); have n2_ := q_ (KeepBut.trans z21_ hk (.inl rfl)); have n3_ := q_ (hb); have n4_ := q_ (hi); clear BK313; clear BK323; clear HK; clear HB; clear HI0; have BK313 := n0_; have BK323 := n1_; have HK := n2_; have HB := n3_; have HI0 := n4_; clear n0_ n1_ n2_ n3_ n4_; (try clear hb); (try clear hb2); (try clear hk); (try clear hi)) | ((with_reducible refine gate_dst (N := 21) rfl ?_); refine Kd.R_lit (Kd.int .i64) _ 3 ?hg (N := 21) ?hd (xs := ([1, (-2), 5, 700, 1000000000, (-1000000000), t324] : List Int)) (inner := [.int .i64 1, .int .i64 (-2), .int .i64 5, .int .i64 700, .int .i64 1000000000, .int .i64 (-1000000000), .int .i64 t324]) (ok := fun _ => True) (okp := fun _ => True) ?hr ?hp (fun _ hk => hk) trivial (Below.refl _ _) (Nat.le_refl _) (by simp) ?_; (case hd => rfl); (case hg => rfl); (case hr => exact z108_); (case hp => exact (Reps.one (show Kd.M (Kd.int .i64) _ _ _ 1 [.int .i64 1] from rfl) (Reps.one (show Kd.M (Kd.int .i64) _ _ _ (-2) [.int .i64 (-2)] from rfl) (Reps.one (show Kd.M (Kd.int .i64) _ _ _ 5 [.int .i64 5] from rfl) (Reps.one (show Kd.M (Kd.int .i64) _ _ _ 700 [.int .i64 700] from rfl) (Reps.one (show Kd.M (Kd.int .i64) _ _ _ 1000000000 [.int .i64 1000000000] from rfl) (Reps.one (show Kd.M (Kd.int .i64) _ _ _ (-1000000000) [.int .i64 (-1000000000)] from rfl) (Reps.one (show Kd.M (Kd.int .i64) _ _ _ t324 [.int .i64 t324] from rfl) (Reps.none _ _))))))))); intro v328 w26 ho27 hb hg_ hnew_; clear hg_ hnew_; (first | rw [← Ny327.out] at ho27 | (simp only [Int.reduceToNat] at ho27; rw [← Ny327.out] at ho27)); have n0_ := q_ (Kd.R_lower ho27 (keep_size (w := w) (g := g) (row := none) z21_)); have n1_ := q_ (blk_below (g := gb313) (o := .cells #[.int .i64 0, .int .i64 0, .int .i64 0] 67 (0, 0)) z40_ hb); have n2_ := q_ (blk_below (g := gb323) (o := .cells #[.int .i64 t317, .int .i64 t320, .int .i64 0] 67 (0, 0)) z70_ hb); have n3_ := q_ (IsS189.below z24_ hb); have n4_ := q_ (KeepBut.trans z21_ (KeepBut.of_below hb g none) (.inl rfl)); have n5_ := q_ (below_step z39_ hb); clear BK313; clear BK323; clear HI0; clear HK; clear HB; have HO329 := n0_; have BK313 := n1_; have BK323 := n2_; have HI0 := n3_; have HK := n4_; have HB := n5_; clear n0_ n1_ n2_ n3_ n4_ n5_; clear hb ho27; obtain ⟨Ao28, co28, eo28⟩ := Kd.R_slice HO329.out; subst eo28) | ((with_reducible refine gate_callee (f := 167) rfl ?_); refine goesL_ (some 22) rfl rfl Try.func167 (by kernel_rfl) rfl #[.pointer (some ⟨g, 0, none⟩), .slice Ao28 y327.length co28] rfl z1_ ?_; (with_reducible refine (spec_l1PickInt.calls g s0_0 t325 t326 _ _ y327 t330 t331 t332 w0 _ ?side1 ?side2 ?side3 ?side4 ?side5 A24.out).mono ?_); (case side1 => exact z122_); (case side2 => exact z123_); (case side3 => repeat (first | exact (Kd.R_reads' HO329.out).2.2 | (with_reducible refine Kd.C_alloc ?_ _) | (with_reducible refine Kd.C_drewN ?_ _) | (with_reducible refine Kd.C_drew ?_))); (case side4 => exact (Kd.R_reads' HO329.out).2.1); (case side5 => exact far_slice (IsS189.own_ne HI0.out HO329.out (by decide))); rintro e w29 ⟨rfl, hi, hb, hk⟩; refine ⟨_, rfl, ?_⟩; have n0_ := q_ (KeepBut.blk hk (g' := gb313) (o := .cells #[.int .i64 0, .int .i64 0, .int .i64 0] 67 (0, 0)) z40_ NB313_0.out (by simp)); have n1_ := q_ (KeepBut.blk hk (g' := gb323) (o := .cells #[.int .i64 t317, .int .i64 t320, .int .i64 0] 67 (0, 0)) z70_ NB323_0.out (by simp)); have n2_ := q_ (Kd.R_mono (Kd.R_keep (IsS189.apart (show IsS189 w0 _ g s0_0 t325 t326 from z24_) (by (with_reducible repeat (first | apply Kd.R_alloc | apply Kd.R_drewN | apply Kd.R_drew)); exact HO329.out) (by decide)) hk (fun _ h => h.2)) (fun _ h => h.1)); have n3_ := q_ (KeepBut.trans z21_ hk (.inl rfl)); have n4_ := q_ (hb); have n5_ := q_ (hi); clear BK313; clear BK323; clear HO329; clear HK; clear HB; clear HI0; have BK313 := n0_; have BK323 := n1_; have HO329 := n2_; have HK := n3_; have HB := n4_; have HI0 := n5_; clear n0_ n1_ n2_ n3_ n4_ n5_; (try clear hb); (try clear hb2); (try clear hk); (try clear hi); have hnb30 := NB323_313.out; have hnc30 := NB313_323.out; have hnb31 := NB323_0.out; have hnc31 := NB0_323.out; obtain ⟨hcz32_0, hcz32_1, hcz32_2, hfz32_0, hfz32_1, hfz32_2⟩ := cs3_ BK323.out; have hnb33 := NB313_0.out; have hnc33 := NB0_313.out; obtain ⟨hcz34_0, hcz34_1, hcz34_2, hfz34_0, hfz34_1, hfz34_2⟩ := cs3_ BK313.out))
    refine bodyPost_ret (results_cell_row rfl _ _ gb313 67 #[.int .i64 t317, .int .i64 t320, .int .i64 t330] (0, 0) _ rfl (by (with_reducible repeat (first | refine blk_drewN ?_ _ | refine blk_drew ?_ | refine blk_alloc ?_ _)); refine blk_put (cs := #[.int .i64 t317, .int .i64 t320, .int .i64 0]) ?_ 2 _ rfl; (with_reducible repeat (first | refine blk_drewN ?_ _ | refine blk_drew ?_ | refine blk_alloc ?_ _)); refine blk_put (cs := #[.int .i64 t317, .int .i64 0, .int .i64 0]) ?_ 1 _ rfl; (with_reducible repeat (first | refine blk_drewN ?_ _ | refine blk_drew ?_ | refine blk_alloc ?_ _)); refine blk_put (cs := #[.int .i64 0, .int .i64 0, .int .i64 0]) ?_ 0 _ rfl; (with_reducible repeat (first | refine blk_drewN ?_ _ | refine blk_drew ?_ | refine blk_alloc ?_ _)); refine blk_far ?_ NB313_323.out _; (with_reducible repeat (first | refine blk_drewN ?_ _ | refine blk_drew ?_ | refine blk_alloc ?_ _)); exact BK313.out) Try.underlying67 rfl (by kernel_rfl)) rfl ?_
    exact ⟨z4_, z24_, z39_, z21_⟩
   ·replace c22 := Bool.eq_false_iff.mpr c22
    subst c22
    have H1 : (some (t317, t320, 0, t321, t322)) = some (r1, r2, r3, r4, r5) := by rw [if_neg (show ¬ (false = true) by decide)] at H; exact H
    clear H
    have H := H1
    clear H1
    simp only [Option.some.injEq, Prod.mk.injEq] at H
    obtain ⟨rfl, rfl, rfl, rfl, rfl⟩ := H
    have hnb35 := NB323_313.out
    have hnc35 := NB313_323.out
    have hnb36 := NB323_0.out
    have hnc36 := NB0_323.out
    obtain ⟨hcz37_0, hcz37_1, hcz37_2, hfz37_0, hfz37_1, hfz37_2⟩ := cs3_ BK323.out
    have hnb38 := NB313_0.out
    have hnc38 := NB0_313.out
    obtain ⟨hcz39_0, hcz39_1, hcz39_2, hfz39_0, hfz39_1, hfz39_2⟩ := cs3_ BK313.out
    go_wp2
    refine bodyPost_ret (results_cell_row rfl _ _ gb313 67 #[.int .i64 t317, .int .i64 t320, .int .i64 0] (0, 0) _ rfl (by (with_reducible repeat (first | refine blk_drewN ?_ _ | refine blk_drew ?_ | refine blk_alloc ?_ _)); refine blk_put (cs := #[.int .i64 t317, .int .i64 t320, .int .i64 0]) ?_ 2 _ rfl; (with_reducible repeat (first | refine blk_drewN ?_ _ | refine blk_drew ?_ | refine blk_alloc ?_ _)); refine blk_put (cs := #[.int .i64 t317, .int .i64 0, .int .i64 0]) ?_ 1 _ rfl; (with_reducible repeat (first | refine blk_drewN ?_ _ | refine blk_drew ?_ | refine blk_alloc ?_ _)); refine blk_put (cs := #[.int .i64 0, .int .i64 0, .int .i64 0]) ?_ 0 _ rfl; (with_reducible repeat (first | refine blk_drewN ?_ _ | refine blk_drew ?_ | refine blk_alloc ?_ _)); exact BK313.out) Try.underlying67 rfl (by kernel_rfl)) rfl ?_
    exact ⟨z4_, z24_, z39_, z21_⟩

/-! ### spec_l1DrawBad: function 134 -/
def spec_l1DrawBad.f (k : Nat) (s0_0 : List Int) (s0_1 : Int) (s0_2 : Int) : Option (Int × Int × Int × Int × Int) := (spec_l1DrawMsg.f k s0_0 s0_1 s0_2).bind fun bt334 => ((spec_l1Below.f s0_0 bt334.2.2.2.1 bt334.2.2.2.2 15).bind fun bt340 => (if bt340.1 = 0 then ((spec_l1Below.f s0_0 bt340.2.1 bt340.2.2 7).bind fun bt343 => (some (wrap64 (bt343.1 - 1), bt334.2.1, bt334.2.2.1, bt343.2.1, bt343.2.2))) else (if bt340.1 = 1 then ((spec_l1PickInt.f s0_0 bt340.2.1 bt340.2.2 (([(-1), 1000] : List Int))).bind fun bt349 => (some (bt334.1, bt349.1, bt334.2.2.1, bt349.2.1, bt349.2.2))) else (if bt340.1 = 2 then ((spec_l1PickInt.f s0_0 bt340.2.1 bt340.2.2 (([1000000001, 3] : List Int))).bind fun bt355 => (some (bt334.1, bt334.2.1, bt355.1, bt355.2.1, bt355.2.2))) else (some (bt334.1, bt334.2.1, bt334.2.2.1, bt340.2.1, bt340.2.2))))))
theorem spec_l1DrawBad.mono : ∀ a0 a1 a2 k, LeO (spec_l1DrawBad.f k a0 a1 a2) (spec_l1DrawBad.f (k + 1) a0 a1 a2) := by
 intro a0 a1 a2 k
 unfold spec_l1DrawBad.f
 repeat' first
   | (with_reducible exact spec_l1DrawMsg.mono _ _ _ _)
   | (with_reducible exact LeO.refl _)
   | (with_reducible exact LeO.none _)
   | (with_reducible refine LeO.ite ?_ ?_)
   | (with_reducible refine LeO.bind ?_ (fun _ => ?_))
   | exact spec_l1DrawMsg.mono _ _ _ _
   | exact LeO.none _
   | refine LeO.ite ?_ ?_
   | refine LeO.bind ?_ (fun _ => ?_)
set_option maxHeartbeats 8000000 in
set_option maxRecDepth 100000 in
theorem spec_l1DrawBad.calls (k : Nat) (g : Nat) (s0_0 : List Int) (s0_1 : Int) (s0_2 : Int) (r1 : Int) (r2 : Int) (r3 : Int) (r4 : Int) (r5 : Int) (w0 w : World) (hI : IsS189 w0 w g s0_0 s0_1 s0_2) (hB : Below w0.heap.size w0 w) (h : spec_l1DrawBad.f k s0_0 s0_1 s0_2 = some (r1, r2, r3, r4, r5)) :
  Calls Try.prog 134 #[.pointer (some ⟨g, 0, none⟩)] w fun e w' => e = .returned (.agg #[.int .i64 r1, .int .i64 r2, .int .i64 r3]) ∧ IsS189 w0 w' g s0_0 r4 r5 ∧ Below w0.heap.size w0 w' ∧ KeepBut w w' g none := by
 have hu67 := Try.underlying67
 have HI0 := q_ hI
 have HK := q_ (KeepBut.refl w g none)
 have HL := q_ hB.size
 clear hI
 have HW0 := q_ hB.size
 have HB := q_ hB
 clear hB
 have H : ((spec_l1DrawMsg.f k s0_0 s0_1 s0_2).bind fun bt334 => ((spec_l1Below.f s0_0 bt334.2.2.2.1 bt334.2.2.2.2 15).bind fun bt340 => (if bt340.1 = 0 then ((spec_l1Below.f s0_0 bt340.2.1 bt340.2.2 7).bind fun bt343 => (some (wrap64 (bt343.1 - 1), bt334.2.1, bt334.2.2.1, bt343.2.1, bt343.2.2))) else (if bt340.1 = 1 then ((spec_l1PickInt.f s0_0 bt340.2.1 bt340.2.2 (([(-1), 1000] : List Int))).bind fun bt349 => (some (bt334.1, bt349.1, bt334.2.2.1, bt349.2.1, bt349.2.2))) else (if bt340.1 = 2 then ((spec_l1PickInt.f s0_0 bt340.2.1 bt340.2.2 (([1000000001, 3] : List Int))).bind fun bt355 => (some (bt334.1, bt334.2.1, bt355.1, bt355.2.1, bt355.2.2))) else (some (bt334.1, bt334.2.1, bt334.2.2.1, bt340.2.1, bt340.2.2))))))) = some (r1, r2, r3, r4, r5) := h
 clear h
 replace H := Option.bind_eq_some_iff.mp H
 obtain ⟨⟨t334, t335, t336, t337, t338⟩, A20, H⟩ := H
 replace H : ((spec_l1Below.f s0_0 t337 t338 15).bind fun bt340 => (if bt340.1 = 0 then ((spec_l1Below.f s0_0 bt340.2.1 bt340.2.2 7).bind fun bt343 => (some (wrap64 (bt343.1 - 1), t335, t336, bt343.2.1, bt343.2.2))) else (if bt340.1 = 1 then ((spec_l1PickInt.f s0_0 bt340.2.1 bt340.2.2 (([(-1), 1000] : List Int))).bind fun bt349 => (some (t334, bt349.1, t336, bt349.2.1, bt349.2.2))) else (if bt340.1 = 2 then ((spec_l1PickInt.f s0_0 bt340.2.1 bt340.2.2 (([1000000001, 3] : List Int))).bind fun bt355 => (some (t334, t335, bt355.1, bt355.2.1, bt355.2.2))) else (some (t334, t335, t336, bt340.2.1, bt340.2.2)))))) = some (r1, r2, r3, r4, r5) := H
 have A2 := q_ A20
 clear A20
 replace H := Option.bind_eq_some_iff.mp H
 obtain ⟨⟨t340, t341, t342⟩, A30, H⟩ := H
 replace H : (if t340 = 0 then ((spec_l1Below.f s0_0 t341 t342 7).bind fun bt343 => (some (wrap64 (bt343.1 - 1), t335, t336, bt343.2.1, bt343.2.2))) else (if t340 = 1 then ((spec_l1PickInt.f s0_0 t341 t342 (([(-1), 1000] : List Int))).bind fun bt349 => (some (t334, bt349.1, t336, bt349.2.1, bt349.2.2))) else (if t340 = 2 then ((spec_l1PickInt.f s0_0 t341 t342 (([1000000001, 3] : List Int))).bind fun bt355 => (some (t334, t335, bt355.1, bt355.2.1, bt355.2.2))) else (some (t334, t335, t336, t341, t342))))) = some (r1, r2, r3, r4, r5) := H
 have A3 := q_ A30
 clear A30
 by_cases c4 : t340 = 0
 ·rw [if_pos c4] at H
  have c4b0 : (t340 == 0) = true := beq_iff_eq.mpr c4
  have c4b1 : (t340 != 0) = false := bne_eq_false_iff_eq.mpr c4
  clear c4
  replace H := Option.bind_eq_some_iff.mp H
  obtain ⟨⟨t343, t344, t345⟩, A50, H⟩ := H
  replace H : (some (wrap64 (t343 - 1), t335, t336, t344, t345)) = some (r1, r2, r3, r4, r5) := H
  have A5 := q_ A50
  clear A50
  simp only [Option.some.injEq, Prod.mk.injEq] at H
  obtain ⟨rfl, rfl, rfl, rfl, rfl⟩ := H
  go_enter Try.func134, Try.ntmps134
  go_wp2_with (first | ((with_reducible refine gate_dst (N := 2) rfl ?_); refine box_event ?hg (N := 2) ?hd (cs := #[.int .i64 0, .int .i64 0, .int .i64 0]) (t := 67) ?hr ?_; (case hd => rfl); (case hg => rfl); (case hr => exact z108_); intro gb333 hg w6 hbox hb; have n0_ := q_ (IsS189.below z3_ hb); have n1_ := q_ (KeepBut.trans z2_ (KeepBut.of_below hb g none) (.inl rfl)); have n2_ := q_ (below_step z6_ hb); have n3_ := q_ (hbox); have n4_ := q_ ((z92_ : w.heap.size ≤ gb333)); have n5_ := q_ ((Nat.le_trans HW0.out (z92_ : w.heap.size ≤ gb333) : w0.heap.size ≤ gb333)); have n6_ := q_ ((z98_ : g ≠ gb333)); have n7_ := q_ ((z99_ : gb333 ≠ g)); clear HI0; clear HK; clear HB; have HI0 := n0_; have HK := n1_; have HB := n2_; have BK333 := n3_; have GW333 := n4_; have GE333 := n5_; have NB0_333 := n6_; have NB333_0 := n7_; clear n0_ n1_ n2_ n3_ n4_ n5_ n6_ n7_; clear hb hbox hg) | ((with_reducible refine gate_callee (f := 175) rfl ?_); refine goesL_ (some 5) rfl rfl Try.func175 (by kernel_rfl) rfl #[.pointer (some ⟨g, 0, none⟩)] rfl z1_ ?_; (with_reducible refine (spec_l1DrawMsg.calls k g s0_0 s0_1 s0_2 t334 t335 t336 t337 t338 w0 _ ?side1 ?side2 A2.out).mono ?_); (case side1 => exact z118_); (case side2 => exact z119_); rintro e w7 ⟨rfl, hi, hb, hk⟩; refine ⟨_, rfl, ?_⟩; have n0_ := q_ (KeepBut.blk hk (g' := gb333) (o := .cells #[.int .i64 0, .int .i64 0, .int .i64 0] 67 (0, 0)) z14_ NB333_0.out (by simp)); have n1_ := q_ (KeepBut.trans z10_ hk (.inl rfl)); have n2_ := q_ (hb); have n3_ := q_ (hi); clear BK333; clear HK; clear HB; clear HI0; have BK333 := n0_; have HK := n1_; have HB := n2_; have HI0 := n3_; clear n0_ n1_ n2_ n3_; (try clear hb); (try clear hb2); (try clear hk); (try clear hi)) | ((with_reducible refine gate_dst (N := 3) rfl ?_); refine box_event ?hg (N := 3) ?hd (cs := #[.int .i64 0, .int .i64 0, .int .i64 0]) (t := 67) ?hr ?_; (case hd => rfl); (case hg => rfl); (case hr => exact z108_); intro gb339 hg w8 hbox hb; have n0_ := q_ (IsS189.below z13_ hb); have n1_ := q_ (blk_below (g := gb333) (o := .cells #[.int .i64 0, .int .i64 0, .int .i64 0] 67 (0, 0)) z14_ hb); have n2_ := q_ (KeepBut.trans z10_ (KeepBut.of_below hb g none) (.inl rfl)); have n3_ := q_ (below_step z46_ hb); have n4_ := q_ (hbox); have n5_ := q_ ((z95_ : w.heap.size ≤ gb339)); have n6_ := q_ ((Nat.le_trans HW0.out (z95_ : w.heap.size ≤ gb339) : w0.heap.size ≤ gb339)); have n7_ := q_ ((z96_ : gb333 ≠ gb339)); have n8_ := q_ ((z97_ : gb339 ≠ gb333)); have n9_ := q_ ((z100_ : g ≠ gb339)); have n10_ := q_ ((z101_ : gb339 ≠ g)); clear HI0; clear BK333; clear HK; clear HB; have HI0 := n0_; have BK333 := n1_; have HK := n2_; have HB := n3_; have BK339 := n4_; have GW339 := n5_; have GE339 := n6_; have NB333_339 := n7_; have NB339_333 := n8_; have NB0_339 := n9_; have NB339_0 := n10_; clear n0_ n1_ n2_ n3_ n4_ n5_ n6_ n7_ n8_ n9_ n10_; clear hb hbox hg; have hnb9 := NB339_333.out; have hnc9 := NB333_339.out; have hnb10 := NB339_0.out; have hnc10 := NB0_339.out; obtain ⟨hcz11_0, hcz11_1, hcz11_2, hfz11_0, hfz11_1, hfz11_2⟩ := cs3_ BK339.out) | ((with_reducible refine gate_callee (f := 126) rfl ?_); refine goesL_ (some 7) rfl rfl Try.func126 (by kernel_rfl) rfl #[.pointer (some ⟨g, 0, none⟩), .int .i64 15] rfl z1_ ?_; (with_reducible refine (spec_l1Below.calls g s0_0 t337 t338 15 t340 t341 t342 w0 _ ?side1 ?side2 A3.out).mono ?_); (case side1 => exact z111_); (case side2 => exact z112_); rintro e w12 ⟨rfl, hi, hb, hk⟩; refine ⟨_, rfl, ?_⟩; have n0_ := q_ (KeepBut.blk hk (g' := gb333) (o := .cells #[.int .i64 0, .int .i64 0, .int .i64 0] 67 (0, 0)) z16_ NB333_0.out (by simp)); have n1_ := q_ (KeepBut.blk hk (g' := gb339) (o := .cells #[.int .i64 t334, .int .i64 t335, .int .i64 t336] 67 (0, 0)) z12_ NB339_0.out (by simp)); have n2_ := q_ (KeepBut.trans z8_ hk (.inl rfl)); have n3_ := q_ (hb); have n4_ := q_ (hi); clear BK333; clear BK339; clear HK; clear HB; clear HI0; have BK333 := n0_; have BK339 := n1_; have HK := n2_; have HB := n3_; have HI0 := n4_; clear n0_ n1_ n2_ n3_ n4_; (try clear hb); (try clear hb2); (try clear hk); (try clear hi)) | ((with_reducible refine gate_callee (f := 126) rfl ?_); refine goesL_ (some 11) rfl rfl Try.func126 (by kernel_rfl) rfl #[.pointer (some ⟨g, 0, none⟩), .int .i64 7] rfl z1_ ?_; (with_reducible refine (spec_l1Below.calls g s0_0 t341 t342 7 t343 t344 t345 w0 _ ?side1 ?side2 A5.out).mono ?_); (case side1 => exact z111_); (case side2 => exact z112_); rintro e w13 ⟨rfl, hi, hb, hk⟩; refine ⟨_, rfl, ?_⟩; have n0_ := q_ (KeepBut.blk hk (g' := gb333) (o := .cells #[.int .i64 0, .int .i64 0, .int .i64 0] 67 (0, 0)) z14_ NB333_0.out (by simp)); have n1_ := q_ (KeepBut.blk hk (g' := gb339) (o := .cells #[.int .i64 t334, .int .i64 t335, .int .i64 t336] 67 (0, 0)) z58_ NB339_0.out (by simp)); have n2_ := q_ (KeepBut.trans z8_ hk (.inl rfl)); have n3_ := q_ (hb); have n4_ := q_ (hi); clear BK333; clear BK339; clear HK; clear HB; clear HI0; have BK333 := n0_; have BK339 := n1_; have HK := n2_; have HB := n3_; have HI0 := n4_; clear n0_ n1_ n2_ n3_ n4_; (try clear hb); (try clear hb2); (try clear hk); (try clear hi); obtain ⟨hcz14_0, hcz14_1, hcz14_2, hfz14_0, hfz14_1, hfz14_2⟩ := cs3_ BK339.out; have hnb15 := NB333_0.out; have hnc15 := NB0_333.out; obtain ⟨hcz16_0, hcz16_1, hcz16_2, hfz16_0, hfz16_1, hfz16_2⟩ := cs3_ BK333.out))
  refine bodyPost_ret (results_cell_row rfl _ _ gb333 67 #[.int .i64 (wrap64 (t343 - 1)), .int .i64 t335, .int .i64 t336] (0, 0) _ rfl (by (with_reducible repeat (first | refine blk_drewN ?_ _ | refine blk_drew ?_ | refine blk_alloc ?_ _)); refine blk_put (cs := #[.int .i64 (wrap64 (t343 - 1)), .int .i64 t335, .int .i64 0]) ?_ 2 _ rfl; (with_reducible repeat (first | refine blk_drewN ?_ _ | refine blk_drew ?_ | refine blk_alloc ?_ _)); refine blk_put (cs := #[.int .i64 (wrap64 (t343 - 1)), .int .i64 0, .int .i64 0]) ?_ 1 _ rfl; (with_reducible repeat (first | refine blk_drewN ?_ _ | refine blk_drew ?_ | refine blk_alloc ?_ _)); refine blk_put (cs := #[.int .i64 0, .int .i64 0, .int .i64 0]) ?_ 0 _ rfl; (with_reducible repeat (first | refine blk_drewN ?_ _ | refine blk_drew ?_ | refine blk_alloc ?_ _)); refine blk_far ?_ NB333_339.out _; (with_reducible repeat (first | refine blk_drewN ?_ _ | refine blk_drew ?_ | refine blk_alloc ?_ _)); exact BK333.out) Try.underlying67 rfl (by kernel_rfl)) rfl ?_
  exact ⟨z4_, z19_, z29_, z8_⟩
 ·rw [if_neg c4] at H
  have c4b0 : (t340 == 0) = false := beq_eq_false_iff_ne.mpr c4
  have c4b1 : (t340 != 0) = true := bne_iff_ne.mpr c4
  by_cases c17 : t340 = 1
  ·rw [if_pos c17] at H
   have c17b0 : (t340 == 1) = true := beq_iff_eq.mpr c17
   have c17b1 : (t340 != 1) = false := bne_eq_false_iff_eq.mpr c17
   clear c17
   obtain ⟨y346, hy346⟩ : ∃ y_ : List Int, y_ = (([(-1), 1000] : List Int)) := ⟨_, rfl⟩
   replace H : ((spec_l1PickInt.f s0_0 t341 t342 y346).bind fun bt349 => (some (t334, bt349.1, t336, bt349.2.1, bt349.2.2))) = some (r1, r2, r3, r4, r5) := by first | (rw [hy346]; with_reducible exact H) | (have H2_ := (Option.bind_some _ _).symm.trans H; rw [hy346]; with_reducible exact H2_) | (have H2_ := (Option.bind_some _ _).symm.trans H; with_reducible exact H2_) | with_reducible exact H | (rw [hy346]; exact H) | exact H
   have Ny346 := q_ hy346
   clear hy346
   replace H := Option.bind_eq_some_iff.mp H
   obtain ⟨⟨t349, t350, t351⟩, A180, H⟩ := H
   replace H : (some (t334, t349, t336, t350, t351)) = some (r1, r2, r3, r4, r5) := H
   have A18 := q_ A180
   clear A180
   simp only [Option.some.injEq, Prod.mk.injEq] at H
   obtain ⟨rfl, rfl, rfl, rfl, rfl⟩ := H
   go_enter Try.func134, Try.ntmps134
   go_wp2_with (first | ((with_reducible refine gate_dst (N := 2) rfl ?_); refine box_event ?hg (N := 2) ?hd (cs := #[.int .i64 0, .int .i64 0, .int .i64 0]) (t := 67) ?hr ?_; (case hd => rfl); (case hg => rfl); (case hr => exact z108_); intro gb333 hg w19 hbox hb; have n0_ := q_ (IsS189.below z3_ hb); have n1_ := q_ (KeepBut.trans z2_ (KeepBut.of_below hb g none) (.inl rfl)); have n2_ := q_ (below_step z6_ hb); have n3_ := q_ (hbox); have n4_ := q_ ((z92_ : w.heap.size ≤ gb333)); have n5_ := q_ ((Nat.le_trans HW0.out (z92_ : w.heap.size ≤ gb333) : w0.heap.size ≤ gb333)); have n6_ := q_ ((z98_ : g ≠ gb333)); have n7_ := q_ ((z99_ : gb333 ≠ g)); clear HI0; clear HK; clear HB; have HI0 := n0_; have HK := n1_; have HB := n2_; have BK333 := n3_; have GW333 := n4_; have GE333 := n5_; have NB0_333 := n6_; have NB333_0 := n7_; clear n0_ n1_ n2_ n3_ n4_ n5_ n6_ n7_; clear hb hbox hg) | ((with_reducible refine gate_callee (f := 175) rfl ?_); refine goesL_ (some 5) rfl rfl Try.func175 (by kernel_rfl) rfl #[.pointer (some ⟨g, 0, none⟩)] rfl z1_ ?_; (with_reducible refine (spec_l1DrawMsg.calls k g s0_0 s0_1 s0_2 t334 t335 t336 t337 t338 w0 _ ?side1 ?side2 A2.out).mono ?_); (case side1 => exact z118_); (case side2 => exact z119_); rintro e w20 ⟨rfl, hi, hb, hk⟩; refine ⟨_, rfl, ?_⟩; have n0_ := q_ (KeepBut.blk hk (g' := gb333) (o := .cells #[.int .i64 0, .int .i64 0, .int .i64 0] 67 (0, 0)) z14_ NB333_0.out (by simp)); have n1_ := q_ (KeepBut.trans z10_ hk (.inl rfl)); have n2_ := q_ (hb); have n3_ := q_ (hi); clear BK333; clear HK; clear HB; clear HI0; have BK333 := n0_; have HK := n1_; have HB := n2_; have HI0 := n3_; clear n0_ n1_ n2_ n3_; (try clear hb); (try clear hb2); (try clear hk); (try clear hi)) | ((with_reducible refine gate_dst (N := 3) rfl ?_); refine box_event ?hg (N := 3) ?hd (cs := #[.int .i64 0, .int .i64 0, .int .i64 0]) (t := 67) ?hr ?_; (case hd => rfl); (case hg => rfl); (case hr => exact z108_); intro gb339 hg w21 hbox hb; have n0_ := q_ (IsS189.below z13_ hb); have n1_ := q_ (blk_below (g := gb333) (o := .cells #[.int .i64 0, .int .i64 0, .int .i64 0] 67 (0, 0)) z14_ hb); have n2_ := q_ (KeepBut.trans z10_ (KeepBut.of_below hb g none) (.inl rfl)); have n3_ := q_ (below_step z46_ hb); have n4_ := q_ (hbox); have n5_ := q_ ((z95_ : w.heap.size ≤ gb339)); have n6_ := q_ ((Nat.le_trans HW0.out (z95_ : w.heap.size ≤ gb339) : w0.heap.size ≤ gb339)); have n7_ := q_ ((z96_ : gb333 ≠ gb339)); have n8_ := q_ ((z97_ : gb339 ≠ gb333)); have n9_ := q_ ((z100_ : g ≠ gb339)); have n10_ := q_ ((z101_ : gb339 ≠ g)); clear HI0; clear BK333; clear HK; clear HB; have HI0 := n0_; have BK333 := n1_; have HK := n2_; have HB := n3_; have BK339 := n4_; have GW339 := n5_; have GE339 := n6_; have NB333_339 := n7_; have NB339_333 := n8_; have NB0_339 := n9_; have NB339_0 := n10_; clear n0_ n1_ n2_ n3_ n4_ n5_ n6_ n7_ n8_ n9_ n10_; clear hb hbox hg; have hnb22 := NB339_333.out; have hnc22 := NB333_339.out; have hnb23 := NB339_0.out; have hnc23 := NB0_339.out; obtain ⟨hcz24_0, hcz24_1, hcz24_2, hfz24_0, hfz24_1, hfz24_2⟩ := cs3_ BK339.out) | ((with_reducible refine gate_callee (f := 126) rfl ?_); refine goesL_ (some 7) rfl rfl Try.func126 (by kernel_rfl) rfl #[.pointer (some ⟨g, 0, none⟩), .int .i64 15] rfl z1_ ?_; (with_reducible refine (spec_l1Below.calls g s0_0 t337 t338 15 t340 t341 t342 w0 _ ?side1 ?side2 A3.out).mono ?_); (case side1 => exact z111_); (case side2 => exact z112_); rintro e w25 ⟨rfl, hi, hb, hk⟩; refine ⟨_, rfl, ?_⟩; have n0_ := q_ (KeepBut.blk hk (g' := gb333) (o := .cells #[.int .i64 0, .int .i64 0, .int .i64 0] 67 (0, 0)) z16_ NB333_0.out (by simp)); have n1_ := q_ (KeepBut.blk hk (g' := gb339) (o := .cells #[.int .i64 t334, .int .i64 t335, .int .i64 t336] 67 (0, 0)) z12_ NB339_0.out (by simp)); have n2_ := q_ (KeepBut.trans z8_ hk (.inl rfl)); have n3_ := q_ (hb); have n4_ := q_ (hi); clear BK333; clear BK339; clear HK; clear HB; clear HI0; have BK333 := n0_; have BK339 := n1_; have HK := n2_; have HB := n3_; have HI0 := n4_; clear n0_ n1_ n2_ n3_ n4_; (try clear hb); (try clear hb2); (try clear hk); (try clear hi)) | ((with_reducible refine gate_dst (N := 17) rfl ?_); refine Kd.R_lit (Kd.int .i64) _ 3 ?hg (N := 17) ?hd (xs := ([(-1), 1000] : List Int)) (inner := [.int .i64 (-1), .int .i64 1000]) (ok := fun _ => True) (okp := fun _ => True) ?hr ?hp (fun _ hk => hk) trivial (Below.refl _ _) (Nat.le_refl _) (by simp) ?_; (case hd => rfl); (case hg => rfl); (case hr => exact z108_); (case hp => exact (Reps.one (show Kd.M (Kd.int .i64) _ _ _ (-1) [.int .i64 (-1)] from rfl) (Reps.one (show Kd.M (Kd.int .i64) _ _ _ 1000 [.int .i64 1000] from rfl) (Reps.none _ _)))); intro v347 w26 ho27 hb hg_ hnew_; clear hg_ hnew_; (first | rw [← Ny346.out] at ho27 | (simp only [Int.reduceToNat] at ho27; rw [← Ny346.out] at ho27)); have n0_ := q_ (Kd.R_lower ho27 (keep_size (w := w) (g := g) (row := none) z8_)); have n1_ := q_ (IsS189.below z19_ hb); have n2_ := q_ (blk_below (g := gb333) (o := .cells #[.int .i64 0, .int .i64 0, .int .i64 0] 67 (0, 0)) z14_ hb); have n3_ := q_ (blk_below (g := gb339) (o := .cells #[.int .i64 t334, .int .i64 t335, .int .i64 t336] 67 (0, 0)) z58_ hb); have n4_ := q_ (KeepBut.trans z8_ (KeepBut.of_below hb g none) (.inl rfl)); have n5_ := q_ (below_step z29_ hb); clear HI0; clear BK333; clear BK339; clear HK; clear HB; have HO348 := n0_; have HI0 := n1_; have BK333 := n2_; have BK339 := n3_; have HK := n4_; have HB := n5_; clear n0_ n1_ n2_ n3_ n4_ n5_; clear hb ho27; obtain ⟨Ao28, co28, eo28⟩ := Kd.R_slice HO348.out; subst eo28) | ((with_reducible refine gate_callee (f := 167) rfl ?_); refine goesL_ (some 18) rfl rfl Try.func167 (by kernel_rfl) rfl #[.pointer (some ⟨g, 0, none⟩), .slice Ao28 y346.length co28] rfl z1_ ?_; (with_reducible refine (spec_l1PickInt.calls g s0_0 t341 t342 _ _ y346 t349 t350 t351 w0 _ ?side1 ?side2 ?side3 ?side4 ?side5 A18.out).mono ?_); (case side1 => exact z111_); (case side2 => exact z112_); (case side3 => repeat (first | exact (Kd.R_reads' HO348.out).2.2 | (with_reducible refine Kd.C_alloc ?_ _) | (with_reducible refine Kd.C_drewN ?_ _) | (with_reducible refine Kd.C_drew ?_))); (case side4 => exact (Kd.R_reads' HO348.out).2.1); (case side5 => exact far_slice (IsS189.own_ne HI0.out HO348.out (by decide))); rintro e w29 ⟨rfl, hi, hb, hk⟩; refine ⟨_, rfl, ?_⟩; have n0_ := q_ (KeepBut.blk hk (g' := gb333) (o := .cells #[.int .i64 0, .int .i64 0, .int .i64 0] 67 (0, 0)) z14_ NB333_0.out (by simp)); have n1_ := q_ (KeepBut.blk hk (g' := gb339) (o := .cells #[.int .i64 t334, .int .i64 t335, .int .i64 t336] 67 (0, 0)) z58_ NB339_0.out (by simp)); have n2_ := q_ (Kd.R_mono (Kd.R_keep (IsS189.apart (show IsS189 w0 _ g s0_0 t341 t342 from z19_) (by (with_reducible repeat (first | apply Kd.R_alloc | apply Kd.R_drewN | apply Kd.R_drew)); exact HO348.out) (by decide)) hk (fun _ h => h.2)) (fun _ h => h.1)); have n3_ := q_ (KeepBut.trans z8_ hk (.inl rfl)); have n4_ := q_ (hb); have n5_ := q_ (hi); clear BK333; clear BK339; clear HO348; clear HK; clear HB; clear HI0; have BK333 := n0_; have BK339 := n1_; have HO348 := n2_; have HK := n3_; have HB := n4_; have HI0 := n5_; clear n0_ n1_ n2_ n3_ n4_ n5_; (try clear hb); (try clear hb2); (try clear hk); (try clear hi); obtain ⟨hcz30_0, hcz30_1, hcz30_2, hfz30_0, hfz30_1, hfz30_2⟩ := cs3_ BK339.out; have hnb31 := NB333_0.out; have hnc31 := NB0_333.out; obtain ⟨hcz32_0, hcz32_1, hcz32_2, hfz32_0, hfz32_1, hfz32_2⟩ := cs3_ BK333.out))
   refine bodyPost_ret (results_cell_row rfl _ _ gb333 67 #[.int .i64 t334, .int .i64 t349, .int .i64 t336] (0, 0) _ rfl (by (with_reducible repeat (first | refine blk_drewN ?_ _ | refine blk_drew ?_ | refine blk_alloc ?_ _)); refine blk_put (cs := #[.int .i64 t334, .int .i64 t349, .int .i64 0]) ?_ 2 _ rfl; (with_reducible repeat (first | refine blk_drewN ?_ _ | refine blk_drew ?_ | refine blk_alloc ?_ _)); refine blk_put (cs := #[.int .i64 t334, .int .i64 0, .int .i64 0]) ?_ 1 _ rfl; (with_reducible repeat (first | refine blk_drewN ?_ _ | refine blk_drew ?_ | refine blk_alloc ?_ _)); refine blk_put (cs := #[.int .i64 0, .int .i64 0, .int .i64 0]) ?_ 0 _ rfl; (with_reducible repeat (first | refine blk_drewN ?_ _ | refine blk_drew ?_ | refine blk_alloc ?_ _)); refine blk_far ?_ NB333_339.out _; (with_reducible repeat (first | refine blk_drewN ?_ _ | refine blk_drew ?_ | refine blk_alloc ?_ _)); exact BK333.out) Try.underlying67 rfl (by kernel_rfl)) rfl ?_
   exact ⟨z4_, z19_, z29_, z8_⟩
  ·rw [if_neg c17] at H
   have c17b0 : (t340 == 1) = false := beq_eq_false_iff_ne.mpr c17
   have c17b1 : (t340 != 1) = true := bne_iff_ne.mpr c17
   by_cases c33 : t340 = 2
   ·rw [if_pos c33] at H
    have c33b0 : (t340 == 2) = true := beq_iff_eq.mpr c33
    have c33b1 : (t340 != 2) = false := bne_eq_false_iff_eq.mpr c33
    clear c33
    obtain ⟨y352, hy352⟩ : ∃ y_ : List Int, y_ = (([1000000001, 3] : List Int)) := ⟨_, rfl⟩
    replace H : ((spec_l1PickInt.f s0_0 t341 t342 y352).bind fun bt355 => (some (t334, t335, bt355.1, bt355.2.1, bt355.2.2))) = some (r1, r2, r3, r4, r5) := by first | (rw [hy352]; with_reducible exact H) | (have H2_ := (Option.bind_some _ _).symm.trans H; rw [hy352]; with_reducible exact H2_) | (have H2_ := (Option.bind_some _ _).symm.trans H; with_reducible exact H2_) | with_reducible exact H | (rw [hy352]; exact H) | exact H
    have Ny352 := q_ hy352
    clear hy352
    replace H := Option.bind_eq_some_iff.mp H
    obtain ⟨⟨t355, t356, t357⟩, A340, H⟩ := H
    replace H : (some (t334, t335, t355, t356, t357)) = some (r1, r2, r3, r4, r5) := H
    have A34 := q_ A340
    clear A340
    simp only [Option.some.injEq, Prod.mk.injEq] at H
    obtain ⟨rfl, rfl, rfl, rfl, rfl⟩ := H
    go_enter Try.func134, Try.ntmps134
    go_wp2_with (first | ((with_reducible refine gate_dst (N := 2) rfl ?_); refine box_event ?hg (N := 2) ?hd (cs := #[.int .i64 0, .int .i64 0, .int .i64 0]) (t := 67) ?hr ?_; (case hd => rfl); (case hg => rfl); (case hr => exact z108_); intro gb333 hg w35 hbox hb; have n0_ := q_ (IsS189.below z3_ hb); have n1_ := q_ (KeepBut.trans z2_ (KeepBut.of_below hb g none) (.inl rfl)); have n2_ := q_ (below_step z6_ hb); have n3_ := q_ (hbox); have n4_ := q_ ((z92_ : w.heap.size ≤ gb333)); have n5_ := q_ ((Nat.le_trans HW0.out (z92_ : w.heap.size ≤ gb333) : w0.heap.size ≤ gb333)); have n6_ := q_ ((z98_ : g ≠ gb333)); have n7_ := q_ ((z99_ : gb333 ≠ g)); clear HI0; clear HK; clear HB; have HI0 := n0_; have HK := n1_; have HB := n2_; have BK333 := n3_; have GW333 := n4_; have GE333 := n5_; have NB0_333 := n6_; have NB333_0 := n7_; clear n0_ n1_ n2_ n3_ n4_ n5_ n6_ n7_; clear hb hbox hg) | ((with_reducible refine gate_callee (f := 175) rfl ?_); refine goesL_ (some 5) rfl rfl Try.func175 (by kernel_rfl) rfl #[.pointer (some ⟨g, 0, none⟩)] rfl z1_ ?_; (with_reducible refine (spec_l1DrawMsg.calls k g s0_0 s0_1 s0_2 t334 t335 t336 t337 t338 w0 _ ?side1 ?side2 A2.out).mono ?_); (case side1 => exact z118_); (case side2 => exact z119_); rintro e w36 ⟨rfl, hi, hb, hk⟩; refine ⟨_, rfl, ?_⟩; have n0_ := q_ (KeepBut.blk hk (g' := gb333) (o := .cells #[.int .i64 0, .int .i64 0, .int .i64 0] 67 (0, 0)) z14_ NB333_0.out (by simp)); have n1_ := q_ (KeepBut.trans z10_ hk (.inl rfl)); have n2_ := q_ (hb); have n3_ := q_ (hi); clear BK333; clear HK; clear HB; clear HI0; have BK333 := n0_; have HK := n1_; have HB := n2_; have HI0 := n3_; clear n0_ n1_ n2_ n3_; (try clear hb); (try clear hb2); (try clear hk); (try clear hi)) | ((with_reducible refine gate_dst (N := 3) rfl ?_); refine box_event ?hg (N := 3) ?hd (cs := #[.int .i64 0, .int .i64 0, .int .i64 0]) (t := 67) ?hr ?_; (case hd => rfl); (case hg => rfl); (case hr => exact z108_); intro gb339 hg w37 hbox hb; have n0_ := q_ (IsS189.below z13_ hb); have n1_ := q_ (blk_below (g := gb333) (o := .cells #[.int .i64 0, .int .i64 0, .int .i64 0] 67 (0, 0)) z14_ hb); have n2_ := q_ (KeepBut.trans z10_ (KeepBut.of_below hb g none) (.inl rfl)); have n3_ := q_ (below_step z46_ hb); have n4_ := q_ (hbox); have n5_ := q_ ((z95_ : w.heap.size ≤ gb339)); have n6_ := q_ ((Nat.le_trans HW0.out (z95_ : w.heap.size ≤ gb339) : w0.heap.size ≤ gb339)); have n7_ := q_ ((z96_ : gb333 ≠ gb339)); have n8_ := q_ ((z97_ : gb339 ≠ gb333)); have n9_ := q_ ((z100_ : g ≠ gb339)); have n10_ := q_ ((z101_ : gb339 ≠ g)); clear HI0; clear BK333; clear HK; clear HB; have HI0 := n0_; have BK333 := n1_; have HK := n2_; have HB := n3_; have BK339 := n4_; have GW339 := n5_; have GE339 := n6_; have NB333_339 := n7_; have NB339_333 := n8_; have NB0_339 := n9_; have NB339_0 := n10_; clear n0_ n1_ n2_ n3_ n4_ n5_ n6_ n7_ n8_ n9_ n10_; clear hb hbox hg; have hnb38 := NB339_333.out; have hnc38 := NB333_339.out; have hnb39 := NB339_0.out; have hnc39 := NB0_339.out; obtain ⟨hcz40_0, hcz40_1, hcz40_2, hfz40_0, hfz40_1, hfz40_2⟩ := cs3_ BK339.out) | ((with_reducible refine gate_callee (f := 126) rfl ?_); refine goesL_ (some 7) rfl rfl Try.func126 (by kernel_rfl) rfl #[.pointer (some ⟨g, 0, none⟩), .int .i64 15] rfl z1_ ?_; (with_reducible refine (spec_l1Below.calls g s0_0 t337 t338 15 t340 t341 t342 w0 _ ?side1 ?side2 A3.out).mono ?_); (case side1 => exact z111_); (case side2 => exact z112_); rintro e w41 ⟨rfl, hi, hb, hk⟩; refine ⟨_, rfl, ?_⟩; have n0_ := q_ (KeepBut.blk hk (g' := gb333) (o := .cells #[.int .i64 0, .int .i64 0, .int .i64 0] 67 (0, 0)) z16_ NB333_0.out (by simp)); have n1_ := q_ (KeepBut.blk hk (g' := gb339) (o := .cells #[.int .i64 t334, .int .i64 t335, .int .i64 t336] 67 (0, 0)) z12_ NB339_0.out (by simp)); have n2_ := q_ (KeepBut.trans z8_ hk (.inl rfl)); have n3_ := q_ (hb); have n4_ := q_ (hi); clear BK333; clear BK339; clear HK; clear HB; clear HI0; have BK333 := n0_; have BK339 := n1_; have HK := n2_; have HB := n3_; have HI0 := n4_; clear n0_ n1_ n2_ n3_ n4_; (try clear hb); (try clear hb2); (try clear hk); (try clear hi)) | ((with_reducible refine gate_dst (N := 23) rfl ?_); refine Kd.R_lit (Kd.int .i64) _ 3 ?hg (N := 23) ?hd (xs := ([1000000001, 3] : List Int)) (inner := [.int .i64 1000000001, .int .i64 3]) (ok := fun _ => True) (okp := fun _ => True) ?hr ?hp (fun _ hk => hk) trivial (Below.refl _ _) (Nat.le_refl _) (by simp) ?_; (case hd => rfl); (case hg => rfl); (case hr => exact z108_); (case hp => exact (Reps.one (show Kd.M (Kd.int .i64) _ _ _ 1000000001 [.int .i64 1000000001] from rfl) (Reps.one (show Kd.M (Kd.int .i64) _ _ _ 3 [.int .i64 3] from rfl) (Reps.none _ _)))); intro v353 w42 ho43 hb hg_ hnew_; clear hg_ hnew_; (first | rw [← Ny352.out] at ho43 | (simp only [Int.reduceToNat] at ho43; rw [← Ny352.out] at ho43)); have n0_ := q_ (Kd.R_lower ho43 (keep_size (w := w) (g := g) (row := none) z8_)); have n1_ := q_ (IsS189.below z19_ hb); have n2_ := q_ (blk_below (g := gb333) (o := .cells #[.int .i64 0, .int .i64 0, .int .i64 0] 67 (0, 0)) z14_ hb); have n3_ := q_ (blk_below (g := gb339) (o := .cells #[.int .i64 t334, .int .i64 t335, .int .i64 t336] 67 (0, 0)) z58_ hb); have n4_ := q_ (KeepBut.trans z8_ (KeepBut.of_below hb g none) (.inl rfl)); have n5_ := q_ (below_step z29_ hb); clear HI0; clear BK333; clear BK339; clear HK; clear HB; have HO354 := n0_; have HI0 := n1_; have BK333 := n2_; have BK339 := n3_; have HK := n4_; have HB := n5_; clear n0_ n1_ n2_ n3_ n4_ n5_; clear hb ho43; obtain ⟨Ao44, co44, eo44⟩ := Kd.R_slice HO354.out; subst eo44) | ((with_reducible refine gate_callee (f := 167) rfl ?_); refine goesL_ (some 24) rfl rfl Try.func167 (by kernel_rfl) rfl #[.pointer (some ⟨g, 0, none⟩), .slice Ao44 y352.length co44] rfl z1_ ?_; (with_reducible refine (spec_l1PickInt.calls g s0_0 t341 t342 _ _ y352 t355 t356 t357 w0 _ ?side1 ?side2 ?side3 ?side4 ?side5 A34.out).mono ?_); (case side1 => exact z111_); (case side2 => exact z112_); (case side3 => repeat (first | exact (Kd.R_reads' HO354.out).2.2 | (with_reducible refine Kd.C_alloc ?_ _) | (with_reducible refine Kd.C_drewN ?_ _) | (with_reducible refine Kd.C_drew ?_))); (case side4 => exact (Kd.R_reads' HO354.out).2.1); (case side5 => exact far_slice (IsS189.own_ne HI0.out HO354.out (by decide))); rintro e w45 ⟨rfl, hi, hb, hk⟩; refine ⟨_, rfl, ?_⟩; have n0_ := q_ (KeepBut.blk hk (g' := gb333) (o := .cells #[.int .i64 0, .int .i64 0, .int .i64 0] 67 (0, 0)) z14_ NB333_0.out (by simp)); have n1_ := q_ (KeepBut.blk hk (g' := gb339) (o := .cells #[.int .i64 t334, .int .i64 t335, .int .i64 t336] 67 (0, 0)) z58_ NB339_0.out (by simp)); have n2_ := q_ (Kd.R_mono (Kd.R_keep (IsS189.apart (show IsS189 w0 _ g s0_0 t341 t342 from z19_) (by (with_reducible repeat (first | apply Kd.R_alloc | apply Kd.R_drewN | apply Kd.R_drew)); exact HO354.out) (by decide)) hk (fun _ h => h.2)) (fun _ h => h.1)); have n3_ := q_ (KeepBut.trans z8_ hk (.inl rfl)); have n4_ := q_ (hb); have n5_ := q_ (hi); clear BK333; clear BK339; clear HO354; clear HK; clear HB; clear HI0; have BK333 := n0_; have BK339 := n1_; have HO354 := n2_; have HK := n3_; have HB := n4_; have HI0 := n5_; clear n0_ n1_ n2_ n3_ n4_ n5_; (try clear hb); (try clear hb2); (try clear hk); (try clear hi); obtain ⟨hcz46_0, hcz46_1, hcz46_2, hfz46_0, hfz46_1, hfz46_2⟩ := cs3_ BK339.out; have hnb47 := NB333_0.out; have hnc47 := NB0_333.out; obtain ⟨hcz48_0, hcz48_1, hcz48_2, hfz48_0, hfz48_1, hfz48_2⟩ := cs3_ BK333.out))
    refine bodyPost_ret (results_cell_row rfl _ _ gb333 67 #[.int .i64 t334, .int .i64 t335, .int .i64 t355] (0, 0) _ rfl (by (with_reducible repeat (first | refine blk_drewN ?_ _ | refine blk_drew ?_ | refine blk_alloc ?_ _)); refine blk_put (cs := #[.int .i64 t334, .int .i64 t335, .int .i64 0]) ?_ 2 _ rfl; (with_reducible repeat (first | refine blk_drewN ?_ _ | refine blk_drew ?_ | refine blk_alloc ?_ _)); refine blk_put (cs := #[.int .i64 t334, .int .i64 0, .int .i64 0]) ?_ 1 _ rfl; (with_reducible repeat (first | refine blk_drewN ?_ _ | refine blk_drew ?_ | refine blk_alloc ?_ _)); refine blk_put (cs := #[.int .i64 0, .int .i64 0, .int .i64 0]) ?_ 0 _ rfl; (with_reducible repeat (first | refine blk_drewN ?_ _ | refine blk_drew ?_ | refine blk_alloc ?_ _)); refine blk_far ?_ NB333_339.out _; (with_reducible repeat (first | refine blk_drewN ?_ _ | refine blk_drew ?_ | refine blk_alloc ?_ _)); exact BK333.out) Try.underlying67 rfl (by kernel_rfl)) rfl ?_
    exact ⟨z4_, z19_, z29_, z8_⟩
   ·rw [if_neg c33] at H
    have c33b0 : (t340 == 2) = false := beq_eq_false_iff_ne.mpr c33
    have c33b1 : (t340 != 2) = true := bne_iff_ne.mpr c33
    simp only [Option.some.injEq, Prod.mk.injEq] at H
    obtain ⟨rfl, rfl, rfl, rfl, rfl⟩ := H
    go_enter Try.func134, Try.ntmps134
    go_wp2_with (first | ((with_reducible refine gate_dst (N := 2) rfl ?_); refine box_event ?hg (N := 2) ?hd (cs := #[.int .i64 0, .int .i64 0, .int .i64 0]) (t := 67) ?hr ?_; (case hd => rfl); (case hg => rfl); (case hr => exact z108_); intro gb333 hg w49 hbox hb; have n0_ := q_ (IsS189.below z3_ hb); have n1_ := q_ (KeepBut.trans z2_ (KeepBut.of_below hb g none) (.inl rfl)); have n2_ := q_ (below_step z6_ hb); have n3_ := q_ (hbox); have n4_ := q_ ((z92_ : w.heap.size ≤ gb333)); have n5_ := q_ ((Nat.le_trans HW0.out (z92_ : w.heap.size ≤ gb333) : w0.heap.size ≤ gb333)); have n6_ := q_ ((z98_ : g ≠ gb333)); have n7_ := q_ ((z99_ : gb333 ≠ g)); clear HI0; clear HK; clear HB; have HI0 := n0_; have HK := n1_; have HB := n2_; have BK333 := n3_; have GW333 := n4_; have GE333 := n5_; have NB0_333 := n6_; have NB333_0 := n7_; clear n0_ n1_ n2_ n3_ n4_ n5_ n6_ n7_; clear hb hbox hg) | ((with_reducible refine gate_callee (f := 175) rfl ?_); refine goesL_ (some 5) rfl rfl Try.func175 (by kernel_rfl) rfl #[.pointer (some ⟨g, 0, none⟩)] rfl z1_ ?_; (with_reducible refine (spec_l1DrawMsg.calls k g s0_0 s0_1 s0_2 t334 t335 t336 t337 t338 w0 _ ?side1 ?side2 A2.out).mono ?_); (case side1 => exact z118_); (case side2 => exact z119_); rintro e w50 ⟨rfl, hi, hb, hk⟩; refine ⟨_, rfl, ?_⟩; have n0_ := q_ (KeepBut.blk hk (g' := gb333) (o := .cells #[.int .i64 0, .int .i64 0, .int .i64 0] 67 (0, 0)) z14_ NB333_0.out (by simp)); have n1_ := q_ (KeepBut.trans z10_ hk (.inl rfl)); have n2_ := q_ (hb); have n3_ := q_ (hi); clear BK333; clear HK; clear HB; clear HI0; have BK333 := n0_; have HK := n1_; have HB := n2_; have HI0 := n3_; clear n0_ n1_ n2_ n3_; (try clear hb); (try clear hb2); (try clear hk); (try clear hi)) | ((with_reducible refine gate_dst (N := 3) rfl ?_); refine box_event ?hg (N := 3) ?hd (cs := #[.int .i64 0, .int .i64 0, .int .i64 0]) (t := 67) ?hr ?_; (case hd => rfl); (case hg => rfl); (case hr => exact z108_); intro gb339 hg w51 hbox hb; have n0_ := q_ (IsS189.below z13_ hb); have n1_ := q_ (blk_below (g := gb333) (o := .cells #[.int .i64 0, .int .i64 0, .int .i64 0] 67 (0, 0)) z14_ hb); have n2_ := q_ (KeepBut.trans z10_ (KeepBut.of_below hb g none) (.inl rfl)); have n3_ := q_ (below_step z46_ hb); have n4_ := q_ (hbox); have n5_ := q_ ((z95_ : w.heap.size ≤ gb339)); have n6_ := q_ ((Nat.le_trans HW0.out (z95_ : w.heap.size ≤ gb339) : w0.heap.size ≤ gb339)); have n7_ := q_ ((z96_ : gb333 ≠ gb339)); have n8_ := q_ ((z97_ : gb339 ≠ gb333)); have n9_ := q_ ((z100_ : g ≠ gb339)); have n10_ := q_ ((z101_ : gb339 ≠ g)); clear HI0; clear BK333; clear HK; clear HB; have HI0 := n0_; have BK333 := n1_; have HK := n2_; have HB := n3_; have BK339 := n4_; have GW339 := n5_; have GE339 := n6_; have NB333_339 := n7_; have NB339_333 := n8_; have NB0_339 := n9_; have NB339_0 := n10_; clear n0_ n1_ n2_ n3_ n4_ n5_ n6_ n7_ n8_ n9_ n10_; clear hb hbox hg; have hnb52 := NB339_333.out; have hnc52 := NB333_339.out; have hnb53 := NB339_0.out; have hnc53 := NB0_339.out; obtain ⟨hcz54_0, hcz54_1, hcz54_2, hfz54_0, hfz54_1, hfz54_2⟩ := cs3_ BK339.out) | ((with_reducible refine gate_callee (f := 126) rfl ?_); refine goesL_ (some 7) rfl rfl Try.func126 (by kernel_rfl) rfl #[.pointer (some ⟨g, 0, none⟩), .int .i64 15] rfl z1_ ?_; (with_reducible refine (spec_l1Below.calls g s0_0 t337 t338 15 t340 t341 t342 w0 _ ?side1 ?side2 A3.out).mono ?_); (case side1 => exact z111_); (case side2 => exact z112_); rintro e w55 ⟨rfl, hi, hb, hk⟩; refine ⟨_, rfl, ?_⟩; have n0_ := q_ (KeepBut.blk hk (g' := gb333) (o := .cells #[.int .i64 0, .int .i64 0, .int .i64 0] 67 (0, 0)) z16_ NB333_0.out (by simp)); have n1_ := q_ (KeepBut.blk hk (g' := gb339) (o := .cells #[.int .i64 t334, .int .i64 t335, .int .i64 t336] 67 (0, 0)) z12_ NB339_0.out (by simp)); have n2_ := q_ (KeepBut.trans z8_ hk (.inl rfl)); have n3_ := q_ (hb); have n4_ := q_ (hi); clear BK333; clear BK339; clear HK; clear HB; clear HI0; have BK333 := n0_; have BK339 := n1_; have HK := n2_; have HB := n3_; have HI0 := n4_; clear n0_ n1_ n2_ n3_ n4_; (try clear hb); (try clear hb2); (try clear hk); (try clear hi); obtain ⟨hcz56_0, hcz56_1, hcz56_2, hfz56_0, hfz56_1, hfz56_2⟩ := cs3_ BK339.out; have hnb57 := NB333_0.out; have hnc57 := NB0_333.out; obtain ⟨hcz58_0, hcz58_1, hcz58_2, hfz58_0, hfz58_1, hfz58_2⟩ := cs3_ BK333.out))
    refine bodyPost_ret (results_cell_row rfl _ _ gb333 67 #[.int .i64 t334, .int .i64 t335, .int .i64 t336] (0, 0) _ rfl (by (with_reducible repeat (first | refine blk_drewN ?_ _ | refine blk_drew ?_ | refine blk_alloc ?_ _)); refine blk_put (cs := #[.int .i64 t334, .int .i64 t335, .int .i64 0]) ?_ 2 _ rfl; (with_reducible repeat (first | refine blk_drewN ?_ _ | refine blk_drew ?_ | refine blk_alloc ?_ _)); refine blk_put (cs := #[.int .i64 t334, .int .i64 0, .int .i64 0]) ?_ 1 _ rfl; (with_reducible repeat (first | refine blk_drewN ?_ _ | refine blk_drew ?_ | refine blk_alloc ?_ _)); refine blk_put (cs := #[.int .i64 0, .int .i64 0, .int .i64 0]) ?_ 0 _ rfl; (with_reducible repeat (first | refine blk_drewN ?_ _ | refine blk_drew ?_ | refine blk_alloc ?_ _)); exact BK333.out) Try.underlying67 rfl (by kernel_rfl)) rfl ?_
    exact ⟨z4_, z19_, z29_, z8_⟩

/-! ### spec_l1DrawMsgs: function 140 -/
def spec_l1DrawMsgs.l0 : Nat → List (S67) → Int → Int → List Int → Int → Int → Option ((List (S67)) × Int × Int)
 | 0, _, _, _, _, _, _ => none
 | k + 1, x5, x6, x7, x1000, x1001, x1002 => if x7 < x6 then ((spec_l1DrawBad.f k x1000 x1001 x1002).bind fun bt364 => ((spec_l1Once.f x1000 bt364.2.2.2.1 bt364.2.2.2.2 2).bind fun bt370 => (if bt370.1 = true then (if x5.length < 5864062014805 then (spec_l1DrawMsgs.l0 k (x5 ++ [(⟨bt364.1, Int.tmod bt364.2.1 5, bt364.2.2.1⟩ : S67)]) x6 (wrap64 (x7 + 1)) x1000 bt370.2.1 bt370.2.2) else (none)) else (if x5.length < 5864062014805 then (spec_l1DrawMsgs.l0 k (x5 ++ [(⟨bt364.1, bt364.2.1, bt364.2.2.1⟩ : S67)]) x6 (wrap64 (x7 + 1)) x1000 bt370.2.1 bt370.2.2) else (none))))) else (some (x5, x1001, x1002))
def spec_l1DrawMsgs.f (k : Nat) (s0_0 : List Int) (s0_1 : Int) (s0_2 : Int) (a1 : Int) : Option ((List (S67)) × Int × Int) := (spec_l1Below.f s0_0 s0_1 s0_2 (wrap64 (a1 + 1))).bind fun bt361 => (spec_l1DrawMsgs.l0 k (([] : List (S67))) bt361.1 0 s0_0 bt361.2.1 bt361.2.2)
theorem spec_l1DrawMsgs.mono_l : ∀ k, (∀ y0 y1 y2 y3 y4 y5, LeO (spec_l1DrawMsgs.l0 k y0 y1 y2 y3 y4 y5) (spec_l1DrawMsgs.l0 (k + 1) y0 y1 y2 y3 y4 y5))
 | 0 => fun _ _ _ _ _ _ r h => by simp [spec_l1DrawMsgs.l0] at h
 | k + 1 => by
  have ih0 := spec_l1DrawMsgs.mono_l k
  ·intro y0 y1 y2 y3 y4 y5
   unfold spec_l1DrawMsgs.l0
   repeat' first
   | (with_reducible exact ih0 _ _ _ _ _ _)
   | (with_reducible exact spec_l1DrawBad.mono _ _ _ _)
   | (with_reducible exact LeO.refl _)
   | (with_reducible exact LeO.none _)
   | (with_reducible refine LeO.ite ?_ ?_)
   | (with_reducible refine LeO.bind ?_ (fun _ => ?_))
   | exact ih0 _ _ _ _ _ _
   | exact spec_l1DrawBad.mono _ _ _ _
   | exact LeO.none _
   | refine LeO.ite ?_ ?_
   | refine LeO.bind ?_ (fun _ => ?_)
theorem spec_l1DrawMsgs.mono : ∀ a0 a1 a2 a3 k, LeO (spec_l1DrawMsgs.f k a0 a1 a2 a3) (spec_l1DrawMsgs.f (k + 1) a0 a1 a2 a3) := by
 intro a0 a1 a2 a3 k
 have ih0 := spec_l1DrawMsgs.mono_l k
 unfold spec_l1DrawMsgs.f
 repeat' first
   | (with_reducible exact ih0 _ _ _ _ _ _)
   | (with_reducible exact spec_l1DrawBad.mono _ _ _ _)
   | (with_reducible exact LeO.refl _)
   | (with_reducible exact LeO.none _)
   | (with_reducible refine LeO.ite ?_ ?_)
   | (with_reducible refine LeO.bind ?_ (fun _ => ?_))
   | exact ih0 _ _ _ _ _ _
   | exact spec_l1DrawBad.mono _ _ _ _
   | exact LeO.none _
   | refine LeO.ite ?_ ?_
   | refine LeO.bind ?_ (fun _ => ?_)
set_option maxHeartbeats 8000000 in
set_option maxRecDepth 100000 in
theorem spec_l1DrawMsgs.calls (k : Nat) (g : Nat) (s0_0 : List Int) (s0_1 : Int) (s0_2 : Int) (a1 : Int) (r1 : List (S67)) (r2 : Int) (r3 : Int) (w0 w : World) (hI : IsS189 w0 w g s0_0 s0_1 s0_2) (hB : Below w0.heap.size w0 w) (h : spec_l1DrawMsgs.f k s0_0 s0_1 s0_2 a1 = some (r1, r2, r3)) :
  Calls Try.prog 140 #[.pointer (some ⟨g, 0, none⟩), .int .i64 a1] w fun e w' => ∃ v0_ : Value, e = .returned (v0_) ∧ Kd.R k67 67 w' w.heap.size (fun _ => True) v0_ r1 ∧ IsS189 w0 w' g s0_0 r2 r3 ∧ Below w0.heap.size w0 w' ∧ KeepBut w w' g none := by
 have hu67 := Try.underlying67
 have HI0 := q_ hI
 have HK := q_ (KeepBut.refl w g none)
 have HL := q_ hB.size
 clear hI
 have HW0 := q_ hB.size
 have HB := q_ hB
 clear hB
 have H : ((spec_l1Below.f s0_0 s0_1 s0_2 (wrap64 (a1 + 1))).bind fun bt361 => (spec_l1DrawMsgs.l0 k (([] : List (S67))) bt361.1 0 s0_0 bt361.2.1 bt361.2.2)) = some (r1, r2, r3) := h
 clear h
 obtain ⟨y358, hy358⟩ : ∃ y_ : List (S67), y_ = (([] : List (S67))) := ⟨_, rfl⟩
 replace H : ((spec_l1Below.f s0_0 s0_1 s0_2 (wrap64 (a1 + 1))).bind fun bt361 => (spec_l1DrawMsgs.l0 k y358 bt361.1 0 s0_0 bt361.2.1 bt361.2.2)) = some (r1, r2, r3) := by first | (rw [hy358]; with_reducible exact H) | (have H2_ := (Option.bind_some _ _).symm.trans H; rw [hy358]; with_reducible exact H2_) | (have H2_ := (Option.bind_some _ _).symm.trans H; with_reducible exact H2_) | with_reducible exact H | (rw [hy358]; exact H) | exact H
 have Ny358 := q_ hy358
 clear hy358
 replace H := Option.bind_eq_some_iff.mp H
 obtain ⟨⟨t361, t362, t363⟩, A30, H⟩ := H
 replace H : (spec_l1DrawMsgs.l0 k y358 t361 0 s0_0 t362 t363) = some (r1, r2, r3) := H
 have A3 := q_ A30
 clear A30
 have H' := q_ H
 clear H
 go_enter Try.func140, Try.ntmps140
 go_wp2_with (first | ((with_reducible refine gate_dst (N := 9) rfl ?_); refine Kd.R_lit k67 _ 67 ?hg (N := 9) ?hd (xs := ([] : List (S67))) (inner := []) (ok := fun _ => True) (okp := fun _ => True) ?hr ?hp (fun _ hk => hk) trivial (Below.refl _ _) (Nat.le_refl _) (by simp) ?_; (case hd => rfl); (case hg => rfl); (case hr => exact z108_); (case hp => exact z140_); intro v359 w4 ho5 hb hg_ hnew_; clear hg_ hnew_; (first | rw [← Ny358.out] at ho5 | (simp only [Int.reduceToNat] at ho5; rw [← Ny358.out] at ho5)); have n0_ := q_ (Kd.R_lower ho5 (keep_size (w := w) (g := g) (row := none) z2_)); have n1_ := q_ (IsS189.below z3_ hb); have n2_ := q_ (KeepBut.trans z2_ (KeepBut.of_below hb g none) (.inl rfl)); have n3_ := q_ (below_step z6_ hb); clear HI0; clear HK; clear HB; have HO360 := n0_; have HI0 := n1_; have HK := n2_; have HB := n3_; clear n0_ n1_ n2_ n3_; clear hb ho5) | ((with_reducible refine gate_callee (f := 126) rfl ?_); refine goesL_ (some 13) rfl rfl Try.func126 (by kernel_rfl) rfl #[.pointer (some ⟨g, 0, none⟩), .int .i64 (wrap64 (a1 + 1))] rfl z1_ ?_; (with_reducible refine (spec_l1Below.calls g s0_0 s0_1 s0_2 (wrap64 (a1 + 1)) t361 t362 t363 w0 _ ?side1 ?side2 A3.out).mono ?_); (case side1 => exact z106_); (case side2 => exact z107_); rintro e w6 ⟨rfl, hi, hb, hk⟩; refine ⟨_, rfl, ?_⟩; have n0_ := q_ (Kd.R_mono (Kd.R_keep (IsS189.apart (show IsS189 w0 _ g s0_0 s0_1 s0_2 from z3_) z80_ (by decide)) hk (fun _ h => h.2)) (fun _ h => h.1)); have n1_ := q_ (KeepBut.trans z2_ hk (.inl rfl)); have n2_ := q_ (hb); have n3_ := q_ (hi); clear HO360; clear HK; clear HB; clear HI0; have HO360 := n0_; have HK := n1_; have HB := n2_; have HI0 := n3_; clear n0_ n1_ n2_ n3_; (try clear hb); (try clear hb2); (try clear hk); (try clear hi)))
 go_loopg [5, 7] k (fun kq v5 v7 w' => ∃ (x5_1 : List (S67)) (x7_1 : Int) (x1001_1 : Int) (x1002_1 : Int), v7 = .int .i64 x7_1 ∧ Aside0 (spec_l1DrawMsgs.l0 kq x5_1 t361 x7_1 s0_0 x1001_1 x1002_1 = some (r1, r2, r3)) ∧ Aside0 (kq ≤ k) ∧ Aside0 (Kd.R k67 67 w' w.heap.size (fun _ => True) v5 x5_1) ∧ Aside0 (IsS189 w0 w' g s0_0 x1001_1 x1002_1) ∧ Aside0 (KeepBut w w' g none) ∧ Aside0 (Below w0.heap.size w0 w'))
 case atStart => exact ⟨(y358), (0), (t362), (t363), z7_, H', ⟨Nat.le_refl _⟩, ⟨z80_⟩, ⟨z3_⟩, ⟨z2_⟩, ⟨z6_⟩⟩
 case round =>
  clear H'
  try clear c1
  try clear p2
  try clear p6
  obtain ⟨x5_1, x7_1, x1001_1, x1002_1, rfl, HA, HK1, HO_5, HI0, HK, HB⟩ := hrel
  cases gk with
  | zero => exact absurd HA.out (by simp [spec_l1DrawMsgs.l0])
  | succ k1 =>
   have H := HA.out
   clear HA
   simp only [spec_l1DrawMsgs.l0] at H
   by_cases c7 : x7_1 < t361
   ·rw [if_pos c7] at H
    have c7b0 : decide (x7_1 < t361) = true := decide_eq_true c7
    clear c7
    replace H := Option.bind_eq_some_iff.mp H
    obtain ⟨⟨t364, t365, t366, t367, t368⟩, A80, H⟩ := H
    replace H : ((spec_l1Once.f s0_0 t367 t368 2).bind fun bt370 => (if bt370.1 = true then (if x5_1.length < 5864062014805 then (spec_l1DrawMsgs.l0 k1 (x5_1 ++ [(⟨t364, Int.tmod t365 5, t366⟩ : S67)]) t361 (wrap64 (x7_1 + 1)) s0_0 bt370.2.1 bt370.2.2) else (none)) else (if x5_1.length < 5864062014805 then (spec_l1DrawMsgs.l0 k1 (x5_1 ++ [(⟨t364, t365, t366⟩ : S67)]) t361 (wrap64 (x7_1 + 1)) s0_0 bt370.2.1 bt370.2.2) else (none)))) = some (r1, r2, r3) := H
    have A8 := q_ A80
    clear A80
    replace H := Option.bind_eq_some_iff.mp H
    obtain ⟨⟨t370, t371, t372⟩, A90, H⟩ := H
    replace H : (if t370 = true then (if x5_1.length < 5864062014805 then (spec_l1DrawMsgs.l0 k1 (x5_1 ++ [(⟨t364, Int.tmod t365 5, t366⟩ : S67)]) t361 (wrap64 (x7_1 + 1)) s0_0 t371 t372) else (none)) else (if x5_1.length < 5864062014805 then (spec_l1DrawMsgs.l0 k1 (x5_1 ++ [(⟨t364, t365, t366⟩ : S67)]) t361 (wrap64 (x7_1 + 1)) s0_0 t371 t372) else (none))) = some (r1, r2, r3) := H
    have A9 := q_ A90
    clear A90
    by_cases c10 : t370 = true
    ·subst c10
     have H1 : (if x5_1.length < 5864062014805 then (spec_l1DrawMsgs.l0 k1 (x5_1 ++ [(⟨t364, Int.tmod t365 5, t366⟩ : S67)]) t361 (wrap64 (x7_1 + 1)) s0_0 t371 t372) else (none)) = some (r1, r2, r3) := z51_
     clear H
     have H := H1
     clear H1
     by_cases c11 : x5_1.length < 5864062014805
     ·rw [if_pos c11] at H
      have LMc11 := q_ c11
      clear c11
      obtain ⟨y373, hy373⟩ : ∃ y_ : List (S67), y_ = (x5_1 ++ [(⟨t364, Int.tmod t365 5, t366⟩ : S67)]) := ⟨_, rfl⟩
      replace H : (spec_l1DrawMsgs.l0 k1 y373 t361 (wrap64 (x7_1 + 1)) s0_0 t371 t372) = some (r1, r2, r3) := by first | (rw [hy373]; with_reducible exact H) | (have H2_ := (Option.bind_some _ _).symm.trans H; rw [hy373]; with_reducible exact H2_) | (have H2_ := (Option.bind_some _ _).symm.trans H; with_reducible exact H2_) | with_reducible exact H | (rw [hy373]; exact H) | exact H
      have Ny373 := q_ hy373
      clear hy373
      have H' := q_ H
      clear H
      go_wp2_with (first | ((with_reducible refine gate_callee (f := 134) rfl ?_); refine goesL_ (some 20) rfl rfl Try.func134 (by kernel_rfl) rfl #[.pointer (some ⟨g, 0, none⟩)] rfl z1_ ?_; (with_reducible refine (spec_l1DrawBad.calls k1 g s0_0 x1001_1 x1002_1 t364 t365 t366 t367 t368 w0 _ ?side1 ?side2 A8.out).mono ?_); (case side1 => exact z106_); (case side2 => exact z107_); rintro e w12 ⟨rfl, hi, hb, hk⟩; refine ⟨_, rfl, ?_⟩; have n0_ := q_ (Kd.R_mono (Kd.R_keep (IsS189.apart (show IsS189 w0 _ g s0_0 x1001_1 x1002_1 from z3_) z17_ (by decide)) hk (fun _ h => h.2)) (fun _ h => h.1)); have n1_ := q_ (KeepBut.trans z2_ hk (.inl rfl)); have n2_ := q_ (hb); have n3_ := q_ (hi); clear HO_5; clear HK; clear HB; clear HI0; have HO_5 := n0_; have HK := n1_; have HB := n2_; have HI0 := n3_; clear n0_ n1_ n2_ n3_; (try clear hb); (try clear hb2); (try clear hk); (try clear hi)) | ((with_reducible refine gate_dst (N := 8) rfl ?_); refine box_event ?hg (N := 8) ?hd (cs := #[.int .i64 0, .int .i64 0, .int .i64 0]) (t := 67) ?hr ?_; (case hd => rfl); (case hg => rfl); (case hr => exact z108_); intro gb369 hg w13 hbox hb; have n0_ := q_ (Kd.R_below (Kd.R_elderB z17_ gb369 (Nat.le_of_eq hg.symm)) hb); have n1_ := q_ (IsS189.below z3_ hb); have n2_ := q_ (KeepBut.trans z2_ (KeepBut.of_below hb g none) (.inl rfl)); have n3_ := q_ (below_step z6_ hb); have n4_ := q_ (hbox); have n5_ := q_ ((z92_ : w.heap.size ≤ gb369)); have n6_ := q_ ((Nat.le_trans HW0.out (z92_ : w.heap.size ≤ gb369) : w0.heap.size ≤ gb369)); have n7_ := q_ ((z102_ : g ≠ gb369)); have n8_ := q_ ((z103_ : gb369 ≠ g)); clear HO_5; clear HI0; clear HK; clear HB; have HO_5 := n0_; have HI0 := n1_; have HK := n2_; have HB := n3_; have BK369 := n4_; have GW369 := n5_; have GE369 := n6_; have NB0_369 := n7_; have NB369_0 := n8_; clear n0_ n1_ n2_ n3_ n4_ n5_ n6_ n7_ n8_; clear hb hbox hg; have hnb14 := NB369_0.out; have hnc14 := NB0_369.out; obtain ⟨hcz15_0, hcz15_1, hcz15_2, hfz15_0, hfz15_1, hfz15_2⟩ := cs3_ BK369.out) | ((with_reducible refine gate_callee (f := 135) rfl ?_); refine goesL_ (some 22) rfl rfl Try.func135 (by kernel_rfl) rfl #[.pointer (some ⟨g, 0, none⟩), .int .i64 2] rfl z1_ ?_; (with_reducible refine (spec_l1Once.calls g s0_0 t367 t368 2 true t371 t372 w0 _ ?side1 ?side2 A9.out).mono ?_); (case side1 => exact z125_); (case side2 => exact z127_); rintro e w16 ⟨rfl, hi, hb, hk⟩; refine ⟨_, rfl, ?_⟩; have n0_ := q_ (Kd.R_mono (Kd.R_keep (IsS189.apart (show IsS189 w0 _ g s0_0 t367 t368 from z37_) z53_ (by decide)) hk (fun _ h => h.2)) (fun _ h => h.1)); have n1_ := q_ (KeepBut.blk hk (g' := gb369) (o := .cells #[.int .i64 t364, .int .i64 t365, .int .i64 t366] 67 (0, 0)) z35_ NB369_0.out (by simp)); have n2_ := q_ (KeepBut.trans z28_ hk (.inl rfl)); have n3_ := q_ (hb); have n4_ := q_ (hi); clear HO_5; clear BK369; clear HK; clear HB; clear HI0; have HO_5 := n0_; have BK369 := n1_; have HK := n2_; have HB := n3_; have HI0 := n4_; clear n0_ n1_ n2_ n3_ n4_; (try clear hb); (try clear hb2); (try clear hk); (try clear hi); obtain ⟨hcz17_0, hcz17_1, hcz17_2, hfz17_0, hfz17_1, hfz17_2⟩ := cs3_ BK369.out) | ((with_reducible refine gate_builtin (b := .append) (xs := #[.tmp 27, .tmp 29]) rfl ?_); at_builtin; refine Kd.R_append k67 w.heap.size rfl (.tmp 27) (.tmp 29) 24 67 (.agg #[(.int .i64 0), (.int .i64 0), (.int .i64 0)]) 24 rfl Try.underlying24 info67 rfl (by decide) (by omega) u5 x5_1 (⟨t364, Int.tmod t365 5, t366⟩ : S67) [.int .i64 t364, .int .i64 (Int.tmod t365 5), .int .i64 t366] (fun k_ => k_ ≠ gb369) (fun _ => False) rfl (by first | (go_simp; done) | (go_simp; rfl)) ?aP (fun _ hk => hk.elim) ?aF ?aO (Below.refl _ _) ?aS ?aL ?_; (case aP => exact k67_mkM _ _ _ (⟨t364, Int.tmod t365 5, t366⟩ : S67)); (case aF => exact (fun k_ hk => Kd.freshB (g := gb369) (o := .cells #[.int .i64 t364, .int .i64 (Int.tmod t365 5), .int .i64 t366] 67 (0, 0)) z57_ k_ hk)); (case aO => exact (by (with_reducible repeat (first | apply Kd.R_alloc | apply Kd.R_drewN | apply Kd.R_drew)); exact Kd.R_mono (Kd.R_far (p := ⟨gb369, 1, none⟩) (Kd.R_mono HO_5.out (fun k_ hk => (⟨hk, hk.2⟩ : _ ∧ k_ ≠ gb369))) (fun _ hk => hk.2) (.int .i64 (Int.tmod t365 5))) (fun _ hk => hk.1.2))); (case aS => exact (keep_size (w := w) (g := g) (row := none) z28_)); (case aL => have := LMc11.out; omega); intro v374 w18 ho hb hg hat; rw [← Ny373.out] at ho; have n0_ := q_ (IsS189.grown (show IsS189 w0 _ g s0_0 t371 t372 from z37_) hg (IsS189.own_ne HI0.out HO_5.out (by decide))); have n1_ := q_ (blk_grown (g := gb369) (o := .cells #[.int .i64 t364, .int .i64 (Int.tmod t365 5), .int .i64 t366] 67 (0, 0)) z57_ hg (Kd.R_away HO_5.out (fun _ hk => hk.2))); have n2_ := q_ (below_weaken z47_ HL.out hb); have n3_ := q_ (KeepBut.trans z28_ (KeepBut.of_grown hg g) (Kd.R_base2 HO_5.out)); have n4_ := q_ (ho); clear HI0; clear BK369; clear HB; clear HK; clear HO_5; have HI0 := n0_; have BK369 := n1_; have HB := n2_; have HK := n3_; have HO375 := n4_; clear n0_ n1_ n2_ n3_ n4_; clear ho hb hg hat))
      go_roundg k1
      case measure => have := HK1.out; omega
      case rel => exact ⟨(y373), (wrap64 (x7_1 + 1)), (t371), (t372), z7_, H', ⟨z67_⟩, ⟨by (with_reducible repeat (first | apply Kd.R_alloc | apply Kd.R_drewN | apply Kd.R_drew)); exact Kd.R_mono HO375.out (fun _ hk => trivial)⟩, ⟨z37_⟩, ⟨z28_⟩, ⟨z47_⟩⟩
     ·rw [if_neg c11] at H
      exact absurd H (by simp)
    ·replace c10 := Bool.eq_false_iff.mpr c10
     subst c10
     have H1 : (if x5_1.length < 5864062014805 then (spec_l1DrawMsgs.l0 k1 (x5_1 ++ [(⟨t364, t365, t366⟩ : S67)]) t361 (wrap64 (x7_1 + 1)) s0_0 t371 t372) else (none)) = some (r1, r2, r3) := by rw [if_neg (show ¬ (false = true) by decide)] at H; exact H
     clear H
     have H := H1
     clear H1
     by_cases c19 : x5_1.length < 5864062014805
     ·rw [if_pos c19] at H
      have LMc19 := q_ c19
      clear c19
      obtain ⟨y376, hy376⟩ : ∃ y_ : List (S67), y_ = (x5_1 ++ [(⟨t364, t365, t366⟩ : S67)]) := ⟨_, rfl⟩
      replace H : (spec_l1DrawMsgs.l0 k1 y376 t361 (wrap64 (x7_1 + 1)) s0_0 t371 t372) = some (r1, r2, r3) := by first | (rw [hy376]; with_reducible exact H) | (have H2_ := (Option.bind_some _ _).symm.trans H; rw [hy376]; with_reducible exact H2_) | (have H2_ := (Option.bind_some _ _).symm.trans H; with_reducible exact H2_) | with_reducible exact H | (rw [hy376]; exact H) | exact H
      have Ny376 := q_ hy376
      clear hy376
      have H' := q_ H
      clear H
      go_wp2_with (first | ((with_reducible refine gate_callee (f := 134) rfl ?_); refine goesL_ (some 20) rfl rfl Try.func134 (by kernel_rfl) rfl #[.pointer (some ⟨g, 0, none⟩)] rfl z1_ ?_; (with_reducible refine (spec_l1DrawBad.calls k1 g s0_0 x1001_1 x1002_1 t364 t365 t366 t367 t368 w0 _ ?side1 ?side2 A8.out).mono ?_); (case side1 => exact z106_); (case side2 => exact z107_); rintro e w20 ⟨rfl, hi, hb, hk⟩; refine ⟨_, rfl, ?_⟩; have n0_ := q_ (Kd.R_mono (Kd.R_keep (IsS189.apart (show IsS189 w0 _ g s0_0 x1001_1 x1002_1 from z3_) z17_ (by decide)) hk (fun _ h => h.2)) (fun _ h => h.1)); have n1_ := q_ (KeepBut.trans z2_ hk (.inl rfl)); have n2_ := q_ (hb); have n3_ := q_ (hi); clear HO_5; clear HK; clear HB; clear HI0; have HO_5 := n0_; have HK := n1_; have HB := n2_; have HI0 := n3_; clear n0_ n1_ n2_ n3_; (try clear hb); (try clear hb2); (try clear hk); (try clear hi)) | ((with_reducible refine gate_dst (N := 8) rfl ?_); refine box_event ?hg (N := 8) ?hd (cs := #[.int .i64 0, .int .i64 0, .int .i64 0]) (t := 67) ?hr ?_; (case hd => rfl); (case hg => rfl); (case hr => exact z108_); intro gb369 hg w21 hbox hb; have n0_ := q_ (Kd.R_below (Kd.R_elderB z17_ gb369 (Nat.le_of_eq hg.symm)) hb); have n1_ := q_ (IsS189.below z3_ hb); have n2_ := q_ (KeepBut.trans z2_ (KeepBut.of_below hb g none) (.inl rfl)); have n3_ := q_ (below_step z6_ hb); have n4_ := q_ (hbox); have n5_ := q_ ((z92_ : w.heap.size ≤ gb369)); have n6_ := q_ ((Nat.le_trans HW0.out (z92_ : w.heap.size ≤ gb369) : w0.heap.size ≤ gb369)); have n7_ := q_ ((z102_ : g ≠ gb369)); have n8_ := q_ ((z103_ : gb369 ≠ g)); clear HO_5; clear HI0; clear HK; clear HB; have HO_5 := n0_; have HI0 := n1_; have HK := n2_; have HB := n3_; have BK369 := n4_; have GW369 := n5_; have GE369 := n6_; have NB0_369 := n7_; have NB369_0 := n8_; clear n0_ n1_ n2_ n3_ n4_ n5_ n6_ n7_ n8_; clear hb hbox hg; have hnb22 := NB369_0.out; have hnc22 := NB0_369.out; obtain ⟨hcz23_0, hcz23_1, hcz23_2, hfz23_0, hfz23_1, hfz23_2⟩ := cs3_ BK369.out) | ((with_reducible refine gate_callee (f := 135) rfl ?_); refine goesL_ (some 22) rfl rfl Try.func135 (by kernel_rfl) rfl #[.pointer (some ⟨g, 0, none⟩), .int .i64 2] rfl z1_ ?_; (with_reducible refine (spec_l1Once.calls g s0_0 t367 t368 2 false t371 t372 w0 _ ?side1 ?side2 A9.out).mono ?_); (case side1 => exact z125_); (case side2 => exact z127_); rintro e w24 ⟨rfl, hi, hb, hk⟩; refine ⟨_, rfl, ?_⟩; have n0_ := q_ (Kd.R_mono (Kd.R_keep (IsS189.apart (show IsS189 w0 _ g s0_0 t367 t368 from z37_) z53_ (by decide)) hk (fun _ h => h.2)) (fun _ h => h.1)); have n1_ := q_ (KeepBut.blk hk (g' := gb369) (o := .cells #[.int .i64 t364, .int .i64 t365, .int .i64 t366] 67 (0, 0)) z35_ NB369_0.out (by simp)); have n2_ := q_ (KeepBut.trans z28_ hk (.inl rfl)); have n3_ := q_ (hb); have n4_ := q_ (hi); clear HO_5; clear BK369; clear HK; clear HB; clear HI0; have HO_5 := n0_; have BK369 := n1_; have HK := n2_; have HB := n3_; have HI0 := n4_; clear n0_ n1_ n2_ n3_ n4_; (try clear hb); (try clear hb2); (try clear hk); (try clear hi); obtain ⟨hcz25_0, hcz25_1, hcz25_2, hfz25_0, hfz25_1, hfz25_2⟩ := cs3_ BK369.out) | ((with_reducible refine gate_builtin (b := .append) (xs := #[.tmp 27, .tmp 29]) rfl ?_); at_builtin; refine Kd.R_append k67 w.heap.size rfl (.tmp 27) (.tmp 29) 24 67 (.agg #[(.int .i64 0), (.int .i64 0), (.int .i64 0)]) 24 rfl Try.underlying24 info67 rfl (by decide) (by omega) u5 x5_1 (⟨t364, t365, t366⟩ : S67) [.int .i64 t364, .int .i64 t365, .int .i64 t366] (fun k_ => k_ ≠ gb369) (fun _ => False) rfl rfl ?aP (fun _ hk => hk.elim) ?aF ?aO (Below.refl _ _) ?aS ?aL ?_; (case aP => exact k67_mkM _ _ _ (⟨t364, t365, t366⟩ : S67)); (case aF => exact (fun k_ hk => Kd.freshB (g := gb369) (o := .cells #[.int .i64 t364, .int .i64 t365, .int .i64 t366] 67 (0, 0)) z76_ k_ hk)); (case aO => exact (by (with_reducible repeat (first | apply Kd.R_alloc | apply Kd.R_drewN | apply Kd.R_drew)); exact Kd.R_mono HO_5.out (fun _ hk => hk.2))); (case aS => exact (keep_size (w := w) (g := g) (row := none) z28_)); (case aL => have := LMc19.out; omega); intro v377 w26 ho hb hg hat; rw [← Ny376.out] at ho; have n0_ := q_ (IsS189.grown (show IsS189 w0 _ g s0_0 t371 t372 from z37_) hg (IsS189.own_ne HI0.out HO_5.out (by decide))); have n1_ := q_ (blk_grown (g := gb369) (o := .cells #[.int .i64 t364, .int .i64 t365, .int .i64 t366] 67 (0, 0)) z76_ hg (Kd.R_away HO_5.out (fun _ hk => hk.2))); have n2_ := q_ (below_weaken z47_ HL.out hb); have n3_ := q_ (KeepBut.trans z28_ (KeepBut.of_grown hg g) (Kd.R_base2 HO_5.out)); have n4_ := q_ (ho); clear HI0; clear BK369; clear HB; clear HK; clear HO_5; have HI0 := n0_; have BK369 := n1_; have HB := n2_; have HK := n3_; have HO378 := n4_; clear n0_ n1_ n2_ n3_ n4_; clear ho hb hg hat))
      go_roundg k1
      case measure => have := HK1.out; omega
      case rel => exact ⟨(y376), (wrap64 (x7_1 + 1)), (t371), (t372), z7_, H', ⟨z67_⟩, ⟨by (with_reducible repeat (first | apply Kd.R_alloc | apply Kd.R_drewN | apply Kd.R_drew)); exact Kd.R_mono HO378.out (fun _ hk => trivial)⟩, ⟨z37_⟩, ⟨z28_⟩, ⟨z47_⟩⟩
     ·rw [if_neg c19] at H
      exact absurd H (by simp)
   ·rw [if_neg c7] at H
    have c7b0 : decide (x7_1 < t361) = false := decide_eq_false c7
    clear c7
    simp only [Option.some.injEq, Prod.mk.injEq] at H
    obtain ⟨rfl, rfl, rfl⟩ := H
    go_wp2
    go_ret
    exact ⟨_, z4_, z17_, z3_, z6_, z2_⟩

/-! ### spec_DrawMapAll: function 64 -/
def spec_DrawMapAll.f (k : Nat) (l0 : List Int) : Option ((List (S147)) × (List (S67))) := (spec_l1New.f k l0).bind fun bt379 => ((spec_l1DrawBadMap.f k bt379.1 bt379.2.1 bt379.2.2).bind fun bt383 => ((spec_l1DrawMsgs.f k bt379.1 bt383.2.1 bt383.2.2 12).bind fun bt388 => (some (bt383.1, bt388.1))))
theorem spec_DrawMapAll.mono : ∀ a0 k, LeO (spec_DrawMapAll.f k a0) (spec_DrawMapAll.f (k + 1) a0) := by
 intro a0 k
 unfold spec_DrawMapAll.f
 repeat' first
   | (with_reducible exact spec_l1DrawBadMap.mono _ _ _ _)
   | (with_reducible exact spec_l1DrawMsgs.mono _ _ _ _ _)
   | (with_reducible exact spec_l1New.mono _ _)
   | (with_reducible exact LeO.refl _)
   | (with_reducible exact LeO.none _)
   | (with_reducible refine LeO.ite ?_ ?_)
   | (with_reducible refine LeO.bind ?_ (fun _ => ?_))
   | exact spec_l1DrawBadMap.mono _ _ _ _
   | exact spec_l1DrawMsgs.mono _ _ _ _ _
   | exact spec_l1New.mono _ _
   | exact LeO.none _
   | refine LeO.ite ?_ ?_
   | refine LeO.bind ?_ (fun _ => ?_)
set_option maxHeartbeats 8000000 in
set_option maxRecDepth 100000 in
theorem spec_DrawMapAll.calls (k : Nat) (A0 : Option Addr) (c0 : Nat) (l0 : List Int) (r1 : List (S147)) (r2 : List (S67)) (w : World) (hr0 : Kd.C (Kd.int .u8) w A0 l0.length l0) (hc0 : l0.length ≤ c0) (h : spec_DrawMapAll.f k l0 = some (r1, r2)) :
  Calls Try.prog 64 #[.slice A0 l0.length c0] w fun e w' => ∃ v0_ v1_ : Value, e = .returned (.tuple #[v0_, v1_]) ∧ Kd.R k147 147 w' w.heap.size (fun _ => True) v0_ r1 ∧ Kd.R k67 67 w' w.heap.size (fun _ => True) v1_ r2 ∧ Below w.heap.size w w' := by
 have HR0 := q_ hr0
 have HC0 := q_ hc0
 clear hr0 hc0
 have HB := q_ (Below.refl w.heap.size w)
 have H : ((spec_l1New.f k l0).bind fun bt379 => ((spec_l1DrawBadMap.f k bt379.1 bt379.2.1 bt379.2.2).bind fun bt383 => ((spec_l1DrawMsgs.f k bt379.1 bt383.2.1 bt383.2.2 12).bind fun bt388 => (some (bt383.1, bt388.1))))) = some (r1, r2) := h
 clear h
 replace H := Option.bind_eq_some_iff.mp H
 obtain ⟨⟨t379, t380, t381⟩, A20, H⟩ := H
 replace H : ((spec_l1DrawBadMap.f k t379 t380 t381).bind fun bt383 => ((spec_l1DrawMsgs.f k t379 bt383.2.1 bt383.2.2 12).bind fun bt388 => (some (bt383.1, bt388.1)))) = some (r1, r2) := H
 have A2 := q_ A20
 clear A20
 replace H := Option.bind_eq_some_iff.mp H
 obtain ⟨⟨t383, t386, t387⟩, A30, H⟩ := H
 replace H : ((spec_l1DrawMsgs.f k t379 t386 t387 12).bind fun bt388 => (some (t383, bt388.1))) = some (r1, r2) := H
 have A3 := q_ A30
 clear A30
 replace H := Option.bind_eq_some_iff.mp H
 obtain ⟨⟨t388, t391, t392⟩, A40, H⟩ := H
 replace H : (some (t383, t388)) = some (r1, r2) := H
 have A4 := q_ A40
 clear A40
 simp only [Option.some.injEq, Prod.mk.injEq] at H
 obtain ⟨rfl, rfl⟩ := H
 go_enter Try.func64, Try.ntmps64
 go_wp2_with (first | ((with_reducible refine gate_callee (f := 123) rfl ?_); refine goesL_ (some 7) rfl rfl Try.func123 (by kernel_rfl) rfl #[.slice A0 l0.length c0] rfl z1_ ?_; (with_reducible refine (spec_l1New.calls k _ _ l0 t379 t380 t381 w _ ?side1 ?side2 ?side3 A2.out).mono ?_); (case side1 => exact z121_); (case side2 => exact HR0.out); (case side3 => exact HC0.out); rintro e w5 ⟨g382, rfl, hi, hb, hb2⟩; refine ⟨_, rfl, ?_⟩; have n0_ := q_ (hb); have n1_ := q_ (hi); clear HB; have HB := n0_; have HI382 := n1_; clear n0_ n1_; (try clear hb); (try clear hb2); (try clear hk); (try clear hi)) | ((with_reducible refine gate_callee (f := 133) rfl ?_); refine goesL_ (some 9) rfl rfl Try.func133 (by kernel_rfl) rfl #[.pointer (some ⟨g382, 0, none⟩)] rfl z1_ ?_; (with_reducible refine (spec_l1DrawBadMap.calls k g382 t379 t380 t381 t383 t386 t387 w _ ?side1 ?side2 A3.out).mono ?_); (case side1 => exact z128_); (case side2 => exact z130_); rintro e w6 ⟨v384, rfl, ho0, hi, hb, hk⟩; refine ⟨_, rfl, ?_⟩; have n0_ := q_ (Kd.R_lower ho0 (below_size z61_)); have n1_ := q_ (hb); have n2_ := q_ (hi); clear HB; clear HI382; have HO385 := n0_; have HB := n1_; have HI382 := n2_; clear n0_ n1_ n2_; (try clear hb); (try clear hb2); (try clear hk); (try clear hi); (try clear ho0)) | ((with_reducible refine gate_callee (f := 140) rfl ?_); refine goesL_ (some 12) rfl rfl Try.func140 (by kernel_rfl) rfl #[.pointer (some ⟨g382, 0, none⟩), .int .i64 12] rfl z1_ ?_; (with_reducible refine (spec_l1DrawMsgs.calls k g382 t379 t386 t387 12 t388 t391 t392 w _ ?side1 ?side2 A4.out).mono ?_); (case side1 => exact z128_); (case side2 => exact z130_); rintro e w7 ⟨v389, rfl, ho0, hi, hb, hk⟩; refine ⟨_, rfl, ?_⟩; have n0_ := q_ (Kd.R_mono (Kd.R_keep (IsS189.apart (show IsS189 w _ g382 t379 t386 t387 from by repeat (first | (with_reducible first | exact HI382.out | apply IsS189.alloc | apply IsS189.drewN | apply IsS189.drew | apply IsS189.set_1 | apply IsS189.set_2) | exact HI382.out)) z81_ (by decide)) hk (fun _ h => h.2)) (fun _ h => h.1)); have n1_ := q_ (Kd.R_lower ho0 (below_size z61_)); have n2_ := q_ (hb); have n3_ := q_ (hi); clear HO385; clear HB; clear HI382; have HO385 := n0_; have HO390 := n1_; have HB := n2_; have HI382 := n3_; clear n0_ n1_ n2_ n3_; (try clear hb); (try clear hb2); (try clear hk); (try clear hi); (try clear ho0)))
 go_ret2
 exact ⟨_, _, z4_, z81_, by (with_reducible repeat (first | apply Kd.R_alloc | apply Kd.R_drewN | apply Kd.R_drew)); exact HO390.out, z61_⟩

/-! ### laws_at: function 65 -/
def laws_at.f (l0 : List Int) (a1 : Int) : Option (Int) := if a1 < (l0.length : Int) then (if 0 ≤ a1 then (some (wrap64 (rd l0 a1))) else (none)) else (some (Int.tmod (wrap64 ((wrap64 (a1 * 7)) + (l0.length : Int))) 256))
set_option maxHeartbeats 8000000 in
set_option maxRecDepth 100000 in
theorem laws_at.calls (A0 : Option Addr) (c0 : Nat) (l0 : List Int) (a1 : Int) (r : Int) (w : World) (hr0 : Kd.C (Kd.int .u8) w A0 l0.length l0) (hc0 : l0.length ≤ c0) (h : laws_at.f l0 a1 = some r) :
  Calls Try.prog 65 #[.slice A0 l0.length c0, .int .i64 a1] w fun e w' => e = .returned (.int .i64 r) ∧ Drawn0 w w' := by
 have HR0 := q_ hr0
 have HC0 := q_ hc0
 clear hr0 hc0
 have H : (if a1 < (l0.length : Int) then (if 0 ≤ a1 then (some (wrap64 (rd l0 a1))) else (none)) else (some (Int.tmod (wrap64 ((wrap64 (a1 * 7)) + (l0.length : Int))) 256))) = some r := h
 clear h
 by_cases c3 : a1 < (l0.length : Int)
 ·rw [if_pos c3] at H
  have c3b0 : decide (a1 < (l0.length : Int)) = true := decide_eq_true c3
  clear c3
  by_cases c4 : 0 ≤ a1
  ·rw [if_pos c4] at H
   have c4b0 : decide (0 ≤ a1) = true := decide_eq_true c4
   clear c4
   obtain rfl := Option.some.inj H
   have p393 : 0 ≤ (a1 : Int) := of_decide_eq_true z5_
   have q393 : a1 < (l0.length : Int) := of_decide_eq_true z5_
   obtain ⟨ad393, e393, hx393_0⟩ := Kd.at_int HR0.out a1 p393 q393
   cases e393
   replace p393 := eq_true p393
   replace q393 := eq_true q393
   go_enter Try.func65, Try.ntmps65
   go_wp2
   go_ret
   exact ⟨z7_, z31_⟩
  ·rw [if_neg c4] at H
   exact absurd H (by simp)
 ·rw [if_neg c3] at H
  have c3b0 : decide (a1 < (l0.length : Int)) = false := decide_eq_false c3
  clear c3
  obtain rfl := Option.some.inj H
  go_enter Try.func65, Try.ntmps65
  go_wp2
  go_ret
  exact ⟨z7_, z31_⟩

/-! ### spec_DrawMapGet: function 66 -/
def spec_DrawMapGet.f (k : Nat) (l0 : List Int) : Option ((List (S147)) × Int) := (spec_l1New.f k l0).bind fun bt394 => ((spec_l1DrawBadMap.f k bt394.1 bt394.2.1 bt394.2.2).bind fun bt398 => ((spec_l1DrawKey.f bt394.1 bt398.2.1 bt398.2.2).bind fun bt403 => (some (bt398.1, bt403.1))))
theorem spec_DrawMapGet.mono : ∀ a0 k, LeO (spec_DrawMapGet.f k a0) (spec_DrawMapGet.f (k + 1) a0) := by
 intro a0 k
 unfold spec_DrawMapGet.f
 repeat' first
   | (with_reducible exact spec_l1DrawBadMap.mono _ _ _ _)
   | (with_reducible exact spec_l1New.mono _ _)
   | (with_reducible exact LeO.refl _)
   | (with_reducible exact LeO.none _)
   | (with_reducible refine LeO.ite ?_ ?_)
   | (with_reducible refine LeO.bind ?_ (fun _ => ?_))
   | exact spec_l1DrawBadMap.mono _ _ _ _
   | exact spec_l1New.mono _ _
   | exact LeO.none _
   | refine LeO.ite ?_ ?_
   | refine LeO.bind ?_ (fun _ => ?_)
set_option maxHeartbeats 8000000 in
set_option maxRecDepth 100000 in
theorem spec_DrawMapGet.calls (k : Nat) (A0 : Option Addr) (c0 : Nat) (l0 : List Int) (r1 : List (S147)) (r2 : Int) (w : World) (hr0 : Kd.C (Kd.int .u8) w A0 l0.length l0) (hc0 : l0.length ≤ c0) (h : spec_DrawMapGet.f k l0 = some (r1, r2)) :
  Calls Try.prog 66 #[.slice A0 l0.length c0] w fun e w' => ∃ v0_ : Value, e = .returned (.tuple #[v0_, .int .i64 r2]) ∧ Kd.R k147 147 w' w.heap.size (fun _ => True) v0_ r1 ∧ Below w.heap.size w w' := by
 have HR0 := q_ hr0
 have HC0 := q_ hc0
 clear hr0 hc0
 have HB := q_ (Below.refl w.heap.size w)
 have H : ((spec_l1New.f k l0).bind fun bt394 => ((spec_l1DrawBadMap.f k bt394.1 bt394.2.1 bt394.2.2).bind fun bt398 => ((spec_l1DrawKey.f bt394.1 bt398.2.1 bt398.2.2).bind fun bt403 => (some (bt398.1, bt403.1))))) = some (r1, r2) := h
 clear h
 replace H := Option.bind_eq_some_iff.mp H
 obtain ⟨⟨t394, t395, t396⟩, A20, H⟩ := H
 replace H : ((spec_l1DrawBadMap.f k t394 t395 t396).bind fun bt398 => ((spec_l1DrawKey.f t394 bt398.2.1 bt398.2.2).bind fun bt403 => (some (bt398.1, bt403.1)))) = some (r1, r2) := H
 have A2 := q_ A20
 clear A20
 replace H := Option.bind_eq_some_iff.mp H
 obtain ⟨⟨t398, t401, t402⟩, A30, H⟩ := H
 replace H : ((spec_l1DrawKey.f t394 t401 t402).bind fun bt403 => (some (t398, bt403.1))) = some (r1, r2) := H
 have A3 := q_ A30
 clear A30
 replace H := Option.bind_eq_some_iff.mp H
 obtain ⟨⟨t403, t404, t405⟩, A40, H⟩ := H
 replace H : (some (t398, t403)) = some (r1, r2) := H
 have A4 := q_ A40
 clear A40
 simp only [Option.some.injEq, Prod.mk.injEq] at H
 obtain ⟨rfl, rfl⟩ := H
 go_enter Try.func66, Try.ntmps66
 go_wp2_with (first | ((with_reducible refine gate_callee (f := 123) rfl ?_); refine goesL_ (some 7) rfl rfl Try.func123 (by kernel_rfl) rfl #[.slice A0 l0.length c0] rfl z1_ ?_; (with_reducible refine (spec_l1New.calls k _ _ l0 t394 t395 t396 w _ ?side1 ?side2 ?side3 A2.out).mono ?_); (case side1 => exact z121_); (case side2 => exact HR0.out); (case side3 => exact HC0.out); rintro e w5 ⟨g397, rfl, hi, hb, hb2⟩; refine ⟨_, rfl, ?_⟩; have n0_ := q_ (hb); have n1_ := q_ (hi); clear HB; have HB := n0_; have HI397 := n1_; clear n0_ n1_; (try clear hb); (try clear hb2); (try clear hk); (try clear hi)) | ((with_reducible refine gate_callee (f := 133) rfl ?_); refine goesL_ (some 9) rfl rfl Try.func133 (by kernel_rfl) rfl #[.pointer (some ⟨g397, 0, none⟩)] rfl z1_ ?_; (with_reducible refine (spec_l1DrawBadMap.calls k g397 t394 t395 t396 t398 t401 t402 w _ ?side1 ?side2 A3.out).mono ?_); (case side1 => exact z129_); (case side2 => exact z131_); rintro e w6 ⟨v399, rfl, ho0, hi, hb, hk⟩; refine ⟨_, rfl, ?_⟩; have n0_ := q_ (Kd.R_lower ho0 (below_size z71_)); have n1_ := q_ (hb); have n2_ := q_ (hi); clear HB; clear HI397; have HO400 := n0_; have HB := n1_; have HI397 := n2_; clear n0_ n1_ n2_; (try clear hb); (try clear hb2); (try clear hk); (try clear hi); (try clear ho0)) | ((with_reducible refine gate_callee (f := 141) rfl ?_); refine goesL_ (some 12) rfl rfl Try.func141 (by kernel_rfl) rfl #[.pointer (some ⟨g397, 0, none⟩)] rfl z1_ ?_; (with_reducible refine (spec_l1DrawKey.calls g397 t394 t401 t402 t403 t404 t405 w _ ?side1 ?side2 A4.out).mono ?_); (case side1 => exact z129_); (case side2 => exact z131_); rintro e w7 ⟨rfl, hi, hb, hk⟩; refine ⟨_, rfl, ?_⟩; have n0_ := q_ (Kd.R_mono (Kd.R_keep (IsS189.apart (show IsS189 w _ g397 t394 t401 t402 from by repeat (first | (with_reducible first | exact HI397.out | apply IsS189.alloc | apply IsS189.drewN | apply IsS189.drew | apply IsS189.set_1 | apply IsS189.set_2) | exact HI397.out)) z82_ (by decide)) hk (fun _ h => h.2)) (fun _ h => h.1)); have n1_ := q_ (hb); have n2_ := q_ (hi); clear HO400; clear HB; clear HI397; have HO400 := n0_; have HB := n1_; have HI397 := n2_; clear n0_ n1_ n2_; (try clear hb); (try clear hb2); (try clear hk); (try clear hi)))
 go_ret2
 exact ⟨_, z4_, z82_, z71_⟩

end Go.Proofs.Ytphlmbhjeoljoaa.PFnMapAll
