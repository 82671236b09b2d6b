-- Written by a program of this session, which goes by the kit's print. Not trusted: Lean checks it.
import Derived.Test.YtphlmbhjeoljoaaPFnMappedx0
import Derived.Test.YtphlmbhjeoljoaaPFnMappedx1
import Derived.Test.YtphlmbhjeoljoaaPFnMappedx8
namespace Go.Proofs.Ytphlmbhjeoljoaa.PFnMapped
open Go.RowKit Go.Proofs.YtphlmbhjeoljoaaW.PrintWords Go.Proofs.YtphlmbhjeoljoaaW.PrintLast Go.Proofs.YtphlmbhjeoljoaaW.PrintMore
attribute [local go_sem] max2_int min2_int max_two min_two max_three min_three max_four min_four   -- for this text's walks alone
set_option linter.unusedVariables false
set_option linter.unusedSimpArgs false

attribute [local go_sem high] eqA147
/-! ### spec_l1DrawBad: function 134 -/
def spec_l1DrawBad.f (k : Nat) (s0_0 : List Int) (s0_1 : Int) (s0_2 : Int) : Option (Int × Int × Int × Int × Int) := (spec_l1DrawMsg.f k s0_0 s0_1 s0_2).bind fun bt314 => ((spec_l1Below.f s0_0 bt314.2.2.2.1 bt314.2.2.2.2 15).bind fun bt320 => (if bt320.1 = 0 then ((spec_l1Below.f s0_0 bt320.2.1 bt320.2.2 7).bind fun bt323 => (some (wrap64 (bt323.1 - 1), bt314.2.1, bt314.2.2.1, bt323.2.1, bt323.2.2))) else (if bt320.1 = 1 then ((spec_l1PickInt.f s0_0 bt320.2.1 bt320.2.2 (([(-1), 1000] : List Int))).bind fun bt329 => (some (bt314.1, bt329.1, bt314.2.2.1, bt329.2.1, bt329.2.2))) else (if bt320.1 = 2 then ((spec_l1PickInt.f s0_0 bt320.2.1 bt320.2.2 (([1000000001, 3] : List Int))).bind fun bt335 => (some (bt314.1, bt314.2.1, bt335.1, bt335.2.1, bt335.2.2))) else (some (bt314.1, bt314.2.1, bt314.2.2.1, bt320.2.1, bt320.2.2))))))
theorem spec_l1DrawBad.mono : ∀ a0 a1 a2 k, LeO (spec_l1DrawBad.f k a0 a1 a2) (spec_l1DrawBad.f (k + 1) a0 a1 a2) := by
 intro a0 a1 a2 k
 unfold spec_l1DrawBad.f
 repeat' first
   | (with_reducible exact spec_l1DrawMsg.mono _ _ _ _)
   | (with_reducible exact LeO.refl _)
   | (with_reducible exact LeO.none _)
   | (with_reducible refine LeO.ite ?_ ?_)
   | (with_reducible refine LeO.bind ?_ (fun _ => ?_))
   | exact spec_l1DrawMsg.mono _ _ _ _
   | exact LeO.none _
   | refine LeO.ite ?_ ?_
   | refine LeO.bind ?_ (fun _ => ?_)
set_option maxHeartbeats 8000000 in
set_option maxRecDepth 100000 in
theorem spec_l1DrawBad.calls (k : Nat) (g : Nat) (s0_0 : List Int) (s0_1 : Int) (s0_2 : Int) (r1 : Int) (r2 : Int) (r3 : Int) (r4 : Int) (r5 : Int) (w0 w : World) (hI : IsS189 w0 w g s0_0 s0_1 s0_2) (hB : Below w0.heap.size w0 w) (h : spec_l1DrawBad.f k s0_0 s0_1 s0_2 = some (r1, r2, r3, r4, r5)) :
  Calls Try.prog 134 #[.pointer (some ⟨g, 0, none⟩)] w fun e w' => e = .returned (.agg #[.int .i64 r1, .int .i64 r2, .int .i64 r3]) ∧ IsS189 w0 w' g s0_0 r4 r5 ∧ Below w0.heap.size w0 w' ∧ KeepBut w w' g none := by
 have hu67 := Try.underlying67
 have HI0 := q_ hI
 have HK := q_ (KeepBut.refl w g none)
 have HL := q_ hB.size
 clear hI
 have HW0 := q_ hB.size
 have HB := q_ hB
 clear hB
 have H : ((spec_l1DrawMsg.f k s0_0 s0_1 s0_2).bind fun bt314 => ((spec_l1Below.f s0_0 bt314.2.2.2.1 bt314.2.2.2.2 15).bind fun bt320 => (if bt320.1 = 0 then ((spec_l1Below.f s0_0 bt320.2.1 bt320.2.2 7).bind fun bt323 => (some (wrap64 (bt323.1 - 1), bt314.2.1, bt314.2.2.1, bt323.2.1, bt323.2.2))) else (if bt320.1 = 1 then ((spec_l1PickInt.f s0_0 bt320.2.1 bt320.2.2 (([(-1), 1000] : List Int))).bind fun bt329 => (some (bt314.1, bt329.1, bt314.2.2.1, bt329.2.1, bt329.2.2))) else (if bt320.1 = 2 then ((spec_l1PickInt.f s0_0 bt320.2.1 bt320.2.2 (([1000000001, 3] : List Int))).bind fun bt335 => (some (bt314.1, bt314.2.1, bt335.1, bt335.2.1, bt335.2.2))) else (some (bt314.1, bt314.2.1, bt314.2.2.1, bt320.2.1, bt320.2.2))))))) = some (r1, r2, r3, r4, r5) := h
 clear h
 replace H := Option.bind_eq_some_iff.mp H
 obtain ⟨⟨t314, t315, t316, t317, t318⟩, A20, H⟩ := H
 replace H : ((spec_l1Below.f s0_0 t317 t318 15).bind fun bt320 => (if bt320.1 = 0 then ((spec_l1Below.f s0_0 bt320.2.1 bt320.2.2 7).bind fun bt323 => (some (wrap64 (bt323.1 - 1), t315, t316, bt323.2.1, bt323.2.2))) else (if bt320.1 = 1 then ((spec_l1PickInt.f s0_0 bt320.2.1 bt320.2.2 (([(-1), 1000] : List Int))).bind fun bt329 => (some (t314, bt329.1, t316, bt329.2.1, bt329.2.2))) else (if bt320.1 = 2 then ((spec_l1PickInt.f s0_0 bt320.2.1 bt320.2.2 (([1000000001, 3] : List Int))).bind fun bt335 => (some (t314, t315, bt335.1, bt335.2.1, bt335.2.2))) else (some (t314, t315, t316, bt320.2.1, bt320.2.2)))))) = some (r1, r2, r3, r4, r5) := H
 have A2 := q_ A20
 clear A20
 replace H := Option.bind_eq_some_iff.mp H
 obtain ⟨⟨t320, t321, t322⟩, A30, H⟩ := H
 replace H : (if t320 = 0 then ((spec_l1Below.f s0_0 t321 t322 7).bind fun bt323 => (some (wrap64 (bt323.1 - 1), t315, t316, bt323.2.1, bt323.2.2))) else (if t320 = 1 then ((spec_l1PickInt.f s0_0 t321 t322 (([(-1), 1000] : List Int))).bind fun bt329 => (some (t314, bt329.1, t316, bt329.2.1, bt329.2.2))) else (if t320 = 2 then ((spec_l1PickInt.f s0_0 t321 t322 (([1000000001, 3] : List Int))).bind fun bt335 => (some (t314, t315, bt335.1, bt335.2.1, bt335.2.2))) else (some (t314, t315, t316, t321, t322))))) = some (r1, r2, r3, r4, r5) := H
 have A3 := q_ A30
 clear A30
 by_cases c4 : t320 = 0
 ·rw [if_pos c4] at H
  have c4b0 : (t320 == 0) = true := beq_iff_eq.mpr c4
  have c4b1 : (t320 != 0) = false := bne_eq_false_iff_eq.mpr c4
  clear c4
  replace H := Option.bind_eq_some_iff.mp H
  obtain ⟨⟨t323, t324, t325⟩, A50, H⟩ := H
  replace H : (some (wrap64 (t323 - 1), t315, t316, t324, t325)) = some (r1, r2, r3, r4, r5) := H
  have A5 := q_ A50
  clear A50
  simp only [Option.some.injEq, Prod.mk.injEq] at H
  obtain ⟨rfl, rfl, rfl, rfl, rfl⟩ := H
  go_enter Try.func134, Try.ntmps134
  go_wp2_with (first | ((with_reducible refine gate_dst (N := 2) rfl ?_); refine box_event ?hg (N := 2) ?hd (cs := #[.int .i64 0, .int .i64 0, .int .i64 0]) (t := 67) ?hr ?_; (case hd => rfl); (case hg => rfl); (case hr => exact z110_); intro gb313 hg w6 hbox hb; have n0_ := q_ (IsS189.below z4_ hb); have n1_ := q_ (KeepBut.trans z3_ (KeepBut.of_below hb g none) (.inl rfl)); have n2_ := q_ (below_step z9_ hb); have n3_ := q_ (hbox); have n4_ := q_ ((z88_ : w.heap.size ≤ gb313)); have n5_ := q_ ((Nat.le_trans HW0.out (z88_ : w.heap.size ≤ gb313) : w0.heap.size ≤ gb313)); have n6_ := q_ ((z94_ : g ≠ gb313)); have n7_ := q_ ((z95_ : gb313 ≠ g)); clear HI0; clear HK; clear HB; have HI0 := n0_; have HK := n1_; have HB := n2_; have BK313 := n3_; have GW313 := n4_; have GE313 := n5_; have NB0_313 := n6_; have NB313_0 := n7_; clear n0_ n1_ n2_ n3_ n4_ n5_ n6_ n7_; clear hb hbox hg) | ((with_reducible refine gate_callee (f := 175) rfl ?_); refine goesL_ (some 5) rfl rfl Try.func175 (by kernel_rfl) rfl #[.pointer (some ⟨g, 0, none⟩)] rfl z1_ ?_; (with_reducible refine (spec_l1DrawMsg.calls k g s0_0 s0_1 s0_2 t314 t315 t316 t317 t318 w0 _ ?side1 ?side2 A2.out).mono ?_); (case side1 => exact z116_); (case side2 => exact z117_); rintro e w7 ⟨rfl, hi, hb, hk⟩; refine ⟨_, rfl, ?_⟩; have n0_ := q_ (KeepBut.blk hk (g' := gb313) (o := .cells #[.int .i64 0, .int .i64 0, .int .i64 0] 67 (0, 0)) z20_ NB313_0.out (by simp)); have n1_ := q_ (KeepBut.trans z14_ hk (.inl rfl)); have n2_ := q_ (hb); have n3_ := q_ (hi); clear BK313; clear HK; clear HB; clear HI0; have BK313 := n0_; have HK := n1_; have HB := n2_; have HI0 := n3_; clear n0_ n1_ n2_ n3_; (try clear hb); (try clear hb2); (try clear hk); (try clear hi)) | ((with_reducible refine gate_dst (N := 3) rfl ?_); refine box_event ?hg (N := 3) ?hd (cs := #[.int .i64 0, .int .i64 0, .int .i64 0]) (t := 67) ?hr ?_; (case hd => rfl); (case hg => rfl); (case hr => exact z110_); intro gb319 hg w8 hbox hb; have n0_ := q_ (IsS189.below z18_ hb); have n1_ := q_ (blk_below (g := gb313) (o := .cells #[.int .i64 0, .int .i64 0, .int .i64 0] 67 (0, 0)) z20_ hb); have n2_ := q_ (KeepBut.trans z14_ (KeepBut.of_below hb g none) (.inl rfl)); have n3_ := q_ (below_step z53_ hb); have n4_ := q_ (hbox); have n5_ := q_ ((z91_ : w.heap.size ≤ gb319)); have n6_ := q_ ((Nat.le_trans HW0.out (z91_ : w.heap.size ≤ gb319) : w0.heap.size ≤ gb319)); have n7_ := q_ ((z92_ : gb313 ≠ gb319)); have n8_ := q_ ((z93_ : gb319 ≠ gb313)); have n9_ := q_ ((z98_ : g ≠ gb319)); have n10_ := q_ ((z99_ : gb319 ≠ g)); clear HI0; clear BK313; clear HK; clear HB; have HI0 := n0_; have BK313 := n1_; have HK := n2_; have HB := n3_; have BK319 := n4_; have GW319 := n5_; have GE319 := n6_; have NB313_319 := n7_; have NB319_313 := n8_; have NB0_319 := n9_; have NB319_0 := n10_; clear n0_ n1_ n2_ n3_ n4_ n5_ n6_ n7_ n8_ n9_ n10_; clear hb hbox hg; have hnb9 := NB319_313.out; have hnc9 := NB313_319.out; have hnb10 := NB319_0.out; have hnc10 := NB0_319.out; obtain ⟨hcz11_0, hcz11_1, hcz11_2, hfz11_0, hfz11_1, hfz11_2⟩ := cs3_ BK319.out) | ((with_reducible refine gate_callee (f := 126) rfl ?_); refine goesL_ (some 7) rfl rfl Try.func126 (by kernel_rfl) rfl #[.pointer (some ⟨g, 0, none⟩), .int .i64 15] rfl z1_ ?_; (with_reducible refine (spec_l1Below.calls g s0_0 t317 t318 15 t320 t321 t322 w0 _ ?side1 ?side2 A3.out).mono ?_); (case side1 => exact z111_); (case side2 => exact z112_); rintro e w12 ⟨rfl, hi, hb, hk⟩; refine ⟨_, rfl, ?_⟩; have n0_ := q_ (KeepBut.blk hk (g' := gb313) (o := .cells #[.int .i64 0, .int .i64 0, .int .i64 0] 67 (0, 0)) z21_ NB313_0.out (by simp)); have n1_ := q_ (KeepBut.blk hk (g' := gb319) (o := .cells #[.int .i64 t314, .int .i64 t315, .int .i64 t316] 67 (0, 0)) z16_ NB319_0.out (by simp)); have n2_ := q_ (KeepBut.trans z12_ hk (.inl rfl)); have n3_ := q_ (hb); have n4_ := q_ (hi); clear BK313; clear BK319; clear HK; clear HB; clear HI0; have BK313 := n0_; have BK319 := n1_; have HK := n2_; have HB := n3_; have HI0 := n4_; clear n0_ n1_ n2_ n3_ n4_; (try clear hb); (try clear hb2); (try clear hk); (try clear hi)) | ((with_reducible refine gate_callee (f := 126) rfl ?_); refine goesL_ (some 11) rfl rfl Try.func126 (by kernel_rfl) rfl #[.pointer (some ⟨g, 0, none⟩), .int .i64 7] rfl z1_ ?_; (with_reducible refine (spec_l1Below.calls g s0_0 t321 t322 7 t323 t324 t325 w0 _ ?side1 ?side2 A5.out).mono ?_); (case side1 => exact z111_); (case side2 => exact z112_); rintro e w13 ⟨rfl, hi, hb, hk⟩; refine ⟨_, rfl, ?_⟩; have n0_ := q_ (KeepBut.blk hk (g' := gb313) (o := .cells #[.int .i64 0, .int .i64 0, .int .i64 0] 67 (0, 0)) z20_ NB313_0.out (by simp)); have n1_ := q_ (KeepBut.blk hk (g' := gb319) (o := .cells #[.int .i64 t314, .int .i64 t315, .int .i64 t316] 67 (0, 0)) z63_ NB319_0.out (by simp)); have n2_ := q_ (KeepBut.trans z12_ hk (.inl rfl)); have n3_ := q_ (hb); have n4_ := q_ (hi); clear BK313; clear BK319; clear HK; clear HB; clear HI0; have BK313 := n0_; have BK319 := n1_; have HK := n2_; have HB := n3_; have HI0 := n4_; clear n0_ n1_ n2_ n3_ n4_; (try clear hb); (try clear hb2); (try clear hk); (try clear hi); obtain ⟨hcz14_0, hcz14_1, hcz14_2, hfz14_0, hfz14_1, hfz14_2⟩ := cs3_ BK319.out; have hnb15 := NB313_0.out; have hnc15 := NB0_313.out; obtain ⟨hcz16_0, hcz16_1, hcz16_2, hfz16_0, hfz16_1, hfz16_2⟩ := cs3_ BK313.out))
  refine bodyPost_ret (results_cell_row rfl _ _ gb313 67 #[.int .i64 (wrap64 (t323 - 1)), .int .i64 t315, .int .i64 t316] (0, 0) _ rfl (by (with_reducible repeat (first | refine blk_drewN ?_ _ | refine blk_drew ?_ | refine blk_alloc ?_ _)); refine blk_put (cs := #[.int .i64 (wrap64 (t323 - 1)), .int .i64 t315, .int .i64 0]) ?_ 2 _ rfl; (with_reducible repeat (first | refine blk_drewN ?_ _ | refine blk_drew ?_ | refine blk_alloc ?_ _)); refine blk_put (cs := #[.int .i64 (wrap64 (t323 - 1)), .int .i64 0, .int .i64 0]) ?_ 1 _ rfl; (with_reducible repeat (first | refine blk_drewN ?_ _ | refine blk_drew ?_ | refine blk_alloc ?_ _)); refine blk_put (cs := #[.int .i64 0, .int .i64 0, .int .i64 0]) ?_ 0 _ rfl; (with_reducible repeat (first | refine blk_drewN ?_ _ | refine blk_drew ?_ | refine blk_alloc ?_ _)); refine blk_far ?_ NB313_319.out _; (with_reducible repeat (first | refine blk_drewN ?_ _ | refine blk_drew ?_ | refine blk_alloc ?_ _)); exact BK313.out) Try.underlying67 rfl (by kernel_rfl)) rfl ?_
  exact ⟨z5_, z22_, z33_, z12_⟩
 ·rw [if_neg c4] at H
  have c4b0 : (t320 == 0) = false := beq_eq_false_iff_ne.mpr c4
  have c4b1 : (t320 != 0) = true := bne_iff_ne.mpr c4
  by_cases c17 : t320 = 1
  ·rw [if_pos c17] at H
   have c17b0 : (t320 == 1) = true := beq_iff_eq.mpr c17
   have c17b1 : (t320 != 1) = false := bne_eq_false_iff_eq.mpr c17
   clear c17
   obtain ⟨y326, hy326⟩ : ∃ y_ : List Int, y_ = (([(-1), 1000] : List Int)) := ⟨_, rfl⟩
   replace H : ((spec_l1PickInt.f s0_0 t321 t322 y326).bind fun bt329 => (some (t314, bt329.1, t316, bt329.2.1, bt329.2.2))) = some (r1, r2, r3, r4, r5) := by first | (rw [hy326]; with_reducible exact H) | (have H2_ := (Option.bind_some _ _).symm.trans H; rw [hy326]; with_reducible exact H2_) | (have H2_ := (Option.bind_some _ _).symm.trans H; with_reducible exact H2_) | with_reducible exact H | (rw [hy326]; exact H) | exact H
   have Ny326 := q_ hy326
   clear hy326
   replace H := Option.bind_eq_some_iff.mp H
   obtain ⟨⟨t329, t330, t331⟩, A180, H⟩ := H
   replace H : (some (t314, t329, t316, t330, t331)) = some (r1, r2, r3, r4, r5) := H
   have A18 := q_ A180
   clear A180
   simp only [Option.some.injEq, Prod.mk.injEq] at H
   obtain ⟨rfl, rfl, rfl, rfl, rfl⟩ := H
   go_enter Try.func134, Try.ntmps134
   go_wp2_with (first | ((with_reducible refine gate_dst (N := 2) rfl ?_); refine box_event ?hg (N := 2) ?hd (cs := #[.int .i64 0, .int .i64 0, .int .i64 0]) (t := 67) ?hr ?_; (case hd => rfl); (case hg => rfl); (case hr => exact z110_); intro gb313 hg w19 hbox hb; have n0_ := q_ (IsS189.below z4_ hb); have n1_ := q_ (KeepBut.trans z3_ (KeepBut.of_below hb g none) (.inl rfl)); have n2_ := q_ (below_step z9_ hb); have n3_ := q_ (hbox); have n4_ := q_ ((z88_ : w.heap.size ≤ gb313)); have n5_ := q_ ((Nat.le_trans HW0.out (z88_ : w.heap.size ≤ gb313) : w0.heap.size ≤ gb313)); have n6_ := q_ ((z94_ : g ≠ gb313)); have n7_ := q_ ((z95_ : gb313 ≠ g)); clear HI0; clear HK; clear HB; have HI0 := n0_; have HK := n1_; have HB := n2_; have BK313 := n3_; have GW313 := n4_; have GE313 := n5_; have NB0_313 := n6_; have NB313_0 := n7_; clear n0_ n1_ n2_ n3_ n4_ n5_ n6_ n7_; clear hb hbox hg) | ((with_reducible refine gate_callee (f := 175) rfl ?_); refine goesL_ (some 5) rfl rfl Try.func175 (by kernel_rfl) rfl #[.pointer (some ⟨g, 0, none⟩)] rfl z1_ ?_; (with_reducible refine (spec_l1DrawMsg.calls k g s0_0 s0_1 s0_2 t314 t315 t316 t317 t318 w0 _ ?side1 ?side2 A2.out).mono ?_); (case side1 => exact z116_); (case side2 => exact z117_); rintro e w20 ⟨rfl, hi, hb, hk⟩; refine ⟨_, rfl, ?_⟩; have n0_ := q_ (KeepBut.blk hk (g' := gb313) (o := .cells #[.int .i64 0, .int .i64 0, .int .i64 0] 67 (0, 0)) z20_ NB313_0.out (by simp)); have n1_ := q_ (KeepBut.trans z14_ hk (.inl rfl)); have n2_ := q_ (hb); have n3_ := q_ (hi); clear BK313; clear HK; clear HB; clear HI0; have BK313 := n0_; have HK := n1_; have HB := n2_; have HI0 := n3_; clear n0_ n1_ n2_ n3_; (try clear hb); (try clear hb2); (try clear hk); (try clear hi)) | ((with_reducible refine gate_dst (N := 3) rfl ?_); refine box_event ?hg (N := 3) ?hd (cs := #[.int .i64 0, .int .i64 0, .int .i64 0]) (t := 67) ?hr ?_; (case hd => rfl); (case hg => rfl); (case hr => exact z110_); intro gb319 hg w21 hbox hb; have n0_ := q_ (IsS189.below z18_ hb); have n1_ := q_ (blk_below (g := gb313) (o := .cells #[.int .i64 0, .int .i64 0, .int .i64 0] 67 (0, 0)) z20_ hb); have n2_ := q_ (KeepBut.trans z14_ (KeepBut.of_below hb g none) (.inl rfl)); have n3_ := q_ (below_step z53_ hb); have n4_ := q_ (hbox); have n5_ := q_ ((z91_ : w.heap.size ≤ gb319)); have n6_ := q_ ((Nat.le_trans HW0.out (z91_ : w.heap.size ≤ gb319) : w0.heap.size ≤ gb319)); have n7_ := q_ ((z92_ : gb313 ≠ gb319)); have n8_ := q_ ((z93_ : gb319 ≠ gb313)); have n9_ := q_ ((z98_ : g ≠ gb319)); have n10_ := q_ ((z99_ : gb319 ≠ g)); clear HI0; clear BK313; clear HK; clear HB; have HI0 := n0_; have BK313 := n1_; have HK := n2_; have HB := n3_; have BK319 := n4_; have GW319 := n5_; have GE319 := n6_; have NB313_319 := n7_; have NB319_313 := n8_; have NB0_319 := n9_; have NB319_0 := n10_; clear n0_ n1_ n2_ n3_ n4_ n5_ n6_ n7_ n8_ n9_ n10_; clear hb hbox hg; have hnb22 := NB319_313.out; have hnc22 := NB313_319.out; have hnb23 := NB319_0.out; have hnc23 := NB0_319.out; obtain ⟨hcz24_0, hcz24_1, hcz24_2, hfz24_0, hfz24_1, hfz24_2⟩ := cs3_ BK319.out) | ((with_reducible refine gate_callee (f := 126) rfl ?_); refine goesL_ (some 7) rfl rfl Try.func126 (by kernel_rfl) rfl #[.pointer (some ⟨g, 0, none⟩), .int .i64 15] rfl z1_ ?_; (with_reducible refine (spec_l1Below.calls g s0_0 t317 t318 15 t320 t321 t322 w0 _ ?side1 ?side2 A3.out).mono ?_); (case side1 => exact z111_); (case side2 => exact z112_); rintro e w25 ⟨rfl, hi, hb, hk⟩; refine ⟨_, rfl, ?_⟩; have n0_ := q_ (KeepBut.blk hk (g' := gb313) (o := .cells #[.int .i64 0, .int .i64 0, .int .i64 0] 67 (0, 0)) z21_ NB313_0.out (by simp)); have n1_ := q_ (KeepBut.blk hk (g' := gb319) (o := .cells #[.int .i64 t314, .int .i64 t315, .int .i64 t316] 67 (0, 0)) z16_ NB319_0.out (by simp)); have n2_ := q_ (KeepBut.trans z12_ hk (.inl rfl)); have n3_ := q_ (hb); have n4_ := q_ (hi); clear BK313; clear BK319; clear HK; clear HB; clear HI0; have BK313 := n0_; have BK319 := n1_; have HK := n2_; have HB := n3_; have HI0 := n4_; clear n0_ n1_ n2_ n3_ n4_; (try clear hb); (try clear hb2); (try clear hk); (try clear hi)) | ((with_reducible refine gate_dst (N := 17) rfl ?_); refine Kd.R_lit (Kd.int .i64) _ 3 ?hg (N := 17) ?hd (xs := ([(-1), 1000] : List Int)) (inner := [.int .i64 (-1), .int .i64 1000]) (ok := fun _ => True) (okp := fun _ => True) ?hr ?hp (fun _ hk => hk) trivial (Below.refl _ _) (Nat.le_refl _) (by simp) ?_; (case hd => rfl); (case hg => rfl); (case hr => exact z110_); (case hp => exact (Reps.one (show Kd.M (Kd.int .i64) _ _ _ (-1) [.int .i64 (-1)] from rfl) (Reps.one (show Kd.M (Kd.int .i64) _ _ _ 1000 [.int .i64 1000] from rfl) (Reps.none _ _)))); intro v327 w26 ho27 hb hg_ hnew_; clear hg_ hnew_; (first | rw [← Ny326.out] at ho27 | (simp only [Int.reduceToNat] at ho27; rw [← Ny326.out] at ho27)); have n0_ := q_ (Kd.R_lower ho27 (keep_size (w := w) (g := g) (row := none) z12_)); have n1_ := q_ (IsS189.below z22_ hb); have n2_ := q_ (blk_below (g := gb313) (o := .cells #[.int .i64 0, .int .i64 0, .int .i64 0] 67 (0, 0)) z20_ hb); have n3_ := q_ (blk_below (g := gb319) (o := .cells #[.int .i64 t314, .int .i64 t315, .int .i64 t316] 67 (0, 0)) z63_ hb); have n4_ := q_ (KeepBut.trans z12_ (KeepBut.of_below hb g none) (.inl rfl)); have n5_ := q_ (below_step z33_ hb); clear HI0; clear BK313; clear BK319; clear HK; clear HB; have HO328 := n0_; have HI0 := n1_; have BK313 := n2_; have BK319 := n3_; have HK := n4_; have HB := n5_; clear n0_ n1_ n2_ n3_ n4_ n5_; clear hb ho27; obtain ⟨Ao28, co28, eo28⟩ := Kd.R_slice HO328.out; subst eo28) | ((with_reducible refine gate_callee (f := 167) rfl ?_); refine goesL_ (some 18) rfl rfl Try.func167 (by kernel_rfl) rfl #[.pointer (some ⟨g, 0, none⟩), .slice Ao28 y326.length co28] rfl z1_ ?_; (with_reducible refine (spec_l1PickInt.calls g s0_0 t321 t322 _ _ y326 t329 t330 t331 w0 _ ?side1 ?side2 ?side3 ?side4 ?side5 A18.out).mono ?_); (case side1 => exact z111_); (case side2 => exact z112_); (case side3 => repeat (first | exact (Kd.R_reads' HO328.out).2.2 | (with_reducible refine Kd.C_alloc ?_ _) | (with_reducible refine Kd.C_drewN ?_ _) | (with_reducible refine Kd.C_drew ?_))); (case side4 => exact (Kd.R_reads' HO328.out).2.1); (case side5 => exact far_slice (IsS189.own_ne HI0.out HO328.out (by decide))); rintro e w29 ⟨rfl, hi, hb, hk⟩; refine ⟨_, rfl, ?_⟩; have n0_ := q_ (KeepBut.blk hk (g' := gb313) (o := .cells #[.int .i64 0, .int .i64 0, .int .i64 0] 67 (0, 0)) z20_ NB313_0.out (by simp)); have n1_ := q_ (KeepBut.blk hk (g' := gb319) (o := .cells #[.int .i64 t314, .int .i64 t315, .int .i64 t316] 67 (0, 0)) z63_ NB319_0.out (by simp)); have n2_ := q_ (Kd.R_mono (Kd.R_keep (IsS189.apart (show IsS189 w0 _ g s0_0 t321 t322 from z22_) (by (with_reducible repeat (first | apply Kd.R_alloc | apply Kd.R_drewN | apply Kd.R_drew)); exact HO328.out) (by decide)) hk (fun _ h => h.2)) (fun _ h => h.1)); have n3_ := q_ (KeepBut.trans z12_ hk (.inl rfl)); have n4_ := q_ (hb); have n5_ := q_ (hi); clear BK313; clear BK319; clear HO328; clear HK; clear HB; clear HI0; have BK313 := n0_; have BK319 := n1_; have HO328 := n2_; have HK := n3_; have HB := n4_; have HI0 := n5_; clear n0_ n1_ n2_ n3_ n4_ n5_; (try clear hb); (try clear hb2); (try clear hk); (try clear hi); obtain ⟨hcz30_0, hcz30_1, hcz30_2, hfz30_0, hfz30_1, hfz30_2⟩ := cs3_ BK319.out; have hnb31 := NB313_0.out; have hnc31 := NB0_313.out; obtain ⟨hcz32_0, hcz32_1, hcz32_2, hfz32_0, hfz32_1, hfz32_2⟩ := cs3_ BK313.out))
   refine bodyPost_ret (results_cell_row rfl _ _ gb313 67 #[.int .i64 t314, .int .i64 t329, .int .i64 t316] (0, 0) _ rfl (by (with_reducible repeat (first | refine blk_drewN ?_ _ | refine blk_drew ?_ | refine blk_alloc ?_ _)); refine blk_put (cs := #[.int .i64 t314, .int .i64 t329, .int .i64 0]) ?_ 2 _ rfl; (with_reducible repeat (first | refine blk_drewN ?_ _ | refine blk_drew ?_ | refine blk_alloc ?_ _)); refine blk_put (cs := #[.int .i64 t314, .int .i64 0, .int .i64 0]) ?_ 1 _ rfl; (with_reducible repeat (first | refine blk_drewN ?_ _ | refine blk_drew ?_ | refine blk_alloc ?_ _)); refine blk_put (cs := #[.int .i64 0, .int .i64 0, .int .i64 0]) ?_ 0 _ rfl; (with_reducible repeat (first | refine blk_drewN ?_ _ | refine blk_drew ?_ | refine blk_alloc ?_ _)); refine blk_far ?_ NB313_319.out _; (with_reducible repeat (first | refine blk_drewN ?_ _ | refine blk_drew ?_ | refine blk_alloc ?_ _)); exact BK313.out) Try.underlying67 rfl (by kernel_rfl)) rfl ?_
   exact ⟨z5_, z22_, z33_, z12_⟩
  ·rw [if_neg c17] at H
   have c17b0 : (t320 == 1) = false := beq_eq_false_iff_ne.mpr c17
   have c17b1 : (t320 != 1) = true := bne_iff_ne.mpr c17
   by_cases c33 : t320 = 2
   ·rw [if_pos c33] at H
    have c33b0 : (t320 == 2) = true := beq_iff_eq.mpr c33
    have c33b1 : (t320 != 2) = false := bne_eq_false_iff_eq.mpr c33
    clear c33
    obtain ⟨y332, hy332⟩ : ∃ y_ : List Int, y_ = (([1000000001, 3] : List Int)) := ⟨_, rfl⟩
    replace H : ((spec_l1PickInt.f s0_0 t321 t322 y332).bind fun bt335 => (some (t314, t315, bt335.1, bt335.2.1, bt335.2.2))) = some (r1, r2, r3, r4, r5) := by first | (rw [hy332]; with_reducible exact H) | (have H2_ := (Option.bind_some _ _).symm.trans H; rw [hy332]; with_reducible exact H2_) | (have H2_ := (Option.bind_some _ _).symm.trans H; with_reducible exact H2_) | with_reducible exact H | (rw [hy332]; exact H) | exact H
    have Ny332 := q_ hy332
    clear hy332
    replace H := Option.bind_eq_some_iff.mp H
    obtain ⟨⟨t335, t336, t337⟩, A340, H⟩ := H
    replace H : (some (t314, t315, t335, t336, t337)) = some (r1, r2, r3, r4, r5) := H
    have A34 := q_ A340
    clear A340
    simp only [Option.some.injEq, Prod.mk.injEq] at H
    obtain ⟨rfl, rfl, rfl, rfl, rfl⟩ := H
    go_enter Try.func134, Try.ntmps134
    go_wp2_with (first | ((with_reducible refine gate_dst (N := 2) rfl ?_); refine box_event ?hg (N := 2) ?hd (cs := #[.int .i64 0, .int .i64 0, .int .i64 0]) (t := 67) ?hr ?_; (case hd => rfl); (case hg => rfl); (case hr => exact z110_); intro gb313 hg w35 hbox hb; have n0_ := q_ (IsS189.below z4_ hb); have n1_ := q_ (KeepBut.trans z3_ (KeepBut.of_below hb g none) (.inl rfl)); have n2_ := q_ (below_step z9_ hb); have n3_ := q_ (hbox); have n4_ := q_ ((z88_ : w.heap.size ≤ gb313)); have n5_ := q_ ((Nat.le_trans HW0.out (z88_ : w.heap.size ≤ gb313) : w0.heap.size ≤ gb313)); have n6_ := q_ ((z94_ : g ≠ gb313)); have n7_ := q_ ((z95_ : gb313 ≠ g)); clear HI0; clear HK; clear HB; have HI0 := n0_; have HK := n1_; have HB := n2_; have BK313 := n3_; have GW313 := n4_; have GE313 := n5_; have NB0_313 := n6_; have NB313_0 := n7_; clear n0_ n1_ n2_ n3_ n4_ n5_ n6_ n7_; clear hb hbox hg) | ((with_reducible refine gate_callee (f := 175) rfl ?_); refine goesL_ (some 5) rfl rfl Try.func175 (by kernel_rfl) rfl #[.pointer (some ⟨g, 0, none⟩)] rfl z1_ ?_; (with_reducible refine (spec_l1DrawMsg.calls k g s0_0 s0_1 s0_2 t314 t315 t316 t317 t318 w0 _ ?side1 ?side2 A2.out).mono ?_); (case side1 => exact z116_); (case side2 => exact z117_); rintro e w36 ⟨rfl, hi, hb, hk⟩; refine ⟨_, rfl, ?_⟩; have n0_ := q_ (KeepBut.blk hk (g' := gb313) (o := .cells #[.int .i64 0, .int .i64 0, .int .i64 0] 67 (0, 0)) z20_ NB313_0.out (by simp)); have n1_ := q_ (KeepBut.trans z14_ hk (.inl rfl)); have n2_ := q_ (hb); have n3_ := q_ (hi); clear BK313; clear HK; clear HB; clear HI0; have BK313 := n0_; have HK := n1_; have HB := n2_; have HI0 := n3_; clear n0_ n1_ n2_ n3_; (try clear hb); (try clear hb2); (try clear hk); (try clear hi)) | ((with_reducible refine gate_dst (N := 3) rfl ?_); refine box_event ?hg (N := 3) ?hd (cs := #[.int .i64 0, .int .i64 0, .int .i64 0]) (t := 67) ?hr ?_; (case hd => rfl); (case hg => rfl); (case hr => exact z110_); intro gb319 hg w37 hbox hb; have n0_ := q_ (IsS189.below z18_ hb); have n1_ := q_ (blk_below (g := gb313) (o := .cells #[.int .i64 0, .int .i64 0, .int .i64 0] 67 (0, 0)) z20_ hb); have n2_ := q_ (KeepBut.trans z14_ (KeepBut.of_below hb g none) (.inl rfl)); have n3_ := q_ (below_step z53_ hb); have n4_ := q_ (hbox); have n5_ := q_ ((z91_ : w.heap.size ≤ gb319)); have n6_ := q_ ((Nat.le_trans HW0.out (z91_ : w.heap.size ≤ gb319) : w0.heap.size ≤ gb319)); have n7_ := q_ ((z92_ : gb313 ≠ gb319)); have n8_ := q_ ((z93_ : gb319 ≠ gb313)); have n9_ := q_ ((z98_ : g ≠ gb319)); have n10_ := q_ ((z99_ : gb319 ≠ g)); clear HI0; clear BK313; clear HK; clear HB; have HI0 := n0_; have BK313 := n1_; have HK := n2_; have HB := n3_; have BK319 := n4_; have GW319 := n5_; have GE319 := n6_; have NB313_319 := n7_; have NB319_313 := n8_; have NB0_319 := n9_; have NB319_0 := n10_; clear n0_ n1_ n2_ n3_ n4_ n5_ n6_ n7_ n8_ n9_ n10_; clear hb hbox hg; have hnb38 := NB319_313.out; have hnc38 := NB313_319.out; have hnb39 := NB319_0.out; have hnc39 := NB0_319.out; obtain ⟨hcz40_0, hcz40_1, hcz40_2, hfz40_0, hfz40_1, hfz40_2⟩ := cs3_ BK319.out) | ((with_reducible refine gate_callee (f := 126) rfl ?_); refine goesL_ (some 7) rfl rfl Try.func126 (by kernel_rfl) rfl #[.pointer (some ⟨g, 0, none⟩), .int .i64 15] rfl z1_ ?_; (with_reducible refine (spec_l1Below.calls g s0_0 t317 t318 15 t320 t321 t322 w0 _ ?side1 ?side2 A3.out).mono ?_); (case side1 => exact z111_); (case side2 => exact z112_); rintro e w41 ⟨rfl, hi, hb, hk⟩; refine ⟨_, rfl, ?_⟩; have n0_ := q_ (KeepBut.blk hk (g' := gb313) (o := .cells #[.int .i64 0, .int .i64 0, .int .i64 0] 67 (0, 0)) z21_ NB313_0.out (by simp)); have n1_ := q_ (KeepBut.blk hk (g' := gb319) (o := .cells #[.int .i64 t314, .int .i64 t315, .int .i64 t316] 67 (0, 0)) z16_ NB319_0.out (by simp)); have n2_ := q_ (KeepBut.trans z12_ hk (.inl rfl)); have n3_ := q_ (hb); have n4_ := q_ (hi); clear BK313; clear BK319; clear HK; clear HB; clear HI0; have BK313 := n0_; have BK319 := n1_; have HK := n2_; have HB := n3_; have HI0 := n4_; clear n0_ n1_ n2_ n3_ n4_; (try clear hb); (try clear hb2); (try clear hk); (try clear hi)) | ((with_reducible refine gate_dst (N := 23) rfl ?_); refine Kd.R_lit (Kd.int .i64) _ 3 ?hg (N := 23) ?hd (xs := ([1000000001, 3] : List Int)) (inner := [.int .i64 1000000001, .int .i64 3]) (ok := fun _ => True) (okp := fun _ => True) ?hr ?hp (fun _ hk => hk) trivial (Below.refl _ _) (Nat.le_refl _) (by simp) ?_; (case hd => rfl); (case hg => rfl); (case hr => exact z110_); (case hp => exact (Reps.one (show Kd.M (Kd.int .i64) _ _ _ 1000000001 [.int .i64 1000000001] from rfl) (Reps.one (show Kd.M (Kd.int .i64) _ _ _ 3 [.int .i64 3] from rfl) (Reps.none _ _)))); intro v333 w42 ho43 hb hg_ hnew_; clear hg_ hnew_; (first | rw [← Ny332.out] at ho43 | (simp only [Int.reduceToNat] at ho43; rw [← Ny332.out] at ho43)); have n0_ := q_ (Kd.R_lower ho43 (keep_size (w := w) (g := g) (row := none) z12_)); have n1_ := q_ (IsS189.below z22_ hb); have n2_ := q_ (blk_below (g := gb313) (o := .cells #[.int .i64 0, .int .i64 0, .int .i64 0] 67 (0, 0)) z20_ hb); have n3_ := q_ (blk_below (g := gb319) (o := .cells #[.int .i64 t314, .int .i64 t315, .int .i64 t316] 67 (0, 0)) z63_ hb); have n4_ := q_ (KeepBut.trans z12_ (KeepBut.of_below hb g none) (.inl rfl)); have n5_ := q_ (below_step z33_ hb); clear HI0; clear BK313; clear BK319; clear HK; clear HB; have HO334 := n0_; have HI0 := n1_; have BK313 := n2_; have BK319 := n3_; have HK := n4_; have HB := n5_; clear n0_ n1_ n2_ n3_ n4_ n5_; clear hb ho43; obtain ⟨Ao44, co44, eo44⟩ := Kd.R_slice HO334.out; subst eo44) | ((with_reducible refine gate_callee (f := 167) rfl ?_); refine goesL_ (some 24) rfl rfl Try.func167 (by kernel_rfl) rfl #[.pointer (some ⟨g, 0, none⟩), .slice Ao44 y332.length co44] rfl z1_ ?_; (with_reducible refine (spec_l1PickInt.calls g s0_0 t321 t322 _ _ y332 t335 t336 t337 w0 _ ?side1 ?side2 ?side3 ?side4 ?side5 A34.out).mono ?_); (case side1 => exact z111_); (case side2 => exact z112_); (case side3 => repeat (first | exact (Kd.R_reads' HO334.out).2.2 | (with_reducible refine Kd.C_alloc ?_ _) | (with_reducible refine Kd.C_drewN ?_ _) | (with_reducible refine Kd.C_drew ?_))); (case side4 => exact (Kd.R_reads' HO334.out).2.1); (case side5 => exact far_slice (IsS189.own_ne HI0.out HO334.out (by decide))); rintro e w45 ⟨rfl, hi, hb, hk⟩; refine ⟨_, rfl, ?_⟩; have n0_ := q_ (KeepBut.blk hk (g' := gb313) (o := .cells #[.int .i64 0, .int .i64 0, .int .i64 0] 67 (0, 0)) z20_ NB313_0.out (by simp)); have n1_ := q_ (KeepBut.blk hk (g' := gb319) (o := .cells #[.int .i64 t314, .int .i64 t315, .int .i64 t316] 67 (0, 0)) z63_ NB319_0.out (by simp)); have n2_ := q_ (Kd.R_mono (Kd.R_keep (IsS189.apart (show IsS189 w0 _ g s0_0 t321 t322 from z22_) (by (with_reducible repeat (first | apply Kd.R_alloc | apply Kd.R_drewN | apply Kd.R_drew)); exact HO334.out) (by decide)) hk (fun _ h => h.2)) (fun _ h => h.1)); have n3_ := q_ (KeepBut.trans z12_ hk (.inl rfl)); have n4_ := q_ (hb); have n5_ := q_ (hi); clear BK313; clear BK319; clear HO334; clear HK; clear HB; clear HI0; have BK313 := n0_; have BK319 := n1_; have HO334 := n2_; have HK := n3_; have HB := n4_; have HI0 := n5_; clear n0_ n1_ n2_ n3_ n4_ n5_; (try clear hb); (try clear hb2); (try clear hk); (try clear hi); obtain ⟨hcz46_0, hcz46_1, hcz46_2, hfz46_0, hfz46_1, hfz46_2⟩ := cs3_ BK319.out; have hnb47 := NB313_0.out; have hnc47 := NB0_313.out; obtain ⟨hcz48_0, hcz48_1, hcz48_2, hfz48_0, hfz48_1, hfz48_2⟩ := cs3_ BK313.out))
    refine bodyPost_ret (results_cell_row rfl _ _ gb313 67 #[.int .i64 t314, .int .i64 t315, .int .i64 t335] (0, 0) _ rfl (by (with_reducible repeat (first | refine blk_drewN ?_ _ | refine blk_drew ?_ | refine blk_alloc ?_ _)); refine blk_put (cs := #[.int .i64 t314, .int .i64 t315, .int .i64 0]) ?_ 2 _ rfl; (with_reducible repeat (first | refine blk_drewN ?_ _ | refine blk_drew ?_ | refine blk_alloc ?_ _)); refine blk_put (cs := #[.int .i64 t314, .int .i64 0, .int .i64 0]) ?_ 1 _ rfl; (with_reducible repeat (first | refine blk_drewN ?_ _ | refine blk_drew ?_ | refine blk_alloc ?_ _)); refine blk_put (cs := #[.int .i64 0, .int .i64 0, .int .i64 0]) ?_ 0 _ rfl; (with_reducible repeat (first | refine blk_drewN ?_ _ | refine blk_drew ?_ | refine blk_alloc ?_ _)); refine blk_far ?_ NB313_319.out _; (with_reducible repeat (first | refine blk_drewN ?_ _ | refine blk_drew ?_ | refine blk_alloc ?_ _)); exact BK313.out) Try.underlying67 rfl (by kernel_rfl)) rfl ?_
    exact ⟨z5_, z22_, z33_, z12_⟩
   ·rw [if_neg c33] at H
    have c33b0 : (t320 == 2) = false := beq_eq_false_iff_ne.mpr c33
    have c33b1 : (t320 != 2) = true := bne_iff_ne.mpr c33
    simp only [Option.some.injEq, Prod.mk.injEq] at H
    obtain ⟨rfl, rfl, rfl, rfl, rfl⟩ := H
    go_enter Try.func134, Try.ntmps134
    go_wp2_with (first | ((with_reducible refine gate_dst (N := 2) rfl ?_); refine box_event ?hg (N := 2) ?hd (cs := #[.int .i64 0, .int .i64 0, .int .i64 0]) (t := 67) ?hr ?_; (case hd => rfl); (case hg => rfl); (case hr => exact z110_); intro gb313 hg w49 hbox hb; have n0_ := q_ (IsS189.below z4_ hb); have n1_ := q_ (KeepBut.trans z3_ (KeepBut.of_below hb g none) (.inl rfl)); have n2_ := q_ (below_step z9_ hb); have n3_ := q_ (hbox); have n4_ := q_ ((z88_ : w.heap.size ≤ gb313)); have n5_ := q_ ((Nat.le_trans HW0.out (z88_ : w.heap.size ≤ gb313) : w0.heap.size ≤ gb313)); have n6_ := q_ ((z94_ : g ≠ gb313)); have n7_ := q_ ((z95_ : gb313 ≠ g)); clear HI0; clear HK; clear HB; have HI0 := n0_; have HK := n1_; have HB := n2_; have BK313 := n3_; have GW313 := n4_; have GE313 := n5_; have NB0_313 := n6_; have NB313_0 := n7_; clear n0_ n1_ n2_ n3_ n4_ n5_ n6_ n7_; clear hb hbox hg) | ((with_reducible refine gate_callee (f := 175) rfl ?_); refine goesL_ (some 5) rfl rfl Try.func175 (by kernel_rfl) rfl #[.pointer (some ⟨g, 0, none⟩)] rfl z1_ ?_; (with_reducible refine (spec_l1DrawMsg.calls k g s0_0 s0_1 s0_2 t314 t315 t316 t317 t318 w0 _ ?side1 ?side2 A2.out).mono ?_); (case side1 => exact z116_); (case side2 => exact z117_); rintro e w50 ⟨rfl, hi, hb, hk⟩; refine ⟨_, rfl, ?_⟩; have n0_ := q_ (KeepBut.blk hk (g' := gb313) (o := .cells #[.int .i64 0, .int .i64 0, .int .i64 0] 67 (0, 0)) z20_ NB313_0.out (by simp)); have n1_ := q_ (KeepBut.trans z14_ hk (.inl rfl)); have n2_ := q_ (hb); have n3_ := q_ (hi); clear BK313; clear HK; clear HB; clear HI0; have BK313 := n0_; have HK := n1_; have HB := n2_; have HI0 := n3_; clear n0_ n1_ n2_ n3_; (try clear hb); (try clear hb2); (try clear hk); (try clear hi)) | ((with_reducible refine gate_dst (N := 3) rfl ?_); refine box_event ?hg (N := 3) ?hd (cs := #[.int .i64 0, .int .i64 0, .int .i64 0]) (t := 67) ?hr ?_; (case hd => rfl); (case hg => rfl); (case hr => exact z110_); intro gb319 hg w51 hbox hb; have n0_ := q_ (IsS189.below z18_ hb); have n1_ := q_ (blk_below (g := gb313) (o := .cells #[.int .i64 0, .int .i64 0, .int .i64 0] 67 (0, 0)) z20_ hb); have n2_ := q_ (KeepBut.trans z14_ (KeepBut.of_below hb g none) (.inl rfl)); have n3_ := q_ (below_step z53_ hb); have n4_ := q_ (hbox); have n5_ := q_ ((z91_ : w.heap.size ≤ gb319)); have n6_ := q_ ((Nat.le_trans HW0.out (z91_ : w.heap.size ≤ gb319) : w0.heap.size ≤ gb319)); have n7_ := q_ ((z92_ : gb313 ≠ gb319)); have n8_ := q_ ((z93_ : gb319 ≠ gb313)); have n9_ := q_ ((z98_ : g ≠ gb319)); have n10_ := q_ ((z99_ : gb319 ≠ g)); clear HI0; clear BK313; clear HK; clear HB; have HI0 := n0_; have BK313 := n1_; have HK := n2_; have HB := n3_; have BK319 := n4_; have GW319 := n5_; have GE319 := n6_; have NB313_319 := n7_; have NB319_313 := n8_; have NB0_319 := n9_; have NB319_0 := n10_; clear n0_ n1_ n2_ n3_ n4_ n5_ n6_ n7_ n8_ n9_ n10_; clear hb hbox hg; have hnb52 := NB319_313.out; have hnc52 := NB313_319.out; have hnb53 := NB319_0.out; have hnc53 := NB0_319.out; obtain ⟨hcz54_0, hcz54_1, hcz54_2, hfz54_0, hfz54_1, hfz54_2⟩ := cs3_ BK319.out) | ((with_reducible refine gate_callee (f := 126) rfl ?_); refine goesL_ (some 7) rfl rfl Try.func126 (by kernel_rfl) rfl #[.pointer (some ⟨g, 0, none⟩), .int .i64 15] rfl z1_ ?_; (with_reducible refine (spec_l1Below.calls g s0_0 t317 t318 15 t320 t321 t322 w0 _ ?side1 ?side2 A3.out).mono ?_); (case side1 => exact z111_); (case side2 => exact z112_); rintro e w55 ⟨rfl, hi, hb, hk⟩; refine ⟨_, rfl, ?_⟩; have n0_ := q_ (KeepBut.blk hk (g' := gb313) (o := .cells #[.int .i64 0, .int .i64 0, .int .i64 0] 67 (0, 0)) z21_ NB313_0.out (by simp)); have n1_ := q_ (KeepBut.blk hk (g' := gb319) (o := .cells #[.int .i64 t314, .int .i64 t315, .int .i64 t316] 67 (0, 0)) z16_ NB319_0.out (by simp)); have n2_ := q_ (KeepBut.trans z12_ hk (.inl rfl)); have n3_ := q_ (hb); have n4_ := q_ (hi); clear BK313; clear BK319; clear HK; clear HB; clear HI0; have BK313 := n0_; have BK319 := n1_; have HK := n2_; have HB := n3_; have HI0 := n4_; clear n0_ n1_ n2_ n3_ n4_; (try clear hb); (try clear hb2); (try clear hk); (try clear hi); obtain ⟨hcz56_0, hcz56_1, hcz56_2, hfz56_0, hfz56_1, hfz56_2⟩ := cs3_ BK319.out; have hnb57 := NB313_0.out; have hnc57 := NB0_313.out; obtain ⟨hcz58_0, hcz58_1, hcz58_2, hfz58_0, hfz58_1, hfz58_2⟩ := cs3_ BK313.out))
    refine bodyPost_ret (results_cell_row rfl _ _ gb313 67 #[.int .i64 t314, .int .i64 t315, .int .i64 t316] (0, 0) _ rfl (by (with_reducible repeat (first | refine blk_drewN ?_ _ | refine blk_drew ?_ | refine blk_alloc ?_ _)); refine blk_put (cs := #[.int .i64 t314, .int .i64 t315, .int .i64 0]) ?_ 2 _ rfl; (with_reducible repeat (first | refine blk_drewN ?_ _ | refine blk_drew ?_ | refine blk_alloc ?_ _)); refine blk_put (cs := #[.int .i64 t314, .int .i64 0, .int .i64 0]) ?_ 1 _ rfl; (with_reducible repeat (first | refine blk_drewN ?_ _ | refine blk_drew ?_ | refine blk_alloc ?_ _)); refine blk_put (cs := #[.int .i64 0, .int .i64 0, .int .i64 0]) ?_ 0 _ rfl; (with_reducible repeat (first | refine blk_drewN ?_ _ | refine blk_drew ?_ | refine blk_alloc ?_ _)); exact BK313.out) Try.underlying67 rfl (by kernel_rfl)) rfl ?_
    exact ⟨z5_, z22_, z33_, z12_⟩

/-! ### spec_DrawMapDo: function 55 -/
def spec_DrawMapDo.f (k : Nat) (l0 : List Int) : Option ((List (S147)) × Int × Int × Int) := (spec_l1New.f k l0).bind fun bt339 => ((spec_l1DrawBadMap.f k bt339.1 bt339.2.1 bt339.2.2).bind fun bt343 => ((spec_l1DrawBad.f k bt339.1 bt343.2.1 bt343.2.2).bind fun bt348 => (if (bt343.1.length : Int) > 0 then ((spec_l1Once.f bt339.1 bt348.2.2.2.1 bt348.2.2.2.2 2).bind fun bt354 => (if bt354.1 = true then ((spec_l1Below.f bt339.1 bt354.2.1 bt354.2.2 (bt343.1.length : Int)).bind fun bt357 => (if 0 ≤ bt357.1 then (if bt357.1 < (bt343.1.length : Int) then (some (bt343.1, bt348.1, (rd_T147 bt343.1 bt357.1).f0, bt348.2.2.1)) else (none)) else (none))) else (some (bt343.1, bt348.1, bt348.2.1, bt348.2.2.1)))) else (some (bt343.1, bt348.1, bt348.2.1, bt348.2.2.1)))))
theorem spec_DrawMapDo.mono : ∀ a0 k, LeO (spec_DrawMapDo.f k a0) (spec_DrawMapDo.f (k + 1) a0) := by
 intro a0 k
 unfold spec_DrawMapDo.f
 repeat' first
   | (with_reducible exact spec_l1DrawBad.mono _ _ _ _)
   | (with_reducible exact spec_l1DrawBadMap.mono _ _ _ _)
   | (with_reducible exact spec_l1New.mono _ _)
   | (with_reducible exact LeO.refl _)
   | (with_reducible exact LeO.none _)
   | (with_reducible refine LeO.ite ?_ ?_)
   | (with_reducible refine LeO.bind ?_ (fun _ => ?_))
   | exact spec_l1DrawBad.mono _ _ _ _
   | exact spec_l1DrawBadMap.mono _ _ _ _
   | exact spec_l1New.mono _ _
   | exact LeO.none _
   | refine LeO.ite ?_ ?_
   | refine LeO.bind ?_ (fun _ => ?_)
set_option maxHeartbeats 8000000 in
set_option maxRecDepth 100000 in
theorem spec_DrawMapDo.calls (k : Nat) (A0 : Option Addr) (c0 : Nat) (l0 : List Int) (r1 : List (S147)) (r2 : Int) (r3 : Int) (r4 : Int) (w : World) (hr0 : Kd.C (Kd.int .u8) w A0 l0.length l0) (hc0 : l0.length ≤ c0) (h : spec_DrawMapDo.f k l0 = some (r1, r2, r3, r4)) :
  Calls Try.prog 55 #[.slice A0 l0.length c0] w fun e w' => ∃ v0_ : Value, e = .returned (.tuple #[v0_, .agg #[.int .i64 r2, .int .i64 r3, .int .i64 r4]]) ∧ Kd.R k147 147 w' w.heap.size (fun _ => True) v0_ r1 ∧ Below w.heap.size w w' := by
 have hu67 := Try.underlying67
 have HR0 := q_ hr0
 have HC0 := q_ hc0
 clear hr0 hc0
 have HB := q_ (Below.refl w.heap.size w)
 have H : ((spec_l1New.f k l0).bind fun bt339 => ((spec_l1DrawBadMap.f k bt339.1 bt339.2.1 bt339.2.2).bind fun bt343 => ((spec_l1DrawBad.f k bt339.1 bt343.2.1 bt343.2.2).bind fun bt348 => (if (bt343.1.length : Int) > 0 then ((spec_l1Once.f bt339.1 bt348.2.2.2.1 bt348.2.2.2.2 2).bind fun bt354 => (if bt354.1 = true then ((spec_l1Below.f bt339.1 bt354.2.1 bt354.2.2 (bt343.1.length : Int)).bind fun bt357 => (if 0 ≤ bt357.1 then (if bt357.1 < (bt343.1.length : Int) then (some (bt343.1, bt348.1, (rd_T147 bt343.1 bt357.1).f0, bt348.2.2.1)) else (none)) else (none))) else (some (bt343.1, bt348.1, bt348.2.1, bt348.2.2.1)))) else (some (bt343.1, bt348.1, bt348.2.1, bt348.2.2.1)))))) = some (r1, r2, r3, r4) := h
 clear h
 replace H := Option.bind_eq_some_iff.mp H
 obtain ⟨⟨t339, t340, t341⟩, A20, H⟩ := H
 replace H : ((spec_l1DrawBadMap.f k t339 t340 t341).bind fun bt343 => ((spec_l1DrawBad.f k t339 bt343.2.1 bt343.2.2).bind fun bt348 => (if (bt343.1.length : Int) > 0 then ((spec_l1Once.f t339 bt348.2.2.2.1 bt348.2.2.2.2 2).bind fun bt354 => (if bt354.1 = true then ((spec_l1Below.f t339 bt354.2.1 bt354.2.2 (bt343.1.length : Int)).bind fun bt357 => (if 0 ≤ bt357.1 then (if bt357.1 < (bt343.1.length : Int) then (some (bt343.1, bt348.1, (rd_T147 bt343.1 bt357.1).f0, bt348.2.2.1)) else (none)) else (none))) else (some (bt343.1, bt348.1, bt348.2.1, bt348.2.2.1)))) else (some (bt343.1, bt348.1, bt348.2.1, bt348.2.2.1))))) = some (r1, r2, r3, r4) := H
 have A2 := q_ A20
 clear A20
 replace H := Option.bind_eq_some_iff.mp H
 obtain ⟨⟨t343, t346, t347⟩, A30, H⟩ := H
 replace H : ((spec_l1DrawBad.f k t339 t346 t347).bind fun bt348 => (if (t343.length : Int) > 0 then ((spec_l1Once.f t339 bt348.2.2.2.1 bt348.2.2.2.2 2).bind fun bt354 => (if bt354.1 = true then ((spec_l1Below.f t339 bt354.2.1 bt354.2.2 (t343.length : Int)).bind fun bt357 => (if 0 ≤ bt357.1 then (if bt357.1 < (t343.length : Int) then (some (t343, bt348.1, (rd_T147 t343 bt357.1).f0, bt348.2.2.1)) else (none)) else (none))) else (some (t343, bt348.1, bt348.2.1, bt348.2.2.1)))) else (some (t343, bt348.1, bt348.2.1, bt348.2.2.1)))) = some (r1, r2, r3, r4) := H
 have A3 := q_ A30
 clear A30
 replace H := Option.bind_eq_some_iff.mp H
 obtain ⟨⟨t348, t349, t350, t351, t352⟩, A40, H⟩ := H
 replace H : (if (t343.length : Int) > 0 then ((spec_l1Once.f t339 t351 t352 2).bind fun bt354 => (if bt354.1 = true then ((spec_l1Below.f t339 bt354.2.1 bt354.2.2 (t343.length : Int)).bind fun bt357 => (if 0 ≤ bt357.1 then (if bt357.1 < (t343.length : Int) then (some (t343, t348, (rd_T147 t343 bt357.1).f0, t350)) else (none)) else (none))) else (some (t343, t348, t349, t350)))) else (some (t343, t348, t349, t350))) = some (r1, r2, r3, r4) := H
 have A4 := q_ A40
 clear A40
 by_cases c5 : (t343.length : Int) > 0
 ·rw [if_pos c5] at H
  have c5b0 : decide (0 < (t343.length : Int)) = true := decide_eq_true c5
  have c5b1 : decide (0 < t343.length) = true := decide_eq_true (by omega)
  clear c5
  replace H := Option.bind_eq_some_iff.mp H
  obtain ⟨⟨t354, t355, t356⟩, A60, H⟩ := H
  replace H : (if t354 = true then ((spec_l1Below.f t339 t355 t356 (t343.length : Int)).bind fun bt357 => (if 0 ≤ bt357.1 then (if bt357.1 < (t343.length : Int) then (some (t343, t348, (rd_T147 t343 bt357.1).f0, t350)) else (none)) else (none))) else (some (t343, t348, t349, t350))) = some (r1, r2, r3, r4) := H
  have A6 := q_ A60
  clear A60
  by_cases c7 : t354 = true
  ·subst c7
   have H1 : ((spec_l1Below.f t339 t355 t356 (t343.length : Int)).bind fun bt357 => (if 0 ≤ bt357.1 then (if bt357.1 < (t343.length : Int) then (some (t343, t348, (rd_T147 t343 bt357.1).f0, t350)) else (none)) else (none))) = some (r1, r2, r3, r4) := z49_
   clear H
   have H := H1
   clear H1
   replace H := Option.bind_eq_some_iff.mp H
   obtain ⟨⟨t357, t358, t359⟩, A80, H⟩ := H
   replace H : (if 0 ≤ t357 then (if t357 < (t343.length : Int) then (some (t343, t348, (rd_T147 t343 t357).f0, t350)) else (none)) else (none)) = some (r1, r2, r3, r4) := H
   have A8 := q_ A80
   clear A80
   by_cases c9 : 0 ≤ t357
   ·rw [if_pos c9] at H
    have c9b0 : decide (0 ≤ t357) = true := decide_eq_true c9
    clear c9
    by_cases c10 : t357 < (t343.length : Int)
    ·rw [if_pos c10] at H
     have c10b0 : decide (t357 < (t343.length : Int)) = true := decide_eq_true c10
     clear c10
     simp only [Option.some.injEq, Prod.mk.injEq] at H
     obtain ⟨rfl, rfl, rfl, rfl⟩ := H
     go_enter Try.func55, Try.ntmps55
     try go_wp2_with (first | ((with_reducible refine gate_dst (N := 3) rfl ?_); refine box_event ?hg (N := 3) ?hd (cs := #[.int .i64 0, .int .i64 0, .int .i64 0]) (t := 67) ?hr ?_; (case hd => rfl); (case hg => rfl); (case hr => exact z110_); intro gb338 hg w11 hbox hb; have n0_ := q_ (below_step z0_ hb); have n1_ := q_ (hbox); have n2_ := q_ ((z87_ : w.heap.size ≤ gb338)); have n3_ := q_ ((z87_ : w.heap.size ≤ gb338)); clear HB; have HB := n0_; have BK338 := n1_; have GW338 := n2_; have GE338 := n3_; clear n0_ n1_ n2_ n3_; clear hb hbox hg) | ((with_reducible refine gate_callee (f := 123) rfl ?_); refine goesL_ (some 8) rfl rfl Try.func123 (by kernel_rfl) rfl #[.slice A0 l0.length c0] rfl z1_ ?_; (with_reducible refine (spec_l1New.calls k _ _ l0 t339 t340 t341 w _ ?side1 ?side2 ?side3 A2.out).mono ?_); (case side1 => exact z127_); (case side2 => exact HR0.out); (case side3 => exact HC0.out); rintro e w12 ⟨g342, rfl, hi, hb, hb2⟩; refine ⟨_, rfl, ?_⟩; have n0_ := q_ (blk_below (g := gb338) (o := .cells #[.int .i64 0, .int .i64 0, .int .i64 0] 67 (0, 0)) z13_ hb2); have n1_ := q_ (hb); have n2_ := q_ (hi); have n3_ := q_ (IsS189.ne_blk hi (blk_below (g := gb338) (o := .cells #[.int .i64 0, .int .i64 0, .int .i64 0] 67 (0, 0)) z13_ hb2) (by decide)); have n4_ := q_ (Ne.symm (IsS189.ne_blk hi (blk_below (g := gb338) (o := .cells #[.int .i64 0, .int .i64 0, .int .i64 0] 67 (0, 0)) z13_ hb2) (by decide))); clear BK338; clear HB; have BK338 := n0_; have HB := n1_; have HI342 := n2_; have NB342_338 := n3_; have NB338_342 := n4_; clear n0_ n1_ n2_ n3_ n4_; (try clear hb); (try clear hb2); (try clear hk); (try clear hi)) | ((with_reducible refine gate_callee (f := 133) rfl ?_); refine goesL_ (some 10) rfl rfl Try.func133 (by kernel_rfl) rfl #[.pointer (some ⟨g342, 0, none⟩)] rfl z1_ ?_; (with_reducible refine (spec_l1DrawBadMap.calls k g342 t339 t340 t341 t343 t346 t347 w _ ?side1 ?side2 A3.out).mono ?_); (case side1 => exact z113_); (case side2 => exact z114_); rintro e w13 ⟨v344, rfl, ho0, hi, hb, hk⟩; refine ⟨_, rfl, ?_⟩; have n0_ := q_ (KeepBut.blk hk (g' := gb338) (o := .cells #[.int .i64 0, .int .i64 0, .int .i64 0] 67 (0, 0)) z13_ NB338_342.out (by simp)); have n1_ := q_ (Kd.R_lower ho0 (below_size z19_)); have n2_ := q_ (hb); have n3_ := q_ (hi); clear BK338; clear HB; clear HI342; have BK338 := n0_; have HO345 := n1_; have HB := n2_; have HI342 := n3_; clear n0_ n1_ n2_ n3_; (try clear hb); (try clear hb2); (try clear hk); (try clear hi); (try clear ho0)) | ((with_reducible refine gate_callee (f := 134) rfl ?_); refine goesL_ (some 12) rfl rfl Try.func134 (by kernel_rfl) rfl #[.pointer (some ⟨g342, 0, none⟩)] rfl z1_ ?_; (with_reducible refine (spec_l1DrawBad.calls k g342 t339 t346 t347 t348 t349 t350 t351 t352 w _ ?side1 ?side2 A4.out).mono ?_); (case side1 => exact z113_); (case side2 => exact z114_); rintro e w14 ⟨rfl, hi, hb, hk⟩; refine ⟨_, rfl, ?_⟩; have n0_ := q_ (KeepBut.blk hk (g' := gb338) (o := .cells #[.int .i64 0, .int .i64 0, .int .i64 0] 67 (0, 0)) z13_ NB338_342.out (by simp)); have n1_ := q_ (Kd.R_mono (Kd.R_keep (IsS189.apart (show IsS189 w _ g342 t339 t346 t347 from z17_) z59_ (by decide)) hk (fun _ h => h.2)) (fun _ h => h.1)); have n2_ := q_ (hb); have n3_ := q_ (hi); clear BK338; clear HO345; clear HB; clear HI342; have BK338 := n0_; have HO345 := n1_; have HB := n2_; have HI342 := n3_; clear n0_ n1_ n2_ n3_; (try clear hb); (try clear hb2); (try clear hk); (try clear hi)) | ((with_reducible refine gate_dst (N := 6) rfl ?_); refine box_event ?hg (N := 6) ?hd (cs := #[.int .i64 0, .int .i64 0, .int .i64 0]) (t := 67) ?hr ?_; (case hd => rfl); (case hg => rfl); (case hr => exact z110_); intro gb353 hg w15 hbox hb; have n0_ := q_ (Kd.R_below z59_ hb); have n1_ := q_ (blk_below (g := gb338) (o := .cells #[.int .i64 0, .int .i64 0, .int .i64 0] 67 (0, 0)) z13_ hb); have n2_ := q_ (IsS189.below z17_ hb); have n3_ := q_ (below_step z19_ hb); have n4_ := q_ (hbox); have n5_ := q_ ((z102_ : w.heap.size ≤ gb353)); have n6_ := q_ ((z102_ : w.heap.size ≤ gb353)); have n7_ := q_ ((z96_ : gb338 ≠ gb353)); have n8_ := q_ ((z97_ : gb353 ≠ gb338)); have n9_ := q_ ((z100_ : g342 ≠ gb353)); have n10_ := q_ ((z101_ : gb353 ≠ g342)); clear HO345; clear BK338; clear HI342; clear HB; have HO345 := n0_; have BK338 := n1_; have HI342 := n2_; have HB := n3_; have BK353 := n4_; have GW353 := n5_; have GE353 := n6_; have NB338_353 := n7_; have NB353_338 := n8_; have NB342_353 := n9_; have NB353_342 := n10_; clear n0_ n1_ n2_ n3_ n4_ n5_ n6_ n7_ n8_ n9_ n10_; clear hb hbox hg; have hnb16 := NB353_338.out; have hnc16 := NB338_353.out; have hnb17 := NB353_342.out; have hnc17 := NB342_353.out; obtain ⟨hcz18_0, hcz18_1, hcz18_2, hfz18_0, hfz18_1, hfz18_2⟩ := cs3_ BK353.out; obtain ⟨Ao19, co19, eo19⟩ := Kd.R_slice HO345.out; subst eo19) | (go_at_call 135; (with_reducible refine (spec_l1Once.calls g342 t339 t351 t352 2 true t355 t356 w _ ?side1 ?side2 A6.out).mono ?_); (case side1 => exact z118_); (case side2 => exact z120_); rintro e w20 ⟨rfl, hi, hb, hk⟩; have n0_ := q_ (KeepBut.blk hk (g' := gb338) (o := .cells #[.int .i64 0, .int .i64 0, .int .i64 0] 67 (0, 0)) z28_ NB338_342.out (by simp)); have n1_ := q_ (Kd.R_mono (Kd.R_keep (IsS189.apart (show IsS189 w _ g342 t339 t351 t352 from z38_) (by (with_reducible repeat (first | apply Kd.R_alloc | apply Kd.R_drewN | apply Kd.R_drew)); exact (Kd.R_mono (Kd.R_far (p := ⟨gb353, 2, none⟩) (Kd.R_far (p := ⟨gb353, 1, none⟩) (Kd.R_far (p := ⟨gb353, 0, none⟩) (Kd.R_types HO345.out BK353.out (by decide)) (fun _ hk => hk.2) (.int .i64 t348)) (fun _ hk => hk.2) (.int .i64 t349)) (fun _ hk => hk.2) (.int .i64 t350)) (fun _ h_ => h_.1))) (by decide)) hk (fun _ h => h.2)) (fun _ h => h.1)); have n2_ := q_ (KeepBut.blk hk (g' := gb353) (o := .cells #[.int .i64 t348, .int .i64 t349, .int .i64 t350] 67 (0, 0)) z23_ NB353_342.out (by simp)); have n3_ := q_ (hb); have n4_ := q_ (hi); clear BK338; clear HO345; clear BK353; clear HB; clear HI342; have BK338 := n0_; have HO345 := n1_; have BK353 := n2_; have HB := n3_; have HI342 := n4_; clear n0_ n1_ n2_ n3_ n4_; (try clear hb); (try clear hb2); (try clear hk); (try clear hi)) | ((with_reducible refine gate_callee (f := 126) rfl ?_); refine goesL_ (some 24) rfl rfl Try.func126 (by kernel_rfl) rfl #[.pointer (some ⟨g342, 0, none⟩), .int .i64 (t343.length : Int)] rfl z1_ ?_; (with_reducible refine (spec_l1Below.calls g342 t339 t355 t356 (t343.length : Int) t357 t358 t359 w _ ?side1 ?side2 A8.out).mono ?_); (case side1 => exact z118_); (case side2 => exact z120_); rintro e w21 ⟨rfl, hi, hb, hk⟩; refine ⟨_, rfl, ?_⟩; have n0_ := q_ (KeepBut.blk hk (g' := gb338) (o := .cells #[.int .i64 0, .int .i64 0, .int .i64 0] 67 (0, 0)) z13_ NB338_342.out (by simp)); have n1_ := q_ (Kd.R_mono (Kd.R_keep (IsS189.apart (show IsS189 w _ g342 t339 t355 t356 from z38_) z59_ (by decide)) hk (fun _ h => h.2)) (fun _ h => h.1)); have n2_ := q_ (KeepBut.blk hk (g' := gb353) (o := .cells #[.int .i64 t348, .int .i64 t349, .int .i64 t350] 67 (0, 0)) (by (with_reducible repeat (first | refine blk_drewN ?_ _ | refine blk_drew ?_ | refine blk_alloc ?_ _)); exact BK353.out) NB353_342.out (by simp)); have n3_ := q_ (hb); have n4_ := q_ (hi); clear BK338; clear HO345; clear BK353; clear HB; clear HI342; have BK338 := n0_; have HO345 := n1_; have BK353 := n2_; have HB := n3_; have HI342 := n4_; clear n0_ n1_ n2_ n3_ n4_; (try clear hb); (try clear hb2); (try clear hk); (try clear hi); have p360 : 0 ≤ (t357 : Int) := of_decide_eq_true z6_; have q360 : t357 < (t343.length : Int) := of_decide_eq_true z6_; obtain ⟨ad360, e360, hx360_0, hx360_1⟩ := at_T147 (Kd.R_reads' HO345.out).2.2 t357 p360 q360; cases e360; replace p360 := eq_true p360; replace q360 := eq_true q360; obtain ⟨hcz22_0, hcz22_1, hcz22_2, hfz22_0, hfz22_1, hfz22_2⟩ := cs3_ BK353.out))
     have n0_ : Aside0 (Kd.R k147 147 (w21.setCell ⟨gb353, 1, none⟩ (.int .i64 ((rd_T147 t343 t357).f0))) w.heap.size (fun _ => True) (.slice (some ad360) t343.length co19) t343) := ⟨by (with_reducible repeat (first | apply Kd.R_alloc | apply Kd.R_drewN | apply Kd.R_drew)); exact Kd.R_mono (Kd.R_far (p := ⟨gb353, 1, none⟩) (Kd.R_types HO345.out BK353.out (by decide)) (fun _ hk => hk.2) (.int .i64 ((rd_T147 t343 t357).f0))) (fun _ hk => trivial)⟩
     have n1_ : Aside0 ((w21.setCell ⟨gb353, 1, none⟩ (.int .i64 ((rd_T147 t343 t357).f0))).heap[gb338]? = some (.cells #[.int .i64 0, .int .i64 0, .int .i64 0] 67 (0, 0))) := ⟨by (with_reducible repeat (first | refine blk_drewN ?_ _ | refine blk_drew ?_ | refine blk_alloc ?_ _)); refine blk_far ?_ NB338_353.out _; (with_reducible repeat (first | refine blk_drewN ?_ _ | refine blk_drew ?_ | refine blk_alloc ?_ _)); exact BK338.out⟩
     have n2_ : Aside0 ((w21.setCell ⟨gb353, 1, none⟩ (.int .i64 ((rd_T147 t343 t357).f0))).heap[gb353]? = some (.cells #[.int .i64 t348, .int .i64 ((rd_T147 t343 t357).f0), .int .i64 t350] 67 (0, 0))) := ⟨by (with_reducible repeat (first | refine blk_drewN ?_ _ | refine blk_drew ?_ | refine blk_alloc ?_ _)); refine blk_put (cs := #[.int .i64 t348, .int .i64 t349, .int .i64 t350]) ?_ 1 _ rfl; (with_reducible repeat (first | refine blk_drewN ?_ _ | refine blk_drew ?_ | refine blk_alloc ?_ _)); exact BK353.out⟩
     have n3_ : Aside0 (IsS189 w (w21.setCell ⟨gb353, 1, none⟩ (.int .i64 ((rd_T147 t343 t357).f0))) g342 t339 t358 t359) := ⟨z38_⟩
     have n4_ : Aside0 (Below w.heap.size w (w21.setCell ⟨gb353, 1, none⟩ (.int .i64 ((rd_T147 t343 t357).f0)))) := ⟨z43_⟩
     (try clear HO345)
     (try clear BK338)
     (try clear BK353)
     (try clear HI342)
     (try clear HB)
     generalize (w21.setCell ⟨gb353, 1, none⟩ (.int .i64 ((rd_T147 t343 t357).f0))) = w23 at n0_ n1_ n2_ n3_ n4_ ⊢
     have HO345 := n0_
     have BK338 := n1_
     have BK353 := n2_
     have HI342 := n3_
     have HB := n4_
     clear n0_ n1_ n2_ n3_ n4_
     have n0_ := q_ (Kd.R_drew HO345.out)
     have n1_ := q_ (blk_drew BK338.out)
     have n2_ := q_ (blk_drew BK353.out)
     have n3_ := q_ (IsS189.drew HI342.out)
     have n4_ := q_ (below_drew1 HB.out)
     clear HO345
     clear BK338
     clear BK353
     clear HI342
     clear HB
     have HO345 := n0_
     have BK338 := n1_
     have BK353 := n2_
     have HI342 := n3_
     have HB := n4_
     clear n0_ n1_ n2_ n3_ n4_
     refine start_ (n := 4) (S := fun w' => w'.cell? ⟨gb353, 0, none⟩ = some (.int .i64 t348) ∧ w'.cell? ⟨gb353, 1, none⟩ = some (.int .i64 ((rd_T147 t343 t357).f0)) ∧ w'.cell? ⟨gb353, 2, none⟩ = some (.int .i64 t350)) (ds := []) #[false, false, false, false] (by kernel_rfl) rfl rfl ⟨(blk_cell BK353.out 0).trans rfl, (blk_cell BK353.out 1).trans rfl, (blk_cell BK353.out 2).trans rfl⟩ (fun hHeld => ?_)
     generalize w23.drew = w24 at HO345 BK338 BK353 HI342 HB hHeld ⊢
     refine pure_ (i := 0) (N := some 29) (v := ?_) (a' := ?_) #[true, false, false, false] rfl rfl (by kernel_rfl) (fun _ _ _ h => h) (Or.inl ⟨by rfl, ?_⟩) ?_ ?_
     rotate_left
     ·intro w'
      go_simp
      with_reducible rfl
     rotate_left
     ·simp only [Act.put, List.setIfInBounds_toArray, List.set_cons_zero, List.set_cons_succ, i64_w, i32_w]
      rfl
     refine pure_ (i := 2) (N := some 2) (v := ?_) (a' := ?_) #[true, false, true, false] rfl rfl (by kernel_rfl) (fun _ _ _ h => h) (Or.inl ⟨by rfl, ?_⟩) ?_ ?_
     rotate_left
     ·intro w'
      go_simp
      with_reducible rfl
     rotate_left
     ·simp only [Act.put, List.setIfInBounds_toArray, List.set_cons_zero, List.set_cons_succ, i64_w, i32_w]
      rfl
     refine take_ (i := 1) (N := some 30) (v := ?_) (a' := ?_) #[true, true, true, false] rfl rfl (by kernel_rfl) (fun _ _ _ h => h) (Or.inl ⟨by rfl, ?_⟩) hHeld ?_ ?_
     rotate_left
     ·rintro w' ⟨s0, s1, s2⟩
      go_simp
      with_reducible rfl
     rotate_left
     ·simp only [Act.put, List.setIfInBounds_toArray, List.set_cons_zero, List.set_cons_succ, i64_w, i32_w]
      rfl
     refine one_ (i := 3) (N := none) #[true, true, true, true] rfl rfl (by kernel_rfl) (by decide) (fun K hK => ?_)
     have hs25 : w24.cell? ⟨gb338, 0, none⟩ = some (.int .i64 0) := (blk_cell BK338.out 0).trans rfl
     have hfs25 := blk_frozen BK338.out 0
     have hns25_1 := NB353_338.out
     have hms25_1 := NB338_353.out
     have hs26 : w24.cell? ⟨gb338, 1, none⟩ = some (.int .i64 0) := (blk_cell BK338.out 1).trans rfl
     have hfs26 := blk_frozen BK338.out 1
     have hns26_1 := NB353_338.out
     have hms26_1 := NB338_353.out
     have hs27 : w24.cell? ⟨gb338, 2, none⟩ = some (.int .i64 0) := (blk_cell BK338.out 2).trans rfl
     have hfs27 := blk_frozen BK338.out 2
     have hns27_1 := NB353_338.out
     have hms27_1 := NB338_353.out
     refine skip_ (w1 := ?_) (by rfl) rfl ?_ ?_
     rotate_left
     ·go_simp
      rfl
     refine hK.out _ _ ⟨((cell_far (p := ⟨gb338, _, none⟩) NB353_338.out _).trans (((cell_far (p := ⟨gb338, _, none⟩) NB353_338.out _).trans (((cell_far (p := ⟨gb338, _, none⟩) NB353_338.out _).trans (hHeld.1)))))), ((cell_far (p := ⟨gb338, _, none⟩) NB353_338.out _).trans (((cell_far (p := ⟨gb338, _, none⟩) NB353_338.out _).trans (((cell_far (p := ⟨gb338, _, none⟩) NB353_338.out _).trans (hHeld.2.1)))))), ((cell_far (p := ⟨gb338, _, none⟩) NB353_338.out _).trans (((cell_far (p := ⟨gb338, _, none⟩) NB353_338.out _).trans (((cell_far (p := ⟨gb338, _, none⟩) NB353_338.out _).trans (hHeld.2.2))))))⟩ (fun hHeld => ?_)
     clear hK K
     refine done_ (by kernel_rfl) ?_
     try go_wp2
     refine bodyPost_ret (results_tc rfl _ _ gb338 67 #[.int .i64 t348, .int .i64 ((rd_T147 t343 t357).f0), .int .i64 t350] (0, 0) _ rfl (by (with_reducible repeat (first | refine blk_drewN ?_ _ | refine blk_drew ?_ | refine blk_alloc ?_ _)); refine blk_put (cs := #[.int .i64 t348, .int .i64 ((rd_T147 t343 t357).f0), .int .i64 0]) ?_ 2 _ rfl; (with_reducible repeat (first | refine blk_drewN ?_ _ | refine blk_drew ?_ | refine blk_alloc ?_ _)); refine blk_put (cs := #[.int .i64 t348, .int .i64 0, .int .i64 0]) ?_ 1 _ rfl; (with_reducible repeat (first | refine blk_drewN ?_ _ | refine blk_drew ?_ | refine blk_alloc ?_ _)); refine blk_put (cs := #[.int .i64 0, .int .i64 0, .int .i64 0]) ?_ 0 _ rfl; (with_reducible repeat (first | refine blk_drewN ?_ _ | refine blk_drew ?_ | refine blk_alloc ?_ _)); exact BK338.out) Try.underlying67 rfl (by kernel_rfl)) rfl ?_
     exact ⟨_, z5_, by (with_reducible repeat (first | apply Kd.R_alloc | apply Kd.R_drewN | apply Kd.R_drew)); exact Kd.R_mono (Kd.R_far (p := ⟨gb338, 2, none⟩) (Kd.R_far (p := ⟨gb338, 1, none⟩) (Kd.R_far (p := ⟨gb338, 0, none⟩) (Kd.R_types HO345.out BK338.out (by decide)) (fun _ hk => hk.2) (.int .i64 t348)) (fun _ hk => hk.2) (.int .i64 ((rd_T147 t343 t357).f0))) (fun _ hk => hk.2) (.int .i64 t350)) (fun _ hk => trivial), z43_⟩
    ·rw [if_neg c10] at H
     exact absurd H (by simp)
   ·rw [if_neg c9] at H
    exact absurd H (by simp)
  ·replace c7 := Bool.eq_false_iff.mpr c7
   subst c7
   have H1 : (some (t343, t348, t349, t350)) = some (r1, r2, r3, r4) := by rw [if_neg (show ¬ (false = true) by decide)] at H; exact H
   clear H
   have H := H1
   clear H1
   simp only [Option.some.injEq, Prod.mk.injEq] at H
   obtain ⟨rfl, rfl, rfl, rfl⟩ := H
   go_enter Try.func55, Try.ntmps55
   try go_wp2_with (first | ((with_reducible refine gate_dst (N := 3) rfl ?_); refine box_event ?hg (N := 3) ?hd (cs := #[.int .i64 0, .int .i64 0, .int .i64 0]) (t := 67) ?hr ?_; (case hd => rfl); (case hg => rfl); (case hr => exact z110_); intro gb338 hg w28 hbox hb; have n0_ := q_ (below_step z0_ hb); have n1_ := q_ (hbox); have n2_ := q_ ((z87_ : w.heap.size ≤ gb338)); have n3_ := q_ ((z87_ : w.heap.size ≤ gb338)); clear HB; have HB := n0_; have BK338 := n1_; have GW338 := n2_; have GE338 := n3_; clear n0_ n1_ n2_ n3_; clear hb hbox hg) | ((with_reducible refine gate_callee (f := 123) rfl ?_); refine goesL_ (some 8) rfl rfl Try.func123 (by kernel_rfl) rfl #[.slice A0 l0.length c0] rfl z1_ ?_; (with_reducible refine (spec_l1New.calls k _ _ l0 t339 t340 t341 w _ ?side1 ?side2 ?side3 A2.out).mono ?_); (case side1 => exact z127_); (case side2 => exact HR0.out); (case side3 => exact HC0.out); rintro e w29 ⟨g342, rfl, hi, hb, hb2⟩; refine ⟨_, rfl, ?_⟩; have n0_ := q_ (blk_below (g := gb338) (o := .cells #[.int .i64 0, .int .i64 0, .int .i64 0] 67 (0, 0)) z13_ hb2); have n1_ := q_ (hb); have n2_ := q_ (hi); have n3_ := q_ (IsS189.ne_blk hi (blk_below (g := gb338) (o := .cells #[.int .i64 0, .int .i64 0, .int .i64 0] 67 (0, 0)) z13_ hb2) (by decide)); have n4_ := q_ (Ne.symm (IsS189.ne_blk hi (blk_below (g := gb338) (o := .cells #[.int .i64 0, .int .i64 0, .int .i64 0] 67 (0, 0)) z13_ hb2) (by decide))); clear BK338; clear HB; have BK338 := n0_; have HB := n1_; have HI342 := n2_; have NB342_338 := n3_; have NB338_342 := n4_; clear n0_ n1_ n2_ n3_ n4_; (try clear hb); (try clear hb2); (try clear hk); (try clear hi)) | ((with_reducible refine gate_callee (f := 133) rfl ?_); refine goesL_ (some 10) rfl rfl Try.func133 (by kernel_rfl) rfl #[.pointer (some ⟨g342, 0, none⟩)] rfl z1_ ?_; (with_reducible refine (spec_l1DrawBadMap.calls k g342 t339 t340 t341 t343 t346 t347 w _ ?side1 ?side2 A3.out).mono ?_); (case side1 => exact z113_); (case side2 => exact z114_); rintro e w30 ⟨v344, rfl, ho0, hi, hb, hk⟩; refine ⟨_, rfl, ?_⟩; have n0_ := q_ (KeepBut.blk hk (g' := gb338) (o := .cells #[.int .i64 0, .int .i64 0, .int .i64 0] 67 (0, 0)) z13_ NB338_342.out (by simp)); have n1_ := q_ (Kd.R_lower ho0 (below_size z19_)); have n2_ := q_ (hb); have n3_ := q_ (hi); clear BK338; clear HB; clear HI342; have BK338 := n0_; have HO345 := n1_; have HB := n2_; have HI342 := n3_; clear n0_ n1_ n2_ n3_; (try clear hb); (try clear hb2); (try clear hk); (try clear hi); (try clear ho0)) | ((with_reducible refine gate_callee (f := 134) rfl ?_); refine goesL_ (some 12) rfl rfl Try.func134 (by kernel_rfl) rfl #[.pointer (some ⟨g342, 0, none⟩)] rfl z1_ ?_; (with_reducible refine (spec_l1DrawBad.calls k g342 t339 t346 t347 t348 t349 t350 t351 t352 w _ ?side1 ?side2 A4.out).mono ?_); (case side1 => exact z113_); (case side2 => exact z114_); rintro e w31 ⟨rfl, hi, hb, hk⟩; refine ⟨_, rfl, ?_⟩; have n0_ := q_ (KeepBut.blk hk (g' := gb338) (o := .cells #[.int .i64 0, .int .i64 0, .int .i64 0] 67 (0, 0)) z13_ NB338_342.out (by simp)); have n1_ := q_ (Kd.R_mono (Kd.R_keep (IsS189.apart (show IsS189 w _ g342 t339 t346 t347 from z17_) z59_ (by decide)) hk (fun _ h => h.2)) (fun _ h => h.1)); have n2_ := q_ (hb); have n3_ := q_ (hi); clear BK338; clear HO345; clear HB; clear HI342; have BK338 := n0_; have HO345 := n1_; have HB := n2_; have HI342 := n3_; clear n0_ n1_ n2_ n3_; (try clear hb); (try clear hb2); (try clear hk); (try clear hi)) | ((with_reducible refine gate_dst (N := 6) rfl ?_); refine box_event ?hg (N := 6) ?hd (cs := #[.int .i64 0, .int .i64 0, .int .i64 0]) (t := 67) ?hr ?_; (case hd => rfl); (case hg => rfl); (case hr => exact z110_); intro gb353 hg w32 hbox hb; have n0_ := q_ (Kd.R_below z59_ hb); have n1_ := q_ (blk_below (g := gb338) (o := .cells #[.int .i64 0, .int .i64 0, .int .i64 0] 67 (0, 0)) z13_ hb); have n2_ := q_ (IsS189.below z17_ hb); have n3_ := q_ (below_step z19_ hb); have n4_ := q_ (hbox); have n5_ := q_ ((z102_ : w.heap.size ≤ gb353)); have n6_ := q_ ((z102_ : w.heap.size ≤ gb353)); have n7_ := q_ ((z96_ : gb338 ≠ gb353)); have n8_ := q_ ((z97_ : gb353 ≠ gb338)); have n9_ := q_ ((z100_ : g342 ≠ gb353)); have n10_ := q_ ((z101_ : gb353 ≠ g342)); clear HO345; clear BK338; clear HI342; clear HB; have HO345 := n0_; have BK338 := n1_; have HI342 := n2_; have HB := n3_; have BK353 := n4_; have GW353 := n5_; have GE353 := n6_; have NB338_353 := n7_; have NB353_338 := n8_; have NB342_353 := n9_; have NB353_342 := n10_; clear n0_ n1_ n2_ n3_ n4_ n5_ n6_ n7_ n8_ n9_ n10_; clear hb hbox hg; have hnb33 := NB353_338.out; have hnc33 := NB338_353.out; have hnb34 := NB353_342.out; have hnc34 := NB342_353.out; obtain ⟨hcz35_0, hcz35_1, hcz35_2, hfz35_0, hfz35_1, hfz35_2⟩ := cs3_ BK353.out; obtain ⟨Ao36, co36, eo36⟩ := Kd.R_slice HO345.out; subst eo36) | (go_at_call 135; (with_reducible refine (spec_l1Once.calls g342 t339 t351 t352 2 false t355 t356 w _ ?side1 ?side2 A6.out).mono ?_); (case side1 => exact z118_); (case side2 => exact z120_); rintro e w37 ⟨rfl, hi, hb, hk⟩; have n0_ := q_ (KeepBut.blk hk (g' := gb338) (o := .cells #[.int .i64 0, .int .i64 0, .int .i64 0] 67 (0, 0)) z28_ NB338_342.out (by simp)); have n1_ := q_ (Kd.R_mono (Kd.R_keep (IsS189.apart (show IsS189 w _ g342 t339 t351 t352 from z38_) (by (with_reducible repeat (first | apply Kd.R_alloc | apply Kd.R_drewN | apply Kd.R_drew)); exact (Kd.R_mono (Kd.R_far (p := ⟨gb353, 2, none⟩) (Kd.R_far (p := ⟨gb353, 1, none⟩) (Kd.R_far (p := ⟨gb353, 0, none⟩) (Kd.R_types HO345.out BK353.out (by decide)) (fun _ hk => hk.2) (.int .i64 t348)) (fun _ hk => hk.2) (.int .i64 t349)) (fun _ hk => hk.2) (.int .i64 t350)) (fun _ h_ => h_.1))) (by decide)) hk (fun _ h => h.2)) (fun _ h => h.1)); have n2_ := q_ (KeepBut.blk hk (g' := gb353) (o := .cells #[.int .i64 t348, .int .i64 t349, .int .i64 t350] 67 (0, 0)) z23_ NB353_342.out (by simp)); have n3_ := q_ (hb); have n4_ := q_ (hi); clear BK338; clear HO345; clear BK353; clear HB; clear HI342; have BK338 := n0_; have HO345 := n1_; have BK353 := n2_; have HB := n3_; have HI342 := n4_; clear n0_ n1_ n2_ n3_ n4_; (try clear hb); (try clear hb2); (try clear hk); (try clear hi)))
   have n0_ := q_ (Kd.R_drew HO345.out)
   have n1_ := q_ (blk_drew BK338.out)
   have n2_ := q_ (blk_drew BK353.out)
   have n3_ := q_ (IsS189.drew HI342.out)
   have n4_ := q_ (below_drew1 HB.out)
   clear HO345
   clear BK338
   clear BK353
   clear HI342
   clear HB
   have HO345 := n0_
   have BK338 := n1_
   have BK353 := n2_
   have HI342 := n3_
   have HB := n4_
   clear n0_ n1_ n2_ n3_ n4_
   refine start_ (n := 4) (S := fun w' => w'.cell? ⟨gb353, 0, none⟩ = some (.int .i64 t348) ∧ w'.cell? ⟨gb353, 1, none⟩ = some (.int .i64 t349) ∧ w'.cell? ⟨gb353, 2, none⟩ = some (.int .i64 t350)) (ds := []) #[false, false, false, false] (by kernel_rfl) rfl rfl ⟨(blk_cell BK353.out 0).trans rfl, (blk_cell BK353.out 1).trans rfl, (blk_cell BK353.out 2).trans rfl⟩ (fun hHeld => ?_)
   generalize w37.drew = w38 at HO345 BK338 BK353 HI342 HB hHeld ⊢
   refine pure_ (i := 0) (N := some 29) (v := ?_) (a' := ?_) #[true, false, false, false] rfl rfl (by kernel_rfl) (fun _ _ _ h => h) (Or.inl ⟨by rfl, ?_⟩) ?_ ?_
   rotate_left
   ·intro w'
    go_simp
    with_reducible rfl
   rotate_left
   ·simp only [Act.put, List.setIfInBounds_toArray, List.set_cons_zero, List.set_cons_succ, i64_w, i32_w]
    rfl
   refine pure_ (i := 2) (N := some 2) (v := ?_) (a' := ?_) #[true, false, true, false] rfl rfl (by kernel_rfl) (fun _ _ _ h => h) (Or.inl ⟨by rfl, ?_⟩) ?_ ?_
   rotate_left
   ·intro w'
    go_simp
    with_reducible rfl
   rotate_left
   ·simp only [Act.put, List.setIfInBounds_toArray, List.set_cons_zero, List.set_cons_succ, i64_w, i32_w]
    rfl
   refine take_ (i := 1) (N := some 30) (v := ?_) (a' := ?_) #[true, true, true, false] rfl rfl (by kernel_rfl) (fun _ _ _ h => h) (Or.inl ⟨by rfl, ?_⟩) hHeld ?_ ?_
   rotate_left
   ·rintro w' ⟨s0, s1, s2⟩
    go_simp
    with_reducible rfl
   rotate_left
   ·simp only [Act.put, List.setIfInBounds_toArray, List.set_cons_zero, List.set_cons_succ, i64_w, i32_w]
    rfl
   refine one_ (i := 3) (N := none) #[true, true, true, true] rfl rfl (by kernel_rfl) (by decide) (fun K hK => ?_)
   have hs39 : w38.cell? ⟨gb338, 0, none⟩ = some (.int .i64 0) := (blk_cell BK338.out 0).trans rfl
   have hfs39 := blk_frozen BK338.out 0
   have hns39_1 := NB353_338.out
   have hms39_1 := NB338_353.out
   have hs40 : w38.cell? ⟨gb338, 1, none⟩ = some (.int .i64 0) := (blk_cell BK338.out 1).trans rfl
   have hfs40 := blk_frozen BK338.out 1
   have hns40_1 := NB353_338.out
   have hms40_1 := NB338_353.out
   have hs41 : w38.cell? ⟨gb338, 2, none⟩ = some (.int .i64 0) := (blk_cell BK338.out 2).trans rfl
   have hfs41 := blk_frozen BK338.out 2
   have hns41_1 := NB353_338.out
   have hms41_1 := NB338_353.out
   refine skip_ (w1 := ?_) (by rfl) rfl ?_ ?_
   rotate_left
   ·go_simp
    rfl
   refine hK.out _ _ ⟨((cell_far (p := ⟨gb338, _, none⟩) NB353_338.out _).trans (((cell_far (p := ⟨gb338, _, none⟩) NB353_338.out _).trans (((cell_far (p := ⟨gb338, _, none⟩) NB353_338.out _).trans (hHeld.1)))))), ((cell_far (p := ⟨gb338, _, none⟩) NB353_338.out _).trans (((cell_far (p := ⟨gb338, _, none⟩) NB353_338.out _).trans (((cell_far (p := ⟨gb338, _, none⟩) NB353_338.out _).trans (hHeld.2.1)))))), ((cell_far (p := ⟨gb338, _, none⟩) NB353_338.out _).trans (((cell_far (p := ⟨gb338, _, none⟩) NB353_338.out _).trans (((cell_far (p := ⟨gb338, _, none⟩) NB353_338.out _).trans (hHeld.2.2))))))⟩ (fun hHeld => ?_)
   clear hK K
   refine done_ (by kernel_rfl) ?_
   try go_wp2
   refine bodyPost_ret (results_tc rfl _ _ gb338 67 #[.int .i64 t348, .int .i64 t349, .int .i64 t350] (0, 0) _ rfl z37_ Try.underlying67 rfl (by kernel_rfl)) rfl ?_
   exact ⟨_, z5_, by (with_reducible repeat (first | apply Kd.R_alloc | apply Kd.R_drewN | apply Kd.R_drew)); exact Kd.R_mono (Kd.R_far (p := ⟨gb338, 2, none⟩) (Kd.R_far (p := ⟨gb338, 1, none⟩) (Kd.R_far (p := ⟨gb338, 0, none⟩) (Kd.R_types HO345.out BK338.out (by decide)) (fun _ hk => hk.2) (.int .i64 t348)) (fun _ hk => hk.2) (.int .i64 t349)) (fun _ hk => hk.2) (.int .i64 t350)) (fun _ hk => trivial), z43_⟩
 ·rw [if_neg c5] at H
  have c5b0 : decide (0 < (t343.length : Int)) = false := decide_eq_false c5
  have c5b1 : decide (0 < t343.length) = false := decide_eq_false (by omega)
  clear c5
  simp only [Option.some.injEq, Prod.mk.injEq] at H
  obtain ⟨rfl, rfl, rfl, rfl⟩ := H
  go_enter Try.func55, Try.ntmps55
  try go_wp2_with (first | ((with_reducible refine gate_dst (N := 3) rfl ?_); refine box_event ?hg (N := 3) ?hd (cs := #[.int .i64 0, .int .i64 0, .int .i64 0]) (t := 67) ?hr ?_; (case hd => rfl); (case hg => rfl); (case hr => exact z110_); intro gb338 hg w42 hbox hb; have n0_ := q_ (below_step z0_ hb); have n1_ := q_ (hbox); have n2_ := q_ ((z87_ : w.heap.size ≤ gb338)); have n3_ := q_ ((z87_ : w.heap.size ≤ gb338)); clear HB; have HB := n0_; have BK338 := n1_; have GW338 := n2_; have GE338 := n3_; clear n0_ n1_ n2_ n3_; clear hb hbox hg) | ((with_reducible refine gate_callee (f := 123) rfl ?_); refine goesL_ (some 8) rfl rfl Try.func123 (by kernel_rfl) rfl #[.slice A0 l0.length c0] rfl z1_ ?_; (with_reducible refine (spec_l1New.calls k _ _ l0 t339 t340 t341 w _ ?side1 ?side2 ?side3 A2.out).mono ?_); (case side1 => exact z127_); (case side2 => exact HR0.out); (case side3 => exact HC0.out); rintro e w43 ⟨g342, rfl, hi, hb, hb2⟩; refine ⟨_, rfl, ?_⟩; have n0_ := q_ (blk_below (g := gb338) (o := .cells #[.int .i64 0, .int .i64 0, .int .i64 0] 67 (0, 0)) z13_ hb2); have n1_ := q_ (hb); have n2_ := q_ (hi); have n3_ := q_ (IsS189.ne_blk hi (blk_below (g := gb338) (o := .cells #[.int .i64 0, .int .i64 0, .int .i64 0] 67 (0, 0)) z13_ hb2) (by decide)); have n4_ := q_ (Ne.symm (IsS189.ne_blk hi (blk_below (g := gb338) (o := .cells #[.int .i64 0, .int .i64 0, .int .i64 0] 67 (0, 0)) z13_ hb2) (by decide))); clear BK338; clear HB; have BK338 := n0_; have HB := n1_; have HI342 := n2_; have NB342_338 := n3_; have NB338_342 := n4_; clear n0_ n1_ n2_ n3_ n4_; (try clear hb); (try clear hb2); (try clear hk); (try clear hi)) | ((with_reducible refine gate_callee (f := 133) rfl ?_); refine goesL_ (some 10) rfl rfl Try.func133 (by kernel_rfl) rfl #[.pointer (some ⟨g342, 0, none⟩)] rfl z1_ ?_; (with_reducible refine (spec_l1DrawBadMap.calls k g342 t339 t340 t341 t343 t346 t347 w _ ?side1 ?side2 A3.out).mono ?_); (case side1 => exact z113_); (case side2 => exact z114_); rintro e w44 ⟨v344, rfl, ho0, hi, hb, hk⟩; refine ⟨_, rfl, ?_⟩; have n0_ := q_ (KeepBut.blk hk (g' := gb338) (o := .cells #[.int .i64 0, .int .i64 0, .int .i64 0] 67 (0, 0)) z13_ NB338_342.out (by simp)); have n1_ := q_ (Kd.R_lower ho0 (below_size z19_)); have n2_ := q_ (hb); have n3_ := q_ (hi); clear BK338; clear HB; clear HI342; have BK338 := n0_; have HO345 := n1_; have HB := n2_; have HI342 := n3_; clear n0_ n1_ n2_ n3_; (try clear hb); (try clear hb2); (try clear hk); (try clear hi); (try clear ho0)) | ((with_reducible refine gate_callee (f := 134) rfl ?_); refine goesL_ (some 12) rfl rfl Try.func134 (by kernel_rfl) rfl #[.pointer (some ⟨g342, 0, none⟩)] rfl z1_ ?_; (with_reducible refine (spec_l1DrawBad.calls k g342 t339 t346 t347 t348 t349 t350 t351 t352 w _ ?side1 ?side2 A4.out).mono ?_); (case side1 => exact z113_); (case side2 => exact z114_); rintro e w45 ⟨rfl, hi, hb, hk⟩; refine ⟨_, rfl, ?_⟩; have n0_ := q_ (KeepBut.blk hk (g' := gb338) (o := .cells #[.int .i64 0, .int .i64 0, .int .i64 0] 67 (0, 0)) z13_ NB338_342.out (by simp)); have n1_ := q_ (Kd.R_mono (Kd.R_keep (IsS189.apart (show IsS189 w _ g342 t339 t346 t347 from z17_) z59_ (by decide)) hk (fun _ h => h.2)) (fun _ h => h.1)); have n2_ := q_ (hb); have n3_ := q_ (hi); clear BK338; clear HO345; clear HB; clear HI342; have BK338 := n0_; have HO345 := n1_; have HB := n2_; have HI342 := n3_; clear n0_ n1_ n2_ n3_; (try clear hb); (try clear hb2); (try clear hk); (try clear hi)) | ((with_reducible refine gate_dst (N := 6) rfl ?_); refine box_event ?hg (N := 6) ?hd (cs := #[.int .i64 0, .int .i64 0, .int .i64 0]) (t := 67) ?hr ?_; (case hd => rfl); (case hg => rfl); (case hr => exact z110_); intro gb353 hg w46 hbox hb; have n0_ := q_ (Kd.R_below z59_ hb); have n1_ := q_ (blk_below (g := gb338) (o := .cells #[.int .i64 0, .int .i64 0, .int .i64 0] 67 (0, 0)) z13_ hb); have n2_ := q_ (IsS189.below z17_ hb); have n3_ := q_ (below_step z19_ hb); have n4_ := q_ (hbox); have n5_ := q_ ((z102_ : w.heap.size ≤ gb353)); have n6_ := q_ ((z102_ : w.heap.size ≤ gb353)); have n7_ := q_ ((z96_ : gb338 ≠ gb353)); have n8_ := q_ ((z97_ : gb353 ≠ gb338)); have n9_ := q_ ((z100_ : g342 ≠ gb353)); have n10_ := q_ ((z101_ : gb353 ≠ g342)); clear HO345; clear BK338; clear HI342; clear HB; have HO345 := n0_; have BK338 := n1_; have HI342 := n2_; have HB := n3_; have BK353 := n4_; have GW353 := n5_; have GE353 := n6_; have NB338_353 := n7_; have NB353_338 := n8_; have NB342_353 := n9_; have NB353_342 := n10_; clear n0_ n1_ n2_ n3_ n4_ n5_ n6_ n7_ n8_ n9_ n10_; clear hb hbox hg; have hnb47 := NB353_338.out; have hnc47 := NB338_353.out; have hnb48 := NB353_342.out; have hnc48 := NB342_353.out; obtain ⟨hcz49_0, hcz49_1, hcz49_2, hfz49_0, hfz49_1, hfz49_2⟩ := cs3_ BK353.out; obtain ⟨Ao50, co50, eo50⟩ := Kd.R_slice HO345.out; subst eo50))
  have n0_ : Aside0 (Kd.R k147 147 (((w46.setCell ⟨gb353, 0, none⟩ (.int .i64 t348)).setCell ⟨gb353, 1, none⟩ (.int .i64 t349)).setCell ⟨gb353, 2, none⟩ (.int .i64 t350)) w.heap.size (fun _ => True) (.slice Ao50 t343.length co50) t343) := ⟨by (with_reducible repeat (first | apply Kd.R_alloc | apply Kd.R_drewN | apply Kd.R_drew)); exact Kd.R_mono (Kd.R_far (p := ⟨gb353, 2, none⟩) (Kd.R_far (p := ⟨gb353, 1, none⟩) (Kd.R_far (p := ⟨gb353, 0, none⟩) (Kd.R_types HO345.out BK353.out (by decide)) (fun _ hk => hk.2) (.int .i64 t348)) (fun _ hk => hk.2) (.int .i64 t349)) (fun _ hk => hk.2) (.int .i64 t350)) (fun _ hk => trivial)⟩
  have n1_ : Aside0 ((((w46.setCell ⟨gb353, 0, none⟩ (.int .i64 t348)).setCell ⟨gb353, 1, none⟩ (.int .i64 t349)).setCell ⟨gb353, 2, none⟩ (.int .i64 t350)).heap[gb338]? = some (.cells #[.int .i64 0, .int .i64 0, .int .i64 0] 67 (0, 0))) := ⟨z28_⟩
  have n2_ : Aside0 ((((w46.setCell ⟨gb353, 0, none⟩ (.int .i64 t348)).setCell ⟨gb353, 1, none⟩ (.int .i64 t349)).setCell ⟨gb353, 2, none⟩ (.int .i64 t350)).heap[gb353]? = some (.cells #[.int .i64 t348, .int .i64 t349, .int .i64 t350] 67 (0, 0))) := ⟨z23_⟩
  have n3_ : Aside0 (IsS189 w (((w46.setCell ⟨gb353, 0, none⟩ (.int .i64 t348)).setCell ⟨gb353, 1, none⟩ (.int .i64 t349)).setCell ⟨gb353, 2, none⟩ (.int .i64 t350)) g342 t339 t351 t352) := ⟨z38_⟩
  have n4_ : Aside0 (Below w.heap.size w (((w46.setCell ⟨gb353, 0, none⟩ (.int .i64 t348)).setCell ⟨gb353, 1, none⟩ (.int .i64 t349)).setCell ⟨gb353, 2, none⟩ (.int .i64 t350))) := ⟨z43_⟩
  (try clear HO345)
  (try clear BK338)
  (try clear BK353)
  (try clear HI342)
  (try clear HB)
  generalize (((w46.setCell ⟨gb353, 0, none⟩ (.int .i64 t348)).setCell ⟨gb353, 1, none⟩ (.int .i64 t349)).setCell ⟨gb353, 2, none⟩ (.int .i64 t350)) = w51 at n0_ n1_ n2_ n3_ n4_ ⊢
  have HO345 := n0_
  have BK338 := n1_
  have BK353 := n2_
  have HI342 := n3_
  have HB := n4_
  clear n0_ n1_ n2_ n3_ n4_
  have n0_ := q_ (Kd.R_drew HO345.out)
  have n1_ := q_ (blk_drew BK338.out)
  have n2_ := q_ (blk_drew BK353.out)
  have n3_ := q_ (IsS189.drew HI342.out)
  have n4_ := q_ (below_drew1 HB.out)
  clear HO345
  clear BK338
  clear BK353
  clear HI342
  clear HB
  have HO345 := n0_
  have BK338 := n1_
  have BK353 := n2_
  have HI342 := n3_
  have HB := n4_
  clear n0_ n1_ n2_ n3_ n4_
  refine start_ (n := 4) (S := fun w' => w'.cell? ⟨gb353, 0, none⟩ = some (.int .i64 t348) ∧ w'.cell? ⟨gb353, 1, none⟩ = some (.int .i64 t349) ∧ w'.cell? ⟨gb353, 2, none⟩ = some (.int .i64 t350)) (ds := []) #[false, false, false, false] (by kernel_rfl) rfl rfl ⟨(blk_cell BK353.out 0).trans rfl, (blk_cell BK353.out 1).trans rfl, (blk_cell BK353.out 2).trans rfl⟩ (fun hHeld => ?_)
  generalize w51.drew = w52 at HO345 BK338 BK353 HI342 HB hHeld ⊢
  refine pure_ (i := 0) (N := some 29) (v := ?_) (a' := ?_) #[true, false, false, false] rfl rfl (by kernel_rfl) (fun _ _ _ h => h) (Or.inl ⟨by rfl, ?_⟩) ?_ ?_
  rotate_left
  ·intro w'
   go_simp
   with_reducible rfl
  rotate_left
  ·simp only [Act.put, List.setIfInBounds_toArray, List.set_cons_zero, List.set_cons_succ, i64_w, i32_w]
   rfl
  refine pure_ (i := 2) (N := some 2) (v := ?_) (a' := ?_) #[true, false, true, false] rfl rfl (by kernel_rfl) (fun _ _ _ h => h) (Or.inl ⟨by rfl, ?_⟩) ?_ ?_
  rotate_left
  ·intro w'
   go_simp
   with_reducible rfl
  rotate_left
  ·simp only [Act.put, List.setIfInBounds_toArray, List.set_cons_zero, List.set_cons_succ, i64_w, i32_w]
   rfl
  refine take_ (i := 1) (N := some 30) (v := ?_) (a' := ?_) #[true, true, true, false] rfl rfl (by kernel_rfl) (fun _ _ _ h => h) (Or.inl ⟨by rfl, ?_⟩) hHeld ?_ ?_
  rotate_left
  ·rintro w' ⟨s0, s1, s2⟩
   go_simp
   with_reducible rfl
  rotate_left
  ·simp only [Act.put, List.setIfInBounds_toArray, List.set_cons_zero, List.set_cons_succ, i64_w, i32_w]
   rfl
  refine one_ (i := 3) (N := none) #[true, true, true, true] rfl rfl (by kernel_rfl) (by decide) (fun K hK => ?_)
  have hs53 : w52.cell? ⟨gb338, 0, none⟩ = some (.int .i64 0) := (blk_cell BK338.out 0).trans rfl
  have hfs53 := blk_frozen BK338.out 0
  have hns53_1 := NB353_338.out
  have hms53_1 := NB338_353.out
  have hs54 : w52.cell? ⟨gb338, 1, none⟩ = some (.int .i64 0) := (blk_cell BK338.out 1).trans rfl
  have hfs54 := blk_frozen BK338.out 1
  have hns54_1 := NB353_338.out
  have hms54_1 := NB338_353.out
  have hs55 : w52.cell? ⟨gb338, 2, none⟩ = some (.int .i64 0) := (blk_cell BK338.out 2).trans rfl
  have hfs55 := blk_frozen BK338.out 2
  have hns55_1 := NB353_338.out
  have hms55_1 := NB338_353.out
  refine skip_ (w1 := ?_) (by rfl) rfl ?_ ?_
  rotate_left
  ·go_simp
   rfl
  refine hK.out _ _ ⟨((cell_far (p := ⟨gb338, _, none⟩) NB353_338.out _).trans (((cell_far (p := ⟨gb338, _, none⟩) NB353_338.out _).trans (((cell_far (p := ⟨gb338, _, none⟩) NB353_338.out _).trans (hHeld.1)))))), ((cell_far (p := ⟨gb338, _, none⟩) NB353_338.out _).trans (((cell_far (p := ⟨gb338, _, none⟩) NB353_338.out _).trans (((cell_far (p := ⟨gb338, _, none⟩) NB353_338.out _).trans (hHeld.2.1)))))), ((cell_far (p := ⟨gb338, _, none⟩) NB353_338.out _).trans (((cell_far (p := ⟨gb338, _, none⟩) NB353_338.out _).trans (((cell_far (p := ⟨gb338, _, none⟩) NB353_338.out _).trans (hHeld.2.2))))))⟩ (fun hHeld => ?_)
  clear hK K
  refine done_ (by kernel_rfl) ?_
  try go_wp2
  refine bodyPost_ret (results_tc rfl _ _ gb338 67 #[.int .i64 t348, .int .i64 t349, .int .i64 t350] (0, 0) _ rfl z37_ Try.underlying67 rfl (by kernel_rfl)) rfl ?_
  exact ⟨_, z5_, by (with_reducible repeat (first | apply Kd.R_alloc | apply Kd.R_drewN | apply Kd.R_drew)); exact Kd.R_mono (Kd.R_far (p := ⟨gb338, 2, none⟩) (Kd.R_far (p := ⟨gb338, 1, none⟩) (Kd.R_far (p := ⟨gb338, 0, none⟩) (Kd.R_types HO345.out BK338.out (by decide)) (fun _ hk => hk.2) (.int .i64 t348)) (fun _ hk => hk.2) (.int .i64 t349)) (fun _ hk => hk.2) (.int .i64 t350)) (fun _ hk => trivial), z43_⟩

/-! ### laws_samePairs: function 56 -/
def laws_samePairs.l0 : Nat → List (S147) → List (S147) → Int → Option (Bool)
 | 0, _, _, _ => none
 | k + 1, x0, x1, x5 => if x5 < (x0.length : Int) then (if 0 ≤ x5 then (if x5 < (x1.length : Int) then (if (!(((rd_T147 x0 x5).f0) == ((rd_T147 x1 x5).f0)) || (!(((rd_T147 x0 x5).f1) == ((rd_T147 x1 x5).f1)))) = true then (some false) else (laws_samePairs.l0 k x0 x1 (wrap64 (x5 + 1)))) else (none)) else (none)) else (some true)
def laws_samePairs.f (k : Nat) (l0 : List (S147)) (l1 : List (S147)) : Option (Bool) := if (l0.length : Int) = (l1.length : Int) then (laws_samePairs.l0 k l0 l1 0) else (some false)
theorem laws_samePairs.mono_l : ∀ k, (∀ y0 y1 y2, LeO (laws_samePairs.l0 k y0 y1 y2) (laws_samePairs.l0 (k + 1) y0 y1 y2))
 | 0 => fun _ _ _ r h => by simp [laws_samePairs.l0] at h
 | k + 1 => by
  have ih0 := laws_samePairs.mono_l k
  ·intro y0 y1 y2
   unfold laws_samePairs.l0
   repeat' first
   | (with_reducible exact ih0 _ _ _)
   | (with_reducible exact LeO.refl _)
   | (with_reducible exact LeO.none _)
   | (with_reducible refine LeO.ite ?_ ?_)
   | (with_reducible refine LeO.bind ?_ (fun _ => ?_))
   | exact ih0 _ _ _
   | exact LeO.none _
   | refine LeO.ite ?_ ?_
   | refine LeO.bind ?_ (fun _ => ?_)
theorem laws_samePairs.mono : ∀ a0 a1 k, LeO (laws_samePairs.f k a0 a1) (laws_samePairs.f (k + 1) a0 a1) := by
 intro a0 a1 k
 have ih0 := laws_samePairs.mono_l k
 unfold laws_samePairs.f
 repeat' first
   | (with_reducible exact ih0 _ _ _)
   | (with_reducible exact LeO.refl _)
   | (with_reducible exact LeO.none _)
   | (with_reducible refine LeO.ite ?_ ?_)
   | (with_reducible refine LeO.bind ?_ (fun _ => ?_))
   | exact ih0 _ _ _
   | exact LeO.none _
   | refine LeO.ite ?_ ?_
   | refine LeO.bind ?_ (fun _ => ?_)
set_option maxHeartbeats 8000000 in
set_option maxRecDepth 100000 in
theorem laws_samePairs.calls (k : Nat) (A0 : Option Addr) (c0 : Nat) (l0 : List (S147)) (A1 : Option Addr) (c1 : Nat) (l1 : List (S147)) (r : Bool) (w : World) (hr0 : Kd.C k147 w A0 l0.length l0) (hc0 : l0.length ≤ c0) (hr1 : Kd.C k147 w A1 l1.length l1) (hc1 : l1.length ≤ c1) (h : laws_samePairs.f k l0 l1 = some r) :
  Calls Try.prog 56 #[.slice A0 l0.length c0, .slice A1 l1.length c1] w fun e w' => e = .returned (.bool r) ∧ Drawn0 w w' := by
 have hu147 := Try.underlying147
 have HR0 := q_ hr0
 have HC0 := q_ hc0
 clear hr0 hc0
 have HR1 := q_ hr1
 have HC1 := q_ hc1
 clear hr1 hc1
 have H : (if (l0.length : Int) = (l1.length : Int) then (laws_samePairs.l0 k l0 l1 0) else (some false)) = some r := h
 clear h
 by_cases c3 : (l0.length : Int) = (l1.length : Int)
 ·rw [if_pos c3] at H
  have c3b0 : ((l0.length : Int) == (l1.length : Int)) = true := beq_iff_eq.mpr c3
  have c3b1 : ((l0.length : Int) != (l1.length : Int)) = false := bne_eq_false_iff_eq.mpr c3
  have c3b2 : (l0.length == l1.length) = true := by first | simpa using c3 | (simp at c3 ⊢; omega)
  clear c3
  have H' := q_ H
  clear H
  go_enter Try.func56, Try.ntmps56
  go_wp2
  repeat (go_quiet (fail); try go_wp2)
  go_loopg [5] k (fun kq v5 w' => ∃ (x5_1 : Int), v5 = .int .i64 x5_1 ∧ Aside0 (laws_samePairs.l0 kq l0 l1 x5_1 = some r) ∧ Aside0 (kq ≤ k) ∧ Drawn0 w w')
  case atStart => exact ⟨(0), z11_, H', ⟨Nat.le_refl _⟩, z39_⟩
  case round =>
   clear H'
   try clear c1
   try clear p2
   try clear c3
   try clear c3b0
   try clear c3b1
   try clear c3b2
   obtain ⟨x5_1, rfl, HA, HK1, ⟨m1, rfl⟩⟩ := hrel
   cases gk with
   | zero => exact absurd HA.out (by simp [laws_samePairs.l0])
   | succ k1 =>
    have H := HA.out
    clear HA
    simp only [laws_samePairs.l0] at H
    by_cases c4 : x5_1 < (l0.length : Int)
    ·rw [if_pos c4] at H
     have c4b0 : decide (x5_1 < (l0.length : Int)) = true := decide_eq_true c4
     clear c4
     by_cases c5 : 0 ≤ x5_1
     ·rw [if_pos c5] at H
      have c5b0 : decide (0 ≤ x5_1) = true := decide_eq_true c5
      clear c5
      by_cases c6 : x5_1 < (l1.length : Int)
      ·rw [if_pos c6] at H
       have c6b0 : decide (x5_1 < (l1.length : Int)) = true := decide_eq_true c6
       clear c6
       by_cases c7 : (!(((rd_T147 l0 x5_1).f0) == ((rd_T147 l1 x5_1).f0)) || (!(((rd_T147 l0 x5_1).f1) == ((rd_T147 l1 x5_1).f1)))) = true
       ·rw [if_pos c7] at H
        have c7b0 : (!(((rd_T147 l0 x5_1).f0) == ((rd_T147 l1 x5_1).f0)) || (!(((rd_T147 l0 x5_1).f1) == ((rd_T147 l1 x5_1).f1)))) = true := c7
        clear c7
        obtain rfl := Option.some.inj H
        have p361 : 0 ≤ (x5_1 : Int) := of_decide_eq_true z6_
        have q361 : x5_1 < (l0.length : Int) := of_decide_eq_true z6_
        obtain ⟨ad361, e361, hx361_0, hx361_1⟩ := at_T147 HR0.out x5_1 p361 q361
        cases e361
        replace p361 := eq_true p361
        replace q361 := eq_true q361
        have p362 : 0 ≤ (x5_1 : Int) := of_decide_eq_true z6_
        have q362 : x5_1 < (l1.length : Int) := of_decide_eq_true z6_
        obtain ⟨ad362, e362, hx362_0, hx362_1⟩ := at_T147 HR1.out x5_1 p362 q362
        cases e362
        replace p362 := eq_true p362
        replace q362 := eq_true q362
        go_wp2
        repeat (go_quiet (fail); try go_wp2)
        go_ret
        exact ⟨z11_, z39_⟩
       ·rw [if_neg c7] at H
        have c7b0 : (!(((rd_T147 l0 x5_1).f0) == ((rd_T147 l1 x5_1).f0)) || (!(((rd_T147 l0 x5_1).f1) == ((rd_T147 l1 x5_1).f1)))) = false := by simpa using c7
        clear c7
        have H' := q_ H
        clear H
        have p361 : 0 ≤ (x5_1 : Int) := of_decide_eq_true z6_
        have q361 : x5_1 < (l0.length : Int) := of_decide_eq_true z6_
        obtain ⟨ad361, e361, hx361_0, hx361_1⟩ := at_T147 HR0.out x5_1 p361 q361
        cases e361
        replace p361 := eq_true p361
        replace q361 := eq_true q361
        have p362 : 0 ≤ (x5_1 : Int) := of_decide_eq_true z6_
        have q362 : x5_1 < (l1.length : Int) := of_decide_eq_true z6_
        obtain ⟨ad362, e362, hx362_0, hx362_1⟩ := at_T147 HR1.out x5_1 p362 q362
        cases e362
        replace p362 := eq_true p362
        replace q362 := eq_true q362
        go_wp2
        repeat (go_quiet (fail); try go_wp2)
        go_roundg k1
        case measure => have := HK1.out; omega
        case rel => exact ⟨(wrap64 (x5_1 + 1)), z11_, H', ⟨z71_⟩, z39_⟩
      ·rw [if_neg c6] at H
       exact absurd H (by simp)
     ·rw [if_neg c5] at H
      exact absurd H (by simp)
    ·rw [if_neg c4] at H
     have c4b0 : decide (x5_1 < (l0.length : Int)) = false := decide_eq_false c4
     clear c4
     obtain rfl := Option.some.inj H
     go_wp2
     repeat (go_quiet (fail); try go_wp2)
     go_ret
     exact ⟨z11_, z39_⟩
 ·rw [if_neg c3] at H
  have c3b0 : ((l0.length : Int) == (l1.length : Int)) = false := beq_eq_false_iff_ne.mpr c3
  have c3b1 : ((l0.length : Int) != (l1.length : Int)) = true := bne_iff_ne.mpr c3
  have c3b2 : (l0.length == l1.length) = false := by first | simpa using c3 | (simp at c3 ⊢; omega)
  obtain rfl := Option.some.inj H
  go_enter Try.func56, Try.ntmps56
  go_wp2
  repeat (go_quiet (fail); try go_wp2)
  go_ret
  exact ⟨z11_, z39_⟩

/-! ### impl_pairAt_f1: function 178 -/
def impl_pairAt_f1.f (a0_0 : Int) (a0_1 : Int) (a28_0 : Int) : Option (Bool) := some (a0_0 == a28_0)
set_option maxHeartbeats 8000000 in
set_option maxRecDepth 100000 in
theorem impl_pairAt_f1.calls (a0_0 : Int) (a0_1 : Int) (gc28 : Nat) (a28_0 : Int) (r : Bool) (w : World) (hb28 : w.heap[gc28]? = some (.cells #[.int .i64 a28_0] 3 (0, 0))) (h : impl_pairAt_f1.f a0_0 a0_1 a28_0 = some r) :
  Calls Try.prog 178 #[.agg #[.int .i64 a0_0, .int .i64 a0_1], .pointer (some ⟨gc28, 0, none⟩)] w fun e w' => e = .returned (.bool r) ∧ Below w.heap.size w w' := by
 have hu147 := Try.underlying147
 have BK28 := q_ hb28
 clear hb28
 have HB := q_ (Below.refl w.heap.size w)
 have H : (some (a0_0 == a28_0)) = some r := h
 clear h
 obtain rfl := Option.some.inj H
 go_enter Try.func178, Try.ntmps178
 go_wp2_with (first | ((with_reducible refine gate_dst (N := 2) rfl ?_); refine box_event ?hg (N := 2) ?hd (cs := #[.int .i64 a0_0, .int .i64 a0_1]) (t := 147) ?hr ?_; (case hd => rfl); (case hg => rfl); (case hr => exact z110_); intro gb363 hg w3 hbox hb; have n0_ := q_ (blk_below (g := gc28) (o := .cells #[.int .i64 a28_0] 3 (0, 0)) z56_ hb); have n1_ := q_ (below_step z30_ hb); have n2_ := q_ (hbox); have n3_ := q_ ((by rw [hg]; exact (below_size z30_) : w.heap.size ≤ gb363)); have n4_ := q_ ((by rw [hg]; exact (below_size z30_) : w.heap.size ≤ gb363)); have n5_ := q_ ((by rw [hg]; exact Nat.ne_of_lt (blk_lt (g := gc28) (o := .cells #[.int .i64 a28_0] 3 (0, 0)) z56_) : gc28 ≠ gb363)); have n6_ := q_ ((by rw [hg]; exact Nat.ne_of_gt (blk_lt (g := gc28) (o := .cells #[.int .i64 a28_0] 3 (0, 0)) z56_) : gb363 ≠ gc28)); clear BK28; clear HB; have BK28 := n0_; have HB := n1_; have BK363 := n2_; have GW363 := n3_; have GE363 := n4_; have NB28_363 := n5_; have NB363_28 := n6_; clear n0_ n1_ n2_ n3_ n4_ n5_ n6_; clear hb hbox hg; have hnb4 := NB363_28.out; have hnc4 := NB28_363.out; obtain ⟨hcz5_0, hcz5_1, hfz5_0, hfz5_1⟩ := cs2_ BK363.out; have hcz6_0 : w3.cell? ⟨gc28, 0, none⟩ = some (.int .i64 a28_0) := (blk_cell BK28.out 0).trans rfl; have hfz6_0 := blk_frozen BK28.out 0))
 go_ret
 exact ⟨z5_, by repeat (first | (with_reducible first | exact HB.out | apply below_alloc | apply pw_below_drewN | apply below_drew1 | refine below_set ?_ GE28.out | refine below_set ?_ GE363.out) | exact HB.out)⟩

/-! ### slices_IndexFunc_Pair_178: function 177 -/
def slices_IndexFunc_Pair_178.l0 : Nat → List (S147) → Int → Int → Int → Option (Int)
 | 0, _, _, _, _ => none
 | k + 1, x0, x7, x8, x29000 => if x8 < x7 then (if 0 ≤ x8 then (if x8 < (x0.length : Int) then ((impl_pairAt_f1.f ((rd_T147 x0 x8).f0) ((rd_T147 x0 x8).f1) x29000).bind fun t365 => (if t365 = true then (some x8) else (slices_IndexFunc_Pair_178.l0 k x0 x7 (wrap64 (x8 + 1)) x29000))) else (none)) else (none)) else (some (-1))
def slices_IndexFunc_Pair_178.f (k : Nat) (l0 : List (S147)) (a28_0 : Int) : Option (Int) := slices_IndexFunc_Pair_178.l0 k l0 (l0.length : Int) 0 a28_0
theorem slices_IndexFunc_Pair_178.mono_l : ∀ k, (∀ y0 y1 y2 y3, LeO (slices_IndexFunc_Pair_178.l0 k y0 y1 y2 y3) (slices_IndexFunc_Pair_178.l0 (k + 1) y0 y1 y2 y3))
 | 0 => fun _ _ _ _ r h => by simp [slices_IndexFunc_Pair_178.l0] at h
 | k + 1 => by
  have ih0 := slices_IndexFunc_Pair_178.mono_l k
  ·intro y0 y1 y2 y3
   unfold slices_IndexFunc_Pair_178.l0
   repeat' first
   | (with_reducible exact ih0 _ _ _ _)
   | (with_reducible exact LeO.refl _)
   | (with_reducible exact LeO.none _)
   | (with_reducible refine LeO.ite ?_ ?_)
   | (with_reducible refine LeO.bind ?_ (fun _ => ?_))
   | exact ih0 _ _ _ _
   | exact LeO.none _
   | refine LeO.ite ?_ ?_
   | refine LeO.bind ?_ (fun _ => ?_)
theorem slices_IndexFunc_Pair_178.mono : ∀ a0 a1 k, LeO (slices_IndexFunc_Pair_178.f k a0 a1) (slices_IndexFunc_Pair_178.f (k + 1) a0 a1) := by
 intro a0 a1 k
 have ih0 := slices_IndexFunc_Pair_178.mono_l k
 unfold slices_IndexFunc_Pair_178.f
 repeat' first
   | (with_reducible exact ih0 _ _ _ _)
   | (with_reducible exact LeO.refl _)
   | (with_reducible exact LeO.none _)
   | (with_reducible refine LeO.ite ?_ ?_)
   | (with_reducible refine LeO.bind ?_ (fun _ => ?_))
   | exact ih0 _ _ _ _
   | exact LeO.none _
   | refine LeO.ite ?_ ?_
   | refine LeO.bind ?_ (fun _ => ?_)
set_option maxHeartbeats 8000000 in
set_option maxRecDepth 100000 in
theorem slices_IndexFunc_Pair_178.calls (k : Nat) (A0 : Option Addr) (c0 : Nat) (l0 : List (S147)) (gc28 : Nat) (a28_0 : Int) (r : Int) (w : World) (hr0 : Kd.C k147 w A0 l0.length l0) (hc0 : l0.length ≤ c0) (hb28 : w.heap[gc28]? = some (.cells #[.int .i64 a28_0] 3 (0, 0))) (h : slices_IndexFunc_Pair_178.f k l0 a28_0 = some r) :
  Calls Try.prog 177 #[.slice A0 l0.length c0, .func (.func 178) #[] #[.pointer (some ⟨gc28, 0, none⟩)]] w fun e w' => e = .returned (.int .i64 r) ∧ Below w.heap.size w w' := by
 have hu147 := Try.underlying147
 have HR0 := q_ hr0
 have HC0 := q_ hc0
 clear hr0 hc0
 have BK28 := q_ hb28
 clear hb28
 have HB := q_ (Below.refl w.heap.size w)
 have H : (slices_IndexFunc_Pair_178.l0 k l0 (l0.length : Int) 0 a28_0) = some r := h
 clear h
 have H' := q_ H
 clear H
 go_enter Try.func177, Try.ntmps177
 go_wp2
 go_loopg [8] k (fun kq v8 w' => ∃ (x8_1 : Int), v8 = .int .i64 x8_1 ∧ Aside0 (slices_IndexFunc_Pair_178.l0 kq l0 (l0.length : Int) x8_1 a28_0 = some r) ∧ Aside0 (kq ≤ k) ∧ Aside0 (w'.heap[gc28]? = some (.cells #[.int .i64 a28_0] 3 (0, 0))) ∧ Aside0 (Below w.heap.size w w'))
 case atStart => exact ⟨(0), z11_, H', ⟨Nat.le_refl _⟩, ⟨z56_⟩, ⟨z30_⟩⟩
 case round =>
  clear H'
  try clear c1
  try clear c2
  try clear p2
  obtain ⟨x8_1, rfl, HA, HK1, BK28, HB⟩ := hrel
  cases gk with
  | zero => exact absurd HA.out (by simp [slices_IndexFunc_Pair_178.l0])
  | succ k1 =>
   have H := HA.out
   clear HA
   simp only [slices_IndexFunc_Pair_178.l0] at H
   by_cases c3 : x8_1 < (l0.length : Int)
   ·rw [if_pos c3] at H
    have c3b0 : decide (x8_1 < (l0.length : Int)) = true := decide_eq_true c3
    clear c3
    by_cases c4 : 0 ≤ x8_1
    ·rw [if_pos c4] at H
     have c4b0 : decide (0 ≤ x8_1) = true := decide_eq_true c4
     clear c4
     by_cases c5 : x8_1 < (l0.length : Int)
     ·rw [if_pos c5] at H
      have c5b0 : decide (x8_1 < (l0.length : Int)) = true := decide_eq_true c5
      clear c5
      replace H := Option.bind_eq_some_iff.mp H
      obtain ⟨t365, A60, H⟩ := H
      replace H : (if t365 = true then (some x8_1) else (slices_IndexFunc_Pair_178.l0 k1 l0 (l0.length : Int) (wrap64 (x8_1 + 1)) a28_0)) = some r := H
      have A6 := q_ A60
      clear A60
      by_cases c7 : t365 = true
      ·subst c7
       have H1 : (some x8_1) = some r := z49_
       clear H
       have H := H1
       clear H1
       obtain rfl := Option.some.inj H
       have p364 : 0 ≤ (x8_1 : Int) := of_decide_eq_true z6_
       have q364 : x8_1 < (l0.length : Int) := of_decide_eq_true z6_
       obtain ⟨ad364, e364, hx364_0, hx364_1⟩ := at_T147 HR0.out x8_1 p364 q364
       cases e364
       replace hx364_0 := up_ HB hx364_0
       replace hx364_1 := up_ HB hx364_1
       replace p364 := eq_true p364
       replace q364 := eq_true q364
       go_wp2_with (first | (go_at_call 178; refine calls_of_args (args' := #[.agg #[.int .i64 ((rd_T147 l0 x8_1).f0), .int .i64 ((rd_T147 l0 x8_1).f1)], .pointer (some ⟨gc28, 0, none⟩)]) z86_ ?_; (with_reducible refine (impl_pairAt_f1.calls ((rd_T147 l0 x8_1).f0) ((rd_T147 l0 x8_1).f1) gc28 a28_0 true _ ?side1 A6.out).mono ?_); (case side1 => exact z135_); rintro e w8 ⟨rfl, hb⟩; have n0_ := q_ (blk_below (g := gc28) (o := .cells #[.int .i64 a28_0] 3 (0, 0)) z56_ hb); have n1_ := q_ (below_step z30_ hb); clear BK28; clear HB; have BK28 := n0_; have HB := n1_; clear n0_ n1_; (try clear hb); (try clear hb2); (try clear hk); (try clear hi)))
       go_ret
       exact ⟨z5_, z30_⟩
      ·replace c7 := Bool.eq_false_iff.mpr c7
       subst c7
       have H1 : (slices_IndexFunc_Pair_178.l0 k1 l0 (l0.length : Int) (wrap64 (x8_1 + 1)) a28_0) = some r := by rw [if_neg (show ¬ (false = true) by decide)] at H; exact H
       clear H
       have H := H1
       clear H1
       have H' := q_ H
       clear H
       have p364 : 0 ≤ (x8_1 : Int) := of_decide_eq_true z6_
       have q364 : x8_1 < (l0.length : Int) := of_decide_eq_true z6_
       obtain ⟨ad364, e364, hx364_0, hx364_1⟩ := at_T147 HR0.out x8_1 p364 q364
       cases e364
       replace hx364_0 := up_ HB hx364_0
       replace hx364_1 := up_ HB hx364_1
       replace p364 := eq_true p364
       replace q364 := eq_true q364
       go_wp2_with (first | (go_at_call 178; refine calls_of_args (args' := #[.agg #[.int .i64 ((rd_T147 l0 x8_1).f0), .int .i64 ((rd_T147 l0 x8_1).f1)], .pointer (some ⟨gc28, 0, none⟩)]) z86_ ?_; (with_reducible refine (impl_pairAt_f1.calls ((rd_T147 l0 x8_1).f0) ((rd_T147 l0 x8_1).f1) gc28 a28_0 false _ ?side1 A6.out).mono ?_); (case side1 => exact z135_); rintro e w9 ⟨rfl, hb⟩; have n0_ := q_ (blk_below (g := gc28) (o := .cells #[.int .i64 a28_0] 3 (0, 0)) z56_ hb); have n1_ := q_ (below_step z30_ hb); clear BK28; clear HB; have BK28 := n0_; have HB := n1_; clear n0_ n1_; (try clear hb); (try clear hb2); (try clear hk); (try clear hi)))
       go_roundg k1
       case measure => have := HK1.out; omega
       case rel => exact ⟨(wrap64 (x8_1 + 1)), z11_, H', ⟨z71_⟩, ⟨z56_⟩, ⟨z30_⟩⟩
     ·rw [if_neg c5] at H
      exact absurd H (by simp)
    ·rw [if_neg c4] at H
     exact absurd H (by simp)
   ·rw [if_neg c3] at H
    have c3b0 : decide (x8_1 < (l0.length : Int)) = false := decide_eq_false c3
    clear c3
    obtain rfl := Option.some.inj H
    go_wp2
    go_ret
    exact ⟨z5_, z30_⟩

/-! ### impl_pairAt: function 139 -/
def impl_pairAt.f (k : Nat) (l0 : List (S147)) (a1 : Int) : Option (Int) := (slices_IndexFunc_Pair_178.f k l0 a1).bind fun t367 => (some t367)
theorem impl_pairAt.mono : ∀ a0 a1 k, LeO (impl_pairAt.f k a0 a1) (impl_pairAt.f (k + 1) a0 a1) := by
 intro a0 a1 k
 unfold impl_pairAt.f
 repeat' first
   | (with_reducible exact slices_IndexFunc_Pair_178.mono _ _ _)
   | (with_reducible exact LeO.refl _)
   | (with_reducible exact LeO.none _)
   | (with_reducible refine LeO.ite ?_ ?_)
   | (with_reducible refine LeO.bind ?_ (fun _ => ?_))
   | exact slices_IndexFunc_Pair_178.mono _ _ _
   | exact LeO.none _
   | refine LeO.ite ?_ ?_
   | refine LeO.bind ?_ (fun _ => ?_)
set_option maxHeartbeats 8000000 in
set_option maxRecDepth 100000 in
theorem impl_pairAt.calls (k : Nat) (A0 : Option Addr) (c0 : Nat) (l0 : List (S147)) (a1 : Int) (r : Int) (w : World) (hr0 : Kd.C k147 w A0 l0.length l0) (hc0 : l0.length ≤ c0) (h : impl_pairAt.f k l0 a1 = some r) :
  Calls Try.prog 139 #[.slice A0 l0.length c0, .int .i64 a1] w fun e w' => e = .returned (.int .i64 r) ∧ Below w.heap.size w w' := by
 have HR0 := q_ hr0
 have HC0 := q_ hc0
 clear hr0 hc0
 have HB := q_ (Below.refl w.heap.size w)
 have H : ((slices_IndexFunc_Pair_178.f k l0 a1).bind fun t367 => (some t367)) = some r := h
 clear h
 replace H := Option.bind_eq_some_iff.mp H
 obtain ⟨t367, A30, H⟩ := H
 replace H : (some t367) = some r := H
 have A3 := q_ A30
 clear A30
 obtain rfl := Option.some.inj H
 go_enter Try.func139, Try.ntmps139
 go_wp2_with (first | ((with_reducible refine gate_dst (N := 3) rfl ?_); refine box_event ?hg (N := 3) ?hd (cs := #[.int .i64 a1]) (t := 3) ?hr ?_; (case hd => rfl); (case hg => rfl); (case hr => exact z110_); intro gb366 hg w4 hbox hb; have n0_ := q_ (below_step z0_ hb); have n1_ := q_ (hbox); have n2_ := q_ ((z87_ : w.heap.size ≤ gb366)); have n3_ := q_ ((z87_ : w.heap.size ≤ gb366)); clear HB; have HB := n0_; have BK366 := n1_; have GW366 := n2_; have GE366 := n3_; clear n0_ n1_ n2_ n3_; clear hb hbox hg) | ((with_reducible refine gate_callee (f := 177) rfl ?_); refine goesL_ (some 7) rfl rfl Try.func177 (by kernel_rfl) rfl #[.slice A0 l0.length c0, .func (.func 178) #[] #[.pointer (some ⟨gb366, 0, none⟩)]] rfl z1_ ?_; (with_reducible refine (slices_IndexFunc_Pair_178.calls k _ _ l0 gb366 a1 t367 _ ?side1 ?side2 ?side3 A3.out).mono ?_); (case side1 => exact z108_); (case side2 => exact HC0.out); (case side3 => (with_reducible repeat (first | refine blk_drewN ?_ _ | refine blk_drew ?_ | refine blk_alloc ?_ _)); exact BK366.out); rintro e w5 ⟨rfl, hb⟩; refine ⟨_, rfl, ?_⟩; have n0_ := q_ (blk_below (g := gb366) (o := .cells #[.int .i64 a1] 3 (0, 0)) (by (with_reducible repeat (first | refine blk_drewN ?_ _ | refine blk_drew ?_ | refine blk_alloc ?_ _)); exact BK366.out) hb); have n1_ := q_ (below_step z70_ hb); clear BK366; clear HB; have BK366 := n0_; have HB := n1_; clear n0_ n1_; (try clear hb); (try clear hb2); (try clear hk); (try clear hi)))
 go_ret
 exact ⟨z5_, z70_⟩

/-! ### impl_MapGet: function 61 -/
def impl_MapGet.f (k : Nat) (l0 : List (S147)) (a1 : Int) : Option (Int × Bool) := (impl_pairAt.f k l0 a1).bind fun t368 => (if t368 < 0 then (some (0, false)) else (if 0 ≤ t368 then (if t368 < (l0.length : Int) then (some ((rd_T147 l0 t368).f1, true)) else (none)) else (none)))
theorem impl_MapGet.mono : ∀ a0 a1 k, LeO (impl_MapGet.f k a0 a1) (impl_MapGet.f (k + 1) a0 a1) := by
 intro a0 a1 k
 unfold impl_MapGet.f
 repeat' first
   | (with_reducible exact impl_pairAt.mono _ _ _)
   | (with_reducible exact LeO.refl _)
   | (with_reducible exact LeO.none _)
   | (with_reducible refine LeO.ite ?_ ?_)
   | (with_reducible refine LeO.bind ?_ (fun _ => ?_))
   | exact impl_pairAt.mono _ _ _
   | exact LeO.none _
   | refine LeO.ite ?_ ?_
   | refine LeO.bind ?_ (fun _ => ?_)
set_option maxHeartbeats 8000000 in
set_option maxRecDepth 100000 in
theorem impl_MapGet.calls (k : Nat) (A0 : Option Addr) (c0 : Nat) (l0 : List (S147)) (a1 : Int) (r1 : Int) (r2 : Bool) (w : World) (hr0 : Kd.C k147 w A0 l0.length l0) (hc0 : l0.length ≤ c0) (h : impl_MapGet.f k l0 a1 = some (r1, r2)) :
  Calls Try.prog 61 #[.slice A0 l0.length c0, .int .i64 a1] w fun e w' => e = .returned (.tuple #[.int .i64 r1, .bool r2]) ∧ Below w.heap.size w w' := by
 have HR0 := q_ hr0
 have HC0 := q_ hc0
 clear hr0 hc0
 have HB := q_ (Below.refl w.heap.size w)
 have H : ((impl_pairAt.f k l0 a1).bind fun t368 => (if t368 < 0 then (some (0, false)) else (if 0 ≤ t368 then (if t368 < (l0.length : Int) then (some ((rd_T147 l0 t368).f1, true)) else (none)) else (none)))) = some (r1, r2) := h
 clear h
 replace H := Option.bind_eq_some_iff.mp H
 obtain ⟨t368, A30, H⟩ := H
 replace H : (if t368 < 0 then (some (0, false)) else (if 0 ≤ t368 then (if t368 < (l0.length : Int) then (some ((rd_T147 l0 t368).f1, true)) else (none)) else (none))) = some (r1, r2) := H
 have A3 := q_ A30
 clear A30
 by_cases c4 : t368 < 0
 ·rw [if_pos c4] at H
  have c4b0 : decide (t368 < 0) = true := decide_eq_true c4
  clear c4
  simp only [Option.some.injEq, Prod.mk.injEq] at H
  obtain ⟨rfl, rfl⟩ := H
  go_enter Try.func61, Try.ntmps61
  go_wp2_with (first | ((with_reducible refine gate_callee (f := 139) rfl ?_); refine goesL_ (some 9) rfl rfl Try.func139 (by kernel_rfl) rfl #[.slice A0 l0.length c0, .int .i64 a1] rfl z1_ ?_; (with_reducible refine (impl_pairAt.calls k _ _ l0 a1 t368 _ ?side1 ?side2 A3.out).mono ?_); (case side1 => exact z119_); (case side2 => exact HC0.out); rintro e w5 ⟨rfl, hb⟩; refine ⟨_, rfl, ?_⟩; have n0_ := q_ (below_step z0_ hb); clear HB; have HB := n0_; clear n0_; (try clear hb); (try clear hb2); (try clear hk); (try clear hi)))
  go_ret2
  exact ⟨z5_, z0_⟩
 ·rw [if_neg c4] at H
  have c4b0 : decide (t368 < 0) = false := decide_eq_false c4
  clear c4
  by_cases c6 : 0 ≤ t368
  ·rw [if_pos c6] at H
   have c6b0 : decide (0 ≤ t368) = true := decide_eq_true c6
   clear c6
   by_cases c7 : t368 < (l0.length : Int)
   ·rw [if_pos c7] at H
    have c7b0 : decide (t368 < (l0.length : Int)) = true := decide_eq_true c7
    clear c7
    simp only [Option.some.injEq, Prod.mk.injEq] at H
    obtain ⟨rfl, rfl⟩ := H
    go_enter Try.func61, Try.ntmps61
    go_wp2_with (first | ((with_reducible refine gate_callee (f := 139) rfl ?_); refine goesL_ (some 9) rfl rfl Try.func139 (by kernel_rfl) rfl #[.slice A0 l0.length c0, .int .i64 a1] rfl z1_ ?_; (with_reducible refine (impl_pairAt.calls k _ _ l0 a1 t368 _ ?side1 ?side2 A3.out).mono ?_); (case side1 => exact z119_); (case side2 => exact HC0.out); rintro e w8 ⟨rfl, hb⟩; refine ⟨_, rfl, ?_⟩; have n0_ := q_ (below_step z0_ hb); clear HB; have HB := n0_; clear n0_; (try clear hb); (try clear hb2); (try clear hk); (try clear hi); have p369 : 0 ≤ (t368 : Int) := of_decide_eq_true z6_; have q369 : t368 < (l0.length : Int) := of_decide_eq_true z6_; obtain ⟨ad369, e369, hx369_0, hx369_1⟩ := at_T147 HR0.out t368 p369 q369; cases e369; replace hx369_0 := up_ HB hx369_0; replace hx369_1 := up_ HB hx369_1; replace p369 := eq_true p369; replace q369 := eq_true q369))
    go_ret2
    exact ⟨z5_, z0_⟩
   ·rw [if_neg c7] at H
    exact absurd H (by simp)
  ·rw [if_neg c6] at H
   exact absurd H (by simp)

end Go.Proofs.Ytphlmbhjeoljoaa.PFnMapped
