-- Written by a program of this session, which goes by the kit's print. Not trusted: Lean checks it.
import Derived.Test.YtphlmbhjeoljoaaPFnLogCutx0
import Derived.Test.YtphlmbhjeoljoaaPFnLogCutx3
import Derived.Test.YtphlmbhjeoljoaaPFnLogCutx4
namespace Go.Proofs.Ytphlmbhjeoljoaa.PFnLogCut
open Go.RowKit Go.Proofs.YtphlmbhjeoljoaaW.PrintWords Go.Proofs.YtphlmbhjeoljoaaW.PrintLast Go.Proofs.YtphlmbhjeoljoaaW.PrintMore
attribute [local go_sem] max2_int min2_int max_two min_two max_three min_three max_four min_four   -- for this text's walks alone
set_option linter.unusedVariables false
set_option linter.unusedSimpArgs false

/-! ### spec_l7DrawCmd: function 168 -/
def spec_l7DrawCmd.f (k : Nat) (s0_0 : List Int) (s0_1 : Int) (s0_2 : Int) : Option (Int × Int × Int × Int × Int × Int × Int) := (spec_l1Below.f s0_0 s0_1 s0_2 3).bind fun bt270 => ((spec_l1Below.f s0_0 bt270.2.1 bt270.2.2 6).bind fun bt273 => ((spec_l1DrawMsg.f k s0_0 bt273.2.1 bt273.2.2).bind fun bt276 => ((spec_l1Below.f s0_0 bt276.2.2.2.1 bt276.2.2.2.2 25).bind fun bt282 => (if bt282.1 = 0 then (some (0, 0, 0, 0, 0, bt282.2.1, bt282.2.2)) else (if bt282.1 = 1 then ((spec_l1DrawBad.f k s0_0 bt282.2.1 bt282.2.2).bind fun bt285 => (some (wrap64 (1 + bt270.1), wrap64 (1 + bt273.1), bt285.1, bt285.2.1, bt285.2.2.1, bt285.2.2.2.1, bt285.2.2.2.2))) else (if bt282.1 = 2 then ((spec_l1PickInt.f s0_0 bt282.2.1 bt282.2.2 (([0, 100000, 100001] : List Int))).bind fun bt293 => (some (wrap64 (1 + bt270.1), bt293.1, bt276.1, bt276.2.1, bt276.2.2.1, bt293.2.1, bt293.2.2))) else (if bt282.1 = 3 then ((spec_l1PickInt.f s0_0 bt282.2.1 bt282.2.2 (([(-1), 9, 10] : List Int))).bind fun bt299 => (some (bt299.1, wrap64 (1 + bt273.1), bt276.1, bt276.2.1, bt276.2.2.1, bt299.2.1, bt299.2.2))) else (some (wrap64 (1 + bt270.1), wrap64 (1 + bt273.1), bt276.1, bt276.2.1, bt276.2.2.1, bt282.2.1, bt282.2.2)))))))))
theorem spec_l7DrawCmd.mono : ∀ a0 a1 a2 k, LeO (spec_l7DrawCmd.f k a0 a1 a2) (spec_l7DrawCmd.f (k + 1) a0 a1 a2) := by
 intro a0 a1 a2 k
 unfold spec_l7DrawCmd.f
 repeat' first
   | (with_reducible exact spec_l1DrawBad.mono _ _ _ _)
   | (with_reducible exact spec_l1DrawMsg.mono _ _ _ _)
   | (with_reducible exact LeO.refl _)
   | (with_reducible exact LeO.none _)
   | (with_reducible refine LeO.ite ?_ ?_)
   | (with_reducible refine LeO.bind ?_ (fun _ => ?_))
   | exact spec_l1DrawBad.mono _ _ _ _
   | exact spec_l1DrawMsg.mono _ _ _ _
   | exact LeO.none _
   | refine LeO.ite ?_ ?_
   | refine LeO.bind ?_ (fun _ => ?_)
set_option maxHeartbeats 8000000 in
set_option maxRecDepth 100000 in
theorem spec_l7DrawCmd.calls (k : Nat) (g : Nat) (s0_0 : List Int) (s0_1 : Int) (s0_2 : Int) (r1 : Int) (r2 : Int) (r3 : Int) (r4 : Int) (r5 : Int) (r6 : Int) (r7 : Int) (w0 w : World) (hI : IsS189 w0 w g s0_0 s0_1 s0_2) (hB : Below w0.heap.size w0 w) (h : spec_l7DrawCmd.f k s0_0 s0_1 s0_2 = some (r1, r2, r3, r4, r5, r6, r7)) :
  Calls Try.prog 168 #[.pointer (some ⟨g, 0, none⟩)] w fun e w' => e = .returned (.agg #[.int .i64 r1, .int .i64 r2, .int .i64 r3, .int .i64 r4, .int .i64 r5]) ∧ IsS189 w0 w' g s0_0 r6 r7 ∧ Below w0.heap.size w0 w' ∧ KeepBut w w' g none := by
 have hu127 := Try.underlying127
 have hu67 := Try.underlying67
 have HI0 := q_ hI
 have HK := q_ (KeepBut.refl w g none)
 have HL := q_ hB.size
 clear hI
 have HW0 := q_ hB.size
 have HB := q_ hB
 clear hB
 have H : ((spec_l1Below.f s0_0 s0_1 s0_2 3).bind fun bt270 => ((spec_l1Below.f s0_0 bt270.2.1 bt270.2.2 6).bind fun bt273 => ((spec_l1DrawMsg.f k s0_0 bt273.2.1 bt273.2.2).bind fun bt276 => ((spec_l1Below.f s0_0 bt276.2.2.2.1 bt276.2.2.2.2 25).bind fun bt282 => (if bt282.1 = 0 then (some (0, 0, 0, 0, 0, bt282.2.1, bt282.2.2)) else (if bt282.1 = 1 then ((spec_l1DrawBad.f k s0_0 bt282.2.1 bt282.2.2).bind fun bt285 => (some (wrap64 (1 + bt270.1), wrap64 (1 + bt273.1), bt285.1, bt285.2.1, bt285.2.2.1, bt285.2.2.2.1, bt285.2.2.2.2))) else (if bt282.1 = 2 then ((spec_l1PickInt.f s0_0 bt282.2.1 bt282.2.2 (([0, 100000, 100001] : List Int))).bind fun bt293 => (some (wrap64 (1 + bt270.1), bt293.1, bt276.1, bt276.2.1, bt276.2.2.1, bt293.2.1, bt293.2.2))) else (if bt282.1 = 3 then ((spec_l1PickInt.f s0_0 bt282.2.1 bt282.2.2 (([(-1), 9, 10] : List Int))).bind fun bt299 => (some (bt299.1, wrap64 (1 + bt273.1), bt276.1, bt276.2.1, bt276.2.2.1, bt299.2.1, bt299.2.2))) else (some (wrap64 (1 + bt270.1), wrap64 (1 + bt273.1), bt276.1, bt276.2.1, bt276.2.2.1, bt282.2.1, bt282.2.2)))))))))) = some (r1, r2, r3, r4, r5, r6, r7) := h
 clear h
 replace H := Option.bind_eq_some_iff.mp H
 obtain ⟨⟨t270, t271, t272⟩, A20, H⟩ := H
 replace H : ((spec_l1Below.f s0_0 t271 t272 6).bind fun bt273 => ((spec_l1DrawMsg.f k s0_0 bt273.2.1 bt273.2.2).bind fun bt276 => ((spec_l1Below.f s0_0 bt276.2.2.2.1 bt276.2.2.2.2 25).bind fun bt282 => (if bt282.1 = 0 then (some (0, 0, 0, 0, 0, bt282.2.1, bt282.2.2)) else (if bt282.1 = 1 then ((spec_l1DrawBad.f k s0_0 bt282.2.1 bt282.2.2).bind fun bt285 => (some (wrap64 (1 + t270), wrap64 (1 + bt273.1), bt285.1, bt285.2.1, bt285.2.2.1, bt285.2.2.2.1, bt285.2.2.2.2))) else (if bt282.1 = 2 then ((spec_l1PickInt.f s0_0 bt282.2.1 bt282.2.2 (([0, 100000, 100001] : List Int))).bind fun bt293 => (some (wrap64 (1 + t270), bt293.1, bt276.1, bt276.2.1, bt276.2.2.1, bt293.2.1, bt293.2.2))) else (if bt282.1 = 3 then ((spec_l1PickInt.f s0_0 bt282.2.1 bt282.2.2 (([(-1), 9, 10] : List Int))).bind fun bt299 => (some (bt299.1, wrap64 (1 + bt273.1), bt276.1, bt276.2.1, bt276.2.2.1, bt299.2.1, bt299.2.2))) else (some (wrap64 (1 + t270), wrap64 (1 + bt273.1), bt276.1, bt276.2.1, bt276.2.2.1, bt282.2.1, bt282.2.2))))))))) = some (r1, r2, r3, r4, r5, r6, r7) := H
 have A2 := q_ A20
 clear A20
 replace H := Option.bind_eq_some_iff.mp H
 obtain ⟨⟨t273, t274, t275⟩, A30, H⟩ := H
 replace H : ((spec_l1DrawMsg.f k s0_0 t274 t275).bind fun bt276 => ((spec_l1Below.f s0_0 bt276.2.2.2.1 bt276.2.2.2.2 25).bind fun bt282 => (if bt282.1 = 0 then (some (0, 0, 0, 0, 0, bt282.2.1, bt282.2.2)) else (if bt282.1 = 1 then ((spec_l1DrawBad.f k s0_0 bt282.2.1 bt282.2.2).bind fun bt285 => (some (wrap64 (1 + t270), wrap64 (1 + t273), bt285.1, bt285.2.1, bt285.2.2.1, bt285.2.2.2.1, bt285.2.2.2.2))) else (if bt282.1 = 2 then ((spec_l1PickInt.f s0_0 bt282.2.1 bt282.2.2 (([0, 100000, 100001] : List Int))).bind fun bt293 => (some (wrap64 (1 + t270), bt293.1, bt276.1, bt276.2.1, bt276.2.2.1, bt293.2.1, bt293.2.2))) else (if bt282.1 = 3 then ((spec_l1PickInt.f s0_0 bt282.2.1 bt282.2.2 (([(-1), 9, 10] : List Int))).bind fun bt299 => (some (bt299.1, wrap64 (1 + t273), bt276.1, bt276.2.1, bt276.2.2.1, bt299.2.1, bt299.2.2))) else (some (wrap64 (1 + t270), wrap64 (1 + t273), bt276.1, bt276.2.1, bt276.2.2.1, bt282.2.1, bt282.2.2)))))))) = some (r1, r2, r3, r4, r5, r6, r7) := H
 have A3 := q_ A30
 clear A30
 replace H := Option.bind_eq_some_iff.mp H
 obtain ⟨⟨t276, t277, t278, t279, t280⟩, A40, H⟩ := H
 replace H : ((spec_l1Below.f s0_0 t279 t280 25).bind fun bt282 => (if bt282.1 = 0 then (some (0, 0, 0, 0, 0, bt282.2.1, bt282.2.2)) else (if bt282.1 = 1 then ((spec_l1DrawBad.f k s0_0 bt282.2.1 bt282.2.2).bind fun bt285 => (some (wrap64 (1 + t270), wrap64 (1 + t273), bt285.1, bt285.2.1, bt285.2.2.1, bt285.2.2.2.1, bt285.2.2.2.2))) else (if bt282.1 = 2 then ((spec_l1PickInt.f s0_0 bt282.2.1 bt282.2.2 (([0, 100000, 100001] : List Int))).bind fun bt293 => (some (wrap64 (1 + t270), bt293.1, t276, t277, t278, bt293.2.1, bt293.2.2))) else (if bt282.1 = 3 then ((spec_l1PickInt.f s0_0 bt282.2.1 bt282.2.2 (([(-1), 9, 10] : List Int))).bind fun bt299 => (some (bt299.1, wrap64 (1 + t273), t276, t277, t278, bt299.2.1, bt299.2.2))) else (some (wrap64 (1 + t270), wrap64 (1 + t273), t276, t277, t278, bt282.2.1, bt282.2.2))))))) = some (r1, r2, r3, r4, r5, r6, r7) := H
 have A4 := q_ A40
 clear A40
 replace H := Option.bind_eq_some_iff.mp H
 obtain ⟨⟨t282, t283, t284⟩, A50, H⟩ := H
 replace H : (if t282 = 0 then (some (0, 0, 0, 0, 0, t283, t284)) else (if t282 = 1 then ((spec_l1DrawBad.f k s0_0 t283 t284).bind fun bt285 => (some (wrap64 (1 + t270), wrap64 (1 + t273), bt285.1, bt285.2.1, bt285.2.2.1, bt285.2.2.2.1, bt285.2.2.2.2))) else (if t282 = 2 then ((spec_l1PickInt.f s0_0 t283 t284 (([0, 100000, 100001] : List Int))).bind fun bt293 => (some (wrap64 (1 + t270), bt293.1, t276, t277, t278, bt293.2.1, bt293.2.2))) else (if t282 = 3 then ((spec_l1PickInt.f s0_0 t283 t284 (([(-1), 9, 10] : List Int))).bind fun bt299 => (some (bt299.1, wrap64 (1 + t273), t276, t277, t278, bt299.2.1, bt299.2.2))) else (some (wrap64 (1 + t270), wrap64 (1 + t273), t276, t277, t278, t283, t284)))))) = some (r1, r2, r3, r4, r5, r6, r7) := H
 have A5 := q_ A50
 clear A50
 by_cases c6 : t282 = 0
 ·rw [if_pos c6] at H
  have c6b0 : (t282 == 0) = true := beq_iff_eq.mpr c6
  have c6b1 : (t282 != 0) = false := bne_eq_false_iff_eq.mpr c6
  clear c6
  simp only [Option.some.injEq, Prod.mk.injEq] at H
  obtain ⟨rfl, rfl, rfl, rfl, rfl, rfl, rfl⟩ := H
  go_enter Try.func168, Try.ntmps168
  go_wp2_with (first | ((with_reducible refine gate_dst (N := 2) rfl ?_); refine box_event ?hg (N := 2) ?hd (cs := #[.int .i64 0, .int .i64 0, .int .i64 0, .int .i64 0, .int .i64 0]) (t := 127) ?hr ?_; (case hd => rfl); (case hg => rfl); (case hr => exact z195_); intro gb269 hg w7 hbox hb; have n0_ := q_ (IsS189.below z3_ hb); have n1_ := q_ (KeepBut.trans z2_ (KeepBut.of_below hb g none) (.inl rfl)); have n2_ := q_ (below_step z8_ hb); have n3_ := q_ (hbox); have n4_ := q_ ((z151_ : w.heap.size ≤ gb269)); have n5_ := q_ ((Nat.le_trans HW0.out (z151_ : w.heap.size ≤ gb269) : w0.heap.size ≤ gb269)); have n6_ := q_ ((z152_ : g ≠ gb269)); have n7_ := q_ ((z153_ : gb269 ≠ g)); clear HI0; clear HK; clear HB; have HI0 := n0_; have HK := n1_; have HB := n2_; have BK269 := n3_; have GW269 := n4_; have GE269 := n5_; have NB0_269 := n6_; have NB269_0 := n7_; clear n0_ n1_ n2_ n3_ n4_ n5_ n6_ n7_; clear hb hbox hg) | ((with_reducible refine gate_callee (f := 126) rfl ?_); refine goesL_ (some 5) rfl rfl Try.func126 (by kernel_rfl) rfl #[.pointer (some ⟨g, 0, none⟩), .int .i64 3] rfl z1_ ?_; (with_reducible refine (spec_l1Below.calls g s0_0 s0_1 s0_2 3 t270 t271 t272 w0 _ ?side1 ?side2 A2.out).mono ?_); (case side1 => exact z197_); (case side2 => exact z198_); rintro e w8 ⟨rfl, hi, hb, hk⟩; refine ⟨_, rfl, ?_⟩; have n0_ := q_ (KeepBut.blk hk (g' := gb269) (o := .cells #[.int .i64 0, .int .i64 0, .int .i64 0, .int .i64 0, .int .i64 0] 127 (0, 0)) z9_ NB269_0.out (by simp)); have n1_ := q_ (KeepBut.trans z6_ hk (.inl rfl)); have n2_ := q_ (hb); have n3_ := q_ (hi); clear BK269; clear HK; clear HB; clear HI0; have BK269 := n0_; have HK := n1_; have HB := n2_; have HI0 := n3_; clear n0_ n1_ n2_ n3_; (try clear hb); (try clear hb2); (try clear hk); (try clear hi)) | ((with_reducible refine gate_callee (f := 126) rfl ?_); refine goesL_ (some 8) rfl rfl Try.func126 (by kernel_rfl) rfl #[.pointer (some ⟨g, 0, none⟩), .int .i64 6] rfl z1_ ?_; (with_reducible refine (spec_l1Below.calls g s0_0 t271 t272 6 t273 t274 t275 w0 _ ?side1 ?side2 A3.out).mono ?_); (case side1 => exact z197_); (case side2 => exact z198_); rintro e w9 ⟨rfl, hi, hb, hk⟩; refine ⟨_, rfl, ?_⟩; have n0_ := q_ (KeepBut.blk hk (g' := gb269) (o := .cells #[.int .i64 0, .int .i64 0, .int .i64 0, .int .i64 0, .int .i64 0] 127 (0, 0)) z9_ NB269_0.out (by simp)); have n1_ := q_ (KeepBut.trans z6_ hk (.inl rfl)); have n2_ := q_ (hb); have n3_ := q_ (hi); clear BK269; clear HK; clear HB; clear HI0; have BK269 := n0_; have HK := n1_; have HB := n2_; have HI0 := n3_; clear n0_ n1_ n2_ n3_; (try clear hb); (try clear hb2); (try clear hk); (try clear hi)) | ((with_reducible refine gate_callee (f := 175) rfl ?_); refine goesL_ (some 11) rfl rfl Try.func175 (by kernel_rfl) rfl #[.pointer (some ⟨g, 0, none⟩)] rfl z1_ ?_; (with_reducible refine (spec_l1DrawMsg.calls k g s0_0 t274 t275 t276 t277 t278 t279 t280 w0 _ ?side1 ?side2 A4.out).mono ?_); (case side1 => exact z197_); (case side2 => exact z198_); rintro e w10 ⟨rfl, hi, hb, hk⟩; refine ⟨_, rfl, ?_⟩; have n0_ := q_ (KeepBut.blk hk (g' := gb269) (o := .cells #[.int .i64 0, .int .i64 0, .int .i64 0, .int .i64 0, .int .i64 0] 127 (0, 0)) z9_ NB269_0.out (by simp)); have n1_ := q_ (KeepBut.trans z6_ hk (.inl rfl)); have n2_ := q_ (hb); have n3_ := q_ (hi); clear BK269; clear HK; clear HB; clear HI0; have BK269 := n0_; have HK := n1_; have HB := n2_; have HI0 := n3_; clear n0_ n1_ n2_ n3_; (try clear hb); (try clear hb2); (try clear hk); (try clear hi)) | ((with_reducible refine gate_dst (N := 3) rfl ?_); refine box_event ?hg (N := 3) ?hd (cs := #[.int .i64 0, .int .i64 0, .int .i64 0, .int .i64 0, .int .i64 0]) (t := 127) ?hr ?_; (case hd => rfl); (case hg => rfl); (case hr => exact z195_); intro gb281 hg w11 hbox hb; have n0_ := q_ (IsS189.below z18_ hb); have n1_ := q_ (blk_below (g := gb269) (o := .cells #[.int .i64 0, .int .i64 0, .int .i64 0, .int .i64 0, .int .i64 0] 127 (0, 0)) z9_ hb); have n2_ := q_ (KeepBut.trans z6_ (KeepBut.of_below hb g none) (.inl rfl)); have n3_ := q_ (below_step z81_ hb); have n4_ := q_ (hbox); have n5_ := q_ ((z158_ : w.heap.size ≤ gb281)); have n6_ := q_ ((Nat.le_trans HW0.out (z158_ : w.heap.size ≤ gb281) : w0.heap.size ≤ gb281)); have n7_ := q_ ((z156_ : gb269 ≠ gb281)); have n8_ := q_ ((z157_ : gb281 ≠ gb269)); have n9_ := q_ ((z167_ : g ≠ gb281)); have n10_ := q_ ((z168_ : gb281 ≠ g)); clear HI0; clear BK269; clear HK; clear HB; have HI0 := n0_; have BK269 := n1_; have HK := n2_; have HB := n3_; have BK281 := n4_; have GW281 := n5_; have GE281 := n6_; have NB269_281 := n7_; have NB281_269 := n8_; have NB0_281 := n9_; have NB281_0 := n10_; clear n0_ n1_ n2_ n3_ n4_ n5_ n6_ n7_ n8_ n9_ n10_; clear hb hbox hg; have hnb12 := NB281_269.out; have hnc12 := NB269_281.out; have hnb13 := NB281_0.out; have hnc13 := NB0_281.out; obtain ⟨hcz14_0, hcz14_1, hcz14_2, hcz14_3, hcz14_4, hfz14_0, hfz14_1, hfz14_2, hfz14_3, hfz14_4⟩ := cs5_ BK281.out) | ((with_reducible refine gate_callee (f := 126) rfl ?_); refine goesL_ (some 14) rfl rfl Try.func126 (by kernel_rfl) rfl #[.pointer (some ⟨g, 0, none⟩), .int .i64 25] rfl z1_ ?_; (with_reducible refine (spec_l1Below.calls g s0_0 t279 t280 25 t282 t283 t284 w0 _ ?side1 ?side2 A5.out).mono ?_); (case side1 => exact z201_); (case side2 => exact z203_); rintro e w15 ⟨rfl, hi, hb, hk⟩; refine ⟨_, rfl, ?_⟩; have n0_ := q_ (KeepBut.blk hk (g' := gb269) (o := .cells #[.int .i64 0, .int .i64 0, .int .i64 0, .int .i64 0, .int .i64 0] 127 (0, 0)) z10_ NB269_0.out (by simp)); have n1_ := q_ (KeepBut.blk hk (g' := gb281) (o := .cells #[.int .i64 (wrap64 (1 + t270)), .int .i64 (wrap64 (1 + t273)), .int .i64 t276, .int .i64 t277, .int .i64 t278] 127 (0, 0)) z5_ NB281_0.out (by simp)); have n2_ := q_ (KeepBut.trans z13_ hk (.inl rfl)); have n3_ := q_ (hb); have n4_ := q_ (hi); clear BK269; clear BK281; clear HK; clear HB; clear HI0; have BK269 := n0_; have BK281 := n1_; have HK := n2_; have HB := n3_; have HI0 := n4_; clear n0_ n1_ n2_ n3_ n4_; (try clear hb); (try clear hb2); (try clear hk); (try clear hi); obtain ⟨hcz16_0, hcz16_1, hcz16_2, hcz16_3, hcz16_4, hfz16_0, hfz16_1, hfz16_2, hfz16_3, hfz16_4⟩ := cs5_ BK281.out; have hnb17 := NB269_0.out; have hnc17 := NB0_269.out; obtain ⟨hcz18_0, hcz18_1, hcz18_2, hcz18_3, hcz18_4, hfz18_0, hfz18_1, hfz18_2, hfz18_3, hfz18_4⟩ := cs5_ BK269.out))
  refine bodyPost_ret (results_cell_row rfl _ _ gb269 127 #[.int .i64 0, .int .i64 0, .int .i64 0, .int .i64 0, .int .i64 0] (0, 0) _ rfl (by (with_reducible repeat (first | refine blk_drewN ?_ _ | refine blk_drew ?_ | refine blk_alloc ?_ _)); refine blk_put (cs := #[.int .i64 0, .int .i64 0, .int .i64 0, .int .i64 0, .int .i64 0]) ?_ 4 _ rfl; (with_reducible repeat (first | refine blk_drewN ?_ _ | refine blk_drew ?_ | refine blk_alloc ?_ _)); refine blk_put (cs := #[.int .i64 0, .int .i64 0, .int .i64 0, .int .i64 0, .int .i64 0]) ?_ 3 _ rfl; (with_reducible repeat (first | refine blk_drewN ?_ _ | refine blk_drew ?_ | refine blk_alloc ?_ _)); refine blk_put (cs := #[.int .i64 0, .int .i64 0, .int .i64 0, .int .i64 0, .int .i64 0]) ?_ 2 _ rfl; (with_reducible repeat (first | refine blk_drewN ?_ _ | refine blk_drew ?_ | refine blk_alloc ?_ _)); refine blk_put (cs := #[.int .i64 0, .int .i64 0, .int .i64 0, .int .i64 0, .int .i64 0]) ?_ 1 _ rfl; (with_reducible repeat (first | refine blk_drewN ?_ _ | refine blk_drew ?_ | refine blk_alloc ?_ _)); refine blk_put (cs := #[.int .i64 0, .int .i64 0, .int .i64 0, .int .i64 0, .int .i64 0]) ?_ 0 _ rfl; (with_reducible repeat (first | refine blk_drewN ?_ _ | refine blk_drew ?_ | refine blk_alloc ?_ _)); refine blk_far ?_ NB269_281.out _; (with_reducible repeat (first | refine blk_drewN ?_ _ | refine blk_drew ?_ | refine blk_alloc ?_ _)); refine blk_far ?_ NB269_281.out _; (with_reducible repeat (first | refine blk_drewN ?_ _ | refine blk_drew ?_ | refine blk_alloc ?_ _)); refine blk_far ?_ NB269_281.out _; (with_reducible repeat (first | refine blk_drewN ?_ _ | refine blk_drew ?_ | refine blk_alloc ?_ _)); refine blk_far ?_ NB269_281.out _; (with_reducible repeat (first | refine blk_drewN ?_ _ | refine blk_drew ?_ | refine blk_alloc ?_ _)); refine blk_far ?_ NB269_281.out _; (with_reducible repeat (first | refine blk_drewN ?_ _ | refine blk_drew ?_ | refine blk_alloc ?_ _)); exact BK269.out) Try.underlying127 rfl (by kernel_rfl)) rfl ?_
  exact ⟨z4_, z38_, z49_, z13_⟩
 ·rw [if_neg c6] at H
  have c6b0 : (t282 == 0) = false := beq_eq_false_iff_ne.mpr c6
  have c6b1 : (t282 != 0) = true := bne_iff_ne.mpr c6
  by_cases c19 : t282 = 1
  ·rw [if_pos c19] at H
   have c19b0 : (t282 == 1) = true := beq_iff_eq.mpr c19
   have c19b1 : (t282 != 1) = false := bne_eq_false_iff_eq.mpr c19
   clear c19
   replace H := Option.bind_eq_some_iff.mp H
   obtain ⟨⟨t285, t286, t287, t288, t289⟩, A200, H⟩ := H
   replace H : (some (wrap64 (1 + t270), wrap64 (1 + t273), t285, t286, t287, t288, t289)) = some (r1, r2, r3, r4, r5, r6, r7) := H
   have A20 := q_ A200
   clear A200
   simp only [Option.some.injEq, Prod.mk.injEq] at H
   obtain ⟨rfl, rfl, rfl, rfl, rfl, rfl, rfl⟩ := H
   go_enter Try.func168, Try.ntmps168
   go_wp2_with (first | ((with_reducible refine gate_dst (N := 2) rfl ?_); refine box_event ?hg (N := 2) ?hd (cs := #[.int .i64 0, .int .i64 0, .int .i64 0, .int .i64 0, .int .i64 0]) (t := 127) ?hr ?_; (case hd => rfl); (case hg => rfl); (case hr => exact z195_); intro gb269 hg w21 hbox hb; have n0_ := q_ (IsS189.below z3_ hb); have n1_ := q_ (KeepBut.trans z2_ (KeepBut.of_below hb g none) (.inl rfl)); have n2_ := q_ (below_step z8_ hb); have n3_ := q_ (hbox); have n4_ := q_ ((z151_ : w.heap.size ≤ gb269)); have n5_ := q_ ((Nat.le_trans HW0.out (z151_ : w.heap.size ≤ gb269) : w0.heap.size ≤ gb269)); have n6_ := q_ ((z152_ : g ≠ gb269)); have n7_ := q_ ((z153_ : gb269 ≠ g)); clear HI0; clear HK; clear HB; have HI0 := n0_; have HK := n1_; have HB := n2_; have BK269 := n3_; have GW269 := n4_; have GE269 := n5_; have NB0_269 := n6_; have NB269_0 := n7_; clear n0_ n1_ n2_ n3_ n4_ n5_ n6_ n7_; clear hb hbox hg) | ((with_reducible refine gate_callee (f := 126) rfl ?_); refine goesL_ (some 5) rfl rfl Try.func126 (by kernel_rfl) rfl #[.pointer (some ⟨g, 0, none⟩), .int .i64 3] rfl z1_ ?_; (with_reducible refine (spec_l1Below.calls g s0_0 s0_1 s0_2 3 t270 t271 t272 w0 _ ?side1 ?side2 A2.out).mono ?_); (case side1 => exact z197_); (case side2 => exact z198_); rintro e w22 ⟨rfl, hi, hb, hk⟩; refine ⟨_, rfl, ?_⟩; have n0_ := q_ (KeepBut.blk hk (g' := gb269) (o := .cells #[.int .i64 0, .int .i64 0, .int .i64 0, .int .i64 0, .int .i64 0] 127 (0, 0)) z9_ NB269_0.out (by simp)); have n1_ := q_ (KeepBut.trans z6_ hk (.inl rfl)); have n2_ := q_ (hb); have n3_ := q_ (hi); clear BK269; clear HK; clear HB; clear HI0; have BK269 := n0_; have HK := n1_; have HB := n2_; have HI0 := n3_; clear n0_ n1_ n2_ n3_; (try clear hb); (try clear hb2); (try clear hk); (try clear hi)) | ((with_reducible refine gate_callee (f := 126) rfl ?_); refine goesL_ (some 8) rfl rfl Try.func126 (by kernel_rfl) rfl #[.pointer (some ⟨g, 0, none⟩), .int .i64 6] rfl z1_ ?_; (with_reducible refine (spec_l1Below.calls g s0_0 t271 t272 6 t273 t274 t275 w0 _ ?side1 ?side2 A3.out).mono ?_); (case side1 => exact z197_); (case side2 => exact z198_); rintro e w23 ⟨rfl, hi, hb, hk⟩; refine ⟨_, rfl, ?_⟩; have n0_ := q_ (KeepBut.blk hk (g' := gb269) (o := .cells #[.int .i64 0, .int .i64 0, .int .i64 0, .int .i64 0, .int .i64 0] 127 (0, 0)) z9_ NB269_0.out (by simp)); have n1_ := q_ (KeepBut.trans z6_ hk (.inl rfl)); have n2_ := q_ (hb); have n3_ := q_ (hi); clear BK269; clear HK; clear HB; clear HI0; have BK269 := n0_; have HK := n1_; have HB := n2_; have HI0 := n3_; clear n0_ n1_ n2_ n3_; (try clear hb); (try clear hb2); (try clear hk); (try clear hi)) | ((with_reducible refine gate_callee (f := 175) rfl ?_); refine goesL_ (some 11) rfl rfl Try.func175 (by kernel_rfl) rfl #[.pointer (some ⟨g, 0, none⟩)] rfl z1_ ?_; (with_reducible refine (spec_l1DrawMsg.calls k g s0_0 t274 t275 t276 t277 t278 t279 t280 w0 _ ?side1 ?side2 A4.out).mono ?_); (case side1 => exact z197_); (case side2 => exact z198_); rintro e w24 ⟨rfl, hi, hb, hk⟩; refine ⟨_, rfl, ?_⟩; have n0_ := q_ (KeepBut.blk hk (g' := gb269) (o := .cells #[.int .i64 0, .int .i64 0, .int .i64 0, .int .i64 0, .int .i64 0] 127 (0, 0)) z9_ NB269_0.out (by simp)); have n1_ := q_ (KeepBut.trans z6_ hk (.inl rfl)); have n2_ := q_ (hb); have n3_ := q_ (hi); clear BK269; clear HK; clear HB; clear HI0; have BK269 := n0_; have HK := n1_; have HB := n2_; have HI0 := n3_; clear n0_ n1_ n2_ n3_; (try clear hb); (try clear hb2); (try clear hk); (try clear hi)) | ((with_reducible refine gate_dst (N := 3) rfl ?_); refine box_event ?hg (N := 3) ?hd (cs := #[.int .i64 0, .int .i64 0, .int .i64 0, .int .i64 0, .int .i64 0]) (t := 127) ?hr ?_; (case hd => rfl); (case hg => rfl); (case hr => exact z195_); intro gb281 hg w25 hbox hb; have n0_ := q_ (IsS189.below z18_ hb); have n1_ := q_ (blk_below (g := gb269) (o := .cells #[.int .i64 0, .int .i64 0, .int .i64 0, .int .i64 0, .int .i64 0] 127 (0, 0)) z9_ hb); have n2_ := q_ (KeepBut.trans z6_ (KeepBut.of_below hb g none) (.inl rfl)); have n3_ := q_ (below_step z81_ hb); have n4_ := q_ (hbox); have n5_ := q_ ((z158_ : w.heap.size ≤ gb281)); have n6_ := q_ ((Nat.le_trans HW0.out (z158_ : w.heap.size ≤ gb281) : w0.heap.size ≤ gb281)); have n7_ := q_ ((z156_ : gb269 ≠ gb281)); have n8_ := q_ ((z157_ : gb281 ≠ gb269)); have n9_ := q_ ((z167_ : g ≠ gb281)); have n10_ := q_ ((z168_ : gb281 ≠ g)); clear HI0; clear BK269; clear HK; clear HB; have HI0 := n0_; have BK269 := n1_; have HK := n2_; have HB := n3_; have BK281 := n4_; have GW281 := n5_; have GE281 := n6_; have NB269_281 := n7_; have NB281_269 := n8_; have NB0_281 := n9_; have NB281_0 := n10_; clear n0_ n1_ n2_ n3_ n4_ n5_ n6_ n7_ n8_ n9_ n10_; clear hb hbox hg; have hnb26 := NB281_269.out; have hnc26 := NB269_281.out; have hnb27 := NB281_0.out; have hnc27 := NB0_281.out; obtain ⟨hcz28_0, hcz28_1, hcz28_2, hcz28_3, hcz28_4, hfz28_0, hfz28_1, hfz28_2, hfz28_3, hfz28_4⟩ := cs5_ BK281.out) | ((with_reducible refine gate_callee (f := 126) rfl ?_); refine goesL_ (some 14) rfl rfl Try.func126 (by kernel_rfl) rfl #[.pointer (some ⟨g, 0, none⟩), .int .i64 25] rfl z1_ ?_; (with_reducible refine (spec_l1Below.calls g s0_0 t279 t280 25 t282 t283 t284 w0 _ ?side1 ?side2 A5.out).mono ?_); (case side1 => exact z201_); (case side2 => exact z203_); rintro e w29 ⟨rfl, hi, hb, hk⟩; refine ⟨_, rfl, ?_⟩; have n0_ := q_ (KeepBut.blk hk (g' := gb269) (o := .cells #[.int .i64 0, .int .i64 0, .int .i64 0, .int .i64 0, .int .i64 0] 127 (0, 0)) z10_ NB269_0.out (by simp)); have n1_ := q_ (KeepBut.blk hk (g' := gb281) (o := .cells #[.int .i64 (wrap64 (1 + t270)), .int .i64 (wrap64 (1 + t273)), .int .i64 t276, .int .i64 t277, .int .i64 t278] 127 (0, 0)) z5_ NB281_0.out (by simp)); have n2_ := q_ (KeepBut.trans z13_ hk (.inl rfl)); have n3_ := q_ (hb); have n4_ := q_ (hi); clear BK269; clear BK281; clear HK; clear HB; clear HI0; have BK269 := n0_; have BK281 := n1_; have HK := n2_; have HB := n3_; have HI0 := n4_; clear n0_ n1_ n2_ n3_ n4_; (try clear hb); (try clear hb2); (try clear hk); (try clear hi)) | ((with_reducible refine gate_callee (f := 134) rfl ?_); refine goesL_ (some 21) rfl rfl Try.func134 (by kernel_rfl) rfl #[.pointer (some ⟨g, 0, none⟩)] rfl z1_ ?_; (with_reducible refine (spec_l1DrawBad.calls k g s0_0 t283 t284 t285 t286 t287 t288 t289 w0 _ ?side1 ?side2 A20.out).mono ?_); (case side1 => exact z201_); (case side2 => exact z203_); rintro e w30 ⟨rfl, hi, hb, hk⟩; refine ⟨_, rfl, ?_⟩; have n0_ := q_ (KeepBut.blk hk (g' := gb269) (o := .cells #[.int .i64 0, .int .i64 0, .int .i64 0, .int .i64 0, .int .i64 0] 127 (0, 0)) z9_ NB269_0.out (by simp)); have n1_ := q_ (KeepBut.blk hk (g' := gb281) (o := .cells #[.int .i64 (wrap64 (1 + t270)), .int .i64 (wrap64 (1 + t273)), .int .i64 t276, .int .i64 t277, .int .i64 t278] 127 (0, 0)) z108_ NB281_0.out (by simp)); have n2_ := q_ (KeepBut.trans z13_ hk (.inl rfl)); have n3_ := q_ (hb); have n4_ := q_ (hi); clear BK269; clear BK281; clear HK; clear HB; clear HI0; have BK269 := n0_; have BK281 := n1_; have HK := n2_; have HB := n3_; have HI0 := n4_; clear n0_ n1_ n2_ n3_ n4_; (try clear hb); (try clear hb2); (try clear hk); (try clear hi); obtain ⟨hcz31_0, hcz31_1, hcz31_2, hcz31_3, hcz31_4, hfz31_0, hfz31_1, hfz31_2, hfz31_3, hfz31_4⟩ := cs5_ BK281.out; have hnb32 := NB269_0.out; have hnc32 := NB0_269.out; obtain ⟨hcz33_0, hcz33_1, hcz33_2, hcz33_3, hcz33_4, hfz33_0, hfz33_1, hfz33_2, hfz33_3, hfz33_4⟩ := cs5_ BK269.out))
   refine bodyPost_ret (results_cell_row rfl _ _ gb269 127 #[.int .i64 (wrap64 (1 + t270)), .int .i64 (wrap64 (1 + t273)), .int .i64 t285, .int .i64 t286, .int .i64 t287] (0, 0) _ rfl (by (with_reducible repeat (first | refine blk_drewN ?_ _ | refine blk_drew ?_ | refine blk_alloc ?_ _)); refine blk_put (cs := #[.int .i64 (wrap64 (1 + t270)), .int .i64 (wrap64 (1 + t273)), .int .i64 t285, .int .i64 t286, .int .i64 0]) ?_ 4 _ rfl; (with_reducible repeat (first | refine blk_drewN ?_ _ | refine blk_drew ?_ | refine blk_alloc ?_ _)); refine blk_put (cs := #[.int .i64 (wrap64 (1 + t270)), .int .i64 (wrap64 (1 + t273)), .int .i64 t285, .int .i64 0, .int .i64 0]) ?_ 3 _ rfl; (with_reducible repeat (first | refine blk_drewN ?_ _ | refine blk_drew ?_ | refine blk_alloc ?_ _)); refine blk_put (cs := #[.int .i64 (wrap64 (1 + t270)), .int .i64 (wrap64 (1 + t273)), .int .i64 0, .int .i64 0, .int .i64 0]) ?_ 2 _ rfl; (with_reducible repeat (first | refine blk_drewN ?_ _ | refine blk_drew ?_ | refine blk_alloc ?_ _)); refine blk_put (cs := #[.int .i64 (wrap64 (1 + t270)), .int .i64 0, .int .i64 0, .int .i64 0, .int .i64 0]) ?_ 1 _ rfl; (with_reducible repeat (first | refine blk_drewN ?_ _ | refine blk_drew ?_ | refine blk_alloc ?_ _)); refine blk_put (cs := #[.int .i64 0, .int .i64 0, .int .i64 0, .int .i64 0, .int .i64 0]) ?_ 0 _ rfl; (with_reducible repeat (first | refine blk_drewN ?_ _ | refine blk_drew ?_ | refine blk_alloc ?_ _)); refine blk_far ?_ NB269_281.out _; (with_reducible repeat (first | refine blk_drewN ?_ _ | refine blk_drew ?_ | refine blk_alloc ?_ _)); refine blk_far ?_ NB269_281.out _; (with_reducible repeat (first | refine blk_drewN ?_ _ | refine blk_drew ?_ | refine blk_alloc ?_ _)); refine blk_far ?_ NB269_281.out _; (with_reducible repeat (first | refine blk_drewN ?_ _ | refine blk_drew ?_ | refine blk_alloc ?_ _)); exact BK269.out) Try.underlying127 rfl (by kernel_rfl)) rfl ?_
   exact ⟨z4_, z38_, z49_, z13_⟩
  ·rw [if_neg c19] at H
   have c19b0 : (t282 == 1) = false := beq_eq_false_iff_ne.mpr c19
   have c19b1 : (t282 != 1) = true := bne_iff_ne.mpr c19
   by_cases c34 : t282 = 2
   ·rw [if_pos c34] at H
    have c34b0 : (t282 == 2) = true := beq_iff_eq.mpr c34
    have c34b1 : (t282 != 2) = false := bne_eq_false_iff_eq.mpr c34
    clear c34
    obtain ⟨y290, hy290⟩ : ∃ y_ : List Int, y_ = (([0, 100000, 100001] : List Int)) := ⟨_, rfl⟩
    replace H : ((spec_l1PickInt.f s0_0 t283 t284 y290).bind fun bt293 => (some (wrap64 (1 + t270), bt293.1, t276, t277, t278, bt293.2.1, bt293.2.2))) = some (r1, r2, r3, r4, r5, r6, r7) := by first | (rw [hy290]; with_reducible exact H) | (have H2_ := (Option.bind_some _ _).symm.trans H; rw [hy290]; with_reducible exact H2_) | (have H2_ := (Option.bind_some _ _).symm.trans H; with_reducible exact H2_) | with_reducible exact H | (rw [hy290]; exact H) | exact H
    have Ny290 := q_ hy290
    clear hy290
    replace H := Option.bind_eq_some_iff.mp H
    obtain ⟨⟨t293, t294, t295⟩, A350, H⟩ := H
    replace H : (some (wrap64 (1 + t270), t293, t276, t277, t278, t294, t295)) = some (r1, r2, r3, r4, r5, r6, r7) := H
    have A35 := q_ A350
    clear A350
    simp only [Option.some.injEq, Prod.mk.injEq] at H
    obtain ⟨rfl, rfl, rfl, rfl, rfl, rfl, rfl⟩ := H
    go_enter Try.func168, Try.ntmps168
    go_wp2_with (first | ((with_reducible refine gate_dst (N := 2) rfl ?_); refine box_event ?hg (N := 2) ?hd (cs := #[.int .i64 0, .int .i64 0, .int .i64 0, .int .i64 0, .int .i64 0]) (t := 127) ?hr ?_; (case hd => rfl); (case hg => rfl); (case hr => exact z195_); intro gb269 hg w36 hbox hb; have n0_ := q_ (IsS189.below z3_ hb); have n1_ := q_ (KeepBut.trans z2_ (KeepBut.of_below hb g none) (.inl rfl)); have n2_ := q_ (below_step z8_ hb); have n3_ := q_ (hbox); have n4_ := q_ ((z151_ : w.heap.size ≤ gb269)); have n5_ := q_ ((Nat.le_trans HW0.out (z151_ : w.heap.size ≤ gb269) : w0.heap.size ≤ gb269)); have n6_ := q_ ((z152_ : g ≠ gb269)); have n7_ := q_ ((z153_ : gb269 ≠ g)); clear HI0; clear HK; clear HB; have HI0 := n0_; have HK := n1_; have HB := n2_; have BK269 := n3_; have GW269 := n4_; have GE269 := n5_; have NB0_269 := n6_; have NB269_0 := n7_; clear n0_ n1_ n2_ n3_ n4_ n5_ n6_ n7_; clear hb hbox hg) | ((with_reducible refine gate_callee (f := 126) rfl ?_); refine goesL_ (some 5) rfl rfl Try.func126 (by kernel_rfl) rfl #[.pointer (some ⟨g, 0, none⟩), .int .i64 3] rfl z1_ ?_; (with_reducible refine (spec_l1Below.calls g s0_0 s0_1 s0_2 3 t270 t271 t272 w0 _ ?side1 ?side2 A2.out).mono ?_); (case side1 => exact z197_); (case side2 => exact z198_); rintro e w37 ⟨rfl, hi, hb, hk⟩; refine ⟨_, rfl, ?_⟩; have n0_ := q_ (KeepBut.blk hk (g' := gb269) (o := .cells #[.int .i64 0, .int .i64 0, .int .i64 0, .int .i64 0, .int .i64 0] 127 (0, 0)) z9_ NB269_0.out (by simp)); have n1_ := q_ (KeepBut.trans z6_ hk (.inl rfl)); have n2_ := q_ (hb); have n3_ := q_ (hi); clear BK269; clear HK; clear HB; clear HI0; have BK269 := n0_; have HK := n1_; have HB := n2_; have HI0 := n3_; clear n0_ n1_ n2_ n3_; (try clear hb); (try clear hb2); (try clear hk); (try clear hi)) | ((with_reducible refine gate_callee (f := 126) rfl ?_); refine goesL_ (some 8) rfl rfl Try.func126 (by kernel_rfl) rfl #[.pointer (some ⟨g, 0, none⟩), .int .i64 6] rfl z1_ ?_; (with_reducible refine (spec_l1Below.calls g s0_0 t271 t272 6 t273 t274 t275 w0 _ ?side1 ?side2 A3.out).mono ?_); (case side1 => exact z197_); (case side2 => exact z198_); rintro e w38 ⟨rfl, hi, hb, hk⟩; refine ⟨_, rfl, ?_⟩; have n0_ := q_ (KeepBut.blk hk (g' := gb269) (o := .cells #[.int .i64 0, .int .i64 0, .int .i64 0, .int .i64 0, .int .i64 0] 127 (0, 0)) z9_ NB269_0.out (by simp)); have n1_ := q_ (KeepBut.trans z6_ hk (.inl rfl)); have n2_ := q_ (hb); have n3_ := q_ (hi); clear BK269; clear HK; clear HB; clear HI0; have BK269 := n0_; have HK := n1_; have HB := n2_; have HI0 := n3_; clear n0_ n1_ n2_ n3_; (try clear hb); (try clear hb2); (try clear hk); (try clear hi)) | ((with_reducible refine gate_callee (f := 175) rfl ?_); refine goesL_ (some 11) rfl rfl Try.func175 (by kernel_rfl) rfl #[.pointer (some ⟨g, 0, none⟩)] rfl z1_ ?_; (with_reducible refine (spec_l1DrawMsg.calls k g s0_0 t274 t275 t276 t277 t278 t279 t280 w0 _ ?side1 ?side2 A4.out).mono ?_); (case side1 => exact z197_); (case side2 => exact z198_); rintro e w39 ⟨rfl, hi, hb, hk⟩; refine ⟨_, rfl, ?_⟩; have n0_ := q_ (KeepBut.blk hk (g' := gb269) (o := .cells #[.int .i64 0, .int .i64 0, .int .i64 0, .int .i64 0, .int .i64 0] 127 (0, 0)) z9_ NB269_0.out (by simp)); have n1_ := q_ (KeepBut.trans z6_ hk (.inl rfl)); have n2_ := q_ (hb); have n3_ := q_ (hi); clear BK269; clear HK; clear HB; clear HI0; have BK269 := n0_; have HK := n1_; have HB := n2_; have HI0 := n3_; clear n0_ n1_ n2_ n3_; (try clear hb); (try clear hb2); (try clear hk); (try clear hi)) | ((with_reducible refine gate_dst (N := 3) rfl ?_); refine box_event ?hg (N := 3) ?hd (cs := #[.int .i64 0, .int .i64 0, .int .i64 0, .int .i64 0, .int .i64 0]) (t := 127) ?hr ?_; (case hd => rfl); (case hg => rfl); (case hr => exact z195_); intro gb281 hg w40 hbox hb; have n0_ := q_ (IsS189.below z18_ hb); have n1_ := q_ (blk_below (g := gb269) (o := .cells #[.int .i64 0, .int .i64 0, .int .i64 0, .int .i64 0, .int .i64 0] 127 (0, 0)) z9_ hb); have n2_ := q_ (KeepBut.trans z6_ (KeepBut.of_below hb g none) (.inl rfl)); have n3_ := q_ (below_step z81_ hb); have n4_ := q_ (hbox); have n5_ := q_ ((z158_ : w.heap.size ≤ gb281)); have n6_ := q_ ((Nat.le_trans HW0.out (z158_ : w.heap.size ≤ gb281) : w0.heap.size ≤ gb281)); have n7_ := q_ ((z156_ : gb269 ≠ gb281)); have n8_ := q_ ((z157_ : gb281 ≠ gb269)); have n9_ := q_ ((z167_ : g ≠ gb281)); have n10_ := q_ ((z168_ : gb281 ≠ g)); clear HI0; clear BK269; clear HK; clear HB; have HI0 := n0_; have BK269 := n1_; have HK := n2_; have HB := n3_; have BK281 := n4_; have GW281 := n5_; have GE281 := n6_; have NB269_281 := n7_; have NB281_269 := n8_; have NB0_281 := n9_; have NB281_0 := n10_; clear n0_ n1_ n2_ n3_ n4_ n5_ n6_ n7_ n8_ n9_ n10_; clear hb hbox hg; have hnb41 := NB281_269.out; have hnc41 := NB269_281.out; have hnb42 := NB281_0.out; have hnc42 := NB0_281.out; obtain ⟨hcz43_0, hcz43_1, hcz43_2, hcz43_3, hcz43_4, hfz43_0, hfz43_1, hfz43_2, hfz43_3, hfz43_4⟩ := cs5_ BK281.out) | ((with_reducible refine gate_callee (f := 126) rfl ?_); refine goesL_ (some 14) rfl rfl Try.func126 (by kernel_rfl) rfl #[.pointer (some ⟨g, 0, none⟩), .int .i64 25] rfl z1_ ?_; (with_reducible refine (spec_l1Below.calls g s0_0 t279 t280 25 t282 t283 t284 w0 _ ?side1 ?side2 A5.out).mono ?_); (case side1 => exact z201_); (case side2 => exact z203_); rintro e w44 ⟨rfl, hi, hb, hk⟩; refine ⟨_, rfl, ?_⟩; have n0_ := q_ (KeepBut.blk hk (g' := gb269) (o := .cells #[.int .i64 0, .int .i64 0, .int .i64 0, .int .i64 0, .int .i64 0] 127 (0, 0)) z10_ NB269_0.out (by simp)); have n1_ := q_ (KeepBut.blk hk (g' := gb281) (o := .cells #[.int .i64 (wrap64 (1 + t270)), .int .i64 (wrap64 (1 + t273)), .int .i64 t276, .int .i64 t277, .int .i64 t278] 127 (0, 0)) z5_ NB281_0.out (by simp)); have n2_ := q_ (KeepBut.trans z13_ hk (.inl rfl)); have n3_ := q_ (hb); have n4_ := q_ (hi); clear BK269; clear BK281; clear HK; clear HB; clear HI0; have BK269 := n0_; have BK281 := n1_; have HK := n2_; have HB := n3_; have HI0 := n4_; clear n0_ n1_ n2_ n3_ n4_; (try clear hb); (try clear hb2); (try clear hk); (try clear hi)) | ((with_reducible refine gate_dst (N := 26) rfl ?_); refine Kd.R_lit (Kd.int .i64) _ 3 ?hg (N := 26) ?hd (xs := ([0, 100000, 100001] : List Int)) (inner := [.int .i64 0, .int .i64 100000, .int .i64 100001]) (ok := fun _ => True) (okp := fun _ => True) ?hr ?hp (fun _ hk => hk) trivial (Below.refl _ _) (Nat.le_refl _) (by simp) ?_; (case hd => rfl); (case hg => rfl); (case hr => exact z195_); (case hp => exact (Reps.one (show Kd.M (Kd.int .i64) _ _ _ 0 [.int .i64 0] from rfl) (Reps.one (show Kd.M (Kd.int .i64) _ _ _ 100000 [.int .i64 100000] from rfl) (Reps.one (show Kd.M (Kd.int .i64) _ _ _ 100001 [.int .i64 100001] from rfl) (Reps.none _ _))))); intro v291 w45 ho46 hb hg_ hnew_; clear hg_ hnew_; (first | rw [← Ny290.out] at ho46 | (simp only [Int.reduceToNat] at ho46; rw [← Ny290.out] at ho46)); have n0_ := q_ (Kd.R_lower ho46 (keep_size (w := w) (g := g) (row := none) z13_)); have n1_ := q_ (IsS189.below z38_ hb); have n2_ := q_ (blk_below (g := gb269) (o := .cells #[.int .i64 0, .int .i64 0, .int .i64 0, .int .i64 0, .int .i64 0] 127 (0, 0)) z9_ hb); have n3_ := q_ (blk_below (g := gb281) (o := .cells #[.int .i64 (wrap64 (1 + t270)), .int .i64 (wrap64 (1 + t273)), .int .i64 t276, .int .i64 t277, .int .i64 t278] 127 (0, 0)) z108_ hb); have n4_ := q_ (KeepBut.trans z13_ (KeepBut.of_below hb g none) (.inl rfl)); have n5_ := q_ (below_step z49_ hb); clear HI0; clear BK269; clear BK281; clear HK; clear HB; have HO292 := n0_; have HI0 := n1_; have BK269 := n2_; have BK281 := n3_; have HK := n4_; have HB := n5_; clear n0_ n1_ n2_ n3_ n4_ n5_; clear hb ho46; obtain ⟨Ao47, co47, eo47⟩ := Kd.R_slice HO292.out; subst eo47) | ((with_reducible refine gate_callee (f := 167) rfl ?_); refine goesL_ (some 27) rfl rfl Try.func167 (by kernel_rfl) rfl #[.pointer (some ⟨g, 0, none⟩), .slice Ao47 y290.length co47] rfl z1_ ?_; (with_reducible refine (spec_l1PickInt.calls g s0_0 t283 t284 _ _ y290 t293 t294 t295 w0 _ ?side1 ?side2 ?side3 ?side4 ?side5 A35.out).mono ?_); (case side1 => exact z201_); (case side2 => exact z203_); (case side3 => repeat (first | exact (Kd.R_reads' HO292.out).2.2 | (with_reducible refine Kd.C_alloc ?_ _) | (with_reducible refine Kd.C_drewN ?_ _) | (with_reducible refine Kd.C_drew ?_))); (case side4 => exact (Kd.R_reads' HO292.out).2.1); (case side5 => exact far_slice (IsS189.own_ne HI0.out HO292.out (by decide))); rintro e w48 ⟨rfl, hi, hb, hk⟩; refine ⟨_, rfl, ?_⟩; have n0_ := q_ (KeepBut.blk hk (g' := gb269) (o := .cells #[.int .i64 0, .int .i64 0, .int .i64 0, .int .i64 0, .int .i64 0] 127 (0, 0)) z9_ NB269_0.out (by simp)); have n1_ := q_ (KeepBut.blk hk (g' := gb281) (o := .cells #[.int .i64 (wrap64 (1 + t270)), .int .i64 (wrap64 (1 + t273)), .int .i64 t276, .int .i64 t277, .int .i64 t278] 127 (0, 0)) z108_ NB281_0.out (by simp)); have n2_ := q_ (Kd.R_mono (Kd.R_keep (IsS189.apart (show IsS189 w0 _ g s0_0 t283 t284 from z38_) (by (with_reducible repeat (first | apply Kd.R_alloc | apply Kd.R_drewN | apply Kd.R_drew)); exact HO292.out) (by decide)) hk (fun _ h => h.2)) (fun _ h => h.1)); have n3_ := q_ (KeepBut.trans z13_ hk (.inl rfl)); have n4_ := q_ (hb); have n5_ := q_ (hi); clear BK269; clear BK281; clear HO292; clear HK; clear HB; clear HI0; have BK269 := n0_; have BK281 := n1_; have HO292 := n2_; have HK := n3_; have HB := n4_; have HI0 := n5_; clear n0_ n1_ n2_ n3_ n4_ n5_; (try clear hb); (try clear hb2); (try clear hk); (try clear hi); obtain ⟨hcz49_0, hcz49_1, hcz49_2, hcz49_3, hcz49_4, hfz49_0, hfz49_1, hfz49_2, hfz49_3, hfz49_4⟩ := cs5_ BK281.out; have hnb50 := NB269_0.out; have hnc50 := NB0_269.out; obtain ⟨hcz51_0, hcz51_1, hcz51_2, hcz51_3, hcz51_4, hfz51_0, hfz51_1, hfz51_2, hfz51_3, hfz51_4⟩ := cs5_ BK269.out))
    refine bodyPost_ret (results_cell_row rfl _ _ gb269 127 #[.int .i64 (wrap64 (1 + t270)), .int .i64 t293, .int .i64 t276, .int .i64 t277, .int .i64 t278] (0, 0) _ rfl (by (with_reducible repeat (first | refine blk_drewN ?_ _ | refine blk_drew ?_ | refine blk_alloc ?_ _)); refine blk_put (cs := #[.int .i64 (wrap64 (1 + t270)), .int .i64 t293, .int .i64 t276, .int .i64 t277, .int .i64 0]) ?_ 4 _ rfl; (with_reducible repeat (first | refine blk_drewN ?_ _ | refine blk_drew ?_ | refine blk_alloc ?_ _)); refine blk_put (cs := #[.int .i64 (wrap64 (1 + t270)), .int .i64 t293, .int .i64 t276, .int .i64 0, .int .i64 0]) ?_ 3 _ rfl; (with_reducible repeat (first | refine blk_drewN ?_ _ | refine blk_drew ?_ | refine blk_alloc ?_ _)); refine blk_put (cs := #[.int .i64 (wrap64 (1 + t270)), .int .i64 t293, .int .i64 0, .int .i64 0, .int .i64 0]) ?_ 2 _ rfl; (with_reducible repeat (first | refine blk_drewN ?_ _ | refine blk_drew ?_ | refine blk_alloc ?_ _)); refine blk_put (cs := #[.int .i64 (wrap64 (1 + t270)), .int .i64 0, .int .i64 0, .int .i64 0, .int .i64 0]) ?_ 1 _ rfl; (with_reducible repeat (first | refine blk_drewN ?_ _ | refine blk_drew ?_ | refine blk_alloc ?_ _)); refine blk_put (cs := #[.int .i64 0, .int .i64 0, .int .i64 0, .int .i64 0, .int .i64 0]) ?_ 0 _ rfl; (with_reducible repeat (first | refine blk_drewN ?_ _ | refine blk_drew ?_ | refine blk_alloc ?_ _)); refine blk_far ?_ NB269_281.out _; (with_reducible repeat (first | refine blk_drewN ?_ _ | refine blk_drew ?_ | refine blk_alloc ?_ _)); exact BK269.out) Try.underlying127 rfl (by kernel_rfl)) rfl ?_
    exact ⟨z4_, z38_, z49_, z13_⟩
   ·rw [if_neg c34] at H
    have c34b0 : (t282 == 2) = false := beq_eq_false_iff_ne.mpr c34
    have c34b1 : (t282 != 2) = true := bne_iff_ne.mpr c34
    by_cases c52 : t282 = 3
    ·rw [if_pos c52] at H
     have c52b0 : (t282 == 3) = true := beq_iff_eq.mpr c52
     have c52b1 : (t282 != 3) = false := bne_eq_false_iff_eq.mpr c52
     clear c52
     obtain ⟨y296, hy296⟩ : ∃ y_ : List Int, y_ = (([(-1), 9, 10] : List Int)) := ⟨_, rfl⟩
     replace H : ((spec_l1PickInt.f s0_0 t283 t284 y296).bind fun bt299 => (some (bt299.1, wrap64 (1 + t273), t276, t277, t278, bt299.2.1, bt299.2.2))) = some (r1, r2, r3, r4, r5, r6, r7) := by first | (rw [hy296]; with_reducible exact H) | (have H2_ := (Option.bind_some _ _).symm.trans H; rw [hy296]; with_reducible exact H2_) | (have H2_ := (Option.bind_some _ _).symm.trans H; with_reducible exact H2_) | with_reducible exact H | (rw [hy296]; exact H) | exact H
     have Ny296 := q_ hy296
     clear hy296
     replace H := Option.bind_eq_some_iff.mp H
     obtain ⟨⟨t299, t300, t301⟩, A530, H⟩ := H
     replace H : (some (t299, wrap64 (1 + t273), t276, t277, t278, t300, t301)) = some (r1, r2, r3, r4, r5, r6, r7) := H
     have A53 := q_ A530
     clear A530
     simp only [Option.some.injEq, Prod.mk.injEq] at H
     obtain ⟨rfl, rfl, rfl, rfl, rfl, rfl, rfl⟩ := H
     go_enter Try.func168, Try.ntmps168
     go_wp2_with (first | ((with_reducible refine gate_dst (N := 2) rfl ?_); refine box_event ?hg (N := 2) ?hd (cs := #[.int .i64 0, .int .i64 0, .int .i64 0, .int .i64 0, .int .i64 0]) (t := 127) ?hr ?_; (case hd => rfl); (case hg => rfl); (case hr => exact z195_); intro gb269 hg w54 hbox hb; have n0_ := q_ (IsS189.below z3_ hb); have n1_ := q_ (KeepBut.trans z2_ (KeepBut.of_below hb g none) (.inl rfl)); have n2_ := q_ (below_step z8_ hb); have n3_ := q_ (hbox); have n4_ := q_ ((z151_ : w.heap.size ≤ gb269)); have n5_ := q_ ((Nat.le_trans HW0.out (z151_ : w.heap.size ≤ gb269) : w0.heap.size ≤ gb269)); have n6_ := q_ ((z152_ : g ≠ gb269)); have n7_ := q_ ((z153_ : gb269 ≠ g)); clear HI0; clear HK; clear HB; have HI0 := n0_; have HK := n1_; have HB := n2_; have BK269 := n3_; have GW269 := n4_; have GE269 := n5_; have NB0_269 := n6_; have NB269_0 := n7_; clear n0_ n1_ n2_ n3_ n4_ n5_ n6_ n7_; clear hb hbox hg) | ((with_reducible refine gate_callee (f := 126) rfl ?_); refine goesL_ (some 5) rfl rfl Try.func126 (by kernel_rfl) rfl #[.pointer (some ⟨g, 0, none⟩), .int .i64 3] rfl z1_ ?_; (with_reducible refine (spec_l1Below.calls g s0_0 s0_1 s0_2 3 t270 t271 t272 w0 _ ?side1 ?side2 A2.out).mono ?_); (case side1 => exact z197_); (case side2 => exact z198_); rintro e w55 ⟨rfl, hi, hb, hk⟩; refine ⟨_, rfl, ?_⟩; have n0_ := q_ (KeepBut.blk hk (g' := gb269) (o := .cells #[.int .i64 0, .int .i64 0, .int .i64 0, .int .i64 0, .int .i64 0] 127 (0, 0)) z9_ NB269_0.out (by simp)); have n1_ := q_ (KeepBut.trans z6_ hk (.inl rfl)); have n2_ := q_ (hb); have n3_ := q_ (hi); clear BK269; clear HK; clear HB; clear HI0; have BK269 := n0_; have HK := n1_; have HB := n2_; have HI0 := n3_; clear n0_ n1_ n2_ n3_; (try clear hb); (try clear hb2); (try clear hk); (try clear hi)) | ((with_reducible refine gate_callee (f := 126) rfl ?_); refine goesL_ (some 8) rfl rfl Try.func126 (by kernel_rfl) rfl #[.pointer (some ⟨g, 0, none⟩), .int .i64 6] rfl z1_ ?_; (with_reducible refine (spec_l1Below.calls g s0_0 t271 t272 6 t273 t274 t275 w0 _ ?side1 ?side2 A3.out).mono ?_); (case side1 => exact z197_); (case side2 => exact z198_); rintro e w56 ⟨rfl, hi, hb, hk⟩; refine ⟨_, rfl, ?_⟩; have n0_ := q_ (KeepBut.blk hk (g' := gb269) (o := .cells #[.int .i64 0, .int .i64 0, .int .i64 0, .int .i64 0, .int .i64 0] 127 (0, 0)) z9_ NB269_0.out (by simp)); have n1_ := q_ (KeepBut.trans z6_ hk (.inl rfl)); have n2_ := q_ (hb); have n3_ := q_ (hi); clear BK269; clear HK; clear HB; clear HI0; have BK269 := n0_; have HK := n1_; have HB := n2_; have HI0 := n3_; clear n0_ n1_ n2_ n3_; (try clear hb); (try clear hb2); (try clear hk); (try clear hi)) | ((with_reducible refine gate_callee (f := 175) rfl ?_); refine goesL_ (some 11) rfl rfl Try.func175 (by kernel_rfl) rfl #[.pointer (some ⟨g, 0, none⟩)] rfl z1_ ?_; (with_reducible refine (spec_l1DrawMsg.calls k g s0_0 t274 t275 t276 t277 t278 t279 t280 w0 _ ?side1 ?side2 A4.out).mono ?_); (case side1 => exact z197_); (case side2 => exact z198_); rintro e w57 ⟨rfl, hi, hb, hk⟩; refine ⟨_, rfl, ?_⟩; have n0_ := q_ (KeepBut.blk hk (g' := gb269) (o := .cells #[.int .i64 0, .int .i64 0, .int .i64 0, .int .i64 0, .int .i64 0] 127 (0, 0)) z9_ NB269_0.out (by simp)); have n1_ := q_ (KeepBut.trans z6_ hk (.inl rfl)); have n2_ := q_ (hb); have n3_ := q_ (hi); clear BK269; clear HK; clear HB; clear HI0; have BK269 := n0_; have HK := n1_; have HB := n2_; have HI0 := n3_; clear n0_ n1_ n2_ n3_; (try clear hb); (try clear hb2); (try clear hk); (try clear hi)) | ((with_reducible refine gate_dst (N := 3) rfl ?_); refine box_event ?hg (N := 3) ?hd (cs := #[.int .i64 0, .int .i64 0, .int .i64 0, .int .i64 0, .int .i64 0]) (t := 127) ?hr ?_; (case hd => rfl); (case hg => rfl); (case hr => exact z195_); intro gb281 hg w58 hbox hb; have n0_ := q_ (IsS189.below z18_ hb); have n1_ := q_ (blk_below (g := gb269) (o := .cells #[.int .i64 0, .int .i64 0, .int .i64 0, .int .i64 0, .int .i64 0] 127 (0, 0)) z9_ hb); have n2_ := q_ (KeepBut.trans z6_ (KeepBut.of_below hb g none) (.inl rfl)); have n3_ := q_ (below_step z81_ hb); have n4_ := q_ (hbox); have n5_ := q_ ((z158_ : w.heap.size ≤ gb281)); have n6_ := q_ ((Nat.le_trans HW0.out (z158_ : w.heap.size ≤ gb281) : w0.heap.size ≤ gb281)); have n7_ := q_ ((z156_ : gb269 ≠ gb281)); have n8_ := q_ ((z157_ : gb281 ≠ gb269)); have n9_ := q_ ((z167_ : g ≠ gb281)); have n10_ := q_ ((z168_ : gb281 ≠ g)); clear HI0; clear BK269; clear HK; clear HB; have HI0 := n0_; have BK269 := n1_; have HK := n2_; have HB := n3_; have BK281 := n4_; have GW281 := n5_; have GE281 := n6_; have NB269_281 := n7_; have NB281_269 := n8_; have NB0_281 := n9_; have NB281_0 := n10_; clear n0_ n1_ n2_ n3_ n4_ n5_ n6_ n7_ n8_ n9_ n10_; clear hb hbox hg; have hnb59 := NB281_269.out; have hnc59 := NB269_281.out; have hnb60 := NB281_0.out; have hnc60 := NB0_281.out; obtain ⟨hcz61_0, hcz61_1, hcz61_2, hcz61_3, hcz61_4, hfz61_0, hfz61_1, hfz61_2, hfz61_3, hfz61_4⟩ := cs5_ BK281.out) | ((with_reducible refine gate_callee (f := 126) rfl ?_); refine goesL_ (some 14) rfl rfl Try.func126 (by kernel_rfl) rfl #[.pointer (some ⟨g, 0, none⟩), .int .i64 25] rfl z1_ ?_; (with_reducible refine (spec_l1Below.calls g s0_0 t279 t280 25 t282 t283 t284 w0 _ ?side1 ?side2 A5.out).mono ?_); (case side1 => exact z201_); (case side2 => exact z203_); rintro e w62 ⟨rfl, hi, hb, hk⟩; refine ⟨_, rfl, ?_⟩; have n0_ := q_ (KeepBut.blk hk (g' := gb269) (o := .cells #[.int .i64 0, .int .i64 0, .int .i64 0, .int .i64 0, .int .i64 0] 127 (0, 0)) z10_ NB269_0.out (by simp)); have n1_ := q_ (KeepBut.blk hk (g' := gb281) (o := .cells #[.int .i64 (wrap64 (1 + t270)), .int .i64 (wrap64 (1 + t273)), .int .i64 t276, .int .i64 t277, .int .i64 t278] 127 (0, 0)) z5_ NB281_0.out (by simp)); have n2_ := q_ (KeepBut.trans z13_ hk (.inl rfl)); have n3_ := q_ (hb); have n4_ := q_ (hi); clear BK269; clear BK281; clear HK; clear HB; clear HI0; have BK269 := n0_; have BK281 := n1_; have HK := n2_; have HB := n3_; have HI0 := n4_; clear n0_ n1_ n2_ n3_ n4_; (try clear hb); (try clear hb2); (try clear hk); (try clear hi)) | ((with_reducible refine gate_dst (N := 32) rfl ?_); refine Kd.R_lit (Kd.int .i64) _ 3 ?hg (N := 32) ?hd (xs := ([(-1), 9, 10] : List Int)) (inner := [.int .i64 (-1), .int .i64 9, .int .i64 10]) (ok := fun _ => True) (okp := fun _ => True) ?hr ?hp (fun _ hk => hk) trivial (Below.refl _ _) (Nat.le_refl _) (by simp) ?_; (case hd => rfl); (case hg => rfl); (case hr => exact z195_); (case hp => exact (Reps.one (show Kd.M (Kd.int .i64) _ _ _ (-1) [.int .i64 (-1)] from rfl) (Reps.one (show Kd.M (Kd.int .i64) _ _ _ 9 [.int .i64 9] from rfl) (Reps.one (show Kd.M (Kd.int .i64) _ _ _ 10 [.int .i64 10] from rfl) (Reps.none _ _))))); intro v297 w63 ho64 hb hg_ hnew_; clear hg_ hnew_; (first | rw [← Ny296.out] at ho64 | (simp only [Int.reduceToNat] at ho64; rw [← Ny296.out] at ho64)); have n0_ := q_ (Kd.R_lower ho64 (keep_size (w := w) (g := g) (row := none) z13_)); have n1_ := q_ (IsS189.below z38_ hb); have n2_ := q_ (blk_below (g := gb269) (o := .cells #[.int .i64 0, .int .i64 0, .int .i64 0, .int .i64 0, .int .i64 0] 127 (0, 0)) z9_ hb); have n3_ := q_ (blk_below (g := gb281) (o := .cells #[.int .i64 (wrap64 (1 + t270)), .int .i64 (wrap64 (1 + t273)), .int .i64 t276, .int .i64 t277, .int .i64 t278] 127 (0, 0)) z108_ hb); have n4_ := q_ (KeepBut.trans z13_ (KeepBut.of_below hb g none) (.inl rfl)); have n5_ := q_ (below_step z49_ hb); clear HI0; clear BK269; clear BK281; clear HK; clear HB; have HO298 := n0_; have HI0 := n1_; have BK269 := n2_; have BK281 := n3_; have HK := n4_; have HB := n5_; clear n0_ n1_ n2_ n3_ n4_ n5_; clear hb ho64; obtain ⟨Ao65, co65, eo65⟩ := Kd.R_slice HO298.out; subst eo65) | ((with_reducible refine gate_callee (f := 167) rfl ?_); refine goesL_ (some 33) rfl rfl Try.func167 (by kernel_rfl) rfl #[.pointer (some ⟨g, 0, none⟩), .slice Ao65 y296.length co65] rfl z1_ ?_; (with_reducible refine (spec_l1PickInt.calls g s0_0 t283 t284 _ _ y296 t299 t300 t301 w0 _ ?side1 ?side2 ?side3 ?side4 ?side5 A53.out).mono ?_); (case side1 => exact z201_); (case side2 => exact z203_); (case side3 => repeat (first | exact (Kd.R_reads' HO298.out).2.2 | (with_reducible refine Kd.C_alloc ?_ _) | (with_reducible refine Kd.C_drewN ?_ _) | (with_reducible refine Kd.C_drew ?_))); (case side4 => exact (Kd.R_reads' HO298.out).2.1); (case side5 => exact far_slice (IsS189.own_ne HI0.out HO298.out (by decide))); rintro e w66 ⟨rfl, hi, hb, hk⟩; refine ⟨_, rfl, ?_⟩; have n0_ := q_ (KeepBut.blk hk (g' := gb269) (o := .cells #[.int .i64 0, .int .i64 0, .int .i64 0, .int .i64 0, .int .i64 0] 127 (0, 0)) z9_ NB269_0.out (by simp)); have n1_ := q_ (KeepBut.blk hk (g' := gb281) (o := .cells #[.int .i64 (wrap64 (1 + t270)), .int .i64 (wrap64 (1 + t273)), .int .i64 t276, .int .i64 t277, .int .i64 t278] 127 (0, 0)) z108_ NB281_0.out (by simp)); have n2_ := q_ (Kd.R_mono (Kd.R_keep (IsS189.apart (show IsS189 w0 _ g s0_0 t283 t284 from z38_) (by (with_reducible repeat (first | apply Kd.R_alloc | apply Kd.R_drewN | apply Kd.R_drew)); exact HO298.out) (by decide)) hk (fun _ h => h.2)) (fun _ h => h.1)); have n3_ := q_ (KeepBut.trans z13_ hk (.inl rfl)); have n4_ := q_ (hb); have n5_ := q_ (hi); clear BK269; clear BK281; clear HO298; clear HK; clear HB; clear HI0; have BK269 := n0_; have BK281 := n1_; have HO298 := n2_; have HK := n3_; have HB := n4_; have HI0 := n5_; clear n0_ n1_ n2_ n3_ n4_ n5_; (try clear hb); (try clear hb2); (try clear hk); (try clear hi); obtain ⟨hcz67_0, hcz67_1, hcz67_2, hcz67_3, hcz67_4, hfz67_0, hfz67_1, hfz67_2, hfz67_3, hfz67_4⟩ := cs5_ BK281.out; have hnb68 := NB269_0.out; have hnc68 := NB0_269.out; obtain ⟨hcz69_0, hcz69_1, hcz69_2, hcz69_3, hcz69_4, hfz69_0, hfz69_1, hfz69_2, hfz69_3, hfz69_4⟩ := cs5_ BK269.out))
     refine bodyPost_ret (results_cell_row rfl _ _ gb269 127 #[.int .i64 t299, .int .i64 (wrap64 (1 + t273)), .int .i64 t276, .int .i64 t277, .int .i64 t278] (0, 0) _ rfl (by (with_reducible repeat (first | refine blk_drewN ?_ _ | refine blk_drew ?_ | refine blk_alloc ?_ _)); refine blk_put (cs := #[.int .i64 t299, .int .i64 (wrap64 (1 + t273)), .int .i64 t276, .int .i64 t277, .int .i64 0]) ?_ 4 _ rfl; (with_reducible repeat (first | refine blk_drewN ?_ _ | refine blk_drew ?_ | refine blk_alloc ?_ _)); refine blk_put (cs := #[.int .i64 t299, .int .i64 (wrap64 (1 + t273)), .int .i64 t276, .int .i64 0, .int .i64 0]) ?_ 3 _ rfl; (with_reducible repeat (first | refine blk_drewN ?_ _ | refine blk_drew ?_ | refine blk_alloc ?_ _)); refine blk_put (cs := #[.int .i64 t299, .int .i64 (wrap64 (1 + t273)), .int .i64 0, .int .i64 0, .int .i64 0]) ?_ 2 _ rfl; (with_reducible repeat (first | refine blk_drewN ?_ _ | refine blk_drew ?_ | refine blk_alloc ?_ _)); refine blk_put (cs := #[.int .i64 t299, .int .i64 0, .int .i64 0, .int .i64 0, .int .i64 0]) ?_ 1 _ rfl; (with_reducible repeat (first | refine blk_drewN ?_ _ | refine blk_drew ?_ | refine blk_alloc ?_ _)); refine blk_put (cs := #[.int .i64 0, .int .i64 0, .int .i64 0, .int .i64 0, .int .i64 0]) ?_ 0 _ rfl; (with_reducible repeat (first | refine blk_drewN ?_ _ | refine blk_drew ?_ | refine blk_alloc ?_ _)); refine blk_far ?_ NB269_281.out _; (with_reducible repeat (first | refine blk_drewN ?_ _ | refine blk_drew ?_ | refine blk_alloc ?_ _)); exact BK269.out) Try.underlying127 rfl (by kernel_rfl)) rfl ?_
     exact ⟨z4_, z38_, z49_, z13_⟩
    ·rw [if_neg c52] at H
     have c52b0 : (t282 == 3) = false := beq_eq_false_iff_ne.mpr c52
     have c52b1 : (t282 != 3) = true := bne_iff_ne.mpr c52
     simp only [Option.some.injEq, Prod.mk.injEq] at H
     obtain ⟨rfl, rfl, rfl, rfl, rfl, rfl, rfl⟩ := H
     go_enter Try.func168, Try.ntmps168
     go_wp2_with (first | ((with_reducible refine gate_dst (N := 2) rfl ?_); refine box_event ?hg (N := 2) ?hd (cs := #[.int .i64 0, .int .i64 0, .int .i64 0, .int .i64 0, .int .i64 0]) (t := 127) ?hr ?_; (case hd => rfl); (case hg => rfl); (case hr => exact z195_); intro gb269 hg w70 hbox hb; have n0_ := q_ (IsS189.below z3_ hb); have n1_ := q_ (KeepBut.trans z2_ (KeepBut.of_below hb g none) (.inl rfl)); have n2_ := q_ (below_step z8_ hb); have n3_ := q_ (hbox); have n4_ := q_ ((z151_ : w.heap.size ≤ gb269)); have n5_ := q_ ((Nat.le_trans HW0.out (z151_ : w.heap.size ≤ gb269) : w0.heap.size ≤ gb269)); have n6_ := q_ ((z152_ : g ≠ gb269)); have n7_ := q_ ((z153_ : gb269 ≠ g)); clear HI0; clear HK; clear HB; have HI0 := n0_; have HK := n1_; have HB := n2_; have BK269 := n3_; have GW269 := n4_; have GE269 := n5_; have NB0_269 := n6_; have NB269_0 := n7_; clear n0_ n1_ n2_ n3_ n4_ n5_ n6_ n7_; clear hb hbox hg) | ((with_reducible refine gate_callee (f := 126) rfl ?_); refine goesL_ (some 5) rfl rfl Try.func126 (by kernel_rfl) rfl #[.pointer (some ⟨g, 0, none⟩), .int .i64 3] rfl z1_ ?_; (with_reducible refine (spec_l1Below.calls g s0_0 s0_1 s0_2 3 t270 t271 t272 w0 _ ?side1 ?side2 A2.out).mono ?_); (case side1 => exact z197_); (case side2 => exact z198_); rintro e w71 ⟨rfl, hi, hb, hk⟩; refine ⟨_, rfl, ?_⟩; have n0_ := q_ (KeepBut.blk hk (g' := gb269) (o := .cells #[.int .i64 0, .int .i64 0, .int .i64 0, .int .i64 0, .int .i64 0] 127 (0, 0)) z9_ NB269_0.out (by simp)); have n1_ := q_ (KeepBut.trans z6_ hk (.inl rfl)); have n2_ := q_ (hb); have n3_ := q_ (hi); clear BK269; clear HK; clear HB; clear HI0; have BK269 := n0_; have HK := n1_; have HB := n2_; have HI0 := n3_; clear n0_ n1_ n2_ n3_; (try clear hb); (try clear hb2); (try clear hk); (try clear hi)) | ((with_reducible refine gate_callee (f := 126) rfl ?_); refine goesL_ (some 8) rfl rfl Try.func126 (by kernel_rfl) rfl #[.pointer (some ⟨g, 0, none⟩), .int .i64 6] rfl z1_ ?_; (with_reducible refine (spec_l1Below.calls g s0_0 t271 t272 6 t273 t274 t275 w0 _ ?side1 ?side2 A3.out).mono ?_); (case side1 => exact z197_); (case side2 => exact z198_); rintro e w72 ⟨rfl, hi, hb, hk⟩; refine ⟨_, rfl, ?_⟩; have n0_ := q_ (KeepBut.blk hk (g' := gb269) (o := .cells #[.int .i64 0, .int .i64 0, .int .i64 0, .int .i64 0, .int .i64 0] 127 (0, 0)) z9_ NB269_0.out (by simp)); have n1_ := q_ (KeepBut.trans z6_ hk (.inl rfl)); have n2_ := q_ (hb); have n3_ := q_ (hi); clear BK269; clear HK; clear HB; clear HI0; have BK269 := n0_; have HK := n1_; have HB := n2_; have HI0 := n3_; clear n0_ n1_ n2_ n3_; (try clear hb); (try clear hb2); (try clear hk); (try clear hi)) | ((with_reducible refine gate_callee (f := 175) rfl ?_); refine goesL_ (some 11) rfl rfl Try.func175 (by kernel_rfl) rfl #[.pointer (some ⟨g, 0, none⟩)] rfl z1_ ?_; (with_reducible refine (spec_l1DrawMsg.calls k g s0_0 t274 t275 t276 t277 t278 t279 t280 w0 _ ?side1 ?side2 A4.out).mono ?_); (case side1 => exact z197_); (case side2 => exact z198_); rintro e w73 ⟨rfl, hi, hb, hk⟩; refine ⟨_, rfl, ?_⟩; have n0_ := q_ (KeepBut.blk hk (g' := gb269) (o := .cells #[.int .i64 0, .int .i64 0, .int .i64 0, .int .i64 0, .int .i64 0] 127 (0, 0)) z9_ NB269_0.out (by simp)); have n1_ := q_ (KeepBut.trans z6_ hk (.inl rfl)); have n2_ := q_ (hb); have n3_ := q_ (hi); clear BK269; clear HK; clear HB; clear HI0; have BK269 := n0_; have HK := n1_; have HB := n2_; have HI0 := n3_; clear n0_ n1_ n2_ n3_; (try clear hb); (try clear hb2); (try clear hk); (try clear hi)) | ((with_reducible refine gate_dst (N := 3) rfl ?_); refine box_event ?hg (N := 3) ?hd (cs := #[.int .i64 0, .int .i64 0, .int .i64 0, .int .i64 0, .int .i64 0]) (t := 127) ?hr ?_; (case hd => rfl); (case hg => rfl); (case hr => exact z195_); intro gb281 hg w74 hbox hb; have n0_ := q_ (IsS189.below z18_ hb); have n1_ := q_ (blk_below (g := gb269) (o := .cells #[.int .i64 0, .int .i64 0, .int .i64 0, .int .i64 0, .int .i64 0] 127 (0, 0)) z9_ hb); have n2_ := q_ (KeepBut.trans z6_ (KeepBut.of_below hb g none) (.inl rfl)); have n3_ := q_ (below_step z81_ hb); have n4_ := q_ (hbox); have n5_ := q_ ((z158_ : w.heap.size ≤ gb281)); have n6_ := q_ ((Nat.le_trans HW0.out (z158_ : w.heap.size ≤ gb281) : w0.heap.size ≤ gb281)); have n7_ := q_ ((z156_ : gb269 ≠ gb281)); have n8_ := q_ ((z157_ : gb281 ≠ gb269)); have n9_ := q_ ((z167_ : g ≠ gb281)); have n10_ := q_ ((z168_ : gb281 ≠ g)); clear HI0; clear BK269; clear HK; clear HB; have HI0 := n0_; have BK269 := n1_; have HK := n2_; have HB := n3_; have BK281 := n4_; have GW281 := n5_; have GE281 := n6_; have NB269_281 := n7_; have NB281_269 := n8_; have NB0_281 := n9_; have NB281_0 := n10_; clear n0_ n1_ n2_ n3_ n4_ n5_ n6_ n7_ n8_ n9_ n10_; clear hb hbox hg; have hnb75 := NB281_269.out; have hnc75 := NB269_281.out; have hnb76 := NB281_0.out; have hnc76 := NB0_281.out; obtain ⟨hcz77_0, hcz77_1, hcz77_2, hcz77_3, hcz77_4, hfz77_0, hfz77_1, hfz77_2, hfz77_3, hfz77_4⟩ := cs5_ BK281.out) | ((with_reducible refine gate_callee (f := 126) rfl ?_); refine goesL_ (some 14) rfl rfl Try.func126 (by kernel_rfl) rfl #[.pointer (some ⟨g, 0, none⟩), .int .i64 25] rfl z1_ ?_; (with_reducible refine (spec_l1Below.calls g s0_0 t279 t280 25 t282 t283 t284 w0 _ ?side1 ?side2 A5.out).mono ?_); (case side1 => exact z201_); (case side2 => exact z203_); rintro e w78 ⟨rfl, hi, hb, hk⟩; refine ⟨_, rfl, ?_⟩; have n0_ := q_ (KeepBut.blk hk (g' := gb269) (o := .cells #[.int .i64 0, .int .i64 0, .int .i64 0, .int .i64 0, .int .i64 0] 127 (0, 0)) z10_ NB269_0.out (by simp)); have n1_ := q_ (KeepBut.blk hk (g' := gb281) (o := .cells #[.int .i64 (wrap64 (1 + t270)), .int .i64 (wrap64 (1 + t273)), .int .i64 t276, .int .i64 t277, .int .i64 t278] 127 (0, 0)) z5_ NB281_0.out (by simp)); have n2_ := q_ (KeepBut.trans z13_ hk (.inl rfl)); have n3_ := q_ (hb); have n4_ := q_ (hi); clear BK269; clear BK281; clear HK; clear HB; clear HI0; have BK269 := n0_; have BK281 := n1_; have HK := n2_; have HB := n3_; have HI0 := n4_; clear n0_ n1_ n2_ n3_ n4_; (try clear hb); (try clear hb2); (try clear hk); (try clear hi); obtain ⟨hcz79_0, hcz79_1, hcz79_2, hcz79_3, hcz79_4, hfz79_0, hfz79_1, hfz79_2, hfz79_3, hfz79_4⟩ := cs5_ BK281.out; have hnb80 := NB269_0.out; have hnc80 := NB0_269.out; obtain ⟨hcz81_0, hcz81_1, hcz81_2, hcz81_3, hcz81_4, hfz81_0, hfz81_1, hfz81_2, hfz81_3, hfz81_4⟩ := cs5_ BK269.out))
     refine bodyPost_ret (results_cell_row rfl _ _ gb269 127 #[.int .i64 (wrap64 (1 + t270)), .int .i64 (wrap64 (1 + t273)), .int .i64 t276, .int .i64 t277, .int .i64 t278] (0, 0) _ rfl (by (with_reducible repeat (first | refine blk_drewN ?_ _ | refine blk_drew ?_ | refine blk_alloc ?_ _)); refine blk_put (cs := #[.int .i64 (wrap64 (1 + t270)), .int .i64 (wrap64 (1 + t273)), .int .i64 t276, .int .i64 t277, .int .i64 0]) ?_ 4 _ rfl; (with_reducible repeat (first | refine blk_drewN ?_ _ | refine blk_drew ?_ | refine blk_alloc ?_ _)); refine blk_put (cs := #[.int .i64 (wrap64 (1 + t270)), .int .i64 (wrap64 (1 + t273)), .int .i64 t276, .int .i64 0, .int .i64 0]) ?_ 3 _ rfl; (with_reducible repeat (first | refine blk_drewN ?_ _ | refine blk_drew ?_ | refine blk_alloc ?_ _)); refine blk_put (cs := #[.int .i64 (wrap64 (1 + t270)), .int .i64 (wrap64 (1 + t273)), .int .i64 0, .int .i64 0, .int .i64 0]) ?_ 2 _ rfl; (with_reducible repeat (first | refine blk_drewN ?_ _ | refine blk_drew ?_ | refine blk_alloc ?_ _)); refine blk_put (cs := #[.int .i64 (wrap64 (1 + t270)), .int .i64 0, .int .i64 0, .int .i64 0, .int .i64 0]) ?_ 1 _ rfl; (with_reducible repeat (first | refine blk_drewN ?_ _ | refine blk_drew ?_ | refine blk_alloc ?_ _)); refine blk_put (cs := #[.int .i64 0, .int .i64 0, .int .i64 0, .int .i64 0, .int .i64 0]) ?_ 0 _ rfl; (with_reducible repeat (first | refine blk_drewN ?_ _ | refine blk_drew ?_ | refine blk_alloc ?_ _)); exact BK269.out) Try.underlying127 rfl (by kernel_rfl)) rfl ?_
     exact ⟨z4_, z38_, z49_, z13_⟩

/-! ### spec_l8Draw: function 124 -/
def spec_l8Draw.f (k : Nat) (s0_0 : List Int) (s0_1 : Int) (s0_2 : Int) : Option (Int × Int × (List (S129)) × Int × Int) := (spec_l8DrawRight.f k s0_0 s0_1 s0_2).bind fun bt303 => ((spec_l1Below.f s0_0 bt303.2.2.2.1 bt303.2.2.2.2 20).bind fun bt311 => (if bt311.1 = 0 then ((spec_l1PickInt.f s0_0 bt311.2.1 bt311.2.2 (([(-1), 100000, 100001] : List Int))).bind fun bt317 => (some (bt317.1, bt303.2.1, bt303.2.2.1, bt317.2.1, bt317.2.2))) else (if bt311.1 = 1 then ((spec_l1Below.f s0_0 bt311.2.1 bt311.2.2 9).bind fun bt320 => (some (bt303.1, bt320.1, bt303.2.2.1, bt320.2.1, bt320.2.2))) else (if bt311.1 = 2 then ((spec_l1Below.f s0_0 bt311.2.1 bt311.2.2 3).bind fun bt323 => ((spec_l7DrawCmd.f k s0_0 bt323.2.1 bt323.2.2).bind fun bt326 => (if bt303.2.2.1.length < 2932031007402 then (some (bt303.1, bt303.2.1, (bt303.2.2.1 ++ [(⟨bt323.1, (⟨bt326.1, bt326.2.1, (⟨bt326.2.2.1, bt326.2.2.2.1, bt326.2.2.2.2.1⟩ : S67)⟩ : S127)⟩ : S129)]), bt326.2.2.2.2.2.1, bt326.2.2.2.2.2.2)) else (none)))) else (some (bt303.1, bt303.2.1, bt303.2.2.1, bt311.2.1, bt311.2.2))))))
theorem spec_l8Draw.mono : ∀ a0 a1 a2 k, LeO (spec_l8Draw.f k a0 a1 a2) (spec_l8Draw.f (k + 1) a0 a1 a2) := by
 intro a0 a1 a2 k
 unfold spec_l8Draw.f
 repeat' first
   | (with_reducible exact spec_l7DrawCmd.mono _ _ _ _)
   | (with_reducible exact spec_l8DrawRight.mono _ _ _ _)
   | (with_reducible exact LeO.refl _)
   | (with_reducible exact LeO.none _)
   | (with_reducible refine LeO.ite ?_ ?_)
   | (with_reducible refine LeO.bind ?_ (fun _ => ?_))
   | exact spec_l7DrawCmd.mono _ _ _ _
   | exact spec_l8DrawRight.mono _ _ _ _
   | exact LeO.none _
   | refine LeO.ite ?_ ?_
   | refine LeO.bind ?_ (fun _ => ?_)
def spec_l8Draw.T8 : Bool × List (List Nat × List Nat) := (true, [([], []), ([0], [0]), ([], []), ([2], [2]), ([], []), ([4, 3], [4]), ([3, 5], [3, 5]), ([6], [6]), ([1, 7, 5], [1, 7]), ([0, 1, 2, 3, 4, 5, 6, 7, 8], []), ([9, 8, 8, 0, 1, 2, 3, 4, 5, 6, 7, 8], [8, 9])])
def spec_l8Draw.B8 : List Nat := [0, 1, 0, 4, 0, 28, 60, 124, 255, 511, 1023]
theorem spec_l8Draw.tab8 : rtab .any (opsOf Try.f124 8) = spec_l8Draw.T8 := by kernel_rfl
theorem spec_l8Draw.bits8 : waitsOk spec_l8Draw.T8.2 spec_l8Draw.B8 = true := by kernel_rfl
set_option maxHeartbeats 8000000 in
set_option maxRecDepth 100000 in
theorem spec_l8Draw.calls (k : Nat) (g : Nat) (s0_0 : List Int) (s0_1 : Int) (s0_2 : Int) (r1 : Int) (r2 : Int) (r3 : List (S129)) (r4 : Int) (r5 : Int) (w0 w : World) (hI : IsS189 w0 w g s0_0 s0_1 s0_2) (hB : Below w0.heap.size w0 w) (h : spec_l8Draw.f k s0_0 s0_1 s0_2 = some (r1, r2, r3, r4, r5)) :
  Calls Try.prog 124 #[.pointer (some ⟨g, 0, none⟩)] w fun e w' => ∃ v2_ : Value, e = .returned (.agg #[.int .i64 r1, .int .i64 r2, v2_]) ∧ Kd.R k129 129 w' w.heap.size (fun _ => True) v2_ r3 ∧ IsS189 w0 w' g s0_0 r4 r5 ∧ Below w0.heap.size w0 w' ∧ KeepBut w w' g none := by
 have hu36 := Try.underlying36
 have hu129 := Try.underlying129
 have HI0 := q_ hI
 have HK := q_ (KeepBut.refl w g none)
 have HL := q_ hB.size
 clear hI
 have HW0 := q_ hB.size
 have HB := q_ hB
 clear hB
 have H : ((spec_l8DrawRight.f k s0_0 s0_1 s0_2).bind fun bt303 => ((spec_l1Below.f s0_0 bt303.2.2.2.1 bt303.2.2.2.2 20).bind fun bt311 => (if bt311.1 = 0 then ((spec_l1PickInt.f s0_0 bt311.2.1 bt311.2.2 (([(-1), 100000, 100001] : List Int))).bind fun bt317 => (some (bt317.1, bt303.2.1, bt303.2.2.1, bt317.2.1, bt317.2.2))) else (if bt311.1 = 1 then ((spec_l1Below.f s0_0 bt311.2.1 bt311.2.2 9).bind fun bt320 => (some (bt303.1, bt320.1, bt303.2.2.1, bt320.2.1, bt320.2.2))) else (if bt311.1 = 2 then ((spec_l1Below.f s0_0 bt311.2.1 bt311.2.2 3).bind fun bt323 => ((spec_l7DrawCmd.f k s0_0 bt323.2.1 bt323.2.2).bind fun bt326 => (if bt303.2.2.1.length < 2932031007402 then (some (bt303.1, bt303.2.1, (bt303.2.2.1 ++ [(⟨bt323.1, (⟨bt326.1, bt326.2.1, (⟨bt326.2.2.1, bt326.2.2.2.1, bt326.2.2.2.2.1⟩ : S67)⟩ : S127)⟩ : S129)]), bt326.2.2.2.2.2.1, bt326.2.2.2.2.2.2)) else (none)))) else (some (bt303.1, bt303.2.1, bt303.2.2.1, bt311.2.1, bt311.2.2))))))) = some (r1, r2, r3, r4, r5) := h
 clear h
 replace H := Option.bind_eq_some_iff.mp H
 obtain ⟨⟨t303, t304, t305, t308, t309⟩, A20, H⟩ := H
 replace H : ((spec_l1Below.f s0_0 t308 t309 20).bind fun bt311 => (if bt311.1 = 0 then ((spec_l1PickInt.f s0_0 bt311.2.1 bt311.2.2 (([(-1), 100000, 100001] : List Int))).bind fun bt317 => (some (bt317.1, t304, t305, bt317.2.1, bt317.2.2))) else (if bt311.1 = 1 then ((spec_l1Below.f s0_0 bt311.2.1 bt311.2.2 9).bind fun bt320 => (some (t303, bt320.1, t305, bt320.2.1, bt320.2.2))) else (if bt311.1 = 2 then ((spec_l1Below.f s0_0 bt311.2.1 bt311.2.2 3).bind fun bt323 => ((spec_l7DrawCmd.f k s0_0 bt323.2.1 bt323.2.2).bind fun bt326 => (if t305.length < 2932031007402 then (some (t303, t304, (t305 ++ [(⟨bt323.1, (⟨bt326.1, bt326.2.1, (⟨bt326.2.2.1, bt326.2.2.2.1, bt326.2.2.2.2.1⟩ : S67)⟩ : S127)⟩ : S129)]), bt326.2.2.2.2.2.1, bt326.2.2.2.2.2.2)) else (none)))) else (some (t303, t304, t305, bt311.2.1, bt311.2.2)))))) = some (r1, r2, r3, r4, r5) := H
 have A2 := q_ A20
 clear A20
 replace H := Option.bind_eq_some_iff.mp H
 obtain ⟨⟨t311, t312, t313⟩, A30, H⟩ := H
 replace H : (if t311 = 0 then ((spec_l1PickInt.f s0_0 t312 t313 (([(-1), 100000, 100001] : List Int))).bind fun bt317 => (some (bt317.1, t304, t305, bt317.2.1, bt317.2.2))) else (if t311 = 1 then ((spec_l1Below.f s0_0 t312 t313 9).bind fun bt320 => (some (t303, bt320.1, t305, bt320.2.1, bt320.2.2))) else (if t311 = 2 then ((spec_l1Below.f s0_0 t312 t313 3).bind fun bt323 => ((spec_l7DrawCmd.f k s0_0 bt323.2.1 bt323.2.2).bind fun bt326 => (if t305.length < 2932031007402 then (some (t303, t304, (t305 ++ [(⟨bt323.1, (⟨bt326.1, bt326.2.1, (⟨bt326.2.2.1, bt326.2.2.2.1, bt326.2.2.2.2.1⟩ : S67)⟩ : S127)⟩ : S129)]), bt326.2.2.2.2.2.1, bt326.2.2.2.2.2.2)) else (none)))) else (some (t303, t304, t305, t312, t313))))) = some (r1, r2, r3, r4, r5) := H
 have A3 := q_ A30
 clear A30
 by_cases c4 : t311 = 0
 ·rw [if_pos c4] at H
  have c4b0 : (t311 == 0) = true := beq_iff_eq.mpr c4
  have c4b1 : (t311 != 0) = false := bne_eq_false_iff_eq.mpr c4
  clear c4
  obtain ⟨y314, hy314⟩ : ∃ y_ : List Int, y_ = (([(-1), 100000, 100001] : List Int)) := ⟨_, rfl⟩
  replace H : ((spec_l1PickInt.f s0_0 t312 t313 y314).bind fun bt317 => (some (bt317.1, t304, t305, bt317.2.1, bt317.2.2))) = some (r1, r2, r3, r4, r5) := by first | (rw [hy314]; with_reducible exact H) | (have H2_ := (Option.bind_some _ _).symm.trans H; rw [hy314]; with_reducible exact H2_) | (have H2_ := (Option.bind_some _ _).symm.trans H; with_reducible exact H2_) | with_reducible exact H | (rw [hy314]; exact H) | exact H
  have Ny314 := q_ hy314
  clear hy314
  replace H := Option.bind_eq_some_iff.mp H
  obtain ⟨⟨t317, t318, t319⟩, A50, H⟩ := H
  replace H : (some (t317, t304, t305, t318, t319)) = some (r1, r2, r3, r4, r5) := H
  have A5 := q_ A50
  clear A50
  simp only [Option.some.injEq, Prod.mk.injEq] at H
  obtain ⟨rfl, rfl, rfl, rfl, rfl⟩ := H
  go_enter Try.func124, Try.ntmps124
  go_wp2_with (first | ((with_reducible refine gate_dst (N := 2) rfl ?_); refine box_event ?hg (N := 2) ?hd (cs := #[.int .i64 0, .int .i64 0, .slice none 0 0]) (t := 36) ?hr ?_; (case hd => rfl); (case hg => rfl); (case hr => exact z195_); intro gb302 hg w6 hbox hb; have n0_ := q_ (IsS189.below z3_ hb); have n1_ := q_ (KeepBut.trans z2_ (KeepBut.of_below hb g none) (.inl rfl)); have n2_ := q_ (below_step z8_ hb); have n3_ := q_ (hbox); have n4_ := q_ ((z151_ : w.heap.size ≤ gb302)); have n5_ := q_ ((Nat.le_trans HW0.out (z151_ : w.heap.size ≤ gb302) : w0.heap.size ≤ gb302)); have n6_ := q_ ((z152_ : g ≠ gb302)); have n7_ := q_ ((z153_ : gb302 ≠ g)); clear HI0; clear HK; clear HB; have HI0 := n0_; have HK := n1_; have HB := n2_; have BK302 := n3_; have GW302 := n4_; have GE302 := n5_; have NB0_302 := n6_; have NB302_0 := n7_; clear n0_ n1_ n2_ n3_ n4_ n5_ n6_ n7_; clear hb hbox hg) | ((with_reducible refine gate_callee (f := 166) rfl ?_); refine goesL_ (some 5) rfl rfl Try.func166 (by kernel_rfl) rfl #[.pointer (some ⟨g, 0, none⟩)] rfl z1_ ?_; (with_reducible refine (spec_l8DrawRight.calls k g s0_0 s0_1 s0_2 t303 t304 t305 t308 t309 w0 _ ?side1 ?side2 A2.out).mono ?_); (case side1 => exact z213_); (case side2 => exact z215_); rintro e w7 ⟨v306, rfl, ho0, hi, hb, hk⟩; refine ⟨_, rfl, ?_⟩; have n0_ := q_ (KeepBut.blk hk (g' := gb302) (o := .cells #[.int .i64 0, .int .i64 0, .slice none 0 0] 36 (0, 0)) z28_ NB302_0.out (by simp)); have n1_ := q_ (Kd.R_lower ho0 (keep_size (w := w) (g := g) (row := none) z14_)); have n2_ := q_ (KeepBut.trans z14_ hk (.inl rfl)); have n3_ := q_ (hb); have n4_ := q_ (hi); clear BK302; clear HK; clear HB; clear HI0; have BK302 := n0_; have HO307 := n1_; have HK := n2_; have HB := n3_; have HI0 := n4_; clear n0_ n1_ n2_ n3_ n4_; (try clear hb); (try clear hb2); (try clear hk); (try clear hi); (try clear ho0)) | ((with_reducible refine gate_dst (N := 3) rfl ?_); refine box_event ?hg (N := 3) ?hd (cs := #[.int .i64 0, .int .i64 0, .slice none 0 0]) (t := 36) ?hr ?_; (case hd => rfl); (case hg => rfl); (case hr => exact z195_); intro gb310 hg w8 hbox hb; have n0_ := q_ (Kd.R_below z76_ hb); have n1_ := q_ (IsS189.below z31_ hb); have n2_ := q_ (blk_below (g := gb302) (o := .cells #[.int .i64 0, .int .i64 0, .slice none 0 0] 36 (0, 0)) z28_ hb); have n3_ := q_ (KeepBut.trans z14_ (KeepBut.of_below hb g none) (.inl rfl)); have n4_ := q_ (below_step z94_ hb); have n5_ := q_ (hbox); have n6_ := q_ ((z162_ : w.heap.size ≤ gb310)); have n7_ := q_ ((Nat.le_trans HW0.out (z162_ : w.heap.size ≤ gb310) : w0.heap.size ≤ gb310)); have n8_ := q_ ((z163_ : gb302 ≠ gb310)); have n9_ := q_ ((z164_ : gb310 ≠ gb302)); have n10_ := q_ ((z177_ : g ≠ gb310)); have n11_ := q_ ((z178_ : gb310 ≠ g)); clear HO307; clear HI0; clear BK302; clear HK; clear HB; have HO307 := n0_; have HI0 := n1_; have BK302 := n2_; have HK := n3_; have HB := n4_; have BK310 := n5_; have GW310 := n6_; have GE310 := n7_; have NB302_310 := n8_; have NB310_302 := n9_; have NB0_310 := n10_; have NB310_0 := n11_; clear n0_ n1_ n2_ n3_ n4_ n5_ n6_ n7_ n8_ n9_ n10_ n11_; clear hb hbox hg; have hnb9 := NB310_302.out; have hnc9 := NB302_310.out; have hnb10 := NB310_0.out; have hnc10 := NB0_310.out; obtain ⟨hcz11_0, hcz11_1, hcz11_2, hfz11_0, hfz11_1, hfz11_2⟩ := cs3_ BK310.out; obtain ⟨Ao12, co12, eo12⟩ := Kd.R_slice HO307.out; subst eo12) | ((with_reducible refine gate_callee (f := 126) rfl ?_); refine goesL_ (some 7) rfl rfl Try.func126 (by kernel_rfl) rfl #[.pointer (some ⟨g, 0, none⟩), .int .i64 20] rfl z1_ ?_; (with_reducible refine (spec_l1Below.calls g s0_0 t308 t309 20 t311 t312 t313 w0 _ ?side1 ?side2 A3.out).mono ?_); (case side1 => exact z202_); (case side2 => exact z204_); rintro e w13 ⟨rfl, hi, hb, hk⟩; refine ⟨_, rfl, ?_⟩; have n0_ := q_ (KeepBut.blk hk (g' := gb302) (o := .cells #[.int .i64 0, .int .i64 0, .slice none 0 0] 36 (0, 0)) z42_ NB302_0.out (by simp)); have n1_ := q_ (Kd.R_mono (Kd.R_keep (IsS189.apart (show IsS189 w0 _ g s0_0 t308 t309 from z11_) (by (with_reducible repeat (first | apply Kd.R_alloc | apply Kd.R_drewN | apply Kd.R_drew)); exact (Kd.R_mono (Kd.R_far (p := ⟨gb310, 2, none⟩) (Kd.R_far (p := ⟨gb310, 1, none⟩) (Kd.R_far (p := ⟨gb310, 0, none⟩) (Kd.R_types HO307.out BK310.out (by decide)) (fun _ hk => hk.2) (.int .i64 t303)) (fun _ hk => hk.2) (.int .i64 t304)) (fun _ hk => hk.2) (.slice Ao12 t305.length co12)) (fun _ h_ => h_.1))) (by decide)) hk (fun _ h => h.2)) (fun _ h => h.1)); have n2_ := q_ (KeepBut.blk hk (g' := gb310) (o := .cells #[.int .i64 t303, .int .i64 t304, .slice Ao12 t305.length co12] 36 (0, 0)) z26_ NB310_0.out (by simp)); have n3_ := q_ (KeepBut.trans z16_ hk (.inl rfl)); have n4_ := q_ (hb); have n5_ := q_ (hi); clear BK302; clear HO307; clear BK310; clear HK; clear HB; clear HI0; have BK302 := n0_; have HO307 := n1_; have BK310 := n2_; have HK := n3_; have HB := n4_; have HI0 := n5_; clear n0_ n1_ n2_ n3_ n4_ n5_; (try clear hb); (try clear hb2); (try clear hk); (try clear hi)) | ((with_reducible refine gate_dst (N := 11) rfl ?_); refine Kd.R_lit (Kd.int .i64) _ 3 ?hg (N := 11) ?hd (xs := ([(-1), 100000, 100001] : List Int)) (inner := [.int .i64 (-1), .int .i64 100000, .int .i64 100001]) (ok := fun _ => True) (okp := fun _ => True) ?hr ?hp (fun _ hk => hk) trivial (Below.refl _ _) (Nat.le_refl _) (by simp) ?_; (case hd => rfl); (case hg => rfl); (case hr => exact z195_); (case hp => exact (Reps.one (show Kd.M (Kd.int .i64) _ _ _ (-1) [.int .i64 (-1)] from rfl) (Reps.one (show Kd.M (Kd.int .i64) _ _ _ 100000 [.int .i64 100000] from rfl) (Reps.one (show Kd.M (Kd.int .i64) _ _ _ 100001 [.int .i64 100001] from rfl) (Reps.none _ _))))); intro v315 w14 ho15 hb hg_ hnew_; clear hg_ hnew_; (first | rw [← Ny314.out] at ho15 | (simp only [Int.reduceToNat] at ho15; rw [← Ny314.out] at ho15)); have n0_ := q_ (Kd.R_below z76_ hb); have n1_ := q_ (Kd.R_lower ho15 (keep_size (w := w) (g := g) (row := none) z16_)); have n2_ := q_ (IsS189.below z11_ hb); have n3_ := q_ (blk_below (g := gb302) (o := .cells #[.int .i64 0, .int .i64 0, .slice none 0 0] 36 (0, 0)) z28_ hb); have n4_ := q_ (blk_below (g := gb310) (o := .cells #[.int .i64 t303, .int .i64 t304, .slice Ao12 t305.length co12] 36 (0, 0)) z99_ hb); have n5_ := q_ (KeepBut.trans z16_ (KeepBut.of_below hb g none) (.inl rfl)); have n6_ := q_ (below_step z57_ hb); clear HO307; clear HI0; clear BK302; clear BK310; clear HK; clear HB; have HO307 := n0_; have HO316 := n1_; have HI0 := n2_; have BK302 := n3_; have BK310 := n4_; have HK := n5_; have HB := n6_; clear n0_ n1_ n2_ n3_ n4_ n5_ n6_; clear hb ho15; obtain ⟨Ao16, co16, eo16⟩ := Kd.R_slice HO316.out; subst eo16) | ((with_reducible refine gate_callee (f := 167) rfl ?_); refine goesL_ (some 12) rfl rfl Try.func167 (by kernel_rfl) rfl #[.pointer (some ⟨g, 0, none⟩), .slice Ao16 y314.length co16] rfl z1_ ?_; (with_reducible refine (spec_l1PickInt.calls g s0_0 t312 t313 _ _ y314 t317 t318 t319 w0 _ ?side1 ?side2 ?side3 ?side4 ?side5 A5.out).mono ?_); (case side1 => exact z202_); (case side2 => exact z204_); (case side3 => repeat (first | exact (Kd.R_reads' HO316.out).2.2 | (with_reducible refine Kd.C_alloc ?_ _) | (with_reducible refine Kd.C_drewN ?_ _) | (with_reducible refine Kd.C_drew ?_))); (case side4 => exact (Kd.R_reads' HO316.out).2.1); (case side5 => exact far_slice (IsS189.own_ne HI0.out HO316.out (by decide))); rintro e w17 ⟨rfl, hi, hb, hk⟩; refine ⟨_, rfl, ?_⟩; have n0_ := q_ (KeepBut.blk hk (g' := gb302) (o := .cells #[.int .i64 0, .int .i64 0, .slice none 0 0] 36 (0, 0)) z28_ NB302_0.out (by simp)); have n1_ := q_ (Kd.R_mono (Kd.R_keep (IsS189.apart (show IsS189 w0 _ g s0_0 t312 t313 from z11_) z76_ (by decide)) hk (fun _ h => h.2)) (fun _ h => h.1)); have n2_ := q_ (KeepBut.blk hk (g' := gb310) (o := .cells #[.int .i64 t303, .int .i64 t304, .slice Ao12 t305.length co12] 36 (0, 0)) z99_ NB310_0.out (by simp)); have n3_ := q_ (Kd.R_mono (Kd.R_keep (IsS189.apart (show IsS189 w0 _ g s0_0 t312 t313 from z11_) (by (with_reducible repeat (first | apply Kd.R_alloc | apply Kd.R_drewN | apply Kd.R_drew)); exact HO316.out) (by decide)) hk (fun _ h => h.2)) (fun _ h => h.1)); have n4_ := q_ (KeepBut.trans z16_ hk (.inl rfl)); have n5_ := q_ (hb); have n6_ := q_ (hi); clear BK302; clear HO307; clear BK310; clear HO316; clear HK; clear HB; clear HI0; have BK302 := n0_; have HO307 := n1_; have BK310 := n2_; have HO316 := n3_; have HK := n4_; have HB := n5_; have HI0 := n6_; clear n0_ n1_ n2_ n3_ n4_ n5_ n6_; (try clear hb); (try clear hb2); (try clear hk); (try clear hi); obtain ⟨hcz18_0, hcz18_1, hcz18_2, hfz18_0, hfz18_1, hfz18_2⟩ := cs3_ BK310.out; have hnb19 := NB302_0.out; have hnc19 := NB0_302.out; obtain ⟨hcz20_0, hcz20_1, hcz20_2, hfz20_0, hfz20_1, hfz20_2⟩ := cs3_ BK302.out))
  refine bodyPost_ret (results_cell_row rfl _ _ gb302 36 #[.int .i64 t317, .int .i64 t304, .slice Ao12 t305.length co12] (0, 0) _ rfl (by (with_reducible repeat (first | refine blk_drewN ?_ _ | refine blk_drew ?_ | refine blk_alloc ?_ _)); refine blk_put (cs := #[.int .i64 t317, .int .i64 t304, .slice none 0 0]) ?_ 2 _ rfl; (with_reducible repeat (first | refine blk_drewN ?_ _ | refine blk_drew ?_ | refine blk_alloc ?_ _)); refine blk_put (cs := #[.int .i64 t317, .int .i64 0, .slice none 0 0]) ?_ 1 _ rfl; (with_reducible repeat (first | refine blk_drewN ?_ _ | refine blk_drew ?_ | refine blk_alloc ?_ _)); refine blk_put (cs := #[.int .i64 0, .int .i64 0, .slice none 0 0]) ?_ 0 _ rfl; (with_reducible repeat (first | refine blk_drewN ?_ _ | refine blk_drew ?_ | refine blk_alloc ?_ _)); refine blk_far ?_ NB302_310.out _; (with_reducible repeat (first | refine blk_drewN ?_ _ | refine blk_drew ?_ | refine blk_alloc ?_ _)); exact BK302.out) Try.underlying36 rfl (by kernel_rfl)) rfl ?_
  exact ⟨_, z4_, by (with_reducible repeat (first | apply Kd.R_alloc | apply Kd.R_drewN | apply Kd.R_drew)); exact Kd.R_mono (Kd.R_far (p := ⟨gb302, 2, none⟩) (Kd.R_far (p := ⟨gb302, 1, none⟩) (Kd.R_far (p := ⟨gb302, 0, none⟩) (Kd.R_far (p := ⟨gb310, 0, none⟩) (Kd.R_types (Kd.R_types HO307.out BK310.out (by decide)) BK302.out (by decide)) (fun _ hk => hk.1.2) (.int .i64 t317)) (fun _ hk => hk.2) (.int .i64 t317)) (fun _ hk => hk.2) (.int .i64 t304)) (fun _ hk => hk.2) (.slice Ao12 t305.length co12)) (fun _ hk => trivial), z11_, z57_, z16_⟩
 ·rw [if_neg c4] at H
  have c4b0 : (t311 == 0) = false := beq_eq_false_iff_ne.mpr c4
  have c4b1 : (t311 != 0) = true := bne_iff_ne.mpr c4
  by_cases c21 : t311 = 1
  ·rw [if_pos c21] at H
   have c21b0 : (t311 == 1) = true := beq_iff_eq.mpr c21
   have c21b1 : (t311 != 1) = false := bne_eq_false_iff_eq.mpr c21
   clear c21
   replace H := Option.bind_eq_some_iff.mp H
   obtain ⟨⟨t320, t321, t322⟩, A220, H⟩ := H
   replace H : (some (t303, t320, t305, t321, t322)) = some (r1, r2, r3, r4, r5) := H
   have A22 := q_ A220
   clear A220
   simp only [Option.some.injEq, Prod.mk.injEq] at H
   obtain ⟨rfl, rfl, rfl, rfl, rfl⟩ := H
   go_enter Try.func124, Try.ntmps124
   go_wp2_with (first | ((with_reducible refine gate_dst (N := 2) rfl ?_); refine box_event ?hg (N := 2) ?hd (cs := #[.int .i64 0, .int .i64 0, .slice none 0 0]) (t := 36) ?hr ?_; (case hd => rfl); (case hg => rfl); (case hr => exact z195_); intro gb302 hg w23 hbox hb; have n0_ := q_ (IsS189.below z3_ hb); have n1_ := q_ (KeepBut.trans z2_ (KeepBut.of_below hb g none) (.inl rfl)); have n2_ := q_ (below_step z8_ hb); have n3_ := q_ (hbox); have n4_ := q_ ((z151_ : w.heap.size ≤ gb302)); have n5_ := q_ ((Nat.le_trans HW0.out (z151_ : w.heap.size ≤ gb302) : w0.heap.size ≤ gb302)); have n6_ := q_ ((z152_ : g ≠ gb302)); have n7_ := q_ ((z153_ : gb302 ≠ g)); clear HI0; clear HK; clear HB; have HI0 := n0_; have HK := n1_; have HB := n2_; have BK302 := n3_; have GW302 := n4_; have GE302 := n5_; have NB0_302 := n6_; have NB302_0 := n7_; clear n0_ n1_ n2_ n3_ n4_ n5_ n6_ n7_; clear hb hbox hg) | ((with_reducible refine gate_callee (f := 166) rfl ?_); refine goesL_ (some 5) rfl rfl Try.func166 (by kernel_rfl) rfl #[.pointer (some ⟨g, 0, none⟩)] rfl z1_ ?_; (with_reducible refine (spec_l8DrawRight.calls k g s0_0 s0_1 s0_2 t303 t304 t305 t308 t309 w0 _ ?side1 ?side2 A2.out).mono ?_); (case side1 => exact z213_); (case side2 => exact z215_); rintro e w24 ⟨v306, rfl, ho0, hi, hb, hk⟩; refine ⟨_, rfl, ?_⟩; have n0_ := q_ (KeepBut.blk hk (g' := gb302) (o := .cells #[.int .i64 0, .int .i64 0, .slice none 0 0] 36 (0, 0)) z28_ NB302_0.out (by simp)); have n1_ := q_ (Kd.R_lower ho0 (keep_size (w := w) (g := g) (row := none) z14_)); have n2_ := q_ (KeepBut.trans z14_ hk (.inl rfl)); have n3_ := q_ (hb); have n4_ := q_ (hi); clear BK302; clear HK; clear HB; clear HI0; have BK302 := n0_; have HO307 := n1_; have HK := n2_; have HB := n3_; have HI0 := n4_; clear n0_ n1_ n2_ n3_ n4_; (try clear hb); (try clear hb2); (try clear hk); (try clear hi); (try clear ho0)) | ((with_reducible refine gate_dst (N := 3) rfl ?_); refine box_event ?hg (N := 3) ?hd (cs := #[.int .i64 0, .int .i64 0, .slice none 0 0]) (t := 36) ?hr ?_; (case hd => rfl); (case hg => rfl); (case hr => exact z195_); intro gb310 hg w25 hbox hb; have n0_ := q_ (Kd.R_below z76_ hb); have n1_ := q_ (IsS189.below z31_ hb); have n2_ := q_ (blk_below (g := gb302) (o := .cells #[.int .i64 0, .int .i64 0, .slice none 0 0] 36 (0, 0)) z28_ hb); have n3_ := q_ (KeepBut.trans z14_ (KeepBut.of_below hb g none) (.inl rfl)); have n4_ := q_ (below_step z94_ hb); have n5_ := q_ (hbox); have n6_ := q_ ((z162_ : w.heap.size ≤ gb310)); have n7_ := q_ ((Nat.le_trans HW0.out (z162_ : w.heap.size ≤ gb310) : w0.heap.size ≤ gb310)); have n8_ := q_ ((z163_ : gb302 ≠ gb310)); have n9_ := q_ ((z164_ : gb310 ≠ gb302)); have n10_ := q_ ((z177_ : g ≠ gb310)); have n11_ := q_ ((z178_ : gb310 ≠ g)); clear HO307; clear HI0; clear BK302; clear HK; clear HB; have HO307 := n0_; have HI0 := n1_; have BK302 := n2_; have HK := n3_; have HB := n4_; have BK310 := n5_; have GW310 := n6_; have GE310 := n7_; have NB302_310 := n8_; have NB310_302 := n9_; have NB0_310 := n10_; have NB310_0 := n11_; clear n0_ n1_ n2_ n3_ n4_ n5_ n6_ n7_ n8_ n9_ n10_ n11_; clear hb hbox hg; have hnb26 := NB310_302.out; have hnc26 := NB302_310.out; have hnb27 := NB310_0.out; have hnc27 := NB0_310.out; obtain ⟨hcz28_0, hcz28_1, hcz28_2, hfz28_0, hfz28_1, hfz28_2⟩ := cs3_ BK310.out; obtain ⟨Ao29, co29, eo29⟩ := Kd.R_slice HO307.out; subst eo29) | ((with_reducible refine gate_callee (f := 126) rfl ?_); refine goesL_ (some 7) rfl rfl Try.func126 (by kernel_rfl) rfl #[.pointer (some ⟨g, 0, none⟩), .int .i64 20] rfl z1_ ?_; (with_reducible refine (spec_l1Below.calls g s0_0 t308 t309 20 t311 t312 t313 w0 _ ?side1 ?side2 A3.out).mono ?_); (case side1 => exact z202_); (case side2 => exact z204_); rintro e w30 ⟨rfl, hi, hb, hk⟩; refine ⟨_, rfl, ?_⟩; have n0_ := q_ (KeepBut.blk hk (g' := gb302) (o := .cells #[.int .i64 0, .int .i64 0, .slice none 0 0] 36 (0, 0)) z42_ NB302_0.out (by simp)); have n1_ := q_ (Kd.R_mono (Kd.R_keep (IsS189.apart (show IsS189 w0 _ g s0_0 t308 t309 from z11_) (by (with_reducible repeat (first | apply Kd.R_alloc | apply Kd.R_drewN | apply Kd.R_drew)); exact (Kd.R_mono (Kd.R_far (p := ⟨gb310, 2, none⟩) (Kd.R_far (p := ⟨gb310, 1, none⟩) (Kd.R_far (p := ⟨gb310, 0, none⟩) (Kd.R_types HO307.out BK310.out (by decide)) (fun _ hk => hk.2) (.int .i64 t303)) (fun _ hk => hk.2) (.int .i64 t304)) (fun _ hk => hk.2) (.slice Ao29 t305.length co29)) (fun _ h_ => h_.1))) (by decide)) hk (fun _ h => h.2)) (fun _ h => h.1)); have n2_ := q_ (KeepBut.blk hk (g' := gb310) (o := .cells #[.int .i64 t303, .int .i64 t304, .slice Ao29 t305.length co29] 36 (0, 0)) z26_ NB310_0.out (by simp)); have n3_ := q_ (KeepBut.trans z16_ hk (.inl rfl)); have n4_ := q_ (hb); have n5_ := q_ (hi); clear BK302; clear HO307; clear BK310; clear HK; clear HB; clear HI0; have BK302 := n0_; have HO307 := n1_; have BK310 := n2_; have HK := n3_; have HB := n4_; have HI0 := n5_; clear n0_ n1_ n2_ n3_ n4_ n5_; (try clear hb); (try clear hb2); (try clear hk); (try clear hi)) | ((with_reducible refine gate_callee (f := 126) rfl ?_); refine goesL_ (some 17) rfl rfl Try.func126 (by kernel_rfl) rfl #[.pointer (some ⟨g, 0, none⟩), .int .i64 9] rfl z1_ ?_; (with_reducible refine (spec_l1Below.calls g s0_0 t312 t313 9 t320 t321 t322 w0 _ ?side1 ?side2 A22.out).mono ?_); (case side1 => exact z202_); (case side2 => exact z204_); rintro e w31 ⟨rfl, hi, hb, hk⟩; refine ⟨_, rfl, ?_⟩; have n0_ := q_ (KeepBut.blk hk (g' := gb302) (o := .cells #[.int .i64 0, .int .i64 0, .slice none 0 0] 36 (0, 0)) z28_ NB302_0.out (by simp)); have n1_ := q_ (Kd.R_mono (Kd.R_keep (IsS189.apart (show IsS189 w0 _ g s0_0 t312 t313 from z11_) z76_ (by decide)) hk (fun _ h => h.2)) (fun _ h => h.1)); have n2_ := q_ (KeepBut.blk hk (g' := gb310) (o := .cells #[.int .i64 t303, .int .i64 t304, .slice Ao29 t305.length co29] 36 (0, 0)) z99_ NB310_0.out (by simp)); have n3_ := q_ (KeepBut.trans z16_ hk (.inl rfl)); have n4_ := q_ (hb); have n5_ := q_ (hi); clear BK302; clear HO307; clear BK310; clear HK; clear HB; clear HI0; have BK302 := n0_; have HO307 := n1_; have BK310 := n2_; have HK := n3_; have HB := n4_; have HI0 := n5_; clear n0_ n1_ n2_ n3_ n4_ n5_; (try clear hb); (try clear hb2); (try clear hk); (try clear hi); obtain ⟨hcz32_0, hcz32_1, hcz32_2, hfz32_0, hfz32_1, hfz32_2⟩ := cs3_ BK310.out; have hnb33 := NB302_0.out; have hnc33 := NB0_302.out; obtain ⟨hcz34_0, hcz34_1, hcz34_2, hfz34_0, hfz34_1, hfz34_2⟩ := cs3_ BK302.out))
   refine bodyPost_ret (results_cell_row rfl _ _ gb302 36 #[.int .i64 t303, .int .i64 t320, .slice Ao29 t305.length co29] (0, 0) _ rfl (by (with_reducible repeat (first | refine blk_drewN ?_ _ | refine blk_drew ?_ | refine blk_alloc ?_ _)); refine blk_put (cs := #[.int .i64 t303, .int .i64 t320, .slice none 0 0]) ?_ 2 _ rfl; (with_reducible repeat (first | refine blk_drewN ?_ _ | refine blk_drew ?_ | refine blk_alloc ?_ _)); refine blk_put (cs := #[.int .i64 t303, .int .i64 0, .slice none 0 0]) ?_ 1 _ rfl; (with_reducible repeat (first | refine blk_drewN ?_ _ | refine blk_drew ?_ | refine blk_alloc ?_ _)); refine blk_put (cs := #[.int .i64 0, .int .i64 0, .slice none 0 0]) ?_ 0 _ rfl; (with_reducible repeat (first | refine blk_drewN ?_ _ | refine blk_drew ?_ | refine blk_alloc ?_ _)); refine blk_far ?_ NB302_310.out _; (with_reducible repeat (first | refine blk_drewN ?_ _ | refine blk_drew ?_ | refine blk_alloc ?_ _)); exact BK302.out) Try.underlying36 rfl (by kernel_rfl)) rfl ?_
   exact ⟨_, z4_, by (with_reducible repeat (first | apply Kd.R_alloc | apply Kd.R_drewN | apply Kd.R_drew)); exact Kd.R_mono (Kd.R_far (p := ⟨gb302, 2, none⟩) (Kd.R_far (p := ⟨gb302, 1, none⟩) (Kd.R_far (p := ⟨gb302, 0, none⟩) (Kd.R_far (p := ⟨gb310, 1, none⟩) (Kd.R_types (Kd.R_types HO307.out BK310.out (by decide)) BK302.out (by decide)) (fun _ hk => hk.1.2) (.int .i64 t320)) (fun _ hk => hk.2) (.int .i64 t303)) (fun _ hk => hk.2) (.int .i64 t320)) (fun _ hk => hk.2) (.slice Ao29 t305.length co29)) (fun _ hk => trivial), z11_, z57_, z16_⟩
  ·rw [if_neg c21] at H
   have c21b0 : (t311 == 1) = false := beq_eq_false_iff_ne.mpr c21
   have c21b1 : (t311 != 1) = true := bne_iff_ne.mpr c21
   by_cases c35 : t311 = 2
   ·rw [if_pos c35] at H
    have c35b0 : (t311 == 2) = true := beq_iff_eq.mpr c35
    have c35b1 : (t311 != 2) = false := bne_eq_false_iff_eq.mpr c35
    clear c35
    replace H := Option.bind_eq_some_iff.mp H
    obtain ⟨⟨t323, t324, t325⟩, A360, H⟩ := H
    replace H : ((spec_l7DrawCmd.f k s0_0 t324 t325).bind fun bt326 => (if t305.length < 2932031007402 then (some (t303, t304, (t305 ++ [(⟨t323, (⟨bt326.1, bt326.2.1, (⟨bt326.2.2.1, bt326.2.2.2.1, bt326.2.2.2.2.1⟩ : S67)⟩ : S127)⟩ : S129)]), bt326.2.2.2.2.2.1, bt326.2.2.2.2.2.2)) else (none))) = some (r1, r2, r3, r4, r5) := H
    have A36 := q_ A360
    clear A360
    replace H := Option.bind_eq_some_iff.mp H
    obtain ⟨⟨t326, t327, t328, t329, t330, t331, t332⟩, A370, H⟩ := H
    replace H : (if t305.length < 2932031007402 then (some (t303, t304, (t305 ++ [(⟨t323, (⟨t326, t327, (⟨t328, t329, t330⟩ : S67)⟩ : S127)⟩ : S129)]), t331, t332)) else (none)) = some (r1, r2, r3, r4, r5) := H
    have A37 := q_ A370
    clear A370
    by_cases c38 : t305.length < 2932031007402
    ·rw [if_pos c38] at H
     have LMc38 := q_ c38
     clear c38
     obtain ⟨y333, hy333⟩ : ∃ y_ : List (S129), y_ = (t305 ++ [(⟨t323, (⟨t326, t327, (⟨t328, t329, t330⟩ : S67)⟩ : S127)⟩ : S129)]) := ⟨_, rfl⟩
     replace H : (some (t303, t304, y333, t331, t332)) = some (r1, r2, r3, r4, r5) := by first | (rw [hy333]; with_reducible exact H) | (have H2_ := (Option.bind_some _ _).symm.trans H; rw [hy333]; with_reducible exact H2_) | (have H2_ := (Option.bind_some _ _).symm.trans H; with_reducible exact H2_) | with_reducible exact H | (rw [hy333]; exact H) | exact H
     have Ny333 := q_ hy333
     clear hy333
     simp only [Option.some.injEq, Prod.mk.injEq] at H
     obtain ⟨rfl, rfl, rfl, rfl, rfl⟩ := H
     go_enter Try.func124, Try.ntmps124
     try go_wp2_with (first | ((with_reducible refine gate_dst (N := 2) rfl ?_); refine box_event ?hg (N := 2) ?hd (cs := #[.int .i64 0, .int .i64 0, .slice none 0 0]) (t := 36) ?hr ?_; (case hd => rfl); (case hg => rfl); (case hr => exact z195_); intro gb302 hg w39 hbox hb; have n0_ := q_ (IsS189.below z3_ hb); have n1_ := q_ (KeepBut.trans z2_ (KeepBut.of_below hb g none) (.inl rfl)); have n2_ := q_ (below_step z8_ hb); have n3_ := q_ (hbox); have n4_ := q_ ((z151_ : w.heap.size ≤ gb302)); have n5_ := q_ ((Nat.le_trans HW0.out (z151_ : w.heap.size ≤ gb302) : w0.heap.size ≤ gb302)); have n6_ := q_ ((z152_ : g ≠ gb302)); have n7_ := q_ ((z153_ : gb302 ≠ g)); clear HI0; clear HK; clear HB; have HI0 := n0_; have HK := n1_; have HB := n2_; have BK302 := n3_; have GW302 := n4_; have GE302 := n5_; have NB0_302 := n6_; have NB302_0 := n7_; clear n0_ n1_ n2_ n3_ n4_ n5_ n6_ n7_; clear hb hbox hg) | ((with_reducible refine gate_callee (f := 166) rfl ?_); refine goesL_ (some 5) rfl rfl Try.func166 (by kernel_rfl) rfl #[.pointer (some ⟨g, 0, none⟩)] rfl z1_ ?_; (with_reducible refine (spec_l8DrawRight.calls k g s0_0 s0_1 s0_2 t303 t304 t305 t308 t309 w0 _ ?side1 ?side2 A2.out).mono ?_); (case side1 => exact z213_); (case side2 => exact z215_); rintro e w40 ⟨v306, rfl, ho0, hi, hb, hk⟩; refine ⟨_, rfl, ?_⟩; have n0_ := q_ (KeepBut.blk hk (g' := gb302) (o := .cells #[.int .i64 0, .int .i64 0, .slice none 0 0] 36 (0, 0)) z28_ NB302_0.out (by simp)); have n1_ := q_ (Kd.R_lower ho0 (keep_size (w := w) (g := g) (row := none) z14_)); have n2_ := q_ (KeepBut.trans z14_ hk (.inl rfl)); have n3_ := q_ (hb); have n4_ := q_ (hi); clear BK302; clear HK; clear HB; clear HI0; have BK302 := n0_; have HO307 := n1_; have HK := n2_; have HB := n3_; have HI0 := n4_; clear n0_ n1_ n2_ n3_ n4_; (try clear hb); (try clear hb2); (try clear hk); (try clear hi); (try clear ho0)) | ((with_reducible refine gate_dst (N := 3) rfl ?_); refine box_event ?hg (N := 3) ?hd (cs := #[.int .i64 0, .int .i64 0, .slice none 0 0]) (t := 36) ?hr ?_; (case hd => rfl); (case hg => rfl); (case hr => exact z195_); intro gb310 hg w41 hbox hb; have n0_ := q_ (Kd.R_below z76_ hb); have n1_ := q_ (IsS189.below z31_ hb); have n2_ := q_ (blk_below (g := gb302) (o := .cells #[.int .i64 0, .int .i64 0, .slice none 0 0] 36 (0, 0)) z28_ hb); have n3_ := q_ (KeepBut.trans z14_ (KeepBut.of_below hb g none) (.inl rfl)); have n4_ := q_ (below_step z94_ hb); have n5_ := q_ (hbox); have n6_ := q_ ((z162_ : w.heap.size ≤ gb310)); have n7_ := q_ ((Nat.le_trans HW0.out (z162_ : w.heap.size ≤ gb310) : w0.heap.size ≤ gb310)); have n8_ := q_ ((z163_ : gb302 ≠ gb310)); have n9_ := q_ ((z164_ : gb310 ≠ gb302)); have n10_ := q_ ((z177_ : g ≠ gb310)); have n11_ := q_ ((z178_ : gb310 ≠ g)); clear HO307; clear HI0; clear BK302; clear HK; clear HB; have HO307 := n0_; have HI0 := n1_; have BK302 := n2_; have HK := n3_; have HB := n4_; have BK310 := n5_; have GW310 := n6_; have GE310 := n7_; have NB302_310 := n8_; have NB310_302 := n9_; have NB0_310 := n10_; have NB310_0 := n11_; clear n0_ n1_ n2_ n3_ n4_ n5_ n6_ n7_ n8_ n9_ n10_ n11_; clear hb hbox hg; have hnb42 := NB310_302.out; have hnc42 := NB302_310.out; have hnb43 := NB310_0.out; have hnc43 := NB0_310.out; obtain ⟨hcz44_0, hcz44_1, hcz44_2, hfz44_0, hfz44_1, hfz44_2⟩ := cs3_ BK310.out; obtain ⟨Ao45, co45, eo45⟩ := Kd.R_slice HO307.out; subst eo45) | ((with_reducible refine gate_callee (f := 126) rfl ?_); refine goesL_ (some 7) rfl rfl Try.func126 (by kernel_rfl) rfl #[.pointer (some ⟨g, 0, none⟩), .int .i64 20] rfl z1_ ?_; (with_reducible refine (spec_l1Below.calls g s0_0 t308 t309 20 t311 t312 t313 w0 _ ?side1 ?side2 A3.out).mono ?_); (case side1 => exact z202_); (case side2 => exact z204_); rintro e w46 ⟨rfl, hi, hb, hk⟩; refine ⟨_, rfl, ?_⟩; have n0_ := q_ (KeepBut.blk hk (g' := gb302) (o := .cells #[.int .i64 0, .int .i64 0, .slice none 0 0] 36 (0, 0)) z42_ NB302_0.out (by simp)); have n1_ := q_ (Kd.R_mono (Kd.R_keep (IsS189.apart (show IsS189 w0 _ g s0_0 t308 t309 from z11_) (by (with_reducible repeat (first | apply Kd.R_alloc | apply Kd.R_drewN | apply Kd.R_drew)); exact (Kd.R_mono (Kd.R_far (p := ⟨gb310, 2, none⟩) (Kd.R_far (p := ⟨gb310, 1, none⟩) (Kd.R_far (p := ⟨gb310, 0, none⟩) (Kd.R_types HO307.out BK310.out (by decide)) (fun _ hk => hk.2) (.int .i64 t303)) (fun _ hk => hk.2) (.int .i64 t304)) (fun _ hk => hk.2) (.slice Ao45 t305.length co45)) (fun _ h_ => h_.1))) (by decide)) hk (fun _ h => h.2)) (fun _ h => h.1)); have n2_ := q_ (KeepBut.blk hk (g' := gb310) (o := .cells #[.int .i64 t303, .int .i64 t304, .slice Ao45 t305.length co45] 36 (0, 0)) z26_ NB310_0.out (by simp)); have n3_ := q_ (KeepBut.trans z16_ hk (.inl rfl)); have n4_ := q_ (hb); have n5_ := q_ (hi); clear BK302; clear HO307; clear BK310; clear HK; clear HB; clear HI0; have BK302 := n0_; have HO307 := n1_; have BK310 := n2_; have HK := n3_; have HB := n4_; have HI0 := n5_; clear n0_ n1_ n2_ n3_ n4_ n5_; (try clear hb); (try clear hb2); (try clear hk); (try clear hi)))
     have n0_ := q_ (Kd.R_drew HO307.out)
     have n1_ := q_ (blk_drew BK302.out)
     have n2_ := q_ (blk_drew BK310.out)
     have n3_ := q_ (IsS189.drew HI0.out)
     have n4_ := q_ (keep_drew HK.out)
     have n5_ := q_ (below_drew1 HB.out)
     clear HO307
     clear BK302
     clear BK310
     clear HI0
     clear HK
     clear HB
     have HO307 := n0_
     have BK302 := n1_
     have BK310 := n2_
     have HI0 := n3_
     have HK := n4_
     have HB := n5_
     clear n0_ n1_ n2_ n3_ n4_ n5_
     refine start_ (n := 11) (S := fun w' => w'.cell? ⟨gb310, 0, none⟩ = some (.int .i64 t303) ∧ w'.cell? ⟨gb310, 1, none⟩ = some (.int .i64 t304) ∧ w'.cell? ⟨gb310, 2, none⟩ = some (.slice Ao45 t305.length co45)) (ds := [10]) #[false, false, false, false, false, false, false, false, false, false, false] (by kernel_rfl) rfl rfl ⟨(blk_cell BK310.out 0).trans rfl, (blk_cell BK310.out 1).trans rfl, (blk_cell BK310.out 2).trans rfl⟩ (fun hHeld => ?_); refine with_tabW spec_l8Draw.tab8 spec_l8Draw.bits8 (fun HT_ HW_ => ?_)
     generalize w46.drew = w47 at HO307 BK302 BK310 HI0 HK HB hHeld ⊢
     refine pure_ (i := 0) (N := some 21) (v := ?_) (a' := ?_) #[true, false, false, false, false, false, false, false, false, false, false] rfl rfl (any_of HT_.out (by kernel_rfl)) (fun _ _ _ h => h) (Or.inl ⟨by rfl, ?_⟩) ?_ ?_
     rotate_left
     ·intro w'
      go_simp
      with_reducible rfl
     rotate_left
     ·simp only [Act.put, List.setIfInBounds_toArray, List.set_cons_zero, List.set_cons_succ, i64_w, i32_w]
      rfl
     refine pure_ (i := 2) (N := some 23) (v := ?_) (a' := ?_) #[true, false, true, false, false, false, false, false, false, false, false] rfl rfl (any_of HT_.out (by kernel_rfl)) (fun _ _ _ h => h) (Or.inl ⟨by rfl, ?_⟩) ?_ ?_
     rotate_left
     ·intro w'
      go_simp
      with_reducible rfl
     rotate_left
     ·simp only [Act.put, List.setIfInBounds_toArray, List.set_cons_zero, List.set_cons_succ, i64_w, i32_w]
      rfl
     refine pure_ (i := 4) (N := some 25) (v := ?_) (a' := ?_) #[true, false, true, false, true, false, false, false, false, false, false] rfl rfl (any_of HT_.out (by kernel_rfl)) (fun _ _ _ h => h) (Or.inl ⟨by rfl, ?_⟩) ?_ ?_
     rotate_left
     ·intro w'
      go_simp
      with_reducible rfl
     rotate_left
     ·simp only [Act.put, List.setIfInBounds_toArray, List.set_cons_zero, List.set_cons_succ, i64_w, i32_w]
      rfl
     refine take_ (i := 1) (N := some 22) (v := ?_) (a' := ?_) #[true, true, true, false, true, false, false, false, false, false, false] rfl rfl (take_ofW HT_.out HW_.out (by kernel_rfl)) (fun _ _ _ h => h) (Or.inl ⟨by rfl, ?_⟩) hHeld ?_ ?_
     rotate_left
     ·rintro w' ⟨s0, s1, s2⟩
      go_simp
      with_reducible rfl
     rotate_left
     ·simp only [Act.put, List.setIfInBounds_toArray, List.set_cons_zero, List.set_cons_succ, i64_w, i32_w]
      rfl
     refine one_ (i := 3) (N := some 24) #[true, true, true, true, true, false, false, false, false, false, false] rfl rfl (one_of HT_.out (by kernel_rfl)) (by decide) (fun K hK => ?_)
     refine goes_ Try.func126 (by kernel_rfl) rfl #[.pointer (some ⟨g, 0, none⟩), .int .i64 3] (by rfl) rfl rfl z1_ ?_
     with_reducible refine (spec_l1Below.calls g s0_0 t312 t313 3 t323 t324 t325 w0 _ ?side1 ?side2 A36.out).mono ?_
     (case side1 => exact z202_)
     (case side2 => exact z204_)
     rintro e w48 ⟨rfl, hi, hb, hk⟩
     refine ⟨_, rfl, ?_⟩
     have n0_ := q_ (KeepBut.blk hk (g' := gb302) (o := .cells #[.int .i64 0, .int .i64 0, .slice none 0 0] 36 (0, 0)) z28_ NB302_0.out (by simp))
     have n1_ := q_ (Kd.R_mono (Kd.R_keep (IsS189.apart (show IsS189 w0 _ g s0_0 t312 t313 from z11_) z76_ (by decide)) hk (fun _ h => h.2)) (fun _ h => h.1))
     have n2_ := q_ (KeepBut.blk hk (g' := gb310) (o := .cells #[.int .i64 t303, .int .i64 t304, .slice Ao45 t305.length co45] 36 (0, 0)) z99_ NB310_0.out (by simp))
     have n3_ := q_ (KeepBut.trans z16_ hk (.inl rfl))
     have n4_ := q_ (hb)
     have n5_ := q_ (hi)
     clear BK302
     clear HO307
     clear BK310
     clear HK
     clear HB
     clear HI0
     have BK302 := n0_
     have HO307 := n1_
     have BK310 := n2_
     have HK := n3_
     have HB := n4_
     have HI0 := n5_
     clear n0_ n1_ n2_ n3_ n4_ n5_
     (try clear hb)
     (try clear hb2)
     (try clear hk)
     (try clear hi)
     refine hK.out _ _ ⟨(blk_cell BK310.out 0).trans rfl, (blk_cell BK310.out 1).trans rfl, (blk_cell BK310.out 2).trans rfl⟩ (fun hHeld => ?_)
     clear hK K
     refine norm_ (a' := ?_) ?_ ?_
     rotate_left
     ·show Act.put _ (some 24) _ = _
      simp only [Act.put, List.setIfInBounds_toArray, List.set_cons_zero, List.set_cons_succ, i64_w, i32_w]
      rfl
     refine one_ (i := 5) (N := some 26) #[true, true, true, true, true, true, false, false, false, false, false] rfl rfl (one_of HT_.out (by kernel_rfl)) (by decide) (fun K hK => ?_)
     refine goes_ Try.func168 (by kernel_rfl) rfl #[.pointer (some ⟨g, 0, none⟩)] (by rfl) rfl rfl z1_ ?_
     with_reducible refine (spec_l7DrawCmd.calls k g s0_0 t324 t325 t326 t327 t328 t329 t330 t331 t332 w0 _ ?side1 ?side2 A37.out).mono ?_
     (case side1 => exact z202_)
     (case side2 => exact z204_)
     rintro e w49 ⟨rfl, hi, hb, hk⟩
     refine ⟨_, rfl, ?_⟩
     have n0_ := q_ (KeepBut.blk hk (g' := gb302) (o := .cells #[.int .i64 0, .int .i64 0, .slice none 0 0] 36 (0, 0)) z28_ NB302_0.out (by simp))
     have n1_ := q_ (Kd.R_mono (Kd.R_keep (IsS189.apart (show IsS189 w0 _ g s0_0 t324 t325 from z11_) z76_ (by decide)) hk (fun _ h => h.2)) (fun _ h => h.1))
     have n2_ := q_ (KeepBut.blk hk (g' := gb310) (o := .cells #[.int .i64 t303, .int .i64 t304, .slice Ao45 t305.length co45] 36 (0, 0)) z99_ NB310_0.out (by simp))
     have n3_ := q_ (KeepBut.trans z16_ hk (.inl rfl))
     have n4_ := q_ (hb)
     have n5_ := q_ (hi)
     clear BK302
     clear HO307
     clear BK310
     clear HK
     clear HB
     clear HI0
     have BK302 := n0_
     have HO307 := n1_
     have BK310 := n2_
     have HK := n3_
     have HB := n4_
     have HI0 := n5_
     clear n0_ n1_ n2_ n3_ n4_ n5_
     (try clear hb)
     (try clear hb2)
     (try clear hk)
     (try clear hi)
     refine hK.out _ _ ⟨(blk_cell BK310.out 0).trans rfl, (blk_cell BK310.out 1).trans rfl, (blk_cell BK310.out 2).trans rfl⟩ (fun hHeld => ?_)
     clear hK K
     refine norm_ (a' := ?_) ?_ ?_
     rotate_left
     ·show Act.put _ (some 26) _ = _
      simp only [Act.put, List.setIfInBounds_toArray, List.set_cons_zero, List.set_cons_succ, i64_w, i32_w]
      rfl
     refine pure_ (i := 6) (N := some 27) (v := ?_) (a' := ?_) #[true, true, true, true, true, true, true, false, false, false, false] rfl rfl (any_of HT_.out (by kernel_rfl)) (fun _ _ _ h => h) (Or.inl ⟨by rfl, ?_⟩) ?_ ?_
     rotate_left
     ·intro w'
      go_simp
      with_reducible rfl
     rotate_left
     ·simp only [Act.put, List.setIfInBounds_toArray, List.set_cons_zero, List.set_cons_succ, i64_w, i32_w]
      rfl
     refine one_ (i := 7) (N := some 28) #[true, true, true, true, true, true, true, true, false, false, false] rfl rfl (one_of HT_.out (by kernel_rfl)) (by decide) (fun K hK => ?_)
     refine value_ (w1 := ?_) (v := ?_) (by rfl) rfl ?_ ?_
     rotate_left 2
     ·go_simp
      constructor
      ·rfl
      ·rfl
     refine hK.out _ _ ⟨(blk_cell (blk_alloc BK310.out _) 0).trans rfl, (blk_cell (blk_alloc BK310.out _) 1).trans rfl, (blk_cell (blk_alloc BK310.out _) 2).trans rfl⟩ (fun hHeld => ?_)
     clear hK K
     refine norm_ (a' := ?_) ?_ ?_
     rotate_left
     ·show Act.put _ (some 28) _ = _
      simp only [Act.put, List.setIfInBounds_toArray, List.set_cons_zero, List.set_cons_succ, i64_w, i32_w]
      rfl
     refine one_ (i := 8) (N := some 29) #[true, true, true, true, true, true, true, true, true, false, false] rfl rfl (one_of HT_.out (by kernel_rfl)) (by decide) (fun K hK => ?_)
     refine Kd.R_append_step k129 w.heap.size (by rfl) (.tmp 22) (.tmp 28) 34 129 (.agg #[(.int .i64 0), (.int .i64 0), (.int .i64 0), (.int .i64 0), (.int .i64 0), (.int .i64 0)]) 48 rfl Try.underlying34 info129 rfl (by decide) (by omega) (.slice Ao45 t305.length co45) t305 (⟨t323, (⟨t326, t327, (⟨t328, t329, t330⟩ : S67)⟩ : S127)⟩ : S129) [.int .i64 t323, .int .i64 t326, .int .i64 t327, .int .i64 t328, .int .i64 t329, .int .i64 t330] (fun _ => True) (fun _ => False) rfl rfl ?aP (fun _ hk => hk.elim) ?aF ?aO (Below.refl _ _) ?aS ?aL ?_
     (case aP => exact k129_mkM _ _ _ (⟨t323, (⟨t326, t327, (⟨t328, t329, t330⟩ : S67)⟩ : S127)⟩ : S129))
     (case aF => exact z235_)
     (case aO => exact z76_)
     (case aS => exact (keep_size (w := w) (g := g) (row := none) z16_))
     (case aL => have := LMc38.out; omega)
     intro v334 w50 ho hb hg hat
     rw [← Ny333.out] at ho
     have n0_ := q_ (IsS189.grown (show IsS189 w0 _ g s0_0 t331 t332 from z11_) hg (IsS189.own_ne HI0.out HO307.out (by decide)))
     have n1_ := q_ (blk_grown (g := gb302) (o := .cells #[.int .i64 0, .int .i64 0, .slice none 0 0] 36 (0, 0)) z28_ hg (Kd.R_ne HO307.out BK302.out (by decide)))
     have n2_ := q_ (blk_grown (g := gb310) (o := .cells #[.int .i64 t303, .int .i64 t304, .slice Ao45 t305.length co45] 36 (0, 0)) z99_ hg (Kd.R_ne HO307.out BK310.out (by decide)))
     have n3_ := q_ (below_weaken z57_ HL.out hb)
     have n4_ := q_ (KeepBut.trans z16_ (KeepBut.of_grown hg g) (Kd.R_base2 HO307.out))
     have n5_ := q_ (ho)
     clear HI0
     clear BK302
     clear BK310
     clear HB
     clear HK
     clear HO307
     have HI0 := n0_
     have BK302 := n1_
     have BK310 := n2_
     have HB := n3_
     have HK := n4_
     have HO335 := n5_
     clear n0_ n1_ n2_ n3_ n4_ n5_
     clear ho hb hg hat
     obtain ⟨Ao51, co51, eo51⟩ := Kd.R_slice HO335.out
     (first | subst eo51 | (injection eo51 with f1_ f2_ f3_; have f4_ := f1_.symm; have f5_ := f3_.symm; clear f1_ f2_ f3_; subst f4_; subst f5_))
     refine hK.out _ _ ⟨(blk_cell BK310.out 0).trans rfl, (blk_cell BK310.out 1).trans rfl, (blk_cell BK310.out 2).trans rfl⟩ (fun hHeld => ?_)
     clear hK K
     refine norm_ (a' := ?_) ?_ ?_
     rotate_left
     ·show Act.put _ (some 29) _ = _
      simp only [Act.put, List.setIfInBounds_toArray, List.set_cons_zero, List.set_cons_succ, i64_w, i32_w]
      rfl
     refine pure_ (i := 9) (N := some 30) (v := ?_) (a' := ?_) #[true, true, true, true, true, true, true, true, true, true, false] rfl rfl (any_of HT_.out (by kernel_rfl)) (fun _ _ _ h => h) (Or.inl ⟨by rfl, ?_⟩) ?_ ?_
     rotate_left
     ·intro w'
      go_simp
      with_reducible rfl
     rotate_left
     ·simp only [Act.put, List.setIfInBounds_toArray, List.set_cons_zero, List.set_cons_succ, i64_w, i32_w]
      rfl
     refine last_ (i := 10) (N := none) #[true, true, true, true, true, true, true, true, true, true, true] rfl rfl (one_of HT_.out (by kernel_rfl)) (by decide) (fun K hK => ?_)
     have hs52 : w50.cell? ⟨gb310, 2, none⟩ = some (.slice Ao45 t305.length co45) := (blk_cell BK310.out 2).trans rfl
     have hfs52 := blk_frozen BK310.out 2
     have hns52_0 := NB302_310.out
     have hms52_0 := NB310_302.out
     refine skip_ (w1 := ?_) (by rfl) rfl ?_ ?_
     rotate_left
     ·go_simp
      rfl
     refine hK.out _ _ ?_
     clear hK K
     refine done_ (done_of HT_.out (by kernel_rfl)) ?_
     obtain ⟨hcz53_0, hcz53_1, hcz53_2, hfz53_0, hfz53_1, hfz53_2⟩ := cs3_ BK310.out
     have hnb54 := NB302_0.out
     have hnc54 := NB0_302.out
     obtain ⟨hcz55_0, hcz55_1, hcz55_2, hfz55_0, hfz55_1, hfz55_2⟩ := cs3_ BK302.out
     try go_wp2
     refine bodyPost_ret (results_cell_row rfl _ _ gb302 36 #[.int .i64 t303, .int .i64 t304, .slice Ao51 y333.length co51] (0, 0) _ rfl (by (with_reducible repeat (first | refine blk_drewN ?_ _ | refine blk_drew ?_ | refine blk_alloc ?_ _)); refine blk_put (cs := #[.int .i64 t303, .int .i64 t304, .slice none 0 0]) ?_ 2 _ rfl; (with_reducible repeat (first | refine blk_drewN ?_ _ | refine blk_drew ?_ | refine blk_alloc ?_ _)); refine blk_put (cs := #[.int .i64 t303, .int .i64 0, .slice none 0 0]) ?_ 1 _ rfl; (with_reducible repeat (first | refine blk_drewN ?_ _ | refine blk_drew ?_ | refine blk_alloc ?_ _)); refine blk_put (cs := #[.int .i64 0, .int .i64 0, .slice none 0 0]) ?_ 0 _ rfl; (with_reducible repeat (first | refine blk_drewN ?_ _ | refine blk_drew ?_ | refine blk_alloc ?_ _)); refine blk_far ?_ NB302_310.out _; (with_reducible repeat (first | refine blk_drewN ?_ _ | refine blk_drew ?_ | refine blk_alloc ?_ _)); exact BK302.out) Try.underlying36 rfl (by kernel_rfl)) rfl ?_
     exact ⟨_, z4_, by (with_reducible repeat (first | apply Kd.R_alloc | apply Kd.R_drewN | apply Kd.R_drew)); exact Kd.R_mono (Kd.R_far (p := ⟨gb302, 2, none⟩) (Kd.R_far (p := ⟨gb302, 1, none⟩) (Kd.R_far (p := ⟨gb302, 0, none⟩) (Kd.R_far (p := ⟨gb310, 2, none⟩) (Kd.R_types (Kd.R_types HO335.out BK310.out (by decide)) BK302.out (by decide)) (fun _ hk => hk.1.2) (.slice Ao51 y333.length co51)) (fun _ hk => hk.2) (.int .i64 t303)) (fun _ hk => hk.2) (.int .i64 t304)) (fun _ hk => hk.2) (.slice Ao51 y333.length co51)) (fun _ hk => trivial), z11_, z57_, z16_⟩
    ·rw [if_neg c38] at H
     exact absurd H (by simp)
   ·rw [if_neg c35] at H
    have c35b0 : (t311 == 2) = false := beq_eq_false_iff_ne.mpr c35
    have c35b1 : (t311 != 2) = true := bne_iff_ne.mpr c35
    simp only [Option.some.injEq, Prod.mk.injEq] at H
    obtain ⟨rfl, rfl, rfl, rfl, rfl⟩ := H
    go_enter Try.func124, Try.ntmps124
    go_wp2_with (first | ((with_reducible refine gate_dst (N := 2) rfl ?_); refine box_event ?hg (N := 2) ?hd (cs := #[.int .i64 0, .int .i64 0, .slice none 0 0]) (t := 36) ?hr ?_; (case hd => rfl); (case hg => rfl); (case hr => exact z195_); intro gb302 hg w56 hbox hb; have n0_ := q_ (IsS189.below z3_ hb); have n1_ := q_ (KeepBut.trans z2_ (KeepBut.of_below hb g none) (.inl rfl)); have n2_ := q_ (below_step z8_ hb); have n3_ := q_ (hbox); have n4_ := q_ ((z151_ : w.heap.size ≤ gb302)); have n5_ := q_ ((Nat.le_trans HW0.out (z151_ : w.heap.size ≤ gb302) : w0.heap.size ≤ gb302)); have n6_ := q_ ((z152_ : g ≠ gb302)); have n7_ := q_ ((z153_ : gb302 ≠ g)); clear HI0; clear HK; clear HB; have HI0 := n0_; have HK := n1_; have HB := n2_; have BK302 := n3_; have GW302 := n4_; have GE302 := n5_; have NB0_302 := n6_; have NB302_0 := n7_; clear n0_ n1_ n2_ n3_ n4_ n5_ n6_ n7_; clear hb hbox hg) | ((with_reducible refine gate_callee (f := 166) rfl ?_); refine goesL_ (some 5) rfl rfl Try.func166 (by kernel_rfl) rfl #[.pointer (some ⟨g, 0, none⟩)] rfl z1_ ?_; (with_reducible refine (spec_l8DrawRight.calls k g s0_0 s0_1 s0_2 t303 t304 t305 t308 t309 w0 _ ?side1 ?side2 A2.out).mono ?_); (case side1 => exact z213_); (case side2 => exact z215_); rintro e w57 ⟨v306, rfl, ho0, hi, hb, hk⟩; refine ⟨_, rfl, ?_⟩; have n0_ := q_ (KeepBut.blk hk (g' := gb302) (o := .cells #[.int .i64 0, .int .i64 0, .slice none 0 0] 36 (0, 0)) z28_ NB302_0.out (by simp)); have n1_ := q_ (Kd.R_lower ho0 (keep_size (w := w) (g := g) (row := none) z14_)); have n2_ := q_ (KeepBut.trans z14_ hk (.inl rfl)); have n3_ := q_ (hb); have n4_ := q_ (hi); clear BK302; clear HK; clear HB; clear HI0; have BK302 := n0_; have HO307 := n1_; have HK := n2_; have HB := n3_; have HI0 := n4_; clear n0_ n1_ n2_ n3_ n4_; (try clear hb); (try clear hb2); (try clear hk); (try clear hi); (try clear ho0)) | ((with_reducible refine gate_dst (N := 3) rfl ?_); refine box_event ?hg (N := 3) ?hd (cs := #[.int .i64 0, .int .i64 0, .slice none 0 0]) (t := 36) ?hr ?_; (case hd => rfl); (case hg => rfl); (case hr => exact z195_); intro gb310 hg w58 hbox hb; have n0_ := q_ (Kd.R_below z76_ hb); have n1_ := q_ (IsS189.below z31_ hb); have n2_ := q_ (blk_below (g := gb302) (o := .cells #[.int .i64 0, .int .i64 0, .slice none 0 0] 36 (0, 0)) z28_ hb); have n3_ := q_ (KeepBut.trans z14_ (KeepBut.of_below hb g none) (.inl rfl)); have n4_ := q_ (below_step z94_ hb); have n5_ := q_ (hbox); have n6_ := q_ ((z162_ : w.heap.size ≤ gb310)); have n7_ := q_ ((Nat.le_trans HW0.out (z162_ : w.heap.size ≤ gb310) : w0.heap.size ≤ gb310)); have n8_ := q_ ((z163_ : gb302 ≠ gb310)); have n9_ := q_ ((z164_ : gb310 ≠ gb302)); have n10_ := q_ ((z177_ : g ≠ gb310)); have n11_ := q_ ((z178_ : gb310 ≠ g)); clear HO307; clear HI0; clear BK302; clear HK; clear HB; have HO307 := n0_; have HI0 := n1_; have BK302 := n2_; have HK := n3_; have HB := n4_; have BK310 := n5_; have GW310 := n6_; have GE310 := n7_; have NB302_310 := n8_; have NB310_302 := n9_; have NB0_310 := n10_; have NB310_0 := n11_; clear n0_ n1_ n2_ n3_ n4_ n5_ n6_ n7_ n8_ n9_ n10_ n11_; clear hb hbox hg; have hnb59 := NB310_302.out; have hnc59 := NB302_310.out; have hnb60 := NB310_0.out; have hnc60 := NB0_310.out; obtain ⟨hcz61_0, hcz61_1, hcz61_2, hfz61_0, hfz61_1, hfz61_2⟩ := cs3_ BK310.out; obtain ⟨Ao62, co62, eo62⟩ := Kd.R_slice HO307.out; subst eo62) | ((with_reducible refine gate_callee (f := 126) rfl ?_); refine goesL_ (some 7) rfl rfl Try.func126 (by kernel_rfl) rfl #[.pointer (some ⟨g, 0, none⟩), .int .i64 20] rfl z1_ ?_; (with_reducible refine (spec_l1Below.calls g s0_0 t308 t309 20 t311 t312 t313 w0 _ ?side1 ?side2 A3.out).mono ?_); (case side1 => exact z202_); (case side2 => exact z204_); rintro e w63 ⟨rfl, hi, hb, hk⟩; refine ⟨_, rfl, ?_⟩; have n0_ := q_ (KeepBut.blk hk (g' := gb302) (o := .cells #[.int .i64 0, .int .i64 0, .slice none 0 0] 36 (0, 0)) z42_ NB302_0.out (by simp)); have n1_ := q_ (Kd.R_mono (Kd.R_keep (IsS189.apart (show IsS189 w0 _ g s0_0 t308 t309 from z11_) (by (with_reducible repeat (first | apply Kd.R_alloc | apply Kd.R_drewN | apply Kd.R_drew)); exact (Kd.R_mono (Kd.R_far (p := ⟨gb310, 2, none⟩) (Kd.R_far (p := ⟨gb310, 1, none⟩) (Kd.R_far (p := ⟨gb310, 0, none⟩) (Kd.R_types HO307.out BK310.out (by decide)) (fun _ hk => hk.2) (.int .i64 t303)) (fun _ hk => hk.2) (.int .i64 t304)) (fun _ hk => hk.2) (.slice Ao62 t305.length co62)) (fun _ h_ => h_.1))) (by decide)) hk (fun _ h => h.2)) (fun _ h => h.1)); have n2_ := q_ (KeepBut.blk hk (g' := gb310) (o := .cells #[.int .i64 t303, .int .i64 t304, .slice Ao62 t305.length co62] 36 (0, 0)) z26_ NB310_0.out (by simp)); have n3_ := q_ (KeepBut.trans z16_ hk (.inl rfl)); have n4_ := q_ (hb); have n5_ := q_ (hi); clear BK302; clear HO307; clear BK310; clear HK; clear HB; clear HI0; have BK302 := n0_; have HO307 := n1_; have BK310 := n2_; have HK := n3_; have HB := n4_; have HI0 := n5_; clear n0_ n1_ n2_ n3_ n4_ n5_; (try clear hb); (try clear hb2); (try clear hk); (try clear hi); obtain ⟨hcz64_0, hcz64_1, hcz64_2, hfz64_0, hfz64_1, hfz64_2⟩ := cs3_ BK310.out; have hnb65 := NB302_0.out; have hnc65 := NB0_302.out; obtain ⟨hcz66_0, hcz66_1, hcz66_2, hfz66_0, hfz66_1, hfz66_2⟩ := cs3_ BK302.out))
    refine bodyPost_ret (results_cell_row rfl _ _ gb302 36 #[.int .i64 t303, .int .i64 t304, .slice Ao62 t305.length co62] (0, 0) _ rfl (by (with_reducible repeat (first | refine blk_drewN ?_ _ | refine blk_drew ?_ | refine blk_alloc ?_ _)); refine blk_put (cs := #[.int .i64 t303, .int .i64 t304, .slice none 0 0]) ?_ 2 _ rfl; (with_reducible repeat (first | refine blk_drewN ?_ _ | refine blk_drew ?_ | refine blk_alloc ?_ _)); refine blk_put (cs := #[.int .i64 t303, .int .i64 0, .slice none 0 0]) ?_ 1 _ rfl; (with_reducible repeat (first | refine blk_drewN ?_ _ | refine blk_drew ?_ | refine blk_alloc ?_ _)); refine blk_put (cs := #[.int .i64 0, .int .i64 0, .slice none 0 0]) ?_ 0 _ rfl; (with_reducible repeat (first | refine blk_drewN ?_ _ | refine blk_drew ?_ | refine blk_alloc ?_ _)); exact BK302.out) Try.underlying36 rfl (by kernel_rfl)) rfl ?_
    exact ⟨_, z4_, by (with_reducible repeat (first | apply Kd.R_alloc | apply Kd.R_drewN | apply Kd.R_drew)); exact Kd.R_mono (Kd.R_far (p := ⟨gb302, 2, none⟩) (Kd.R_far (p := ⟨gb302, 1, none⟩) (Kd.R_far (p := ⟨gb302, 0, none⟩) (Kd.R_types HO307.out BK302.out (by decide)) (fun _ hk => hk.2) (.int .i64 t303)) (fun _ hk => hk.2) (.int .i64 t304)) (fun _ hk => hk.2) (.slice Ao62 t305.length co62)) (fun _ hk => trivial), z11_, z57_, z16_⟩

/-! ### spec_l8DrawAt: function 125 -/
def spec_l8DrawAt.f (s0_0 : List Int) (s0_1 : Int) (s0_2 : Int) (a1_0 : Int) (a1_1 : Int) (l1_2 : List (S129)) : Option (Int × Int × Int) := (spec_l1Once.f s0_0 s0_1 s0_2 20).bind fun bt337 => (if bt337.1 = true then ((spec_l1PickInt.f s0_0 bt337.2.1 bt337.2.2 (([(-1), 9223372036854775807, (-9223372036854775807)] : List Int))).bind fun bt343 => (some (bt343.1, bt343.2.1, bt343.2.2))) else ((spec_l1Below.f s0_0 bt337.2.1 bt337.2.2 (wrap64 ((l1_2.length : Int) + 3))).bind fun bt346 => (some (wrap64 ((wrap64 (a1_0 + bt346.1)) - 1), bt346.2.1, bt346.2.2))))
def spec_l8DrawAt.T3 : Bool × List (List Nat × List Nat) := (true, [([], []), ([0], [0]), ([], []), ([], []), ([3], [3]), ([4], [4]), ([5], [5]), ([2, 6], [2, 6]), ([1, 7], [1, 7]), ([8], [8]), ([9, 7, 0, 1, 2, 3, 4, 5, 6, 7, 8, 9], [9])])
def spec_l8DrawAt.B3 : List Nat := [0, 1, 0, 0, 8, 24, 56, 124, 255, 511, 1023]
theorem spec_l8DrawAt.tab3 : rtab .any (opsOf Try.f125 3) = spec_l8DrawAt.T3 := by kernel_rfl
theorem spec_l8DrawAt.bits3 : waitsOk spec_l8DrawAt.T3.2 spec_l8DrawAt.B3 = true := by kernel_rfl
set_option maxHeartbeats 8000000 in
set_option maxRecDepth 100000 in
theorem spec_l8DrawAt.calls (g : Nat) (s0_0 : List Int) (s0_1 : Int) (s0_2 : Int) (a1_0 : Int) (a1_1 : Int) (A1_2 : Option Addr) (c1_2 : Nat) (l1_2 : List (S129)) (r1 : Int) (r2 : Int) (r3 : Int) (w0 w : World) (hI : IsS189 w0 w g s0_0 s0_1 s0_2) (hB : Below w0.heap.size w0 w) (hr1_2 : ∀ W_, KeepBut w W_ g none → Kd.C k129 W_ A1_2 l1_2.length l1_2) (hc1_2 : l1_2.length ≤ c1_2) (h : spec_l8DrawAt.f s0_0 s0_1 s0_2 a1_0 a1_1 l1_2 = some (r1, r2, r3)) :
  Calls Try.prog 125 #[.pointer (some ⟨g, 0, none⟩), .agg #[.int .i64 a1_0, .int .i64 a1_1, .slice A1_2 l1_2.length c1_2]] w fun e w' => e = .returned (.int .i64 r1) ∧ IsS189 w0 w' g s0_0 r2 r3 ∧ Below w0.heap.size w0 w' ∧ KeepBut w w' g none := by
 have hu36 := Try.underlying36
 have HR1_2 := q_ hr1_2
 have HC1_2 := q_ hc1_2
 clear hr1_2 hc1_2
 have HI0 := q_ hI
 have HK := q_ (KeepBut.refl w g none)
 have HL := q_ hB.size
 clear hI
 have HW0 := q_ hB.size
 have HB := q_ hB
 clear hB
 have H : ((spec_l1Once.f s0_0 s0_1 s0_2 20).bind fun bt337 => (if bt337.1 = true then ((spec_l1PickInt.f s0_0 bt337.2.1 bt337.2.2 (([(-1), 9223372036854775807, (-9223372036854775807)] : List Int))).bind fun bt343 => (some (bt343.1, bt343.2.1, bt343.2.2))) else ((spec_l1Below.f s0_0 bt337.2.1 bt337.2.2 (wrap64 ((l1_2.length : Int) + 3))).bind fun bt346 => (some (wrap64 ((wrap64 (a1_0 + bt346.1)) - 1), bt346.2.1, bt346.2.2))))) = some (r1, r2, r3) := h
 clear h
 replace H := Option.bind_eq_some_iff.mp H
 obtain ⟨⟨t337, t338, t339⟩, A30, H⟩ := H
 replace H : (if t337 = true then ((spec_l1PickInt.f s0_0 t338 t339 (([(-1), 9223372036854775807, (-9223372036854775807)] : List Int))).bind fun bt343 => (some (bt343.1, bt343.2.1, bt343.2.2))) else ((spec_l1Below.f s0_0 t338 t339 (wrap64 ((l1_2.length : Int) + 3))).bind fun bt346 => (some (wrap64 ((wrap64 (a1_0 + bt346.1)) - 1), bt346.2.1, bt346.2.2)))) = some (r1, r2, r3) := H
 have A3 := q_ A30
 clear A30
 by_cases c4 : t337 = true
 ·subst c4
  have H1 : ((spec_l1PickInt.f s0_0 t338 t339 (([(-1), 9223372036854775807, (-9223372036854775807)] : List Int))).bind fun bt343 => (some (bt343.1, bt343.2.1, bt343.2.2))) = some (r1, r2, r3) := z132_
  clear H
  have H := H1
  clear H1
  obtain ⟨y340, hy340⟩ : ∃ y_ : List Int, y_ = (([(-1), 9223372036854775807, (-9223372036854775807)] : List Int)) := ⟨_, rfl⟩
  replace H : ((spec_l1PickInt.f s0_0 t338 t339 y340).bind fun bt343 => (some (bt343.1, bt343.2.1, bt343.2.2))) = some (r1, r2, r3) := by first | (rw [hy340]; with_reducible exact H) | (have H2_ := (Option.bind_some _ _).symm.trans H; rw [hy340]; with_reducible exact H2_) | (have H2_ := (Option.bind_some _ _).symm.trans H; with_reducible exact H2_) | with_reducible exact H | (rw [hy340]; exact H) | exact H
  have Ny340 := q_ hy340
  clear hy340
  replace H := Option.bind_eq_some_iff.mp H
  obtain ⟨⟨t343, t344, t345⟩, A50, H⟩ := H
  replace H : (some (t343, t344, t345)) = some (r1, r2, r3) := H
  have A5 := q_ A50
  clear A50
  simp only [Option.some.injEq, Prod.mk.injEq] at H
  obtain ⟨rfl, rfl, rfl⟩ := H
  go_enter Try.func125, Try.ntmps125
  go_wp2_with (first | ((with_reducible refine gate_dst (N := 3) rfl ?_); refine box_event ?hg (N := 3) ?hd (cs := #[.int .i64 a1_0, .int .i64 a1_1, .slice A1_2 l1_2.length c1_2]) (t := 36) ?hr ?_; (case hd => rfl); (case hg => rfl); (case hr => exact z195_); intro gb336 hg w6 hbox hb; have n0_ := q_ (IsS189.below z3_ hb); have n1_ := q_ (KeepBut.trans z2_ (KeepBut.of_below hb g none) (.inl rfl)); have n2_ := q_ (below_step z8_ hb); have n3_ := q_ (hbox); have n4_ := q_ ((z151_ : w.heap.size ≤ gb336)); have n5_ := q_ ((Nat.le_trans HW0.out (z151_ : w.heap.size ≤ gb336) : w0.heap.size ≤ gb336)); have n6_ := q_ ((z152_ : g ≠ gb336)); have n7_ := q_ ((z153_ : gb336 ≠ g)); clear HI0; clear HK; clear HB; have HI0 := n0_; have HK := n1_; have HB := n2_; have BK336 := n3_; have GW336 := n4_; have GE336 := n5_; have NB0_336 := n6_; have NB336_0 := n7_; clear n0_ n1_ n2_ n3_ n4_ n5_ n6_ n7_; clear hb hbox hg) | ((with_reducible refine gate_callee (f := 135) rfl ?_); refine goesL_ (some 6) rfl rfl Try.func135 (by kernel_rfl) rfl #[.pointer (some ⟨g, 0, none⟩), .int .i64 20] rfl z1_ ?_; (with_reducible refine (spec_l1Once.calls g s0_0 s0_1 s0_2 20 true t338 t339 w0 _ ?side1 ?side2 A3.out).mono ?_); (case side1 => exact z199_); (case side2 => exact z200_); rintro e w7 ⟨rfl, hi, hb, hk⟩; refine ⟨_, rfl, ?_⟩; have n0_ := q_ (KeepBut.trans z2_ hk (.inl rfl)); have n1_ := q_ (hb); have n2_ := q_ (hi); clear HK; clear HB; clear HI0; have HK := n0_; have HB := n1_; have HI0 := n2_; clear n0_ n1_ n2_; (try clear hb); (try clear hb2); (try clear hk); (try clear hi)) | ((with_reducible refine gate_dst (N := 8) rfl ?_); refine Kd.R_lit (Kd.int .i64) _ 3 ?hg (N := 8) ?hd (xs := ([(-1), 9223372036854775807, (-9223372036854775807)] : List Int)) (inner := [.int .i64 (-1), .int .i64 9223372036854775807, .int .i64 (-9223372036854775807)]) (ok := fun _ => True) (okp := fun _ => True) ?hr ?hp (fun _ hk => hk) trivial (Below.refl _ _) (Nat.le_refl _) (by simp) ?_; (case hd => rfl); (case hg => rfl); (case hr => exact z195_); (case hp => exact (Reps.one (show Kd.M (Kd.int .i64) _ _ _ (-1) [.int .i64 (-1)] from rfl) (Reps.one (show Kd.M (Kd.int .i64) _ _ _ 9223372036854775807 [.int .i64 9223372036854775807] from rfl) (Reps.one (show Kd.M (Kd.int .i64) _ _ _ (-9223372036854775807) [.int .i64 (-9223372036854775807)] from rfl) (Reps.none _ _))))); intro v341 w8 ho9 hb hg_ hnew_; clear hg_ hnew_; (first | rw [← Ny340.out] at ho9 | (simp only [Int.reduceToNat] at ho9; rw [← Ny340.out] at ho9)); have n0_ := q_ (Kd.R_lower ho9 (keep_size (w := w) (g := g) (row := none) z2_)); have n1_ := q_ (IsS189.below z3_ hb); have n2_ := q_ (KeepBut.trans z2_ (KeepBut.of_below hb g none) (.inl rfl)); have n3_ := q_ (below_step z8_ hb); clear HI0; clear HK; clear HB; have HO342 := n0_; have HI0 := n1_; have HK := n2_; have HB := n3_; clear n0_ n1_ n2_ n3_; clear hb ho9; obtain ⟨Ao10, co10, eo10⟩ := Kd.R_slice HO342.out; subst eo10) | ((with_reducible refine gate_callee (f := 167) rfl ?_); refine goesL_ (some 9) rfl rfl Try.func167 (by kernel_rfl) rfl #[.pointer (some ⟨g, 0, none⟩), .slice Ao10 y340.length co10] rfl z1_ ?_; (with_reducible refine (spec_l1PickInt.calls g s0_0 t338 t339 _ _ y340 t343 t344 t345 w0 _ ?side1 ?side2 ?side3 ?side4 ?side5 A5.out).mono ?_); (case side1 => exact z199_); (case side2 => exact z200_); (case side3 => repeat (first | exact (Kd.R_reads' HO342.out).2.2 | (with_reducible refine Kd.C_alloc ?_ _) | (with_reducible refine Kd.C_drewN ?_ _) | (with_reducible refine Kd.C_drew ?_))); (case side4 => exact (Kd.R_reads' HO342.out).2.1); (case side5 => exact far_slice (IsS189.own_ne HI0.out HO342.out (by decide))); rintro e w11 ⟨rfl, hi, hb, hk⟩; refine ⟨_, rfl, ?_⟩; have n0_ := q_ (Kd.R_mono (Kd.R_keep (IsS189.apart (show IsS189 w0 _ g s0_0 t338 t339 from z3_) (by (with_reducible repeat (first | apply Kd.R_alloc | apply Kd.R_drewN | apply Kd.R_drew)); exact HO342.out) (by decide)) hk (fun _ h => h.2)) (fun _ h => h.1)); have n1_ := q_ (KeepBut.trans z2_ hk (.inl rfl)); have n2_ := q_ (hb); have n3_ := q_ (hi); clear HO342; clear HK; clear HB; clear HI0; have HO342 := n0_; have HK := n1_; have HB := n2_; have HI0 := n3_; clear n0_ n1_ n2_ n3_; (try clear hb); (try clear hb2); (try clear hk); (try clear hi)))
  go_ret
  exact ⟨z4_, z3_, z8_, z2_⟩
 ·replace c4 := Bool.eq_false_iff.mpr c4
  subst c4
  have H1 : ((spec_l1Below.f s0_0 t338 t339 (wrap64 ((l1_2.length : Int) + 3))).bind fun bt346 => (some (wrap64 ((wrap64 (a1_0 + bt346.1)) - 1), bt346.2.1, bt346.2.2))) = some (r1, r2, r3) := by rw [if_neg (show ¬ (false = true) by decide)] at H; exact H
  clear H
  have H := H1
  clear H1
  replace H := Option.bind_eq_some_iff.mp H
  obtain ⟨⟨t346, t347, t348⟩, A120, H⟩ := H
  replace H : (some (wrap64 ((wrap64 (a1_0 + t346)) - 1), t347, t348)) = some (r1, r2, r3) := H
  have A12 := q_ A120
  clear A120
  simp only [Option.some.injEq, Prod.mk.injEq] at H
  obtain ⟨rfl, rfl, rfl⟩ := H
  go_enter Try.func125, Try.ntmps125
  try go_wp2_with (first | ((with_reducible refine gate_dst (N := 3) rfl ?_); refine box_event ?hg (N := 3) ?hd (cs := #[.int .i64 a1_0, .int .i64 a1_1, .slice A1_2 l1_2.length c1_2]) (t := 36) ?hr ?_; (case hd => rfl); (case hg => rfl); (case hr => exact z195_); intro gb336 hg w13 hbox hb; have n0_ := q_ (IsS189.below z3_ hb); have n1_ := q_ (KeepBut.trans z2_ (KeepBut.of_below hb g none) (.inl rfl)); have n2_ := q_ (below_step z8_ hb); have n3_ := q_ (hbox); have n4_ := q_ ((z151_ : w.heap.size ≤ gb336)); have n5_ := q_ ((Nat.le_trans HW0.out (z151_ : w.heap.size ≤ gb336) : w0.heap.size ≤ gb336)); have n6_ := q_ ((z152_ : g ≠ gb336)); have n7_ := q_ ((z153_ : gb336 ≠ g)); clear HI0; clear HK; clear HB; have HI0 := n0_; have HK := n1_; have HB := n2_; have BK336 := n3_; have GW336 := n4_; have GE336 := n5_; have NB0_336 := n6_; have NB336_0 := n7_; clear n0_ n1_ n2_ n3_ n4_ n5_ n6_ n7_; clear hb hbox hg) | ((with_reducible refine gate_callee (f := 135) rfl ?_); refine goesL_ (some 6) rfl rfl Try.func135 (by kernel_rfl) rfl #[.pointer (some ⟨g, 0, none⟩), .int .i64 20] rfl z1_ ?_; (with_reducible refine (spec_l1Once.calls g s0_0 s0_1 s0_2 20 false t338 t339 w0 _ ?side1 ?side2 A3.out).mono ?_); (case side1 => exact z227_); (case side2 => exact z230_); rintro e w14 ⟨rfl, hi, hb, hk⟩; refine ⟨_, rfl, ?_⟩; have n0_ := q_ (KeepBut.blk hk (g' := gb336) (o := .cells #[.int .i64 a1_0, .int .i64 a1_1, .slice A1_2 l1_2.length c1_2] 36 (0, 0)) z142_ NB336_0.out (by simp)); have n1_ := q_ (KeepBut.trans z111_ hk (.inl rfl)); have n2_ := q_ (hb); have n3_ := q_ (hi); clear BK336; clear HK; clear HB; clear HI0; have BK336 := n0_; have HK := n1_; have HB := n2_; have HI0 := n3_; clear n0_ n1_ n2_ n3_; (try clear hb); (try clear hb2); (try clear hk); (try clear hi)))
  have n0_ := q_ (blk_drew BK336.out)
  have n1_ := q_ (IsS189.drew HI0.out)
  have n2_ := q_ (keep_drew HK.out)
  have n3_ := q_ (below_drew1 HB.out)
  clear BK336
  clear HI0
  clear HK
  clear HB
  have BK336 := n0_
  have HI0 := n1_
  have HK := n2_
  have HB := n3_
  clear n0_ n1_ n2_ n3_
  refine start_ (n := 11) (S := fun w' => w'.cell? ⟨gb336, 0, none⟩ = some (.int .i64 a1_0) ∧ w'.cell? ⟨gb336, 1, none⟩ = some (.int .i64 a1_1) ∧ w'.cell? ⟨gb336, 2, none⟩ = some (.slice A1_2 l1_2.length c1_2)) (ds := []) #[false, false, false, false, false, false, false, false, false, false, false] (by kernel_rfl) rfl rfl ⟨(blk_cell BK336.out 0).trans rfl, (blk_cell BK336.out 1).trans rfl, (blk_cell BK336.out 2).trans rfl⟩ (fun hHeld => ?_); refine with_tabW spec_l8DrawAt.tab3 spec_l8DrawAt.bits3 (fun HT_ HW_ => ?_)
  generalize w14.drew = w15 at BK336 HI0 HK HB hHeld ⊢
  refine pure_ (i := 0) (N := some 10) (v := ?_) (a' := ?_) #[true, false, false, false, false, false, false, false, false, false, false] rfl rfl (any_of HT_.out (by kernel_rfl)) (fun _ _ _ h => h) (Or.inl ⟨by rfl, ?_⟩) ?_ ?_
  rotate_left
  ·intro w'
   go_simp
   with_reducible rfl
  rotate_left
  ·simp only [Act.put, List.setIfInBounds_toArray, List.set_cons_zero, List.set_cons_succ, i64_w, i32_w]
   rfl
  refine pure_ (i := 2) (N := some 12) (v := ?_) (a' := ?_) #[true, false, true, false, false, false, false, false, false, false, false] rfl rfl (any_of HT_.out (by kernel_rfl)) (fun _ _ _ h => h) (Or.inl ⟨by rfl, ?_⟩) ?_ ?_
  rotate_left
  ·intro w'
   go_simp
   with_reducible rfl
  rotate_left
  ·simp only [Act.put, List.setIfInBounds_toArray, List.set_cons_zero, List.set_cons_succ, i64_w, i32_w]
   rfl
  refine pure_ (i := 3) (N := some 13) (v := ?_) (a' := ?_) #[true, false, true, true, false, false, false, false, false, false, false] rfl rfl (any_of HT_.out (by kernel_rfl)) (fun _ _ _ h => h) (Or.inl ⟨by rfl, ?_⟩) ?_ ?_
  rotate_left
  ·intro w'
   go_simp
   with_reducible rfl
  rotate_left
  ·simp only [Act.put, List.setIfInBounds_toArray, List.set_cons_zero, List.set_cons_succ, i64_w, i32_w]
   rfl
  refine take_ (i := 1) (N := some 11) (v := ?_) (a' := ?_) #[true, true, true, true, false, false, false, false, false, false, false] rfl rfl (take_ofW HT_.out HW_.out (by kernel_rfl)) (fun _ _ _ h => h) (Or.inl ⟨by rfl, ?_⟩) hHeld ?_ ?_
  rotate_left
  ·rintro w' ⟨s0, s1, s2⟩
   go_simp
   with_reducible rfl
  rotate_left
  ·simp only [Act.put, List.setIfInBounds_toArray, List.set_cons_zero, List.set_cons_succ, i64_w, i32_w]
   rfl
  refine take_ (i := 4) (N := some 14) (v := ?_) (a' := ?_) #[true, true, true, true, true, false, false, false, false, false, false] rfl rfl (take_ofW HT_.out HW_.out (by kernel_rfl)) (fun _ _ _ h => h) (Or.inl ⟨by rfl, ?_⟩) hHeld ?_ ?_
  rotate_left
  ·rintro w' ⟨s0, s1, s2⟩
   go_simp
   with_reducible rfl
  rotate_left
  ·simp only [Act.put, List.setIfInBounds_toArray, List.set_cons_zero, List.set_cons_succ, i64_w, i32_w]
   rfl
  refine pure_ (i := 5) (N := some 15) (v := ?_) (a' := ?_) #[true, true, true, true, true, true, false, false, false, false, false] rfl rfl (any_of HT_.out (by kernel_rfl)) (fun _ _ _ h => h) (Or.inl ⟨by rfl, ?_⟩) ?_ ?_
  rotate_left
  ·intro w'
   go_simp
   with_reducible rfl
  rotate_left
  ·simp only [Act.put, List.setIfInBounds_toArray, List.set_cons_zero, List.set_cons_succ, i64_w, i32_w]
   rfl
  refine pure_ (i := 6) (N := some 16) (v := ?_) (a' := ?_) #[true, true, true, true, true, true, true, false, false, false, false] rfl rfl (any_of HT_.out (by kernel_rfl)) (fun _ _ _ h => h) (Or.inl ⟨by rfl, ?_⟩) ?_ ?_
  rotate_left
  ·intro w'
   go_simp
   with_reducible rfl
  rotate_left
  ·simp only [Act.put, List.setIfInBounds_toArray, List.set_cons_zero, List.set_cons_succ, i64_w, i32_w]
   rfl
  refine one_ (i := 7) (N := some 17) #[true, true, true, true, true, true, true, true, false, false, false] rfl rfl (one_of HT_.out (by kernel_rfl)) (by decide) (fun K hK => ?_)
  refine goes_ Try.func126 (by kernel_rfl) rfl #[.pointer (some ⟨g, 0, none⟩), .int .i64 (wrap64 ((l1_2.length : Int) + 3))] (by rfl) rfl rfl z1_ ?_
  with_reducible refine (spec_l1Below.calls g s0_0 t338 t339 (wrap64 ((l1_2.length : Int) + 3)) t346 t347 t348 w0 _ ?side1 ?side2 A12.out).mono ?_
  (case side1 => exact z227_)
  (case side2 => exact z230_)
  rintro e w16 ⟨rfl, hi, hb, hk⟩
  refine ⟨_, rfl, ?_⟩
  have n0_ := q_ (KeepBut.blk hk (g' := gb336) (o := .cells #[.int .i64 a1_0, .int .i64 a1_1, .slice A1_2 l1_2.length c1_2] 36 (0, 0)) z142_ NB336_0.out (by simp))
  have n1_ := q_ (KeepBut.trans z111_ hk (.inl rfl))
  have n2_ := q_ (hb)
  have n3_ := q_ (hi)
  clear BK336
  clear HK
  clear HB
  clear HI0
  have BK336 := n0_
  have HK := n1_
  have HB := n2_
  have HI0 := n3_
  clear n0_ n1_ n2_ n3_
  (try clear hb)
  (try clear hb2)
  (try clear hk)
  (try clear hi)
  refine hK.out _ _ ⟨(blk_cell BK336.out 0).trans rfl, (blk_cell BK336.out 1).trans rfl, (blk_cell BK336.out 2).trans rfl⟩ (fun hHeld => ?_)
  clear hK K
  refine norm_ (a' := ?_) ?_ ?_
  rotate_left
  ·show Act.put _ (some 17) _ = _
   simp only [Act.put, List.setIfInBounds_toArray, List.set_cons_zero, List.set_cons_succ, i64_w, i32_w]
   rfl
  refine pure_ (i := 8) (N := some 18) (v := ?_) (a' := ?_) #[true, true, true, true, true, true, true, true, true, false, false] rfl rfl (any_of HT_.out (by kernel_rfl)) (fun _ _ _ h => h) (Or.inl ⟨by rfl, ?_⟩) ?_ ?_
  rotate_left
  ·intro w'
   go_simp
   with_reducible rfl
  rotate_left
  ·simp only [Act.put, List.setIfInBounds_toArray, List.set_cons_zero, List.set_cons_succ, i64_w, i32_w]
   rfl
  refine pure_ (i := 9) (N := some 19) (v := ?_) (a' := ?_) #[true, true, true, true, true, true, true, true, true, true, false] rfl rfl (any_of HT_.out (by kernel_rfl)) (fun _ _ _ h => h) (Or.inl ⟨by rfl, ?_⟩) ?_ ?_
  rotate_left
  ·intro w'
   go_simp
   with_reducible rfl
  rotate_left
  ·simp only [Act.put, List.setIfInBounds_toArray, List.set_cons_zero, List.set_cons_succ, i64_w, i32_w]
   rfl
  refine pure_ (i := 10) (N := some 4) (v := ?_) (a' := ?_) #[true, true, true, true, true, true, true, true, true, true, true] rfl rfl (any_of HT_.out (by kernel_rfl)) (fun _ _ _ h => h) (Or.inl ⟨by rfl, ?_⟩) ?_ ?_
  rotate_left
  ·intro w'
   go_simp
   with_reducible rfl
  rotate_left
  ·simp only [Act.put, List.setIfInBounds_toArray, List.set_cons_zero, List.set_cons_succ, i64_w, i32_w]
   rfl
  refine done_ (done_of HT_.out (by kernel_rfl)) ?_
  try go_wp2
  go_ret
  exact ⟨z4_, by repeat (first | (with_reducible first | exact HI0.out | apply IsS189.alloc | apply IsS189.drewN | apply IsS189.drew | apply IsS189.set_1 | apply IsS189.set_2 | refine IsS189.far ?_ NB0_336.out _) | exact HI0.out), by repeat (first | (with_reducible first | exact HB.out | apply below_alloc | apply pw_below_drewN | apply below_drew1 | refine below_set ?_ (IsS189.ge HI0.out) | refine below_set ?_ GE336.out) | exact HB.out), z111_⟩

/-! ### spec_l8DrawBoth: function 120 -/
def spec_l8DrawBoth.f (k : Nat) (l0 : List Int) : Option (Int × Int × (List (S129)) × Int) := (spec_l1New.f k l0).bind fun bt350 => ((spec_l8Draw.f k bt350.1 bt350.2.1 bt350.2.2).bind fun bt354 => ((spec_l8DrawAt.f bt350.1 bt354.2.2.2.1 bt354.2.2.2.2 bt354.1 bt354.2.1 bt354.2.2.1).bind fun bt362 => (some (bt354.1, bt354.2.1, bt354.2.2.1, bt362.1))))
theorem spec_l8DrawBoth.mono : ∀ a0 k, LeO (spec_l8DrawBoth.f k a0) (spec_l8DrawBoth.f (k + 1) a0) := by
 intro a0 k
 unfold spec_l8DrawBoth.f
 repeat' first
   | (with_reducible exact spec_l1New.mono _ _)
   | (with_reducible exact spec_l8Draw.mono _ _ _ _)
   | (with_reducible exact LeO.refl _)
   | (with_reducible exact LeO.none _)
   | (with_reducible refine LeO.ite ?_ ?_)
   | (with_reducible refine LeO.bind ?_ (fun _ => ?_))
   | exact spec_l1New.mono _ _
   | exact spec_l8Draw.mono _ _ _ _
   | exact LeO.none _
   | refine LeO.ite ?_ ?_
   | refine LeO.bind ?_ (fun _ => ?_)
set_option maxHeartbeats 8000000 in
set_option maxRecDepth 100000 in
theorem spec_l8DrawBoth.calls (k : Nat) (A0 : Option Addr) (c0 : Nat) (l0 : List Int) (r1 : Int) (r2 : Int) (r3 : List (S129)) (r4 : Int) (w : World) (hr0 : Kd.C (Kd.int .u8) w A0 l0.length l0) (hc0 : l0.length ≤ c0) (h : spec_l8DrawBoth.f k l0 = some (r1, r2, r3, r4)) :
  Calls Try.prog 120 #[.slice A0 l0.length c0] w fun e w' => ∃ v2_ : Value, e = .returned (.tuple #[.agg #[.int .i64 r1, .int .i64 r2, v2_], .int .i64 r4]) ∧ Kd.R k129 129 w' w.heap.size (fun _ => True) v2_ r3 ∧ Below w.heap.size w w' := by
 have hu36 := Try.underlying36
 have HR0 := q_ hr0
 have HC0 := q_ hc0
 clear hr0 hc0
 have HB := q_ (Below.refl w.heap.size w)
 have H : ((spec_l1New.f k l0).bind fun bt350 => ((spec_l8Draw.f k bt350.1 bt350.2.1 bt350.2.2).bind fun bt354 => ((spec_l8DrawAt.f bt350.1 bt354.2.2.2.1 bt354.2.2.2.2 bt354.1 bt354.2.1 bt354.2.2.1).bind fun bt362 => (some (bt354.1, bt354.2.1, bt354.2.2.1, bt362.1))))) = some (r1, r2, r3, r4) := h
 clear h
 replace H := Option.bind_eq_some_iff.mp H
 obtain ⟨⟨t350, t351, t352⟩, A20, H⟩ := H
 replace H : ((spec_l8Draw.f k t350 t351 t352).bind fun bt354 => ((spec_l8DrawAt.f t350 bt354.2.2.2.1 bt354.2.2.2.2 bt354.1 bt354.2.1 bt354.2.2.1).bind fun bt362 => (some (bt354.1, bt354.2.1, bt354.2.2.1, bt362.1)))) = some (r1, r2, r3, r4) := H
 have A2 := q_ A20
 clear A20
 replace H := Option.bind_eq_some_iff.mp H
 obtain ⟨⟨t354, t355, t356, t359, t360⟩, A30, H⟩ := H
 replace H : ((spec_l8DrawAt.f t350 t359 t360 t354 t355 t356).bind fun bt362 => (some (t354, t355, t356, bt362.1))) = some (r1, r2, r3, r4) := H
 have A3 := q_ A30
 clear A30
 replace H := Option.bind_eq_some_iff.mp H
 obtain ⟨⟨t362, t363, t364⟩, A40, H⟩ := H
 replace H : (some (t354, t355, t356, t362)) = some (r1, r2, r3, r4) := H
 have A4 := q_ A40
 clear A40
 simp only [Option.some.injEq, Prod.mk.injEq] at H
 obtain ⟨rfl, rfl, rfl, rfl⟩ := H
 go_enter Try.func120, Try.ntmps120
 try go_wp2_with (first | ((with_reducible refine gate_dst (N := 2) rfl ?_); refine box_event ?hg (N := 2) ?hd (cs := #[.int .i64 0, .int .i64 0, .slice none 0 0]) (t := 36) ?hr ?_; (case hd => rfl); (case hg => rfl); (case hr => exact z195_); intro gb349 hg w5 hbox hb; have n0_ := q_ (below_step z0_ hb); have n1_ := q_ (hbox); have n2_ := q_ ((z150_ : w.heap.size ≤ gb349)); have n3_ := q_ ((z150_ : w.heap.size ≤ gb349)); clear HB; have HB := n0_; have BK349 := n1_; have GW349 := n2_; have GE349 := n3_; clear n0_ n1_ n2_ n3_; clear hb hbox hg) | ((with_reducible refine gate_callee (f := 123) rfl ?_); refine goesL_ (some 7) rfl rfl Try.func123 (by kernel_rfl) rfl #[.slice A0 l0.length c0] rfl z1_ ?_; (with_reducible refine (spec_l1New.calls k _ _ l0 t350 t351 t352 w _ ?side1 ?side2 ?side3 A2.out).mono ?_); (case side1 => repeat (first | (with_reducible first | exact HB.out | apply below_alloc | apply pw_below_drewN | apply below_drew1 | refine below_set ?_ GE349.out) | exact HB.out)); (case side2 => exact HR0.out); (case side3 => exact HC0.out); rintro e w6 ⟨g353, rfl, hi, hb, hb2⟩; refine ⟨_, rfl, ?_⟩; have n0_ := q_ (blk_below (g := gb349) (o := .cells #[.int .i64 0, .int .i64 0, .slice none 0 0] 36 (0, 0)) z87_ hb2); have n1_ := q_ (hb); have n2_ := q_ (hi); have n3_ := q_ (IsS189.ne_blk hi (blk_below (g := gb349) (o := .cells #[.int .i64 0, .int .i64 0, .slice none 0 0] 36 (0, 0)) z87_ hb2) (by decide)); have n4_ := q_ (Ne.symm (IsS189.ne_blk hi (blk_below (g := gb349) (o := .cells #[.int .i64 0, .int .i64 0, .slice none 0 0] 36 (0, 0)) z87_ hb2) (by decide))); clear BK349; clear HB; have BK349 := n0_; have HB := n1_; have HI353 := n2_; have NB353_349 := n3_; have NB349_353 := n4_; clear n0_ n1_ n2_ n3_ n4_; (try clear hb); (try clear hb2); (try clear hk); (try clear hi)) | ((with_reducible refine gate_callee (f := 124) rfl ?_); refine goesL_ (some 9) rfl rfl Try.func124 (by kernel_rfl) rfl #[.pointer (some ⟨g353, 0, none⟩)] rfl z1_ ?_; (with_reducible refine (spec_l8Draw.calls k g353 t350 t351 t352 t354 t355 t356 t359 t360 w _ ?side1 ?side2 A3.out).mono ?_); (case side1 => repeat (first | (with_reducible first | exact HI353.out | apply IsS189.alloc | apply IsS189.drewN | apply IsS189.drew | apply IsS189.set_1 | apply IsS189.set_2 | refine IsS189.far ?_ NB353_349.out _) | exact HI353.out)); (case side2 => repeat (first | (with_reducible first | exact HB.out | apply below_alloc | apply pw_below_drewN | apply below_drew1 | refine below_set ?_ (IsS189.ge HI353.out) | refine below_set ?_ GE349.out) | exact HB.out)); rintro e w7 ⟨v357, rfl, ho0, hi, hb, hk⟩; refine ⟨_, rfl, ?_⟩; have n0_ := q_ (KeepBut.blk hk (g' := gb349) (o := .cells #[.int .i64 0, .int .i64 0, .slice none 0 0] 36 (0, 0)) z87_ NB349_353.out (by simp)); have n1_ := q_ (Kd.R_lower ho0 (below_size z91_)); have n2_ := q_ (hb); have n3_ := q_ (hi); clear BK349; clear HB; clear HI353; have BK349 := n0_; have HO358 := n1_; have HB := n2_; have HI353 := n3_; clear n0_ n1_ n2_ n3_; (try clear hb); (try clear hb2); (try clear hk); (try clear hi); (try clear ho0)) | ((with_reducible refine gate_dst (N := 5) rfl ?_); refine box_event ?hg (N := 5) ?hd (cs := #[.int .i64 0, .int .i64 0, .slice none 0 0]) (t := 36) ?hr ?_; (case hd => rfl); (case hg => rfl); (case hr => exact z195_); intro gb361 hg w8 hbox hb; have n0_ := q_ (Kd.R_below z138_ hb); have n1_ := q_ (blk_below (g := gb349) (o := .cells #[.int .i64 0, .int .i64 0, .slice none 0 0] 36 (0, 0)) z87_ hb); have n2_ := q_ (IsS189.below z101_ hb); have n3_ := q_ (below_step z91_ hb); have n4_ := q_ (hbox); have n5_ := q_ ((by rw [hg]; exact (below_size z91_) : w.heap.size ≤ gb361)); have n6_ := q_ ((by rw [hg]; exact (below_size z91_) : w.heap.size ≤ gb361)); have n7_ := q_ ((by rw [hg]; exact Nat.ne_of_lt (blk_lt (g := gb349) (o := .cells #[.int .i64 0, .int .i64 0, .slice none 0 0] 36 (0, 0)) z87_) : gb349 ≠ gb361)); have n8_ := q_ ((by rw [hg]; exact Nat.ne_of_gt (blk_lt (g := gb349) (o := .cells #[.int .i64 0, .int .i64 0, .slice none 0 0] 36 (0, 0)) z87_) : gb361 ≠ gb349)); have n9_ := q_ ((by rw [hg]; exact Nat.ne_of_lt (IsS189.lt (show IsS189 w _ g353 t350 t359 t360 from z101_)) : g353 ≠ gb361)); have n10_ := q_ ((by rw [hg]; exact Nat.ne_of_gt (IsS189.lt (show IsS189 w _ g353 t350 t359 t360 from z101_)) : gb361 ≠ g353)); clear HO358; clear BK349; clear HI353; clear HB; have HO358 := n0_; have BK349 := n1_; have HI353 := n2_; have HB := n3_; have BK361 := n4_; have GW361 := n5_; have GE361 := n6_; have NB349_361 := n7_; have NB361_349 := n8_; have NB353_361 := n9_; have NB361_353 := n10_; clear n0_ n1_ n2_ n3_ n4_ n5_ n6_ n7_ n8_ n9_ n10_; clear hb hbox hg; have hnb9 := NB361_349.out; have hnc9 := NB349_361.out; have hnb10 := NB361_353.out; have hnc10 := NB353_361.out; obtain ⟨hcz11_0, hcz11_1, hcz11_2, hfz11_0, hfz11_1, hfz11_2⟩ := cs3_ BK361.out; obtain ⟨Ao12, co12, eo12⟩ := Kd.R_slice HO358.out; subst eo12))
 have n0_ : Aside0 (Kd.R k129 129 (((w8.setCell ⟨gb361, 0, none⟩ (.int .i64 t354)).setCell ⟨gb361, 1, none⟩ (.int .i64 t355)).setCell ⟨gb361, 2, none⟩ (.slice Ao12 t356.length co12)) w.heap.size (fun _ => True) (.slice Ao12 t356.length co12) t356) := ⟨by (with_reducible repeat (first | apply Kd.R_alloc | apply Kd.R_drewN | apply Kd.R_drew)); exact Kd.R_mono (Kd.R_far (p := ⟨gb361, 2, none⟩) (Kd.R_far (p := ⟨gb361, 1, none⟩) (Kd.R_far (p := ⟨gb361, 0, none⟩) (Kd.R_types HO358.out BK361.out (by decide)) (fun _ hk => hk.2) (.int .i64 t354)) (fun _ hk => hk.2) (.int .i64 t355)) (fun _ hk => hk.2) (.slice Ao12 t356.length co12)) (fun _ hk => trivial)⟩
 have n1_ : Aside0 ((((w8.setCell ⟨gb361, 0, none⟩ (.int .i64 t354)).setCell ⟨gb361, 1, none⟩ (.int .i64 t355)).setCell ⟨gb361, 2, none⟩ (.slice Ao12 t356.length co12)).heap[gb349]? = some (.cells #[.int .i64 0, .int .i64 0, .slice none 0 0] 36 (0, 0))) := ⟨by (with_reducible repeat (first | refine blk_drewN ?_ _ | refine blk_drew ?_ | refine blk_alloc ?_ _)); refine blk_far ?_ NB349_361.out _; (with_reducible repeat (first | refine blk_drewN ?_ _ | refine blk_drew ?_ | refine blk_alloc ?_ _)); refine blk_far ?_ NB349_361.out _; (with_reducible repeat (first | refine blk_drewN ?_ _ | refine blk_drew ?_ | refine blk_alloc ?_ _)); refine blk_far ?_ NB349_361.out _; (with_reducible repeat (first | refine blk_drewN ?_ _ | refine blk_drew ?_ | refine blk_alloc ?_ _)); exact BK349.out⟩
 have n2_ : Aside0 ((((w8.setCell ⟨gb361, 0, none⟩ (.int .i64 t354)).setCell ⟨gb361, 1, none⟩ (.int .i64 t355)).setCell ⟨gb361, 2, none⟩ (.slice Ao12 t356.length co12)).heap[gb361]? = some (.cells #[.int .i64 t354, .int .i64 t355, .slice Ao12 t356.length co12] 36 (0, 0))) := ⟨by (with_reducible repeat (first | refine blk_drewN ?_ _ | refine blk_drew ?_ | refine blk_alloc ?_ _)); refine blk_put (cs := #[.int .i64 t354, .int .i64 t355, .slice none 0 0]) ?_ 2 _ rfl; (with_reducible repeat (first | refine blk_drewN ?_ _ | refine blk_drew ?_ | refine blk_alloc ?_ _)); refine blk_put (cs := #[.int .i64 t354, .int .i64 0, .slice none 0 0]) ?_ 1 _ rfl; (with_reducible repeat (first | refine blk_drewN ?_ _ | refine blk_drew ?_ | refine blk_alloc ?_ _)); refine blk_put (cs := #[.int .i64 0, .int .i64 0, .slice none 0 0]) ?_ 0 _ rfl; (with_reducible repeat (first | refine blk_drewN ?_ _ | refine blk_drew ?_ | refine blk_alloc ?_ _)); exact BK361.out⟩
 have n3_ : Aside0 (IsS189 w (((w8.setCell ⟨gb361, 0, none⟩ (.int .i64 t354)).setCell ⟨gb361, 1, none⟩ (.int .i64 t355)).setCell ⟨gb361, 2, none⟩ (.slice Ao12 t356.length co12)) g353 t350 t359 t360) := ⟨z98_⟩
 have n4_ : Aside0 (Below w.heap.size w (((w8.setCell ⟨gb361, 0, none⟩ (.int .i64 t354)).setCell ⟨gb361, 1, none⟩ (.int .i64 t355)).setCell ⟨gb361, 2, none⟩ (.slice Ao12 t356.length co12))) := ⟨z120_⟩
 (try clear HO358)
 (try clear BK349)
 (try clear BK361)
 (try clear HI353)
 (try clear HB)
 generalize (((w8.setCell ⟨gb361, 0, none⟩ (.int .i64 t354)).setCell ⟨gb361, 1, none⟩ (.int .i64 t355)).setCell ⟨gb361, 2, none⟩ (.slice Ao12 t356.length co12)) = w13 at n0_ n1_ n2_ n3_ n4_ ⊢
 have HO358 := n0_
 have BK349 := n1_
 have BK361 := n2_
 have HI353 := n3_
 have HB := n4_
 clear n0_ n1_ n2_ n3_ n4_
 have n0_ := q_ (Kd.R_drew HO358.out)
 have n1_ := q_ (blk_drew BK349.out)
 have n2_ := q_ (blk_drew BK361.out)
 have n3_ := q_ (IsS189.drew HI353.out)
 have n4_ := q_ (below_drew1 HB.out)
 clear HO358
 clear BK349
 clear BK361
 clear HI353
 clear HB
 have HO358 := n0_
 have BK349 := n1_
 have BK361 := n2_
 have HI353 := n3_
 have HB := n4_
 clear n0_ n1_ n2_ n3_ n4_
 refine start_ (n := 6) (S := fun w' => w'.cell? ⟨gb361, 0, none⟩ = some (.int .i64 t354) ∧ w'.cell? ⟨gb361, 1, none⟩ = some (.int .i64 t355) ∧ w'.cell? ⟨gb361, 2, none⟩ = some (.slice Ao12 t356.length co12)) (ds := []) #[false, false, false, false, false, false] (by kernel_rfl) rfl rfl ⟨(blk_cell BK361.out 0).trans rfl, (blk_cell BK361.out 1).trans rfl, (blk_cell BK361.out 2).trans rfl⟩ (fun hHeld => ?_)
 generalize w13.drew = w14 at HO358 BK349 BK361 HI353 HB hHeld ⊢
 refine pure_ (i := 1) (N := some 11) (v := ?_) (a' := ?_) #[false, true, false, false, false, false] rfl rfl (by kernel_rfl) (fun _ _ _ h => h) (Or.inl ⟨by rfl, ?_⟩) ?_ ?_
 rotate_left
 ·intro w'
  go_simp
  with_reducible rfl
 rotate_left
 ·simp only [Act.put, List.setIfInBounds_toArray, List.set_cons_zero, List.set_cons_succ, i64_w, i32_w]
  rfl
 refine take_ (i := 0) (N := some 10) (v := ?_) (a' := ?_) #[true, true, false, false, false, false] rfl rfl (by kernel_rfl) (fun _ _ _ h => h) (Or.inl ⟨by rfl, ?_⟩) hHeld ?_ ?_
 rotate_left
 ·rintro w' ⟨s0, s1, s2⟩
  go_simp
  with_reducible rfl
 rotate_left
 ·simp only [Act.put, List.setIfInBounds_toArray, List.set_cons_zero, List.set_cons_succ, i64_w, i32_w]
  rfl
 refine take_ (i := 2) (N := some 12) (v := ?_) (a' := ?_) #[true, true, true, false, false, false] rfl rfl (by kernel_rfl) (fun _ _ _ h => h) (Or.inl ⟨by rfl, ?_⟩) hHeld ?_ ?_
 rotate_left
 ·rintro w' ⟨s0, s1, s2⟩
  go_simp
  with_reducible rfl
 rotate_left
 ·simp only [Act.put, List.setIfInBounds_toArray, List.set_cons_zero, List.set_cons_succ, i64_w, i32_w]
  rfl
 refine one_ (i := 3) (N := some 13) #[true, true, true, true, false, false] rfl rfl (by kernel_rfl) (by decide) (fun K hK => ?_)
 refine goes_ Try.func125 (by kernel_rfl) rfl #[.pointer (some ⟨g353, 0, none⟩), .agg #[.int .i64 t354, .int .i64 t355, .slice Ao12 t356.length co12]] (by rfl) rfl rfl z1_ ?_
 with_reducible refine (spec_l8DrawAt.calls g353 t350 t359 t360 t354 t355 _ _ t356 t362 t363 t364 w _ ?side1 ?side2 ?side3 ?side4 A4.out).mono ?_
 (case side1 => repeat (first | (with_reducible first | exact HI353.out | apply IsS189.alloc | apply IsS189.drewN | apply IsS189.drew | apply IsS189.set_1 | apply IsS189.set_2 | refine IsS189.far ?_ NB353_349.out _ | refine IsS189.far ?_ NB353_361.out _) | exact HI353.out))
 (case side2 => repeat (first | (with_reducible first | exact HB.out | apply below_alloc | apply pw_below_drewN | apply below_drew1 | refine below_set ?_ (IsS189.ge HI353.out) | refine below_set ?_ GE349.out | refine below_set ?_ GE361.out) | exact HB.out))
 (case side3 => exact Kd.C_foot_own (IsS189.apart (show IsS189 w _ g353 t350 t359 t360 from z98_) z138_ (by decide)) (fun _ h_ => h_.2))
 (case side4 => exact (Kd.R_reads' HO358.out).2.1)
 rintro e w15 ⟨rfl, hi, hb, hk⟩
 refine ⟨_, rfl, ?_⟩
 have n0_ := q_ (KeepBut.blk hk (g' := gb349) (o := .cells #[.int .i64 0, .int .i64 0, .slice none 0 0] 36 (0, 0)) z87_ NB349_353.out (by simp))
 have n1_ := q_ (Kd.R_mono (Kd.R_keep (IsS189.apart (show IsS189 w _ g353 t350 t359 t360 from z98_) z138_ (by decide)) hk (fun _ h => h.2)) (fun _ h => h.1))
 have n2_ := q_ (KeepBut.blk hk (g' := gb361) (o := .cells #[.int .i64 t354, .int .i64 t355, .slice Ao12 t356.length co12] 36 (0, 0)) (by (with_reducible repeat (first | refine blk_drewN ?_ _ | refine blk_drew ?_ | refine blk_alloc ?_ _)); exact BK361.out) NB361_353.out (by simp))
 have n3_ := q_ (hb)
 have n4_ := q_ (hi)
 clear BK349
 clear HO358
 clear BK361
 clear HB
 clear HI353
 have BK349 := n0_
 have HO358 := n1_
 have BK361 := n2_
 have HB := n3_
 have HI353 := n4_
 clear n0_ n1_ n2_ n3_ n4_
 (try clear hb)
 (try clear hb2)
 (try clear hk)
 (try clear hi)
 refine hK.out _ _ ⟨(blk_cell BK361.out 0).trans rfl, (blk_cell BK361.out 1).trans rfl, (blk_cell BK361.out 2).trans rfl⟩ (fun hHeld => ?_)
 clear hK K
 refine norm_ (a' := ?_) ?_ ?_
 rotate_left
 ·show Act.put _ (some 13) _ = _
  simp only [Act.put, List.setIfInBounds_toArray, List.set_cons_zero, List.set_cons_succ, i64_w, i32_w]
  rfl
 refine one_ (i := 4) (N := none) #[true, true, true, true, true, false] rfl rfl (by kernel_rfl) (by decide) (fun K hK => ?_)
 have hs16 : w15.cell? ⟨gb349, 0, none⟩ = some (.int .i64 0) := (blk_cell BK349.out 0).trans rfl
 have hfs16 := blk_frozen BK349.out 0
 have hns16_1 := NB361_349.out
 have hms16_1 := NB349_361.out
 have hs17 : w15.cell? ⟨gb349, 1, none⟩ = some (.int .i64 0) := (blk_cell BK349.out 1).trans rfl
 have hfs17 := blk_frozen BK349.out 1
 have hns17_1 := NB361_349.out
 have hms17_1 := NB349_361.out
 have hs18 : w15.cell? ⟨gb349, 2, none⟩ = some (.slice none 0 0) := (blk_cell BK349.out 2).trans rfl
 have hfs18 := blk_frozen BK349.out 2
 have hns18_1 := NB361_349.out
 have hms18_1 := NB349_361.out
 refine skip_ (w1 := ?_) (by rfl) rfl ?_ ?_
 rotate_left
 ·go_simp
  rfl
 refine hK.out _ _ ⟨((cell_far (p := ⟨gb349, _, none⟩) NB361_349.out _).trans (((cell_far (p := ⟨gb349, _, none⟩) NB361_349.out _).trans (((cell_far (p := ⟨gb349, _, none⟩) NB361_349.out _).trans (hHeld.1)))))), ((cell_far (p := ⟨gb349, _, none⟩) NB361_349.out _).trans (((cell_far (p := ⟨gb349, _, none⟩) NB361_349.out _).trans (((cell_far (p := ⟨gb349, _, none⟩) NB361_349.out _).trans (hHeld.2.1)))))), ((cell_far (p := ⟨gb349, _, none⟩) NB361_349.out _).trans (((cell_far (p := ⟨gb349, _, none⟩) NB361_349.out _).trans (((cell_far (p := ⟨gb349, _, none⟩) NB361_349.out _).trans (hHeld.2.2))))))⟩ (fun hHeld => ?_)
 clear hK K
 refine pure_ (i := 5) (N := some 3) (v := ?_) (a' := ?_) #[true, true, true, true, true, true] rfl rfl (by kernel_rfl) (fun _ _ _ h => h) (Or.inl ⟨by rfl, ?_⟩) ?_ ?_
 rotate_left
 ·intro w'
  go_simp
  with_reducible rfl
 rotate_left
 ·simp only [Act.put, List.setIfInBounds_toArray, List.set_cons_zero, List.set_cons_succ, i64_w, i32_w]
  rfl
 refine done_ (by kernel_rfl) ?_
 try go_wp2
 refine bodyPost_ret (results_ct rfl _ _ gb349 36 #[.int .i64 t354, .int .i64 t355, .slice Ao12 t356.length co12] (0, 0) _ rfl (by (with_reducible repeat (first | refine blk_drewN ?_ _ | refine blk_drew ?_ | refine blk_alloc ?_ _)); refine blk_put (cs := #[.int .i64 t354, .int .i64 t355, .slice none 0 0]) ?_ 2 _ rfl; (with_reducible repeat (first | refine blk_drewN ?_ _ | refine blk_drew ?_ | refine blk_alloc ?_ _)); refine blk_put (cs := #[.int .i64 t354, .int .i64 0, .slice none 0 0]) ?_ 1 _ rfl; (with_reducible repeat (first | refine blk_drewN ?_ _ | refine blk_drew ?_ | refine blk_alloc ?_ _)); refine blk_put (cs := #[.int .i64 0, .int .i64 0, .slice none 0 0]) ?_ 0 _ rfl; (with_reducible repeat (first | refine blk_drewN ?_ _ | refine blk_drew ?_ | refine blk_alloc ?_ _)); exact BK349.out) Try.underlying36 rfl (by kernel_rfl)) rfl ?_
 exact ⟨_, z4_, by (with_reducible repeat (first | apply Kd.R_alloc | apply Kd.R_drewN | apply Kd.R_drew)); exact Kd.R_mono (Kd.R_far (p := ⟨gb349, 2, none⟩) (Kd.R_far (p := ⟨gb349, 1, none⟩) (Kd.R_far (p := ⟨gb349, 0, none⟩) (Kd.R_types HO358.out BK349.out (by decide)) (fun _ hk => hk.2) (.int .i64 t354)) (fun _ hk => hk.2) (.int .i64 t355)) (fun _ hk => hk.2) (.slice Ao12 t356.length co12)) (fun _ hk => trivial), z120_⟩

/-! ### spec_DrawLogCut: function 35 -/
def spec_DrawLogCut.f (k : Nat) (l0 : List Int) : Option (Int × Int × (List (S129)) × Int) := (spec_l8DrawBoth.f k l0).bind fun bt366 => (some (bt366.1, bt366.2.1, bt366.2.2.1, bt366.2.2.2))
theorem spec_DrawLogCut.mono : ∀ a0 k, LeO (spec_DrawLogCut.f k a0) (spec_DrawLogCut.f (k + 1) a0) := by
 intro a0 k
 unfold spec_DrawLogCut.f
 repeat' first
   | (with_reducible exact spec_l8DrawBoth.mono _ _)
   | (with_reducible exact LeO.refl _)
   | (with_reducible exact LeO.none _)
   | (with_reducible refine LeO.ite ?_ ?_)
   | (with_reducible refine LeO.bind ?_ (fun _ => ?_))
   | exact spec_l8DrawBoth.mono _ _
   | exact LeO.none _
   | refine LeO.ite ?_ ?_
   | refine LeO.bind ?_ (fun _ => ?_)
set_option maxHeartbeats 8000000 in
set_option maxRecDepth 100000 in
theorem spec_DrawLogCut.calls (k : Nat) (A0 : Option Addr) (c0 : Nat) (l0 : List Int) (r1 : Int) (r2 : Int) (r3 : List (S129)) (r4 : Int) (w : World) (hr0 : Kd.C (Kd.int .u8) w A0 l0.length l0) (hc0 : l0.length ≤ c0) (h : spec_DrawLogCut.f k l0 = some (r1, r2, r3, r4)) :
  Calls Try.prog 35 #[.slice A0 l0.length c0] w fun e w' => ∃ v2_ : Value, e = .returned (.tuple #[.agg #[.int .i64 r1, .int .i64 r2, v2_], .int .i64 r4]) ∧ Kd.R k129 129 w' w.heap.size (fun _ => True) v2_ r3 ∧ Below w.heap.size w w' := by
 have hu36 := Try.underlying36
 have HR0 := q_ hr0
 have HC0 := q_ hc0
 clear hr0 hc0
 have HB := q_ (Below.refl w.heap.size w)
 have H : ((spec_l8DrawBoth.f k l0).bind fun bt366 => (some (bt366.1, bt366.2.1, bt366.2.2.1, bt366.2.2.2))) = some (r1, r2, r3, r4) := h
 clear h
 replace H := Option.bind_eq_some_iff.mp H
 obtain ⟨⟨t366, t367, t368, t371⟩, A20, H⟩ := H
 replace H : (some (t366, t367, t368, t371)) = some (r1, r2, r3, r4) := H
 have A2 := q_ A20
 clear A20
 simp only [Option.some.injEq, Prod.mk.injEq] at H
 obtain ⟨rfl, rfl, rfl, rfl⟩ := H
 go_enter Try.func35, Try.ntmps35
 go_wp2_with (first | ((with_reducible refine gate_dst (N := 2) rfl ?_); refine box_event ?hg (N := 2) ?hd (cs := #[.int .i64 0, .int .i64 0, .slice none 0 0]) (t := 36) ?hr ?_; (case hd => rfl); (case hg => rfl); (case hr => exact z195_); intro gb365 hg w3 hbox hb; have n0_ := q_ (below_step z0_ hb); have n1_ := q_ (hbox); have n2_ := q_ ((z150_ : w.heap.size ≤ gb365)); have n3_ := q_ ((z150_ : w.heap.size ≤ gb365)); clear HB; have HB := n0_; have BK365 := n1_; have GW365 := n2_; have GE365 := n3_; clear n0_ n1_ n2_ n3_; clear hb hbox hg) | ((with_reducible refine gate_callee (f := 120) rfl ?_); refine goesL_ (some 8) rfl rfl Try.func120 (by kernel_rfl) rfl #[.slice A0 l0.length c0] rfl z1_ ?_; (with_reducible refine (spec_l8DrawBoth.calls k _ _ l0 t366 t367 t368 t371 _ ?side1 ?side2 A2.out).mono ?_); (case side1 => exact z210_); (case side2 => exact HC0.out); rintro e w4 ⟨v369, rfl, ho0, hb⟩; refine ⟨_, rfl, ?_⟩; have n0_ := q_ (Kd.R_lower ho0 (below_size z95_)); have n1_ := q_ (blk_below (g := gb365) (o := .cells #[.int .i64 0, .int .i64 0, .slice none 0 0] 36 (0, 0)) z125_ hb); have n2_ := q_ (below_step z95_ hb); clear BK365; clear HB; have HO370 := n0_; have BK365 := n1_; have HB := n2_; clear n0_ n1_ n2_; (try clear hb); (try clear hb2); (try clear hk); (try clear hi); (try clear ho0)) | ((with_reducible refine gate_dst (N := 4) rfl ?_); refine box_event ?hg (N := 4) ?hd (cs := #[.int .i64 0, .int .i64 0, .slice none 0 0]) (t := 36) ?hr ?_; (case hd => rfl); (case hg => rfl); (case hr => exact z195_); intro gb372 hg w5 hbox hb; have n0_ := q_ (Kd.R_below (by (with_reducible repeat (first | apply Kd.R_alloc | apply Kd.R_drewN | apply Kd.R_drew)); exact HO370.out) hb); have n1_ := q_ (blk_below (g := gb365) (o := .cells #[.int .i64 0, .int .i64 0, .slice none 0 0] 36 (0, 0)) z125_ hb); have n2_ := q_ (below_step z95_ hb); have n3_ := q_ (hbox); have n4_ := q_ ((by rw [hg]; exact (below_size z95_) : w.heap.size ≤ gb372)); have n5_ := q_ ((by rw [hg]; exact (below_size z95_) : w.heap.size ≤ gb372)); have n6_ := q_ ((by rw [hg]; exact Nat.ne_of_lt (blk_lt (g := gb365) (o := .cells #[.int .i64 0, .int .i64 0, .slice none 0 0] 36 (0, 0)) z125_) : gb365 ≠ gb372)); have n7_ := q_ ((by rw [hg]; exact Nat.ne_of_gt (blk_lt (g := gb365) (o := .cells #[.int .i64 0, .int .i64 0, .slice none 0 0] 36 (0, 0)) z125_) : gb372 ≠ gb365)); clear HO370; clear BK365; clear HB; have HO370 := n0_; have BK365 := n1_; have HB := n2_; have BK372 := n3_; have GW372 := n4_; have GE372 := n5_; have NB365_372 := n6_; have NB372_365 := n7_; clear n0_ n1_ n2_ n3_ n4_ n5_ n6_ n7_; clear hb hbox hg; have hnb6 := NB372_365.out; have hnc6 := NB365_372.out; obtain ⟨hcz7_0, hcz7_1, hcz7_2, hfz7_0, hfz7_1, hfz7_2⟩ := cs3_ BK372.out; obtain ⟨Ao8, co8, eo8⟩ := Kd.R_slice HO370.out; subst eo8; obtain ⟨hcz9_0, hcz9_1, hcz9_2, hfz9_0, hfz9_1, hfz9_2⟩ := cs3_ BK365.out))
 refine bodyPost_ret (results_ct rfl _ _ gb365 36 #[.int .i64 t366, .int .i64 t367, .slice Ao8 t368.length co8] (0, 0) _ rfl (by (with_reducible repeat (first | refine blk_drewN ?_ _ | refine blk_drew ?_ | refine blk_alloc ?_ _)); refine blk_put (cs := #[.int .i64 t366, .int .i64 t367, .slice none 0 0]) ?_ 2 _ rfl; (with_reducible repeat (first | refine blk_drewN ?_ _ | refine blk_drew ?_ | refine blk_alloc ?_ _)); refine blk_put (cs := #[.int .i64 t366, .int .i64 0, .slice none 0 0]) ?_ 1 _ rfl; (with_reducible repeat (first | refine blk_drewN ?_ _ | refine blk_drew ?_ | refine blk_alloc ?_ _)); refine blk_put (cs := #[.int .i64 0, .int .i64 0, .slice none 0 0]) ?_ 0 _ rfl; (with_reducible repeat (first | refine blk_drewN ?_ _ | refine blk_drew ?_ | refine blk_alloc ?_ _)); refine blk_far ?_ NB365_372.out _; (with_reducible repeat (first | refine blk_drewN ?_ _ | refine blk_drew ?_ | refine blk_alloc ?_ _)); refine blk_far ?_ NB365_372.out _; (with_reducible repeat (first | refine blk_drewN ?_ _ | refine blk_drew ?_ | refine blk_alloc ?_ _)); refine blk_far ?_ NB365_372.out _; (with_reducible repeat (first | refine blk_drewN ?_ _ | refine blk_drew ?_ | refine blk_alloc ?_ _)); exact BK365.out) Try.underlying36 rfl (by kernel_rfl)) rfl ?_
 exact ⟨_, z4_, by (with_reducible repeat (first | apply Kd.R_alloc | apply Kd.R_drewN | apply Kd.R_drew)); exact Kd.R_mono (Kd.R_far (p := ⟨gb365, 2, none⟩) (Kd.R_far (p := ⟨gb365, 1, none⟩) (Kd.R_far (p := ⟨gb365, 0, none⟩) (Kd.R_far (p := ⟨gb372, 2, none⟩) (Kd.R_far (p := ⟨gb372, 1, none⟩) (Kd.R_far (p := ⟨gb372, 0, none⟩) (Kd.R_types (Kd.R_types HO370.out BK372.out (by decide)) BK365.out (by decide)) (fun _ hk => hk.1.2) (.int .i64 t366)) (fun _ hk => hk.1.2) (.int .i64 t367)) (fun _ hk => hk.1.2) (.slice Ao8 t368.length co8)) (fun _ hk => hk.2) (.int .i64 t366)) (fun _ hk => hk.2) (.int .i64 t367)) (fun _ hk => hk.2) (.slice Ao8 t368.length co8)) (fun _ hk => trivial), by repeat (first | (with_reducible first | exact HB.out | apply below_alloc | apply pw_below_drewN | apply below_drew1 | refine below_set ?_ GE365.out | refine below_set ?_ GE372.out) | exact HB.out)⟩

end Go.Proofs.Ytphlmbhjeoljoaa.PFnLogCut
