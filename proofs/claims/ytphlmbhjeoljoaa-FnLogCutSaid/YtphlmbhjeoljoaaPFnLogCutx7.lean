-- Written by a program of this session, which goes by the kit's print. Not trusted: Lean checks it.
import Derived.Test.YtphlmbhjeoljoaaPFnLogCutx0
import Derived.Test.YtphlmbhjeoljoaaPFnLogCutx3
import Derived.Test.YtphlmbhjeoljoaaPFnLogCutx5
import Derived.Test.YtphlmbhjeoljoaaPFnLogCutx6
namespace Go.Proofs.Ytphlmbhjeoljoaa.PFnLogCut
open Go.RowKit Go.Proofs.YtphlmbhjeoljoaaW.PrintWords Go.Proofs.YtphlmbhjeoljoaaW.PrintLast Go.Proofs.YtphlmbhjeoljoaaW.PrintMore
attribute [local go_sem] max2_int min2_int max_two min_two max_three min_three max_four min_four   -- for this text's walks alone
set_option linter.unusedVariables false
set_option linter.unusedSimpArgs false

/-! ### spec_DrawNewer: function 43 -/
def spec_DrawNewer.f (k : Nat) (l0 : List Int) : Option (Int × Int × (List (S129)) × Int × Int) := (spec_l1New.f k l0).bind fun bt424 => ((spec_l8Draw.f k bt424.1 bt424.2.1 bt424.2.2).bind fun bt428 => ((spec_l8DrawAt.f bt424.1 bt428.2.2.2.1 bt428.2.2.2.2 bt428.1 bt428.2.1 bt428.2.2.1).bind fun bt436 => ((spec_l1Below.f bt424.1 bt436.2.1 bt436.2.2 5).bind fun bt439 => (some (bt428.1, bt428.2.1, bt428.2.2.1, bt436.1, bt439.1)))))
theorem spec_DrawNewer.mono : ∀ a0 k, LeO (spec_DrawNewer.f k a0) (spec_DrawNewer.f (k + 1) a0) := by
 intro a0 k
 unfold spec_DrawNewer.f
 repeat' first
   | (with_reducible exact spec_l1New.mono _ _)
   | (with_reducible exact spec_l8Draw.mono _ _ _ _)
   | (with_reducible exact LeO.refl _)
   | (with_reducible exact LeO.none _)
   | (with_reducible refine LeO.ite ?_ ?_)
   | (with_reducible refine LeO.bind ?_ (fun _ => ?_))
   | exact spec_l1New.mono _ _
   | exact spec_l8Draw.mono _ _ _ _
   | exact LeO.none _
   | refine LeO.ite ?_ ?_
   | refine LeO.bind ?_ (fun _ => ?_)
def spec_DrawNewer.T3 : Bool × List (List Nat × List Nat) := (true, [([], []), ([], []), ([], []), ([1, 2], [1, 2]), ([], []), ([4, 3], [4]), ([0, 5, 0], [0]), ([3, 6, 0, 1, 2, 3, 6], [3]), ([5, 7, 0, 1, 2, 3, 4, 5, 6, 7], [5])])
def spec_DrawNewer.B3 : List Nat := [0, 0, 0, 6, 0, 30, 63, 127, 255]
theorem spec_DrawNewer.tab3 : rtab .any (opsOf Try.f43 3) = spec_DrawNewer.T3 := by kernel_rfl
theorem spec_DrawNewer.bits3 : waitsOk spec_DrawNewer.T3.2 spec_DrawNewer.B3 = true := by kernel_rfl
set_option maxHeartbeats 8000000 in
set_option maxRecDepth 100000 in
theorem spec_DrawNewer.calls (k : Nat) (A0 : Option Addr) (c0 : Nat) (l0 : List Int) (r1 : Int) (r2 : Int) (r3 : List (S129)) (r4 : Int) (r5 : Int) (w : World) (hr0 : Kd.C (Kd.int .u8) w A0 l0.length l0) (hc0 : l0.length ≤ c0) (h : spec_DrawNewer.f k l0 = some (r1, r2, r3, r4, r5)) :
  Calls Try.prog 43 #[.slice A0 l0.length c0] w fun e w' => ∃ v2_ : Value, e = .returned (.tuple #[.agg #[.int .i64 r1, .int .i64 r2, v2_], .int .i64 r4, .int .i64 r5]) ∧ Kd.R k129 129 w' w.heap.size (fun _ => True) v2_ r3 ∧ Below w.heap.size w w' := by
 have hu36 := Try.underlying36
 have HR0 := q_ hr0
 have HC0 := q_ hc0
 clear hr0 hc0
 have HB := q_ (Below.refl w.heap.size w)
 have H : ((spec_l1New.f k l0).bind fun bt424 => ((spec_l8Draw.f k bt424.1 bt424.2.1 bt424.2.2).bind fun bt428 => ((spec_l8DrawAt.f bt424.1 bt428.2.2.2.1 bt428.2.2.2.2 bt428.1 bt428.2.1 bt428.2.2.1).bind fun bt436 => ((spec_l1Below.f bt424.1 bt436.2.1 bt436.2.2 5).bind fun bt439 => (some (bt428.1, bt428.2.1, bt428.2.2.1, bt436.1, bt439.1)))))) = some (r1, r2, r3, r4, r5) := h
 clear h
 replace H := Option.bind_eq_some_iff.mp H
 obtain ⟨⟨t424, t425, t426⟩, A20, H⟩ := H
 replace H : ((spec_l8Draw.f k t424 t425 t426).bind fun bt428 => ((spec_l8DrawAt.f t424 bt428.2.2.2.1 bt428.2.2.2.2 bt428.1 bt428.2.1 bt428.2.2.1).bind fun bt436 => ((spec_l1Below.f t424 bt436.2.1 bt436.2.2 5).bind fun bt439 => (some (bt428.1, bt428.2.1, bt428.2.2.1, bt436.1, bt439.1))))) = some (r1, r2, r3, r4, r5) := H
 have A2 := q_ A20
 clear A20
 replace H := Option.bind_eq_some_iff.mp H
 obtain ⟨⟨t428, t429, t430, t433, t434⟩, A30, H⟩ := H
 replace H : ((spec_l8DrawAt.f t424 t433 t434 t428 t429 t430).bind fun bt436 => ((spec_l1Below.f t424 bt436.2.1 bt436.2.2 5).bind fun bt439 => (some (t428, t429, t430, bt436.1, bt439.1)))) = some (r1, r2, r3, r4, r5) := H
 have A3 := q_ A30
 clear A30
 replace H := Option.bind_eq_some_iff.mp H
 obtain ⟨⟨t436, t437, t438⟩, A40, H⟩ := H
 replace H : ((spec_l1Below.f t424 t437 t438 5).bind fun bt439 => (some (t428, t429, t430, t436, bt439.1))) = some (r1, r2, r3, r4, r5) := H
 have A4 := q_ A40
 clear A40
 replace H := Option.bind_eq_some_iff.mp H
 obtain ⟨⟨t439, t440, t441⟩, A50, H⟩ := H
 replace H : (some (t428, t429, t430, t436, t439)) = some (r1, r2, r3, r4, r5) := H
 have A5 := q_ A50
 clear A50
 simp only [Option.some.injEq, Prod.mk.injEq] at H
 obtain ⟨rfl, rfl, rfl, rfl, rfl⟩ := H
 go_enter Try.func43, Try.ntmps43
 try go_wp2_with (first | ((with_reducible refine gate_dst (N := 2) rfl ?_); refine box_event ?hg (N := 2) ?hd (cs := #[.int .i64 0, .int .i64 0, .slice none 0 0]) (t := 36) ?hr ?_; (case hd => rfl); (case hg => rfl); (case hr => exact z195_); intro gb423 hg w6 hbox hb; have n0_ := q_ (below_step z0_ hb); have n1_ := q_ (hbox); have n2_ := q_ ((z150_ : w.heap.size ≤ gb423)); have n3_ := q_ ((z150_ : w.heap.size ≤ gb423)); clear HB; have HB := n0_; have BK423 := n1_; have GW423 := n2_; have GE423 := n3_; clear n0_ n1_ n2_ n3_; clear hb hbox hg) | ((with_reducible refine gate_callee (f := 123) rfl ?_); refine goesL_ (some 8) rfl rfl Try.func123 (by kernel_rfl) rfl #[.slice A0 l0.length c0] rfl z1_ ?_; (with_reducible refine (spec_l1New.calls k _ _ l0 t424 t425 t426 w _ ?side1 ?side2 ?side3 A2.out).mono ?_); (case side1 => repeat (first | (with_reducible first | exact HB.out | apply below_alloc | apply pw_below_drewN | apply below_drew1 | refine below_set ?_ GE423.out) | exact HB.out)); (case side2 => exact HR0.out); (case side3 => exact HC0.out); rintro e w7 ⟨g427, rfl, hi, hb, hb2⟩; refine ⟨_, rfl, ?_⟩; have n0_ := q_ (blk_below (g := gb423) (o := .cells #[.int .i64 0, .int .i64 0, .slice none 0 0] 36 (0, 0)) z74_ hb2); have n1_ := q_ (hb); have n2_ := q_ (hi); have n3_ := q_ (IsS189.ne_blk hi (blk_below (g := gb423) (o := .cells #[.int .i64 0, .int .i64 0, .slice none 0 0] 36 (0, 0)) z74_ hb2) (by decide)); have n4_ := q_ (Ne.symm (IsS189.ne_blk hi (blk_below (g := gb423) (o := .cells #[.int .i64 0, .int .i64 0, .slice none 0 0] 36 (0, 0)) z74_ hb2) (by decide))); clear BK423; clear HB; have BK423 := n0_; have HB := n1_; have HI427 := n2_; have NB427_423 := n3_; have NB423_427 := n4_; clear n0_ n1_ n2_ n3_ n4_; (try clear hb); (try clear hb2); (try clear hk); (try clear hi)) | ((with_reducible refine gate_callee (f := 124) rfl ?_); refine goesL_ (some 10) rfl rfl Try.func124 (by kernel_rfl) rfl #[.pointer (some ⟨g427, 0, none⟩)] rfl z1_ ?_; (with_reducible refine (spec_l8Draw.calls k g427 t424 t425 t426 t428 t429 t430 t433 t434 w _ ?side1 ?side2 A3.out).mono ?_); (case side1 => repeat (first | (with_reducible first | exact HI427.out | apply IsS189.alloc | apply IsS189.drewN | apply IsS189.drew | apply IsS189.set_1 | apply IsS189.set_2 | refine IsS189.far ?_ NB427_423.out _) | exact HI427.out)); (case side2 => repeat (first | (with_reducible first | exact HB.out | apply below_alloc | apply pw_below_drewN | apply below_drew1 | refine below_set ?_ (IsS189.ge HI427.out) | refine below_set ?_ GE423.out) | exact HB.out)); rintro e w8 ⟨v431, rfl, ho0, hi, hb, hk⟩; refine ⟨_, rfl, ?_⟩; have n0_ := q_ (KeepBut.blk hk (g' := gb423) (o := .cells #[.int .i64 0, .int .i64 0, .slice none 0 0] 36 (0, 0)) z74_ NB423_427.out (by simp)); have n1_ := q_ (Kd.R_lower ho0 (below_size z92_)); have n2_ := q_ (hb); have n3_ := q_ (hi); clear BK423; clear HB; clear HI427; have BK423 := n0_; have HO432 := n1_; have HB := n2_; have HI427 := n3_; clear n0_ n1_ n2_ n3_; (try clear hb); (try clear hb2); (try clear hk); (try clear hi); (try clear ho0)) | ((with_reducible refine gate_dst (N := 6) rfl ?_); refine box_event ?hg (N := 6) ?hd (cs := #[.int .i64 0, .int .i64 0, .slice none 0 0]) (t := 36) ?hr ?_; (case hd => rfl); (case hg => rfl); (case hr => exact z195_); intro gb435 hg w9 hbox hb; have n0_ := q_ (Kd.R_below z128_ hb); have n1_ := q_ (blk_below (g := gb423) (o := .cells #[.int .i64 0, .int .i64 0, .slice none 0 0] 36 (0, 0)) z74_ hb); have n2_ := q_ (IsS189.below z102_ hb); have n3_ := q_ (below_step z92_ hb); have n4_ := q_ (hbox); have n5_ := q_ ((by rw [hg]; exact (below_size z92_) : w.heap.size ≤ gb435)); have n6_ := q_ ((by rw [hg]; exact (below_size z92_) : w.heap.size ≤ gb435)); have n7_ := q_ ((by rw [hg]; exact Nat.ne_of_lt (blk_lt (g := gb423) (o := .cells #[.int .i64 0, .int .i64 0, .slice none 0 0] 36 (0, 0)) z74_) : gb423 ≠ gb435)); have n8_ := q_ ((by rw [hg]; exact Nat.ne_of_gt (blk_lt (g := gb423) (o := .cells #[.int .i64 0, .int .i64 0, .slice none 0 0] 36 (0, 0)) z74_) : gb435 ≠ gb423)); have n9_ := q_ ((by rw [hg]; exact Nat.ne_of_lt (IsS189.lt (show IsS189 w _ g427 t424 t433 t434 from z102_)) : g427 ≠ gb435)); have n10_ := q_ ((by rw [hg]; exact Nat.ne_of_gt (IsS189.lt (show IsS189 w _ g427 t424 t433 t434 from z102_)) : gb435 ≠ g427)); clear HO432; clear BK423; clear HI427; clear HB; have HO432 := n0_; have BK423 := n1_; have HI427 := n2_; have HB := n3_; have BK435 := n4_; have GW435 := n5_; have GE435 := n6_; have NB423_435 := n7_; have NB435_423 := n8_; have NB427_435 := n9_; have NB435_427 := n10_; clear n0_ n1_ n2_ n3_ n4_ n5_ n6_ n7_ n8_ n9_ n10_; clear hb hbox hg; have hnb10 := NB435_423.out; have hnc10 := NB423_435.out; have hnb11 := NB435_427.out; have hnc11 := NB427_435.out; obtain ⟨hcz12_0, hcz12_1, hcz12_2, hfz12_0, hfz12_1, hfz12_2⟩ := cs3_ BK435.out; obtain ⟨Ao13, co13, eo13⟩ := Kd.R_slice HO432.out; subst eo13))
 have n0_ : Aside0 (Kd.R k129 129 (((w9.setCell ⟨gb435, 0, none⟩ (.int .i64 t428)).setCell ⟨gb435, 1, none⟩ (.int .i64 t429)).setCell ⟨gb435, 2, none⟩ (.slice Ao13 t430.length co13)) w.heap.size (fun _ => True) (.slice Ao13 t430.length co13) t430) := ⟨by (with_reducible repeat (first | apply Kd.R_alloc | apply Kd.R_drewN | apply Kd.R_drew)); exact Kd.R_mono (Kd.R_far (p := ⟨gb435, 2, none⟩) (Kd.R_far (p := ⟨gb435, 1, none⟩) (Kd.R_far (p := ⟨gb435, 0, none⟩) (Kd.R_types HO432.out BK435.out (by decide)) (fun _ hk => hk.2) (.int .i64 t428)) (fun _ hk => hk.2) (.int .i64 t429)) (fun _ hk => hk.2) (.slice Ao13 t430.length co13)) (fun _ hk => trivial)⟩
 have n1_ : Aside0 ((((w9.setCell ⟨gb435, 0, none⟩ (.int .i64 t428)).setCell ⟨gb435, 1, none⟩ (.int .i64 t429)).setCell ⟨gb435, 2, none⟩ (.slice Ao13 t430.length co13)).heap[gb423]? = some (.cells #[.int .i64 0, .int .i64 0, .slice none 0 0] 36 (0, 0))) := ⟨by (with_reducible repeat (first | refine blk_drewN ?_ _ | refine blk_drew ?_ | refine blk_alloc ?_ _)); refine blk_far ?_ NB423_435.out _; (with_reducible repeat (first | refine blk_drewN ?_ _ | refine blk_drew ?_ | refine blk_alloc ?_ _)); refine blk_far ?_ NB423_435.out _; (with_reducible repeat (first | refine blk_drewN ?_ _ | refine blk_drew ?_ | refine blk_alloc ?_ _)); refine blk_far ?_ NB423_435.out _; (with_reducible repeat (first | refine blk_drewN ?_ _ | refine blk_drew ?_ | refine blk_alloc ?_ _)); exact BK423.out⟩
 have n2_ : Aside0 ((((w9.setCell ⟨gb435, 0, none⟩ (.int .i64 t428)).setCell ⟨gb435, 1, none⟩ (.int .i64 t429)).setCell ⟨gb435, 2, none⟩ (.slice Ao13 t430.length co13)).heap[gb435]? = some (.cells #[.int .i64 t428, .int .i64 t429, .slice Ao13 t430.length co13] 36 (0, 0))) := ⟨by (with_reducible repeat (first | refine blk_drewN ?_ _ | refine blk_drew ?_ | refine blk_alloc ?_ _)); refine blk_put (cs := #[.int .i64 t428, .int .i64 t429, .slice none 0 0]) ?_ 2 _ rfl; (with_reducible repeat (first | refine blk_drewN ?_ _ | refine blk_drew ?_ | refine blk_alloc ?_ _)); refine blk_put (cs := #[.int .i64 t428, .int .i64 0, .slice none 0 0]) ?_ 1 _ rfl; (with_reducible repeat (first | refine blk_drewN ?_ _ | refine blk_drew ?_ | refine blk_alloc ?_ _)); refine blk_put (cs := #[.int .i64 0, .int .i64 0, .slice none 0 0]) ?_ 0 _ rfl; (with_reducible repeat (first | refine blk_drewN ?_ _ | refine blk_drew ?_ | refine blk_alloc ?_ _)); exact BK435.out⟩
 have n3_ : Aside0 (IsS189 w (((w9.setCell ⟨gb435, 0, none⟩ (.int .i64 t428)).setCell ⟨gb435, 1, none⟩ (.int .i64 t429)).setCell ⟨gb435, 2, none⟩ (.slice Ao13 t430.length co13)) g427 t424 t433 t434) := ⟨z82_⟩
 have n4_ : Aside0 (Below w.heap.size w (((w9.setCell ⟨gb435, 0, none⟩ (.int .i64 t428)).setCell ⟨gb435, 1, none⟩ (.int .i64 t429)).setCell ⟨gb435, 2, none⟩ (.slice Ao13 t430.length co13))) := ⟨z121_⟩
 (try clear HO432)
 (try clear BK423)
 (try clear BK435)
 (try clear HI427)
 (try clear HB)
 generalize (((w9.setCell ⟨gb435, 0, none⟩ (.int .i64 t428)).setCell ⟨gb435, 1, none⟩ (.int .i64 t429)).setCell ⟨gb435, 2, none⟩ (.slice Ao13 t430.length co13)) = w14 at n0_ n1_ n2_ n3_ n4_ ⊢
 have HO432 := n0_
 have BK423 := n1_
 have BK435 := n2_
 have HI427 := n3_
 have HB := n4_
 clear n0_ n1_ n2_ n3_ n4_
 have n0_ := q_ (Kd.R_drew HO432.out)
 have n1_ := q_ (blk_drew BK423.out)
 have n2_ := q_ (blk_drew BK435.out)
 have n3_ := q_ (IsS189.drew HI427.out)
 have n4_ := q_ (below_drew1 HB.out)
 clear HO432
 clear BK423
 clear BK435
 clear HI427
 clear HB
 have HO432 := n0_
 have BK423 := n1_
 have BK435 := n2_
 have HI427 := n3_
 have HB := n4_
 clear n0_ n1_ n2_ n3_ n4_
 refine start_ (n := 9) (S := fun w' => w'.cell? ⟨gb435, 0, none⟩ = some (.int .i64 t428) ∧ w'.cell? ⟨gb435, 1, none⟩ = some (.int .i64 t429) ∧ w'.cell? ⟨gb435, 2, none⟩ = some (.slice Ao13 t430.length co13)) (ds := []) #[false, false, false, false, false, false, false, false, false] (by kernel_rfl) rfl rfl ⟨(blk_cell BK435.out 0).trans rfl, (blk_cell BK435.out 1).trans rfl, (blk_cell BK435.out 2).trans rfl⟩ (fun hHeld => ?_); refine with_tabW spec_DrawNewer.tab3 spec_DrawNewer.bits3 (fun HT_ HW_ => ?_)
 generalize w14.drew = w15 at HO432 BK423 BK435 HI427 HB hHeld ⊢
 refine pure_ (i := 1) (N := some 12) (v := ?_) (a' := ?_) #[false, true, false, false, false, false, false, false, false] rfl rfl (any_of HT_.out (by kernel_rfl)) (fun _ _ _ h => h) (Or.inl ⟨by rfl, ?_⟩) ?_ ?_
 rotate_left
 ·intro w'
  go_simp
  with_reducible rfl
 rotate_left
 ·simp only [Act.put, List.setIfInBounds_toArray, List.set_cons_zero, List.set_cons_succ, i64_w, i32_w]
  rfl
 refine pure_ (i := 4) (N := some 15) (v := ?_) (a' := ?_) #[false, true, false, false, true, false, false, false, false] rfl rfl (any_of HT_.out (by kernel_rfl)) (fun _ _ _ h => h) (Or.inl ⟨by rfl, ?_⟩) ?_ ?_
 rotate_left
 ·intro w'
  go_simp
  with_reducible rfl
 rotate_left
 ·simp only [Act.put, List.setIfInBounds_toArray, List.set_cons_zero, List.set_cons_succ, i64_w, i32_w]
  rfl
 refine take_ (i := 0) (N := some 11) (v := ?_) (a' := ?_) #[true, true, false, false, true, false, false, false, false] rfl rfl (take_ofW HT_.out HW_.out (by kernel_rfl)) (fun _ _ _ h => h) (Or.inl ⟨by rfl, ?_⟩) hHeld ?_ ?_
 rotate_left
 ·rintro w' ⟨s0, s1, s2⟩
  go_simp
  with_reducible rfl
 rotate_left
 ·simp only [Act.put, List.setIfInBounds_toArray, List.set_cons_zero, List.set_cons_succ, i64_w, i32_w]
  rfl
 refine take_ (i := 2) (N := some 13) (v := ?_) (a' := ?_) #[true, true, true, false, true, false, false, false, false] rfl rfl (take_ofW HT_.out HW_.out (by kernel_rfl)) (fun _ _ _ h => h) (Or.inl ⟨by rfl, ?_⟩) hHeld ?_ ?_
 rotate_left
 ·rintro w' ⟨s0, s1, s2⟩
  go_simp
  with_reducible rfl
 rotate_left
 ·simp only [Act.put, List.setIfInBounds_toArray, List.set_cons_zero, List.set_cons_succ, i64_w, i32_w]
  rfl
 refine one_ (i := 3) (N := some 14) #[true, true, true, true, true, false, false, false, false] rfl rfl (one_of HT_.out (by kernel_rfl)) (by decide) (fun K hK => ?_)
 refine goes_ Try.func125 (by kernel_rfl) rfl #[.pointer (some ⟨g427, 0, none⟩), .agg #[.int .i64 t428, .int .i64 t429, .slice Ao13 t430.length co13]] (by rfl) rfl rfl z1_ ?_
 with_reducible refine (spec_l8DrawAt.calls g427 t424 t433 t434 t428 t429 _ _ t430 t436 t437 t438 w _ ?side1 ?side2 ?side3 ?side4 A4.out).mono ?_
 (case side1 => exact z221_)
 (case side2 => exact z223_)
 (case side3 => exact Kd.C_foot_own (IsS189.apart (show IsS189 w _ g427 t424 t433 t434 from z82_) z128_ (by decide)) (fun _ h_ => h_.2))
 (case side4 => exact (Kd.R_reads' HO432.out).2.1)
 rintro e w16 ⟨rfl, hi, hb, hk⟩
 refine ⟨_, rfl, ?_⟩
 have n0_ := q_ (KeepBut.blk hk (g' := gb423) (o := .cells #[.int .i64 0, .int .i64 0, .slice none 0 0] 36 (0, 0)) z74_ NB423_427.out (by simp))
 have n1_ := q_ (Kd.R_mono (Kd.R_keep (IsS189.apart (show IsS189 w _ g427 t424 t433 t434 from z82_) z128_ (by decide)) hk (fun _ h => h.2)) (fun _ h => h.1))
 have n2_ := q_ (KeepBut.blk hk (g' := gb435) (o := .cells #[.int .i64 t428, .int .i64 t429, .slice Ao13 t430.length co13] 36 (0, 0)) z143_ NB435_427.out (by simp))
 have n3_ := q_ (hb)
 have n4_ := q_ (hi)
 clear BK423
 clear HO432
 clear BK435
 clear HB
 clear HI427
 have BK423 := n0_
 have HO432 := n1_
 have BK435 := n2_
 have HB := n3_
 have HI427 := n4_
 clear n0_ n1_ n2_ n3_ n4_
 (try clear hb)
 (try clear hb2)
 (try clear hk)
 (try clear hi)
 refine hK.out _ _ ⟨(blk_cell BK435.out 0).trans rfl, (blk_cell BK435.out 1).trans rfl, (blk_cell BK435.out 2).trans rfl⟩ (fun hHeld => ?_)
 clear hK K
 refine norm_ (a' := ?_) ?_ ?_
 rotate_left
 ·show Act.put _ (some 14) _ = _
  simp only [Act.put, List.setIfInBounds_toArray, List.set_cons_zero, List.set_cons_succ, i64_w, i32_w]
  rfl
 refine one_ (i := 5) (N := some 16) #[true, true, true, true, true, true, false, false, false] rfl rfl (one_of HT_.out (by kernel_rfl)) (by decide) (fun K hK => ?_)
 refine goes_ Try.func126 (by kernel_rfl) rfl #[.pointer (some ⟨g427, 0, none⟩), .int .i64 5] (by rfl) rfl rfl z1_ ?_
 with_reducible refine (spec_l1Below.calls g427 t424 t437 t438 5 t439 t440 t441 w _ ?side1 ?side2 A5.out).mono ?_
 (case side1 => exact z221_)
 (case side2 => exact z223_)
 rintro e w17 ⟨rfl, hi, hb, hk⟩
 refine ⟨_, rfl, ?_⟩
 have n0_ := q_ (KeepBut.blk hk (g' := gb423) (o := .cells #[.int .i64 0, .int .i64 0, .slice none 0 0] 36 (0, 0)) z74_ NB423_427.out (by simp))
 have n1_ := q_ (Kd.R_mono (Kd.R_keep (IsS189.apart (show IsS189 w _ g427 t424 t437 t438 from z82_) z128_ (by decide)) hk (fun _ h => h.2)) (fun _ h => h.1))
 have n2_ := q_ (KeepBut.blk hk (g' := gb435) (o := .cells #[.int .i64 t428, .int .i64 t429, .slice Ao13 t430.length co13] 36 (0, 0)) z143_ NB435_427.out (by simp))
 have n3_ := q_ (hb)
 have n4_ := q_ (hi)
 clear BK423
 clear HO432
 clear BK435
 clear HB
 clear HI427
 have BK423 := n0_
 have HO432 := n1_
 have BK435 := n2_
 have HB := n3_
 have HI427 := n4_
 clear n0_ n1_ n2_ n3_ n4_
 (try clear hb)
 (try clear hb2)
 (try clear hk)
 (try clear hi)
 refine hK.out _ _ ⟨(blk_cell BK435.out 0).trans rfl, (blk_cell BK435.out 1).trans rfl, (blk_cell BK435.out 2).trans rfl⟩ (fun hHeld => ?_)
 clear hK K
 refine norm_ (a' := ?_) ?_ ?_
 rotate_left
 ·show Act.put _ (some 16) _ = _
  simp only [Act.put, List.setIfInBounds_toArray, List.set_cons_zero, List.set_cons_succ, i64_w, i32_w]
  rfl
 refine one_ (i := 6) (N := none) #[true, true, true, true, true, true, true, false, false] rfl rfl (one_of HT_.out (by kernel_rfl)) (by decide) (fun K hK => ?_)
 have hs18 : w17.cell? ⟨gb423, 0, none⟩ = some (.int .i64 0) := (blk_cell BK423.out 0).trans rfl
 have hfs18 := blk_frozen BK423.out 0
 have hns18_1 := NB435_423.out
 have hms18_1 := NB423_435.out
 have hs19 : w17.cell? ⟨gb423, 1, none⟩ = some (.int .i64 0) := (blk_cell BK423.out 1).trans rfl
 have hfs19 := blk_frozen BK423.out 1
 have hns19_1 := NB435_423.out
 have hms19_1 := NB423_435.out
 have hs20 : w17.cell? ⟨gb423, 2, none⟩ = some (.slice none 0 0) := (blk_cell BK423.out 2).trans rfl
 have hfs20 := blk_frozen BK423.out 2
 have hns20_1 := NB435_423.out
 have hms20_1 := NB423_435.out
 refine skip_ (w1 := ?_) (by rfl) rfl ?_ ?_
 rotate_left
 ·go_simp
  rfl
 refine hK.out _ _ ⟨((cell_far (p := ⟨gb423, _, none⟩) NB435_423.out _).trans (((cell_far (p := ⟨gb423, _, none⟩) NB435_423.out _).trans (((cell_far (p := ⟨gb423, _, none⟩) NB435_423.out _).trans (hHeld.1)))))), ((cell_far (p := ⟨gb423, _, none⟩) NB435_423.out _).trans (((cell_far (p := ⟨gb423, _, none⟩) NB435_423.out _).trans (((cell_far (p := ⟨gb423, _, none⟩) NB435_423.out _).trans (hHeld.2.1)))))), ((cell_far (p := ⟨gb423, _, none⟩) NB435_423.out _).trans (((cell_far (p := ⟨gb423, _, none⟩) NB435_423.out _).trans (((cell_far (p := ⟨gb423, _, none⟩) NB435_423.out _).trans (hHeld.2.2))))))⟩ (fun hHeld => ?_)
 clear hK K
 refine pure_ (i := 7) (N := some 3) (v := ?_) (a' := ?_) #[true, true, true, true, true, true, true, true, false] rfl rfl (any_of HT_.out (by kernel_rfl)) (fun _ _ _ h => h) (Or.inl ⟨by rfl, ?_⟩) ?_ ?_
 rotate_left
 ·intro w'
  go_simp
  with_reducible rfl
 rotate_left
 ·simp only [Act.put, List.setIfInBounds_toArray, List.set_cons_zero, List.set_cons_succ, i64_w, i32_w]
  rfl
 refine pure_ (i := 8) (N := some 4) (v := ?_) (a' := ?_) #[true, true, true, true, true, true, true, true, true] rfl rfl (any_of HT_.out (by kernel_rfl)) (fun _ _ _ h => h) (Or.inl ⟨by rfl, ?_⟩) ?_ ?_
 rotate_left
 ·intro w'
  go_simp
  with_reducible rfl
 rotate_left
 ·simp only [Act.put, List.setIfInBounds_toArray, List.set_cons_zero, List.set_cons_succ, i64_w, i32_w]
  rfl
 refine done_ (done_of HT_.out (by kernel_rfl)) ?_
 try go_wp2
 refine bodyPost_ret (results_ctt rfl _ _ gb423 36 #[.int .i64 t428, .int .i64 t429, .slice Ao13 t430.length co13] (0, 0) _ rfl (by (with_reducible repeat (first | refine blk_drewN ?_ _ | refine blk_drew ?_ | refine blk_alloc ?_ _)); refine blk_put (cs := #[.int .i64 t428, .int .i64 t429, .slice none 0 0]) ?_ 2 _ rfl; (with_reducible repeat (first | refine blk_drewN ?_ _ | refine blk_drew ?_ | refine blk_alloc ?_ _)); refine blk_put (cs := #[.int .i64 t428, .int .i64 0, .slice none 0 0]) ?_ 1 _ rfl; (with_reducible repeat (first | refine blk_drewN ?_ _ | refine blk_drew ?_ | refine blk_alloc ?_ _)); refine blk_put (cs := #[.int .i64 0, .int .i64 0, .slice none 0 0]) ?_ 0 _ rfl; (with_reducible repeat (first | refine blk_drewN ?_ _ | refine blk_drew ?_ | refine blk_alloc ?_ _)); exact BK423.out) Try.underlying36 rfl (by kernel_rfl)) rfl ?_
 exact ⟨_, z4_, by (with_reducible repeat (first | apply Kd.R_alloc | apply Kd.R_drewN | apply Kd.R_drew)); exact Kd.R_mono (Kd.R_far (p := ⟨gb423, 2, none⟩) (Kd.R_far (p := ⟨gb423, 1, none⟩) (Kd.R_far (p := ⟨gb423, 0, none⟩) (Kd.R_types HO432.out BK423.out (by decide)) (fun _ hk => hk.2) (.int .i64 t428)) (fun _ hk => hk.2) (.int .i64 t429)) (fun _ hk => hk.2) (.slice Ao13 t430.length co13)) (fun _ hk => trivial), z121_⟩

/-! ### spec_LastOf: function 44 -/
def spec_LastOf.f (a0_0 : Int) (a0_1 : Int) (l0_2 : List (S129)) : Option (Int × Int) := if (l0_2.length : Int) = 0 then (some (a0_0, a0_1)) else (if 0 ≤ (wrap64 ((l0_2.length : Int) - 1)) then (if (wrap64 ((l0_2.length : Int) - 1)) < (l0_2.length : Int) then (some (wrap64 (a0_0 + (l0_2.length : Int)), (rd_T129 l0_2 (wrap64 ((l0_2.length : Int) - 1))).f0)) else (none)) else (none))
set_option maxHeartbeats 8000000 in
set_option maxRecDepth 100000 in
theorem spec_LastOf.calls (a0_0 : Int) (a0_1 : Int) (A0_2 : Option Addr) (c0_2 : Nat) (l0_2 : List (S129)) (r1 : Int) (r2 : Int) (w : World) (hr0_2 : Kd.C k129 w A0_2 l0_2.length l0_2) (hc0_2 : l0_2.length ≤ c0_2) (h : spec_LastOf.f a0_0 a0_1 l0_2 = some (r1, r2)) :
  Calls Try.prog 44 #[.agg #[.int .i64 a0_0, .int .i64 a0_1, .slice A0_2 l0_2.length c0_2]] w fun e w' => e = .returned (.tuple #[.int .i64 r1, .int .i64 r2]) ∧ Below w.heap.size w w' := by
 have hu36 := Try.underlying36
 have HR0_2 := q_ hr0_2
 have HC0_2 := q_ hc0_2
 clear hr0_2 hc0_2
 have HB := q_ (Below.refl w.heap.size w)
 have H : (if (l0_2.length : Int) = 0 then (some (a0_0, a0_1)) else (if 0 ≤ (wrap64 ((l0_2.length : Int) - 1)) then (if (wrap64 ((l0_2.length : Int) - 1)) < (l0_2.length : Int) then (some (wrap64 (a0_0 + (l0_2.length : Int)), (rd_T129 l0_2 (wrap64 ((l0_2.length : Int) - 1))).f0)) else (none)) else (none))) = some (r1, r2) := h
 clear h
 by_cases c2 : (l0_2.length : Int) = 0
 ·rw [if_pos c2] at H
  have c2b0 : ((l0_2.length : Int) == 0) = true := beq_iff_eq.mpr c2
  have c2b1 : ((l0_2.length : Int) != 0) = false := bne_eq_false_iff_eq.mpr c2
  clear c2
  simp only [Option.some.injEq, Prod.mk.injEq] at H
  obtain ⟨rfl, rfl⟩ := H
  go_enter Try.func44, Try.ntmps44
  go_wp2_with (first | ((with_reducible refine gate_dst (N := 1) rfl ?_); refine box_event ?hg (N := 1) ?hd (cs := #[.int .i64 a0_0, .int .i64 a0_1, .slice A0_2 l0_2.length c0_2]) (t := 36) ?hr ?_; (case hd => rfl); (case hg => rfl); (case hr => exact z195_); intro gb442 hg w3 hbox hb; have n0_ := q_ (below_step z0_ hb); have n1_ := q_ (hbox); have n2_ := q_ ((z150_ : w.heap.size ≤ gb442)); have n3_ := q_ ((z150_ : w.heap.size ≤ gb442)); clear HB; have HB := n0_; have BK442 := n1_; have GW442 := n2_; have GE442 := n3_; clear n0_ n1_ n2_ n3_; clear hb hbox hg; obtain ⟨hcz4_0, hcz4_1, hcz4_2, hfz4_0, hfz4_1, hfz4_2⟩ := cs3_ BK442.out))
  repeat (go_quiet (first | ((with_reducible refine gate_dst (N := 1) rfl ?_); refine box_event ?hg (N := 1) ?hd (cs := #[.int .i64 a0_0, .int .i64 a0_1, .slice A0_2 l0_2.length c0_2]) (t := 36) ?hr ?_; (case hd => rfl); (case hg => rfl); (case hr => exact z195_); intro gb442 hg w3 hbox hb; have n0_ := q_ (below_step z0_ hb); have n1_ := q_ (hbox); have n2_ := q_ ((z150_ : w.heap.size ≤ gb442)); have n3_ := q_ ((z150_ : w.heap.size ≤ gb442)); clear HB; have HB := n0_; have BK442 := n1_; have GW442 := n2_; have GE442 := n3_; clear n0_ n1_ n2_ n3_; clear hb hbox hg; obtain ⟨hcz4_0, hcz4_1, hcz4_2, hfz4_0, hfz4_1, hfz4_2⟩ := cs3_ BK442.out)); try go_wp2_with (first | ((with_reducible refine gate_dst (N := 1) rfl ?_); refine box_event ?hg (N := 1) ?hd (cs := #[.int .i64 a0_0, .int .i64 a0_1, .slice A0_2 l0_2.length c0_2]) (t := 36) ?hr ?_; (case hd => rfl); (case hg => rfl); (case hr => exact z195_); intro gb442 hg w3 hbox hb; have n0_ := q_ (below_step z0_ hb); have n1_ := q_ (hbox); have n2_ := q_ ((z150_ : w.heap.size ≤ gb442)); have n3_ := q_ ((z150_ : w.heap.size ≤ gb442)); clear HB; have HB := n0_; have BK442 := n1_; have GW442 := n2_; have GE442 := n3_; clear n0_ n1_ n2_ n3_; clear hb hbox hg; obtain ⟨hcz4_0, hcz4_1, hcz4_2, hfz4_0, hfz4_1, hfz4_2⟩ := cs3_ BK442.out)))
  go_ret2
  exact ⟨z4_, z136_⟩
 ·rw [if_neg c2] at H
  have c2b0 : ((l0_2.length : Int) == 0) = false := beq_eq_false_iff_ne.mpr c2
  have c2b1 : ((l0_2.length : Int) != 0) = true := bne_iff_ne.mpr c2
  have c2b2 : ¬ (l0_2 = []) := fun h_ => c2 (by rw [h_]; rfl)
  obtain ⟨ji5, hji5⟩ : ∃ j_ : Int, (wrap64 ((l0_2.length : Int) - 1)) = j_ := ⟨_, rfl⟩
  replace H : (if 0 ≤ (ji5) then (if (ji5) < (l0_2.length : Int) then (some (wrap64 (a0_0 + (l0_2.length : Int)), (rd_T129 l0_2 (ji5)).f0)) else (none)) else (none)) = some (r1, r2) := by first | (rw [hji5] at H; exact H) | (simp only [hji5] at H ⊢; exact H)
  have hji5w : (IntKind.i64.wrap ((l0_2.length : Int) - 1)) = ji5 := (i64_w _).trans hji5
  by_cases c6 : 0 ≤ (ji5)
  ·rw [if_pos c6] at H
   have c6b0 : decide (0 ≤ (ji5)) = true := decide_eq_true c6
   clear c6
   by_cases c7 : (ji5) < (l0_2.length : Int)
   ·rw [if_pos c7] at H
    have c7b0 : decide ((ji5) < (l0_2.length : Int)) = true := decide_eq_true c7
    clear c7
    simp only [Option.some.injEq, Prod.mk.injEq] at H
    obtain ⟨rfl, rfl⟩ := H
    go_enter Try.func44, Try.ntmps44
    go_wp2_with (first | ((with_reducible refine gate_dst (N := 1) rfl ?_); refine box_event ?hg (N := 1) ?hd (cs := #[.int .i64 a0_0, .int .i64 a0_1, .slice A0_2 l0_2.length c0_2]) (t := 36) ?hr ?_; (case hd => rfl); (case hg => rfl); (case hr => exact z195_); intro gb442 hg w8 hbox hb; have n0_ := q_ (below_step z0_ hb); have n1_ := q_ (hbox); have n2_ := q_ ((z150_ : w.heap.size ≤ gb442)); have n3_ := q_ ((z150_ : w.heap.size ≤ gb442)); clear HB; have HB := n0_; have BK442 := n1_; have GW442 := n2_; have GE442 := n3_; clear n0_ n1_ n2_ n3_; clear hb hbox hg; obtain ⟨hcz9_0, hcz9_1, hcz9_2, hfz9_0, hfz9_1, hfz9_2⟩ := cs3_ BK442.out; have p443 : 0 ≤ ((ji5) : Int) := of_decide_eq_true z46_; have q443 : (ji5) < (l0_2.length : Int) := of_decide_eq_true z46_; obtain ⟨ad443, e443, hx443_0, hx443_1, hx443_2, hx443_3, hx443_4, hx443_5⟩ := at_T129 HR0_2.out (ji5) p443 q443; cases e443; replace hx443_0 := up_ HB hx443_0; replace hx443_1 := up_ HB hx443_1; replace hx443_2 := up_ HB hx443_2; replace hx443_3 := up_ HB hx443_3; replace hx443_4 := up_ HB hx443_4; replace hx443_5 := up_ HB hx443_5; replace p443 := eq_true p443; replace q443 := eq_true q443))
    repeat (go_quiet (first | ((with_reducible refine gate_dst (N := 1) rfl ?_); refine box_event ?hg (N := 1) ?hd (cs := #[.int .i64 a0_0, .int .i64 a0_1, .slice A0_2 l0_2.length c0_2]) (t := 36) ?hr ?_; (case hd => rfl); (case hg => rfl); (case hr => exact z195_); intro gb442 hg w8 hbox hb; have n0_ := q_ (below_step z0_ hb); have n1_ := q_ (hbox); have n2_ := q_ ((z150_ : w.heap.size ≤ gb442)); have n3_ := q_ ((z150_ : w.heap.size ≤ gb442)); clear HB; have HB := n0_; have BK442 := n1_; have GW442 := n2_; have GE442 := n3_; clear n0_ n1_ n2_ n3_; clear hb hbox hg; obtain ⟨hcz9_0, hcz9_1, hcz9_2, hfz9_0, hfz9_1, hfz9_2⟩ := cs3_ BK442.out; have p443 : 0 ≤ ((ji5) : Int) := of_decide_eq_true z46_; have q443 : (ji5) < (l0_2.length : Int) := of_decide_eq_true z46_; obtain ⟨ad443, e443, hx443_0, hx443_1, hx443_2, hx443_3, hx443_4, hx443_5⟩ := at_T129 HR0_2.out (ji5) p443 q443; cases e443; replace hx443_0 := up_ HB hx443_0; replace hx443_1 := up_ HB hx443_1; replace hx443_2 := up_ HB hx443_2; replace hx443_3 := up_ HB hx443_3; replace hx443_4 := up_ HB hx443_4; replace hx443_5 := up_ HB hx443_5; replace p443 := eq_true p443; replace q443 := eq_true q443)); try go_wp2_with (first | ((with_reducible refine gate_dst (N := 1) rfl ?_); refine box_event ?hg (N := 1) ?hd (cs := #[.int .i64 a0_0, .int .i64 a0_1, .slice A0_2 l0_2.length c0_2]) (t := 36) ?hr ?_; (case hd => rfl); (case hg => rfl); (case hr => exact z195_); intro gb442 hg w8 hbox hb; have n0_ := q_ (below_step z0_ hb); have n1_ := q_ (hbox); have n2_ := q_ ((z150_ : w.heap.size ≤ gb442)); have n3_ := q_ ((z150_ : w.heap.size ≤ gb442)); clear HB; have HB := n0_; have BK442 := n1_; have GW442 := n2_; have GE442 := n3_; clear n0_ n1_ n2_ n3_; clear hb hbox hg; obtain ⟨hcz9_0, hcz9_1, hcz9_2, hfz9_0, hfz9_1, hfz9_2⟩ := cs3_ BK442.out; have p443 : 0 ≤ ((ji5) : Int) := of_decide_eq_true z46_; have q443 : (ji5) < (l0_2.length : Int) := of_decide_eq_true z46_; obtain ⟨ad443, e443, hx443_0, hx443_1, hx443_2, hx443_3, hx443_4, hx443_5⟩ := at_T129 HR0_2.out (ji5) p443 q443; cases e443; replace hx443_0 := up_ HB hx443_0; replace hx443_1 := up_ HB hx443_1; replace hx443_2 := up_ HB hx443_2; replace hx443_3 := up_ HB hx443_3; replace hx443_4 := up_ HB hx443_4; replace hx443_5 := up_ HB hx443_5; replace p443 := eq_true p443; replace q443 := eq_true q443)))
    go_ret2
    exact ⟨by first | rfl | (simp [errW_none, errW_some] <;> rfl) | (simp only [← hji5]; first | rfl | (simp [errW_none, errW_some] <;> rfl)) | (simp [*, errW_none, errW_some] <;> rfl), z136_⟩
   ·rw [if_neg c7] at H
    exact absurd H (by simp)
  ·rw [if_neg c6] at H
   exact absurd H (by simp)

/-! ### impl_Newer: function 45 -/
def impl_Newer.f (a0_0 : Int) (a0_1 : Int) (l0_2 : List (S129)) (a1 : Int) (a2 : Int) : Option (Bool) := (impl_LastOf.f a0_0 a0_1 l0_2).bind fun bt445 => (if a2 > bt445.2 then (some true) else (if a2 = bt445.2 then (some (decide (a1 ≥ bt445.1))) else (some false)))
set_option maxHeartbeats 8000000 in
set_option maxRecDepth 100000 in
theorem impl_Newer.calls (a0_0 : Int) (a0_1 : Int) (A0_2 : Option Addr) (c0_2 : Nat) (l0_2 : List (S129)) (a1 : Int) (a2 : Int) (r : Bool) (w : World) (hr0_2 : Kd.C k129 w A0_2 l0_2.length l0_2) (hc0_2 : l0_2.length ≤ c0_2) (h : impl_Newer.f a0_0 a0_1 l0_2 a1 a2 = some r) :
  Calls Try.prog 45 #[.agg #[.int .i64 a0_0, .int .i64 a0_1, .slice A0_2 l0_2.length c0_2], .int .i64 a1, .int .i64 a2] w fun e w' => e = .returned (.bool r) ∧ Below w.heap.size w w' := by
 have hu36 := Try.underlying36
 have HR0_2 := q_ hr0_2
 have HC0_2 := q_ hc0_2
 clear hr0_2 hc0_2
 have HB := q_ (Below.refl w.heap.size w)
 have H : ((impl_LastOf.f a0_0 a0_1 l0_2).bind fun bt445 => (if a2 > bt445.2 then (some true) else (if a2 = bt445.2 then (some (decide (a1 ≥ bt445.1))) else (some false)))) = some r := h
 clear h
 replace H := Option.bind_eq_some_iff.mp H
 obtain ⟨⟨t445, t446⟩, A40, H⟩ := H
 replace H : (if a2 > t446 then (some true) else (if a2 = t446 then (some (decide (a1 ≥ t445))) else (some false))) = some r := H
 have A4 := q_ A40
 clear A40
 by_cases c5 : a2 > t446
 ·rw [if_pos c5] at H
  have c5b0 : decide (t446 < a2) = true := decide_eq_true c5
  clear c5
  obtain rfl := Option.some.inj H
  go_enter Try.func45, Try.ntmps45
  go_wp2_with (first | ((with_reducible refine gate_dst (N := 3) rfl ?_); refine box_event ?hg (N := 3) ?hd (cs := #[.int .i64 a0_0, .int .i64 a0_1, .slice A0_2 l0_2.length c0_2]) (t := 36) ?hr ?_; (case hd => rfl); (case hg => rfl); (case hr => exact z195_); intro gb444 hg w6 hbox hb; have n0_ := q_ (below_step z0_ hb); have n1_ := q_ (hbox); have n2_ := q_ ((z150_ : w.heap.size ≤ gb444)); have n3_ := q_ ((z150_ : w.heap.size ≤ gb444)); clear HB; have HB := n0_; have BK444 := n1_; have GW444 := n2_; have GE444 := n3_; clear n0_ n1_ n2_ n3_; clear hb hbox hg; obtain ⟨hcz7_0, hcz7_1, hcz7_2, hfz7_0, hfz7_1, hfz7_2⟩ := cs3_ BK444.out) | ((with_reducible refine gate_callee (f := 37) rfl ?_); refine goesL_ (some 11) rfl rfl Try.func37 (by kernel_rfl) rfl #[.agg #[.int .i64 a0_0, .int .i64 a0_1, .slice A0_2 l0_2.length c0_2]] rfl z1_ ?_; (with_reducible refine (impl_LastOf.calls a0_0 a0_1 _ _ l0_2 t445 t446 _ ?side1 ?side2 A4.out).mono ?_); (case side1 => exact z196_); (case side2 => exact HC0_2.out); rintro e w8 ⟨rfl, hb⟩; refine ⟨_, rfl, ?_⟩; have n0_ := q_ (below_step z0_ hb); clear HB; have HB := n0_; clear n0_; (try clear hb); (try clear hb2); (try clear hk); (try clear hi)))
  go_ret
  exact ⟨z4_, z0_⟩
 ·rw [if_neg c5] at H
  have c5b0 : decide (t446 < a2) = false := decide_eq_false c5
  clear c5
  by_cases c9 : a2 = t446
  ·rw [if_pos c9] at H
   have c9b0 : (a2 == t446) = true := beq_iff_eq.mpr c9
   have c9b1 : (a2 != t446) = false := bne_eq_false_iff_eq.mpr c9
   clear c9
   obtain rfl := Option.some.inj H
   go_enter Try.func45, Try.ntmps45
   go_wp2_with (first | ((with_reducible refine gate_dst (N := 3) rfl ?_); refine box_event ?hg (N := 3) ?hd (cs := #[.int .i64 a0_0, .int .i64 a0_1, .slice A0_2 l0_2.length c0_2]) (t := 36) ?hr ?_; (case hd => rfl); (case hg => rfl); (case hr => exact z195_); intro gb444 hg w10 hbox hb; have n0_ := q_ (below_step z0_ hb); have n1_ := q_ (hbox); have n2_ := q_ ((z150_ : w.heap.size ≤ gb444)); have n3_ := q_ ((z150_ : w.heap.size ≤ gb444)); clear HB; have HB := n0_; have BK444 := n1_; have GW444 := n2_; have GE444 := n3_; clear n0_ n1_ n2_ n3_; clear hb hbox hg; obtain ⟨hcz11_0, hcz11_1, hcz11_2, hfz11_0, hfz11_1, hfz11_2⟩ := cs3_ BK444.out) | ((with_reducible refine gate_callee (f := 37) rfl ?_); refine goesL_ (some 11) rfl rfl Try.func37 (by kernel_rfl) rfl #[.agg #[.int .i64 a0_0, .int .i64 a0_1, .slice A0_2 l0_2.length c0_2]] rfl z1_ ?_; (with_reducible refine (impl_LastOf.calls a0_0 a0_1 _ _ l0_2 t445 t446 _ ?side1 ?side2 A4.out).mono ?_); (case side1 => exact z196_); (case side2 => exact HC0_2.out); rintro e w12 ⟨rfl, hb⟩; refine ⟨_, rfl, ?_⟩; have n0_ := q_ (below_step z0_ hb); clear HB; have HB := n0_; clear n0_; (try clear hb); (try clear hb2); (try clear hk); (try clear hi)))
   go_ret
   exact ⟨z4_, z0_⟩
  ·rw [if_neg c9] at H
   have c9b0 : (a2 == t446) = false := beq_eq_false_iff_ne.mpr c9
   have c9b1 : (a2 != t446) = true := bne_iff_ne.mpr c9
   obtain rfl := Option.some.inj H
   go_enter Try.func45, Try.ntmps45
   go_wp2_with (first | ((with_reducible refine gate_dst (N := 3) rfl ?_); refine box_event ?hg (N := 3) ?hd (cs := #[.int .i64 a0_0, .int .i64 a0_1, .slice A0_2 l0_2.length c0_2]) (t := 36) ?hr ?_; (case hd => rfl); (case hg => rfl); (case hr => exact z195_); intro gb444 hg w13 hbox hb; have n0_ := q_ (below_step z0_ hb); have n1_ := q_ (hbox); have n2_ := q_ ((z150_ : w.heap.size ≤ gb444)); have n3_ := q_ ((z150_ : w.heap.size ≤ gb444)); clear HB; have HB := n0_; have BK444 := n1_; have GW444 := n2_; have GE444 := n3_; clear n0_ n1_ n2_ n3_; clear hb hbox hg; obtain ⟨hcz14_0, hcz14_1, hcz14_2, hfz14_0, hfz14_1, hfz14_2⟩ := cs3_ BK444.out) | ((with_reducible refine gate_callee (f := 37) rfl ?_); refine goesL_ (some 11) rfl rfl Try.func37 (by kernel_rfl) rfl #[.agg #[.int .i64 a0_0, .int .i64 a0_1, .slice A0_2 l0_2.length c0_2]] rfl z1_ ?_; (with_reducible refine (impl_LastOf.calls a0_0 a0_1 _ _ l0_2 t445 t446 _ ?side1 ?side2 A4.out).mono ?_); (case side1 => exact z196_); (case side2 => exact HC0_2.out); rintro e w15 ⟨rfl, hb⟩; refine ⟨_, rfl, ?_⟩; have n0_ := q_ (below_step z0_ hb); clear HB; have HB := n0_; clear n0_; (try clear hb); (try clear hb2); (try clear hk); (try clear hi)))
   go_ret
   exact ⟨z4_, z0_⟩

/-! ### spec_Newer: function 46 -/
def spec_Newer.f (a0_0 : Int) (a0_1 : Int) (l0_2 : List (S129)) (a1 : Int) (a2 : Int) : Option (Bool) := (spec_LastOf.f a0_0 a0_1 l0_2).bind fun bt448 => (if a2 > bt448.2 then (some true) else (if a2 = bt448.2 then (some (decide (a1 ≥ bt448.1))) else (some false)))
set_option maxHeartbeats 8000000 in
set_option maxRecDepth 100000 in
theorem spec_Newer.calls (a0_0 : Int) (a0_1 : Int) (A0_2 : Option Addr) (c0_2 : Nat) (l0_2 : List (S129)) (a1 : Int) (a2 : Int) (r : Bool) (w : World) (hr0_2 : Kd.C k129 w A0_2 l0_2.length l0_2) (hc0_2 : l0_2.length ≤ c0_2) (h : spec_Newer.f a0_0 a0_1 l0_2 a1 a2 = some r) :
  Calls Try.prog 46 #[.agg #[.int .i64 a0_0, .int .i64 a0_1, .slice A0_2 l0_2.length c0_2], .int .i64 a1, .int .i64 a2] w fun e w' => e = .returned (.bool r) ∧ Below w.heap.size w w' := by
 have hu36 := Try.underlying36
 have HR0_2 := q_ hr0_2
 have HC0_2 := q_ hc0_2
 clear hr0_2 hc0_2
 have HB := q_ (Below.refl w.heap.size w)
 have H : ((spec_LastOf.f a0_0 a0_1 l0_2).bind fun bt448 => (if a2 > bt448.2 then (some true) else (if a2 = bt448.2 then (some (decide (a1 ≥ bt448.1))) else (some false)))) = some r := h
 clear h
 replace H := Option.bind_eq_some_iff.mp H
 obtain ⟨⟨t448, t449⟩, A40, H⟩ := H
 replace H : (if a2 > t449 then (some true) else (if a2 = t449 then (some (decide (a1 ≥ t448))) else (some false))) = some r := H
 have A4 := q_ A40
 clear A40
 by_cases c5 : a2 > t449
 ·rw [if_pos c5] at H
  have c5b0 : decide (t449 < a2) = true := decide_eq_true c5
  clear c5
  obtain rfl := Option.some.inj H
  go_enter Try.func46, Try.ntmps46
  go_wp2_with (first | ((with_reducible refine gate_dst (N := 3) rfl ?_); refine box_event ?hg (N := 3) ?hd (cs := #[.int .i64 a0_0, .int .i64 a0_1, .slice A0_2 l0_2.length c0_2]) (t := 36) ?hr ?_; (case hd => rfl); (case hg => rfl); (case hr => exact z195_); intro gb447 hg w6 hbox hb; have n0_ := q_ (below_step z0_ hb); have n1_ := q_ (hbox); have n2_ := q_ ((z150_ : w.heap.size ≤ gb447)); have n3_ := q_ ((z150_ : w.heap.size ≤ gb447)); clear HB; have HB := n0_; have BK447 := n1_; have GW447 := n2_; have GE447 := n3_; clear n0_ n1_ n2_ n3_; clear hb hbox hg; obtain ⟨hcz7_0, hcz7_1, hcz7_2, hfz7_0, hfz7_1, hfz7_2⟩ := cs3_ BK447.out) | ((with_reducible refine gate_callee (f := 44) rfl ?_); refine goesL_ (some 11) rfl rfl Try.func44 (by kernel_rfl) rfl #[.agg #[.int .i64 a0_0, .int .i64 a0_1, .slice A0_2 l0_2.length c0_2]] rfl z1_ ?_; (with_reducible refine (spec_LastOf.calls a0_0 a0_1 _ _ l0_2 t448 t449 _ ?side1 ?side2 A4.out).mono ?_); (case side1 => exact z196_); (case side2 => exact HC0_2.out); rintro e w8 ⟨rfl, hb⟩; refine ⟨_, rfl, ?_⟩; have n0_ := q_ (below_step z0_ hb); clear HB; have HB := n0_; clear n0_; (try clear hb); (try clear hb2); (try clear hk); (try clear hi)))
  go_ret
  exact ⟨z4_, z0_⟩
 ·rw [if_neg c5] at H
  have c5b0 : decide (t449 < a2) = false := decide_eq_false c5
  clear c5
  by_cases c9 : a2 = t449
  ·rw [if_pos c9] at H
   have c9b0 : (a2 == t449) = true := beq_iff_eq.mpr c9
   have c9b1 : (a2 != t449) = false := bne_eq_false_iff_eq.mpr c9
   clear c9
   obtain rfl := Option.some.inj H
   go_enter Try.func46, Try.ntmps46
   go_wp2_with (first | ((with_reducible refine gate_dst (N := 3) rfl ?_); refine box_event ?hg (N := 3) ?hd (cs := #[.int .i64 a0_0, .int .i64 a0_1, .slice A0_2 l0_2.length c0_2]) (t := 36) ?hr ?_; (case hd => rfl); (case hg => rfl); (case hr => exact z195_); intro gb447 hg w10 hbox hb; have n0_ := q_ (below_step z0_ hb); have n1_ := q_ (hbox); have n2_ := q_ ((z150_ : w.heap.size ≤ gb447)); have n3_ := q_ ((z150_ : w.heap.size ≤ gb447)); clear HB; have HB := n0_; have BK447 := n1_; have GW447 := n2_; have GE447 := n3_; clear n0_ n1_ n2_ n3_; clear hb hbox hg; obtain ⟨hcz11_0, hcz11_1, hcz11_2, hfz11_0, hfz11_1, hfz11_2⟩ := cs3_ BK447.out) | ((with_reducible refine gate_callee (f := 44) rfl ?_); refine goesL_ (some 11) rfl rfl Try.func44 (by kernel_rfl) rfl #[.agg #[.int .i64 a0_0, .int .i64 a0_1, .slice A0_2 l0_2.length c0_2]] rfl z1_ ?_; (with_reducible refine (spec_LastOf.calls a0_0 a0_1 _ _ l0_2 t448 t449 _ ?side1 ?side2 A4.out).mono ?_); (case side1 => exact z196_); (case side2 => exact HC0_2.out); rintro e w12 ⟨rfl, hb⟩; refine ⟨_, rfl, ?_⟩; have n0_ := q_ (below_step z0_ hb); clear HB; have HB := n0_; clear n0_; (try clear hb); (try clear hb2); (try clear hk); (try clear hi)))
   go_ret
   exact ⟨z4_, z0_⟩
  ·rw [if_neg c9] at H
   have c9b0 : (a2 == t449) = false := beq_eq_false_iff_ne.mpr c9
   have c9b1 : (a2 != t449) = true := bne_iff_ne.mpr c9
   obtain rfl := Option.some.inj H
   go_enter Try.func46, Try.ntmps46
   go_wp2_with (first | ((with_reducible refine gate_dst (N := 3) rfl ?_); refine box_event ?hg (N := 3) ?hd (cs := #[.int .i64 a0_0, .int .i64 a0_1, .slice A0_2 l0_2.length c0_2]) (t := 36) ?hr ?_; (case hd => rfl); (case hg => rfl); (case hr => exact z195_); intro gb447 hg w13 hbox hb; have n0_ := q_ (below_step z0_ hb); have n1_ := q_ (hbox); have n2_ := q_ ((z150_ : w.heap.size ≤ gb447)); have n3_ := q_ ((z150_ : w.heap.size ≤ gb447)); clear HB; have HB := n0_; have BK447 := n1_; have GW447 := n2_; have GE447 := n3_; clear n0_ n1_ n2_ n3_; clear hb hbox hg; obtain ⟨hcz14_0, hcz14_1, hcz14_2, hfz14_0, hfz14_1, hfz14_2⟩ := cs3_ BK447.out) | ((with_reducible refine gate_callee (f := 44) rfl ?_); refine goesL_ (some 11) rfl rfl Try.func44 (by kernel_rfl) rfl #[.agg #[.int .i64 a0_0, .int .i64 a0_1, .slice A0_2 l0_2.length c0_2]] rfl z1_ ?_; (with_reducible refine (spec_LastOf.calls a0_0 a0_1 _ _ l0_2 t448 t449 _ ?side1 ?side2 A4.out).mono ?_); (case side1 => exact z196_); (case side2 => exact HC0_2.out); rintro e w15 ⟨rfl, hb⟩; refine ⟨_, rfl, ?_⟩; have n0_ := q_ (below_step z0_ hb); clear HB; have HB := n0_; clear n0_; (try clear hb); (try clear hb2); (try clear hk); (try clear hi)))
   go_ret
   exact ⟨z4_, z0_⟩

end Go.Proofs.Ytphlmbhjeoljoaa.PFnLogCut
