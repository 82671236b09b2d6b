-- Written by a program of this session, which goes by the kit's print. Not trusted: Lean checks it.
import Derived.Test.YtphlmbhjeoljoaaPFnShrunkx0
import Derived.Test.YtphlmbhjeoljoaaPFnShrunkx5
namespace Go.Proofs.Ytphlmbhjeoljoaa.PFnShrunk
open Go.RowKit Go.Proofs.YtphlmbhjeoljoaaW.PrintWords Go.Proofs.YtphlmbhjeoljoaaW.PrintLast Go.Proofs.YtphlmbhjeoljoaaW.PrintMore
attribute [local go_sem] max2_int min2_int max_two min_two max_three min_three max_four min_four   -- for this text's walks alone
set_option linter.unusedVariables false
set_option linter.unusedSimpArgs false

/-! ### impl_MsgOk: function 59 -/
def impl_MsgOk.j0 : Nat → Int → Bool → Int → Int → Int → Option (Bool)
 | 0, _, _, _, _, _ => none
 | k + 1, x8, x9, x139000, x139001, x139002 => if x9 = true then ((impl_isNum.f x139002).bind fun t140 => (some t140)) else (if x8 = 2 then (some (x139002 == 0)) else (if x8 = 4 then (some (x139002 == 0)) else (some false)))
def impl_MsgOk.f (k : Nat) (a0_0 : Int) (a0_1 : Int) (a0_2 : Int) : Option (Bool) := (impl_isKey.f a0_1).bind fun t139 => (if t139 = true then (if a0_0 = 1 then (impl_MsgOk.j0 k a0_0 (a0_0 == 1) a0_0 a0_1 a0_2) else (impl_MsgOk.j0 k a0_0 (a0_0 == 3) a0_0 a0_1 a0_2)) else (some false))
theorem impl_MsgOk.mono_l : ∀ k, (∀ y0 y1 y2 y3 y4, LeO (impl_MsgOk.j0 k y0 y1 y2 y3 y4) (impl_MsgOk.j0 (k + 1) y0 y1 y2 y3 y4))
 | 0 => fun _ _ _ _ _ r h => by simp [impl_MsgOk.j0] at h
 | k + 1 => by
  have ih0 := impl_MsgOk.mono_l k
  ·intro y0 y1 y2 y3 y4
   unfold impl_MsgOk.j0
   repeat' first
   | (with_reducible exact ih0 _ _ _ _ _)
   | (with_reducible exact LeO.refl _)
   | (with_reducible exact LeO.none _)
   | (with_reducible refine LeO.ite ?_ ?_)
   | (with_reducible refine LeO.bind ?_ (fun _ => ?_))
   | exact ih0 _ _ _ _ _
   | exact LeO.none _
   | refine LeO.ite ?_ ?_
   | refine LeO.bind ?_ (fun _ => ?_)
theorem impl_MsgOk.mono : ∀ a0 a1 a2 k, LeO (impl_MsgOk.f k a0 a1 a2) (impl_MsgOk.f (k + 1) a0 a1 a2) := by
 intro a0 a1 a2 k
 have ih0 := impl_MsgOk.mono_l k
 unfold impl_MsgOk.f
 repeat' first
   | (with_reducible exact ih0 _ _ _ _ _)
   | (with_reducible exact LeO.refl _)
   | (with_reducible exact LeO.none _)
   | (with_reducible refine LeO.ite ?_ ?_)
   | (with_reducible refine LeO.bind ?_ (fun _ => ?_))
   | exact ih0 _ _ _ _ _
   | exact LeO.none _
   | refine LeO.ite ?_ ?_
   | refine LeO.bind ?_ (fun _ => ?_)
set_option maxHeartbeats 8000000 in
set_option maxRecDepth 100000 in
theorem impl_MsgOk.calls (k : Nat) (a0_0 : Int) (a0_1 : Int) (a0_2 : Int) (r : Bool) (w : World) (h : impl_MsgOk.f k a0_0 a0_1 a0_2 = some r) :
  Calls Try.prog 59 #[.agg #[.int .i64 a0_0, .int .i64 a0_1, .int .i64 a0_2]] w fun e w' => e = .returned (.bool r) ∧ Below w.heap.size w w' := by
 have hu67 := Try.underlying67
 have HB := q_ (Below.refl w.heap.size w)
 have H : ((impl_isKey.f a0_1).bind fun t139 => (if t139 = true then (if a0_0 = 1 then (impl_MsgOk.j0 k a0_0 (a0_0 == 1) a0_0 a0_1 a0_2) else (impl_MsgOk.j0 k a0_0 (a0_0 == 3) a0_0 a0_1 a0_2)) else (some false))) = some r := h
 clear h
 replace H := Option.bind_eq_some_iff.mp H
 obtain ⟨t139, A20, H⟩ := H
 replace H : (if t139 = true then (if a0_0 = 1 then (impl_MsgOk.j0 k a0_0 (a0_0 == 1) a0_0 a0_1 a0_2) else (impl_MsgOk.j0 k a0_0 (a0_0 == 3) a0_0 a0_1 a0_2)) else (some false)) = some r := H
 have A2 := q_ A20
 clear A20
 by_cases c3 : t139 = true
 ·subst c3
  have H1 : (if a0_0 = 1 then (impl_MsgOk.j0 k a0_0 (a0_0 == 1) a0_0 a0_1 a0_2) else (impl_MsgOk.j0 k a0_0 (a0_0 == 3) a0_0 a0_1 a0_2)) = some r := z58_
  clear H
  have H := H1
  clear H1
  have HC4 := q_ H
  clear H
  go_enter Try.func59, Try.ntmps59
  go_upto_if 9 with (first | ((with_reducible refine gate_dst (N := 1) rfl ?_); refine box_event ?hg (N := 1) ?hd (cs := #[.int .i64 a0_0, .int .i64 a0_1, .int .i64 a0_2]) (t := 67) ?hr ?_; (case hd => rfl); (case hg => rfl); (case hr => exact z148_); intro gb138 hg w5 hbox hb; have n0_ := q_ (below_step z0_ hb); have n1_ := q_ (hbox); have n2_ := q_ ((z119_ : w.heap.size ≤ gb138)); have n3_ := q_ ((z119_ : w.heap.size ≤ gb138)); clear HB; have HB := n0_; have BK138 := n1_; have GW138 := n2_; have GE138 := n3_; clear n0_ n1_ n2_ n3_; clear hb hbox hg; obtain ⟨hcz6_0, hcz6_1, hcz6_2, hfz6_0, hfz6_1, hfz6_2⟩ := cs3_ BK138.out) | ((with_reducible refine gate_callee (f := 136) rfl ?_); refine goesL_ (some 5) rfl rfl Try.func136 (by kernel_rfl) rfl #[.int .i64 a0_1] rfl z1_ ?_; (with_reducible refine (impl_isKey.calls a0_1 true _ A2.out).mono ?_); rintro e w' ⟨rfl, ⟨nd, rfl⟩⟩; refine ⟨_, rfl, ?_⟩))
  (try simp only [Act.put, List.setIfInBounds_toArray, List.set_cons_zero, List.set_cons_succ])
  go_cut [9] (fun v9 wc => ∃ (kq : Nat) (x9_3 : Bool), v9 = .bool x9_3 ∧ Aside0 (impl_MsgOk.j0 kq a0_0 x9_3 a0_0 a0_1 a0_2 = some r) ∧ Aside0 (kq ≤ k) ∧ Aside0 (wc.heap[gb138]? = some (.cells #[.int .i64 a0_0, .int .i64 a0_1, .int .i64 a0_2] 67 (0, 0))) ∧ Aside0 (Below w.heap.size w wc))
  case first =>
   have H := HC4.out
   clear HC4
   by_cases c7 : a0_0 = 1
   ·rw [if_pos c7] at H
    have c7b0 : (a0_0 == 1) = true := beq_iff_eq.mpr c7
    have c7b1 : (a0_0 != 1) = false := bne_eq_false_iff_eq.mpr c7
    clear c7
    (first | rw [c7b0] | (simp only [i64_w, i32_w]; rw [c7b0]) | skip)
    have H' := q_ H
    clear H
    go_wp2
    go_meet
    case rel => exact ⟨_, ((a0_0 == 1)), z7_, H', ⟨z88_⟩, ⟨z97_⟩, ⟨z67_⟩⟩
   ·rw [if_neg c7] at H
    have c7b0 : (a0_0 == 1) = false := beq_eq_false_iff_ne.mpr c7
    have c7b1 : (a0_0 != 1) = true := bne_iff_ne.mpr c7
    (first | rw [c7b0] | (simp only [i64_w, i32_w]; rw [c7b0]) | skip)
    have H' := q_ H
    clear H
    go_wp2
    go_meet
    case rel => exact ⟨_, ((a0_0 == 3)), z7_, H', ⟨z88_⟩, ⟨z97_⟩, ⟨z67_⟩⟩
  case rest =>
   clear HC4
   try clear c1
   try clear p2
   try clear c3
   try clear c5
   try clear c7
   try clear c7b0
   try clear c7b1
   try clear hcz6_0
   try clear hcz6_1
   try clear hcz6_2
   try clear hfz6_0
   try clear hfz6_1
   try clear hfz6_2
   obtain ⟨kq, x9_3, rfl, HA, HJ3, BK138, HB⟩ := hcut
   cases kq with
   | zero => exact absurd HA.out (by simp [impl_MsgOk.j0])
   | succ kj3 =>
    have H := HA.out
    clear HA
    simp only [impl_MsgOk.j0] at H
    by_cases c8 : x9_3 = true
    ·subst c8
     have H1 : ((impl_isNum.f a0_2).bind fun t140 => (some t140)) = some r := z58_
     clear H
     have H := H1
     clear H1
     replace H := Option.bind_eq_some_iff.mp H
     obtain ⟨t140, A90, H⟩ := H
     replace H : (some t140) = some r := H
     have A9 := q_ A90
     clear A90
     obtain rfl := Option.some.inj H
     obtain ⟨hcz10_0, hcz10_1, hcz10_2, hfz10_0, hfz10_1, hfz10_2⟩ := cs3_ BK138.out
     go_wp2_with (first | ((with_reducible refine gate_callee (f := 137) rfl ?_); refine goesL_ (some 14) rfl rfl Try.func137 (by kernel_rfl) rfl #[.int .i64 a0_2] rfl z1_ ?_; (with_reducible refine (impl_isNum.calls a0_2 t140 _ A9.out).mono ?_); rintro e w' ⟨rfl, ⟨nd, rfl⟩⟩; refine ⟨_, rfl, ?_⟩))
     go_ret
     exact ⟨z5_, z0_⟩
    ·replace c8 := Bool.eq_false_iff.mpr c8
     subst c8
     have H1 : (if a0_0 = 2 then (some (a0_2 == 0)) else (if a0_0 = 4 then (some (a0_2 == 0)) else (some false))) = some r := by rw [if_neg (show ¬ (false = true) by decide)] at H; exact H
     clear H
     have H := H1
     clear H1
     by_cases c11 : a0_0 = 2
     ·rw [if_pos c11] at H
      have c11b0 : (a0_0 == 2) = true := beq_iff_eq.mpr c11
      have c11b1 : (a0_0 != 2) = false := bne_eq_false_iff_eq.mpr c11
      clear c11
      obtain rfl := Option.some.inj H
      obtain ⟨hcz12_0, hcz12_1, hcz12_2, hfz12_0, hfz12_1, hfz12_2⟩ := cs3_ BK138.out
      go_wp2
      go_ret
      exact ⟨z5_, z67_⟩
     ·rw [if_neg c11] at H
      have c11b0 : (a0_0 == 2) = false := beq_eq_false_iff_ne.mpr c11
      have c11b1 : (a0_0 != 2) = true := bne_iff_ne.mpr c11
      by_cases c13 : a0_0 = 4
      ·rw [if_pos c13] at H
       have c13b0 : (a0_0 == 4) = true := beq_iff_eq.mpr c13
       have c13b1 : (a0_0 != 4) = false := bne_eq_false_iff_eq.mpr c13
       clear c13
       obtain rfl := Option.some.inj H
       obtain ⟨hcz14_0, hcz14_1, hcz14_2, hfz14_0, hfz14_1, hfz14_2⟩ := cs3_ BK138.out
       go_wp2
       go_ret
       exact ⟨z5_, z67_⟩
      ·rw [if_neg c13] at H
       have c13b0 : (a0_0 == 4) = false := beq_eq_false_iff_ne.mpr c13
       have c13b1 : (a0_0 != 4) = true := bne_iff_ne.mpr c13
       obtain rfl := Option.some.inj H
       go_wp2
       go_ret
       exact ⟨z5_, z67_⟩
 ·replace c3 := Bool.eq_false_iff.mpr c3
  subst c3
  have H1 : (some false) = some r := by rw [if_neg (show ¬ (false = true) by decide)] at H; exact H
  clear H
  have H := H1
  clear H1
  obtain rfl := Option.some.inj H
  go_enter Try.func59, Try.ntmps59
  go_wp2_with (first | ((with_reducible refine gate_dst (N := 1) rfl ?_); refine box_event ?hg (N := 1) ?hd (cs := #[.int .i64 a0_0, .int .i64 a0_1, .int .i64 a0_2]) (t := 67) ?hr ?_; (case hd => rfl); (case hg => rfl); (case hr => exact z148_); intro gb138 hg w15 hbox hb; have n0_ := q_ (below_step z0_ hb); have n1_ := q_ (hbox); have n2_ := q_ ((z119_ : w.heap.size ≤ gb138)); have n3_ := q_ ((z119_ : w.heap.size ≤ gb138)); clear HB; have HB := n0_; have BK138 := n1_; have GW138 := n2_; have GE138 := n3_; clear n0_ n1_ n2_ n3_; clear hb hbox hg; obtain ⟨hcz16_0, hcz16_1, hcz16_2, hfz16_0, hfz16_1, hfz16_2⟩ := cs3_ BK138.out) | ((with_reducible refine gate_callee (f := 136) rfl ?_); refine goesL_ (some 5) rfl rfl Try.func136 (by kernel_rfl) rfl #[.int .i64 a0_1] rfl z1_ ?_; (with_reducible refine (impl_isKey.calls a0_1 false _ A2.out).mono ?_); rintro e w' ⟨rfl, ⟨nd, rfl⟩⟩; refine ⟨_, rfl, ?_⟩))
  go_ret
  exact ⟨z5_, z0_⟩

/-! ### impl_Shrink_f1: function 96 -/
def impl_Shrink_f1.f (k : Nat) (a0_0 : Int) (a0_1 : Int) (a0_2 : Int) : Option (Bool) := (impl_MsgOk.f k a0_0 a0_1 a0_2).bind fun t142 => (if t142 = true then (some (a0_0 == 4)) else (some true))
theorem impl_Shrink_f1.mono : ∀ a0 a1 a2 k, LeO (impl_Shrink_f1.f k a0 a1 a2) (impl_Shrink_f1.f (k + 1) a0 a1 a2) := by
 intro a0 a1 a2 k
 unfold impl_Shrink_f1.f
 repeat' first
   | (with_reducible exact impl_MsgOk.mono _ _ _ _)
   | (with_reducible exact LeO.refl _)
   | (with_reducible exact LeO.none _)
   | (with_reducible refine LeO.ite ?_ ?_)
   | (with_reducible refine LeO.bind ?_ (fun _ => ?_))
   | exact impl_MsgOk.mono _ _ _ _
   | exact LeO.none _
   | refine LeO.ite ?_ ?_
   | refine LeO.bind ?_ (fun _ => ?_)
set_option maxHeartbeats 8000000 in
set_option maxRecDepth 100000 in
theorem impl_Shrink_f1.calls (k : Nat) (a0_0 : Int) (a0_1 : Int) (a0_2 : Int) (r : Bool) (w : World) (h : impl_Shrink_f1.f k a0_0 a0_1 a0_2 = some r) :
  Calls Try.prog 96 #[.agg #[.int .i64 a0_0, .int .i64 a0_1, .int .i64 a0_2]] w fun e w' => e = .returned (.bool r) ∧ Below w.heap.size w w' := by
 have hu67 := Try.underlying67
 have HB := q_ (Below.refl w.heap.size w)
 have H : ((impl_MsgOk.f k a0_0 a0_1 a0_2).bind fun t142 => (if t142 = true then (some (a0_0 == 4)) else (some true))) = some r := h
 clear h
 replace H := Option.bind_eq_some_iff.mp H
 obtain ⟨t142, A20, H⟩ := H
 replace H : (if t142 = true then (some (a0_0 == 4)) else (some true)) = some r := H
 have A2 := q_ A20
 clear A20
 by_cases c3 : t142 = true
 ·subst c3
  have H1 : (some (a0_0 == 4)) = some r := z58_
  clear H
  have H := H1
  clear H1
  obtain rfl := Option.some.inj H
  go_enter Try.func96, Try.ntmps96
  go_wp2_with (first | ((with_reducible refine gate_dst (N := 1) rfl ?_); refine box_event ?hg (N := 1) ?hd (cs := #[.int .i64 a0_0, .int .i64 a0_1, .int .i64 a0_2]) (t := 67) ?hr ?_; (case hd => rfl); (case hg => rfl); (case hr => exact z148_); intro gb141 hg w4 hbox hb; have n0_ := q_ (below_step z0_ hb); have n1_ := q_ (hbox); have n2_ := q_ ((z119_ : w.heap.size ≤ gb141)); have n3_ := q_ ((z119_ : w.heap.size ≤ gb141)); clear HB; have HB := n0_; have BK141 := n1_; have GW141 := n2_; have GE141 := n3_; clear n0_ n1_ n2_ n3_; clear hb hbox hg; obtain ⟨hcz5_0, hcz5_1, hcz5_2, hfz5_0, hfz5_1, hfz5_2⟩ := cs3_ BK141.out) | ((with_reducible refine gate_callee (f := 59) rfl ?_); refine goesL_ (some 4) rfl rfl Try.func59 (by kernel_rfl) rfl #[.agg #[.int .i64 a0_0, .int .i64 a0_1, .int .i64 a0_2]] rfl z1_ ?_; (with_reducible refine (impl_MsgOk.calls k a0_0 a0_1 a0_2 true _ A2.out).mono ?_); rintro e w6 ⟨rfl, hb⟩; refine ⟨_, rfl, ?_⟩; have n0_ := q_ (blk_below (g := gb141) (o := .cells #[.int .i64 a0_0, .int .i64 a0_1, .int .i64 a0_2] 67 (0, 0)) (by (with_reducible repeat (first | refine blk_drewN ?_ _ | refine blk_drew ?_ | refine blk_alloc ?_ _)); exact BK141.out) hb); have n1_ := q_ (below_step z89_ hb); clear BK141; clear HB; have BK141 := n0_; have HB := n1_; clear n0_ n1_; (try clear hb); (try clear hb2); (try clear hk); (try clear hi); obtain ⟨hcz7_0, hcz7_1, hcz7_2, hfz7_0, hfz7_1, hfz7_2⟩ := cs3_ BK141.out))
  go_ret
  exact ⟨z5_, z89_⟩
 ·replace c3 := Bool.eq_false_iff.mpr c3
  subst c3
  have H1 : (some true) = some r := by rw [if_neg (show ¬ (false = true) by decide)] at H; exact H
  clear H
  have H := H1
  clear H1
  obtain rfl := Option.some.inj H
  go_enter Try.func96, Try.ntmps96
  go_wp2_with (first | ((with_reducible refine gate_dst (N := 1) rfl ?_); refine box_event ?hg (N := 1) ?hd (cs := #[.int .i64 a0_0, .int .i64 a0_1, .int .i64 a0_2]) (t := 67) ?hr ?_; (case hd => rfl); (case hg => rfl); (case hr => exact z148_); intro gb141 hg w8 hbox hb; have n0_ := q_ (below_step z0_ hb); have n1_ := q_ (hbox); have n2_ := q_ ((z119_ : w.heap.size ≤ gb141)); have n3_ := q_ ((z119_ : w.heap.size ≤ gb141)); clear HB; have HB := n0_; have BK141 := n1_; have GW141 := n2_; have GE141 := n3_; clear n0_ n1_ n2_ n3_; clear hb hbox hg; obtain ⟨hcz9_0, hcz9_1, hcz9_2, hfz9_0, hfz9_1, hfz9_2⟩ := cs3_ BK141.out) | ((with_reducible refine gate_callee (f := 59) rfl ?_); refine goesL_ (some 4) rfl rfl Try.func59 (by kernel_rfl) rfl #[.agg #[.int .i64 a0_0, .int .i64 a0_1, .int .i64 a0_2]] rfl z1_ ?_; (with_reducible refine (impl_MsgOk.calls k a0_0 a0_1 a0_2 false _ A2.out).mono ?_); rintro e w10 ⟨rfl, hb⟩; refine ⟨_, rfl, ?_⟩; have n0_ := q_ (below_step z0_ hb); clear HB; have HB := n0_; clear n0_; (try clear hb); (try clear hb2); (try clear hk); (try clear hi)))
  go_ret
  exact ⟨z5_, z0_⟩

/-! ### slices_IndexFunc_Msg_96: function 100 -/
def slices_IndexFunc_Msg_96.l0 : Nat → List (S67) → Int → Int → Option (Int)
 | 0, _, _, _ => none
 | k + 1, x0, x7, x8 => if x8 < x7 then (if 0 ≤ x8 then (if x8 < (x0.length : Int) then ((impl_Shrink_f1.f k ((rd_T67 x0 x8).f0) ((rd_T67 x0 x8).f1) ((rd_T67 x0 x8).f2)).bind fun t144 => (if t144 = true then (some x8) else (slices_IndexFunc_Msg_96.l0 k x0 x7 (wrap64 (x8 + 1))))) else (none)) else (none)) else (some (-1))
def slices_IndexFunc_Msg_96.f (k : Nat) (l0 : List (S67))  : Option (Int) := slices_IndexFunc_Msg_96.l0 k l0 (l0.length : Int) 0
theorem slices_IndexFunc_Msg_96.mono_l : ∀ k, (∀ y0 y1 y2, LeO (slices_IndexFunc_Msg_96.l0 k y0 y1 y2) (slices_IndexFunc_Msg_96.l0 (k + 1) y0 y1 y2))
 | 0 => fun _ _ _ r h => by simp [slices_IndexFunc_Msg_96.l0] at h
 | k + 1 => by
  have ih0 := slices_IndexFunc_Msg_96.mono_l k
  ·intro y0 y1 y2
   unfold slices_IndexFunc_Msg_96.l0
   repeat' first
   | (with_reducible exact ih0 _ _ _)
   | (with_reducible exact impl_Shrink_f1.mono _ _ _ _)
   | (with_reducible exact LeO.refl _)
   | (with_reducible exact LeO.none _)
   | (with_reducible refine LeO.ite ?_ ?_)
   | (with_reducible refine LeO.bind ?_ (fun _ => ?_))
   | exact ih0 _ _ _
   | exact impl_Shrink_f1.mono _ _ _ _
   | exact LeO.none _
   | refine LeO.ite ?_ ?_
   | refine LeO.bind ?_ (fun _ => ?_)
theorem slices_IndexFunc_Msg_96.mono : ∀ a0 k, LeO (slices_IndexFunc_Msg_96.f k a0) (slices_IndexFunc_Msg_96.f (k + 1) a0) := by
 intro a0 k
 have ih0 := slices_IndexFunc_Msg_96.mono_l k
 unfold slices_IndexFunc_Msg_96.f
 repeat' first
   | (with_reducible exact ih0 _ _ _)
   | (with_reducible exact impl_Shrink_f1.mono _ _ _ _)
   | (with_reducible exact LeO.refl _)
   | (with_reducible exact LeO.none _)
   | (with_reducible refine LeO.ite ?_ ?_)
   | (with_reducible refine LeO.bind ?_ (fun _ => ?_))
   | exact ih0 _ _ _
   | exact impl_Shrink_f1.mono _ _ _ _
   | exact LeO.none _
   | refine LeO.ite ?_ ?_
   | refine LeO.bind ?_ (fun _ => ?_)
set_option maxHeartbeats 8000000 in
set_option maxRecDepth 100000 in
theorem slices_IndexFunc_Msg_96.calls (k : Nat) (A0 : Option Addr) (c0 : Nat) (l0 : List (S67))  (r : Int) (w : World) (hr0 : Kd.C k67 w A0 l0.length l0) (hc0 : l0.length ≤ c0) (h : slices_IndexFunc_Msg_96.f k l0 = some r) :
  Calls Try.prog 100 #[.slice A0 l0.length c0, .func (.func 96) #[] #[]] w fun e w' => e = .returned (.int .i64 r) ∧ Below w.heap.size w w' := by
 have hu67 := Try.underlying67
 have HR0 := q_ hr0
 have HC0 := q_ hc0
 clear hr0 hc0
 have HB := q_ (Below.refl w.heap.size w)
 have H : (slices_IndexFunc_Msg_96.l0 k l0 (l0.length : Int) 0) = some r := h
 clear h
 have H' := q_ H
 clear H
 go_enter Try.func100, Try.ntmps100
 go_wp2
 go_loopg [8] k (fun kq v8 w' => ∃ (x8_1 : Int), v8 = .int .i64 x8_1 ∧ Aside0 (slices_IndexFunc_Msg_96.l0 kq l0 (l0.length : Int) x8_1 = some r) ∧ Aside0 (kq ≤ k) ∧ Aside0 (Below w.heap.size w w'))
 case atStart => exact ⟨(0), z7_, H', ⟨Nat.le_refl _⟩, ⟨z0_⟩⟩
 case round =>
  clear H'
  try clear c1
  try clear p2
  obtain ⟨x8_1, rfl, HA, HK1, HB⟩ := hrel
  cases gk with
  | zero => exact absurd HA.out (by simp [slices_IndexFunc_Msg_96.l0])
  | succ k1 =>
   have H := HA.out
   clear HA
   simp only [slices_IndexFunc_Msg_96.l0] at H
   by_cases c3 : x8_1 < (l0.length : Int)
   ·rw [if_pos c3] at H
    have c3b0 : decide (x8_1 < (l0.length : Int)) = true := decide_eq_true c3
    clear c3
    by_cases c4 : 0 ≤ x8_1
    ·rw [if_pos c4] at H
     have c4b0 : decide (0 ≤ x8_1) = true := decide_eq_true c4
     clear c4
     by_cases c5 : x8_1 < (l0.length : Int)
     ·rw [if_pos c5] at H
      have c5b0 : decide (x8_1 < (l0.length : Int)) = true := decide_eq_true c5
      clear c5
      replace H := Option.bind_eq_some_iff.mp H
      obtain ⟨t144, A60, H⟩ := H
      replace H : (if t144 = true then (some x8_1) else (slices_IndexFunc_Msg_96.l0 k1 l0 (l0.length : Int) (wrap64 (x8_1 + 1)))) = some r := H
      have A6 := q_ A60
      clear A60
      by_cases c7 : t144 = true
      ·subst c7
       have H1 : (some x8_1) = some r := z58_
       clear H
       have H := H1
       clear H1
       obtain rfl := Option.some.inj H
       have p143 : 0 ≤ (x8_1 : Int) := of_decide_eq_true z3_
       have q143 : x8_1 < (l0.length : Int) := of_decide_eq_true z3_
       obtain ⟨ad143, e143, hx143_0, hx143_1, hx143_2⟩ := at_T67 HR0.out x8_1 p143 q143
       cases e143
       replace hx143_0 := up_ HB hx143_0
       replace hx143_1 := up_ HB hx143_1
       replace hx143_2 := up_ HB hx143_2
       replace p143 := eq_true p143
       replace q143 := eq_true q143
       go_wp2_with (first | (go_at_call 96; refine calls_of_args (args' := #[.agg #[.int .i64 ((rd_T67 l0 x8_1).f0), .int .i64 ((rd_T67 l0 x8_1).f1), .int .i64 ((rd_T67 l0 x8_1).f2)]]) z100_ ?_; (with_reducible refine (impl_Shrink_f1.calls k1 ((rd_T67 l0 x8_1).f0) ((rd_T67 l0 x8_1).f1) ((rd_T67 l0 x8_1).f2) true _ A6.out).mono ?_); rintro e w8 ⟨rfl, hb⟩; have n0_ := q_ (below_step z0_ hb); clear HB; have HB := n0_; clear n0_; (try clear hb); (try clear hb2); (try clear hk); (try clear hi)))
       go_ret
       exact ⟨z5_, z0_⟩
      ·replace c7 := Bool.eq_false_iff.mpr c7
       subst c7
       have H1 : (slices_IndexFunc_Msg_96.l0 k1 l0 (l0.length : Int) (wrap64 (x8_1 + 1))) = some r := by rw [if_neg (show ¬ (false = true) by decide)] at H; exact H
       clear H
       have H := H1
       clear H1
       have H' := q_ H
       clear H
       have p143 : 0 ≤ (x8_1 : Int) := of_decide_eq_true z3_
       have q143 : x8_1 < (l0.length : Int) := of_decide_eq_true z3_
       obtain ⟨ad143, e143, hx143_0, hx143_1, hx143_2⟩ := at_T67 HR0.out x8_1 p143 q143
       cases e143
       replace hx143_0 := up_ HB hx143_0
       replace hx143_1 := up_ HB hx143_1
       replace hx143_2 := up_ HB hx143_2
       replace p143 := eq_true p143
       replace q143 := eq_true q143
       go_wp2_with (first | (go_at_call 96; refine calls_of_args (args' := #[.agg #[.int .i64 ((rd_T67 l0 x8_1).f0), .int .i64 ((rd_T67 l0 x8_1).f1), .int .i64 ((rd_T67 l0 x8_1).f2)]]) z100_ ?_; (with_reducible refine (impl_Shrink_f1.calls k1 ((rd_T67 l0 x8_1).f0) ((rd_T67 l0 x8_1).f1) ((rd_T67 l0 x8_1).f2) false _ A6.out).mono ?_); rintro e w9 ⟨rfl, hb⟩; have n0_ := q_ (below_step z0_ hb); clear HB; have HB := n0_; clear n0_; (try clear hb); (try clear hb2); (try clear hk); (try clear hi)))
       go_roundg k1
       case measure => have := HK1.out; omega
       case rel => exact ⟨(wrap64 (x8_1 + 1)), z7_, H', ⟨z74_⟩, ⟨z0_⟩⟩
     ·rw [if_neg c5] at H
      exact absurd H (by simp)
    ·rw [if_neg c4] at H
     exact absurd H (by simp)
   ·rw [if_neg c3] at H
    have c3b0 : decide (x8_1 < (l0.length : Int)) = false := decide_eq_false c3
    clear c3
    obtain rfl := Option.some.inj H
    go_wp2
    go_ret
    exact ⟨z5_, z0_⟩

/-! ### slices_DeleteFunc_Msg_96: function 94 -/
def slices_DeleteFunc_Msg_96.l0 : Nat → List (S67) → Int → Int → Option ((List (S67)))
 | 0, _, _, _ => none
 | k + 1, x0, x5, x6 => if x6 < (x0.length : Int) then (if 0 ≤ x6 then ((impl_Shrink_f1.f k ((rd_T67 x0 x6).f0) ((rd_T67 x0 x6).f1) ((rd_T67 x0 x6).f2)).bind fun t148 => (if t148 = true then (slices_DeleteFunc_Msg_96.l0 k x0 x5 (wrap64 (x6 + 1))) else (if 0 ≤ x5 then (if x5 < (x0.length : Int) then (slices_DeleteFunc_Msg_96.l0 k (x0.set (x5 : Int).toNat (⟨(rd_T67 x0 x6).f0, (rd_T67 x0 x6).f1, (rd_T67 x0 x6).f2⟩ : S67)) (wrap64 (x5 + 1)) (wrap64 (x6 + 1))) else (none)) else (none)))) else (none)) else (if 0 ≤ x5 then (if x5 ≤ (x0.length : Int) then (some (x0.take (x5 : Int).toNat)) else (none)) else (none))
def slices_DeleteFunc_Msg_96.f (k : Nat) (l0 : List (S67))  : Option ((List (S67))) := (slices_IndexFunc_Msg_96.f k l0).bind fun t145 => (if t145 = (-1) then (some l0) else (slices_DeleteFunc_Msg_96.l0 k l0 t145 (wrap64 (t145 + 1))))
theorem slices_DeleteFunc_Msg_96.mono_l : ∀ k, (∀ y0 y1 y2, LeO (slices_DeleteFunc_Msg_96.l0 k y0 y1 y2) (slices_DeleteFunc_Msg_96.l0 (k + 1) y0 y1 y2))
 | 0 => fun _ _ _ r h => by simp [slices_DeleteFunc_Msg_96.l0] at h
 | k + 1 => by
  have ih0 := slices_DeleteFunc_Msg_96.mono_l k
  ·intro y0 y1 y2
   unfold slices_DeleteFunc_Msg_96.l0
   repeat' first
   | (with_reducible exact ih0 _ _ _)
   | (with_reducible exact impl_Shrink_f1.mono _ _ _ _)
   | (with_reducible exact slices_IndexFunc_Msg_96.mono _ _)
   | (with_reducible exact LeO.refl _)
   | (with_reducible exact LeO.none _)
   | (with_reducible refine LeO.ite ?_ ?_)
   | (with_reducible refine LeO.bind ?_ (fun _ => ?_))
   | exact ih0 _ _ _
   | exact impl_Shrink_f1.mono _ _ _ _
   | exact slices_IndexFunc_Msg_96.mono _ _
   | exact LeO.none _
   | refine LeO.ite ?_ ?_
   | refine LeO.bind ?_ (fun _ => ?_)
theorem slices_DeleteFunc_Msg_96.mono : ∀ a0 k, LeO (slices_DeleteFunc_Msg_96.f k a0) (slices_DeleteFunc_Msg_96.f (k + 1) a0) := by
 intro a0 k
 have ih0 := slices_DeleteFunc_Msg_96.mono_l k
 unfold slices_DeleteFunc_Msg_96.f
 repeat' first
   | (with_reducible exact ih0 _ _ _)
   | (with_reducible exact impl_Shrink_f1.mono _ _ _ _)
   | (with_reducible exact slices_IndexFunc_Msg_96.mono _ _)
   | (with_reducible exact LeO.refl _)
   | (with_reducible exact LeO.none _)
   | (with_reducible refine LeO.ite ?_ ?_)
   | (with_reducible refine LeO.bind ?_ (fun _ => ?_))
   | exact ih0 _ _ _
   | exact impl_Shrink_f1.mono _ _ _ _
   | exact slices_IndexFunc_Msg_96.mono _ _
   | exact LeO.none _
   | refine LeO.ite ?_ ?_
   | refine LeO.bind ?_ (fun _ => ?_)
set_option maxHeartbeats 8000000 in
set_option maxRecDepth 100000 in
theorem slices_DeleteFunc_Msg_96.calls (k : Nat) (P0_ : Nat → Prop) (u9000_ : Value) (l0 : List (S67))  (r : List (S67)) (w0 w : World) (hB : Below w0.heap.size w0 w) (ho0 : Kd.R k67 67 w w0.heap.size P0_ u9000_ l0) (h : slices_DeleteFunc_Msg_96.f k l0 = some r) :
  Calls Try.prog 94 #[u9000_, .func (.func 96) #[] #[]] w fun e w' => ∃ v0_ : Value, e = .returned (v0_) ∧ Kd.R k67 67 w' w0.heap.size (fun k_ => (P0_ k_ ∨ w.heap.size ≤ k_)) v0_ r ∧ Below w0.heap.size w0 w' ∧ Kept w w' (fun k_ => P0_ k_) := by
 have hu67 := Try.underlying67
 have HO0 := q_ (show Kd.R k67 67 w w0.heap.size (fun k_ => (P0_ k_ ∨ w.heap.size ≤ k_)) u9000_ l0 from Kd.R_mono ho0 (fun k_ hk => (.inl hk)))
 have HK := q_ (Kept.refl w (fun k_ => P0_ k_))
 have HW0 := q_ hB.size
 have HB := q_ hB
 clear hB
 have H : ((slices_IndexFunc_Msg_96.f k l0).bind fun t145 => (if t145 = (-1) then (some l0) else (slices_DeleteFunc_Msg_96.l0 k l0 t145 (wrap64 (t145 + 1))))) = some r := h
 clear h
 replace H := Option.bind_eq_some_iff.mp H
 obtain ⟨t145, A30, H⟩ := H
 replace H : (if t145 = (-1) then (some l0) else (slices_DeleteFunc_Msg_96.l0 k l0 t145 (wrap64 (t145 + 1)))) = some r := H
 have A3 := q_ A30
 clear A30
 by_cases c4 : t145 = (-1)
 ·rw [if_pos c4] at H
  have c4b0 : (t145 == (-1)) = true := beq_iff_eq.mpr c4
  have c4b1 : (t145 != (-1)) = false := bne_eq_false_iff_eq.mpr c4
  clear c4
  obtain rfl := Option.some.inj H
  obtain ⟨Ao5, co5, eo5⟩ := Kd.R_slice HO0.out
  subst eo5
  go_enter Try.func94, Try.ntmps94
  go_wp2_with (first | ((with_reducible refine gate_callee (f := 100) rfl ?_); refine goesL_ (some 10) rfl rfl Try.func100 (by kernel_rfl) rfl #[.slice Ao5 l0.length co5, .func (.func 96) #[] #[]] rfl z1_ ?_; (with_reducible refine (slices_IndexFunc_Msg_96.calls k _ _ l0  t145 _ ?side1 ?side2 A3.out).mono ?_); (case side1 => exact z163_); (case side2 => exact (Kd.R_reads' HO0.out).2.1); rintro e w6 ⟨rfl, hb⟩; refine ⟨_, rfl, ?_⟩; have n0_ := q_ (Kd.R_below z53_ hb); have n1_ := q_ (Kept.below (S := (fun k_ => P0_ k_)) z9_ hb); have n2_ := q_ (below_step z0_ hb); clear HO0; clear HK; clear HB; have HO0 := n0_; have HK := n1_; have HB := n2_; clear n0_ n1_ n2_; (try clear hb); (try clear hb2); (try clear hk); (try clear hi)))
  go_ret
  exact ⟨_, z5_, z53_, z0_, z9_⟩
 ·rw [if_neg c4] at H
  have c4b0 : (t145 == (-1)) = false := beq_eq_false_iff_ne.mpr c4
  have c4b1 : (t145 != (-1)) = true := bne_iff_ne.mpr c4
  have H' := q_ H
  clear H
  obtain ⟨Ao7, co7, eo7⟩ := Kd.R_slice HO0.out
  subst eo7
  go_enter Try.func94, Try.ntmps94
  go_wp2_with (first | ((with_reducible refine gate_callee (f := 100) rfl ?_); refine goesL_ (some 10) rfl rfl Try.func100 (by kernel_rfl) rfl #[.slice Ao7 l0.length co7, .func (.func 96) #[] #[]] rfl z1_ ?_; (with_reducible refine (slices_IndexFunc_Msg_96.calls k _ _ l0  t145 _ ?side1 ?side2 A3.out).mono ?_); (case side1 => exact z163_); (case side2 => exact (Kd.R_reads' HO0.out).2.1); rintro e w8 ⟨rfl, hb⟩; refine ⟨_, rfl, ?_⟩; have n0_ := q_ (Kd.R_below z53_ hb); have n1_ := q_ (Kept.below (S := (fun k_ => P0_ k_)) z9_ hb); have n2_ := q_ (below_step z0_ hb); clear HO0; clear HK; clear HB; have HO0 := n0_; have HK := n1_; have HB := n2_; clear n0_ n1_ n2_; (try clear hb); (try clear hb2); (try clear hk); (try clear hi)))
  go_loopg [5, 6] k (fun kq v5 v6 w' => ∃ (x0_1 : List (S67)) (x5_1 : Int) (x6_1 : Int), v5 = .int .i64 x5_1 ∧ v6 = .int .i64 x6_1 ∧ Aside0 (slices_DeleteFunc_Msg_96.l0 kq x0_1 x5_1 x6_1 = some r) ∧ Aside0 (kq ≤ k) ∧ Aside0 (Kd.R k67 67 w' w0.heap.size (fun k_ => (P0_ k_ ∨ w.heap.size ≤ k_)) (.slice Ao7 l0.length co7) x0_1) ∧ Aside0 (Kept w w' (fun k_ => P0_ k_)) ∧ Aside0 (Below w0.heap.size w0 w'))
  case atStart => exact ⟨(l0), (t145), (wrap64 (t145 + 1)), z7_, z7_, H', ⟨Nat.le_refl _⟩, ⟨z53_⟩, ⟨z9_⟩, ⟨z0_⟩⟩
  case round =>
   clear H'
   try clear c1
   try clear p2
   try clear c4
   try clear c4b0
   try clear c4b1
   try clear p6
   obtain ⟨x0_1, x5_1, x6_1, rfl, rfl, HA, HK1, HO_0, HK, HB⟩ := hrel
   have hl0_1 := (Kd.R_reads' HO_0.out).1
   rw [hl0_1] at HO_0
   (try simp only [hl0_1])
   cases gk with
   | zero => exact absurd HA.out (by simp [slices_DeleteFunc_Msg_96.l0])
   | succ k1 =>
    have H := HA.out
    clear HA
    simp only [slices_DeleteFunc_Msg_96.l0] at H
    by_cases c9 : x6_1 < (x0_1.length : Int)
    ·rw [if_pos c9] at H
     have c9b0 : decide (x6_1 < (x0_1.length : Int)) = true := decide_eq_true c9
     clear c9
     by_cases c10 : 0 ≤ x6_1
     ·rw [if_pos c10] at H
      have c10b0 : decide (0 ≤ x6_1) = true := decide_eq_true c10
      clear c10
      replace H := Option.bind_eq_some_iff.mp H
      obtain ⟨t148, A110, H⟩ := H
      replace H : (if t148 = true then (slices_DeleteFunc_Msg_96.l0 k1 x0_1 x5_1 (wrap64 (x6_1 + 1))) else (if 0 ≤ x5_1 then (if x5_1 < (x0_1.length : Int) then (slices_DeleteFunc_Msg_96.l0 k1 (x0_1.set (x5_1 : Int).toNat (⟨(rd_T67 x0_1 x6_1).f0, (rd_T67 x0_1 x6_1).f1, (rd_T67 x0_1 x6_1).f2⟩ : S67)) (wrap64 (x5_1 + 1)) (wrap64 (x6_1 + 1))) else (none)) else (none))) = some r := H
      have A11 := q_ A110
      clear A110
      by_cases c12 : t148 = true
      ·subst c12
       have H1 : (slices_DeleteFunc_Msg_96.l0 k1 x0_1 x5_1 (wrap64 (x6_1 + 1))) = some r := z58_
       clear H
       have H := H1
       clear H1
       have H' := q_ H
       clear H
       have p146 : 0 ≤ (x6_1 : Int) := of_decide_eq_true z3_
       have q146 : x6_1 < (x0_1.length : Int) := of_decide_eq_true z3_
       obtain ⟨ad146, e146, hx146_0, hx146_1, hx146_2⟩ := at_T67 (Kd.R_reads' HO_0.out).2.2 x6_1 p146 q146
       cases e146
       replace p146 := eq_true p146
       replace q146 := eq_true q146
       go_wp2_with (first | ((with_reducible refine gate_dst (N := 7) rfl ?_); refine box_event ?hg (N := 7) ?hd (cs := #[.int .i64 0, .int .i64 0, .int .i64 0]) (t := 67) ?hr ?_; (case hd => rfl); (case hg => rfl); (case hr => exact z148_); intro gb147 hg w13 hbox hb; have n0_ := q_ (Kd.R_below (Kd.R_elderB z32_ gb147 (Nat.le_of_eq hg.symm)) hb); have n1_ := q_ (Kept.below (S := (fun k_ => P0_ k_)) z9_ hb); have n2_ := q_ (below_step z0_ hb); have n3_ := q_ (hbox); have n4_ := q_ ((z145_ : w.heap.size ≤ gb147)); have n5_ := q_ ((z119_ : w0.heap.size ≤ gb147)); clear HO_0; clear HK; clear HB; have HO_0 := n0_; have HK := n1_; have HB := n2_; have BK147 := n3_; have GW147 := n4_; have GE147 := n5_; clear n0_ n1_ n2_ n3_ n4_ n5_; clear hb hbox hg; obtain ⟨hcz14_0, hcz14_1, hcz14_2, hfz14_0, hfz14_1, hfz14_2⟩ := cs3_ BK147.out) | (go_at_call 96; refine calls_of_args (args' := #[.agg #[.int .i64 ((rd_T67 x0_1 x6_1).f0), .int .i64 ((rd_T67 x0_1 x6_1).f1), .int .i64 ((rd_T67 x0_1 x6_1).f2)]]) z100_ ?_; (with_reducible refine (impl_Shrink_f1.calls k1 ((rd_T67 x0_1 x6_1).f0) ((rd_T67 x0_1 x6_1).f1) ((rd_T67 x0_1 x6_1).f2) true _ A11.out).mono ?_); rintro e w15 ⟨rfl, hb⟩; have n0_ := q_ (Kd.R_below z60_ hb); have n1_ := q_ (blk_below (g := gb147) (o := .cells #[.int .i64 ((rd_T67 x0_1 x6_1).f0), .int .i64 ((rd_T67 x0_1 x6_1).f1), .int .i64 ((rd_T67 x0_1 x6_1).f2)] 67 (0, 0)) z41_ hb); have n2_ := q_ (Kept.below (S := (fun k_ => P0_ k_)) z61_ hb); have n3_ := q_ (below_step z72_ hb); clear HO_0; clear BK147; clear HK; clear HB; have HO_0 := n0_; have BK147 := n1_; have HK := n2_; have HB := n3_; clear n0_ n1_ n2_ n3_; (try clear hb); (try clear hb2); (try clear hk); (try clear hi)))
       (try simp only [← hl0_1])
       go_roundg k1
       case measure => have := HK1.out; omega
       case rel => exact ⟨(x0_1), (x5_1), (wrap64 (x6_1 + 1)), z7_, z7_, H', ⟨z74_⟩, ⟨z92_⟩, ⟨z61_⟩, ⟨z72_⟩⟩
      ·replace c12 := Bool.eq_false_iff.mpr c12
       subst c12
       have H1 : (if 0 ≤ x5_1 then (if x5_1 < (x0_1.length : Int) then (slices_DeleteFunc_Msg_96.l0 k1 (x0_1.set (x5_1 : Int).toNat (⟨(rd_T67 x0_1 x6_1).f0, (rd_T67 x0_1 x6_1).f1, (rd_T67 x0_1 x6_1).f2⟩ : S67)) (wrap64 (x5_1 + 1)) (wrap64 (x6_1 + 1))) else (none)) else (none)) = some r := by rw [if_neg (show ¬ (false = true) by decide)] at H; exact H
       clear H
       have H := H1
       clear H1
       by_cases c16 : 0 ≤ x5_1
       ·rw [if_pos c16] at H
        have c16b0 : decide (0 ≤ x5_1) = true := decide_eq_true c16
        clear c16
        by_cases c17 : x5_1 < (x0_1.length : Int)
        ·rw [if_pos c17] at H
         have c17b0 : decide (x5_1 < (x0_1.length : Int)) = true := decide_eq_true c17
         clear c17
         obtain ⟨y149, hy149⟩ : ∃ y_ : List (S67), y_ = (x0_1.set (x5_1 : Int).toNat (⟨(rd_T67 x0_1 x6_1).f0, (rd_T67 x0_1 x6_1).f1, (rd_T67 x0_1 x6_1).f2⟩ : S67)) := ⟨_, rfl⟩
         replace H : (slices_DeleteFunc_Msg_96.l0 k1 y149 (wrap64 (x5_1 + 1)) (wrap64 (x6_1 + 1))) = some r := by first | (rw [hy149]; with_reducible exact H) | (have H2_ := (Option.bind_some _ _).symm.trans H; rw [hy149]; with_reducible exact H2_) | (have H2_ := (Option.bind_some _ _).symm.trans H; with_reducible exact H2_) | with_reducible exact H | (rw [hy149]; exact H) | exact H
         have Ny149 := q_ hy149
         clear hy149
         have H' := q_ H
         clear H
         have p146 : 0 ≤ (x6_1 : Int) := of_decide_eq_true z3_
         have q146 : x6_1 < (x0_1.length : Int) := of_decide_eq_true z3_
         obtain ⟨ad146, e146, hx146_0, hx146_1, hx146_2⟩ := at_T67 (Kd.R_reads' HO_0.out).2.2 x6_1 p146 q146
         cases e146
         replace p146 := eq_true p146
         replace q146 := eq_true q146
         go_wp2_with (first | ((with_reducible refine gate_dst (N := 7) rfl ?_); refine box_event ?hg (N := 7) ?hd (cs := #[.int .i64 0, .int .i64 0, .int .i64 0]) (t := 67) ?hr ?_; (case hd => rfl); (case hg => rfl); (case hr => exact z148_); intro gb147 hg w19 hbox hb; have n0_ := q_ (Kd.R_below (Kd.R_elderB z32_ gb147 (Nat.le_of_eq hg.symm)) hb); have n1_ := q_ (Kept.below (S := (fun k_ => P0_ k_)) z9_ hb); have n2_ := q_ (below_step z0_ hb); have n3_ := q_ (hbox); have n4_ := q_ ((z145_ : w.heap.size ≤ gb147)); have n5_ := q_ ((z119_ : w0.heap.size ≤ gb147)); clear HO_0; clear HK; clear HB; have HO_0 := n0_; have HK := n1_; have HB := n2_; have BK147 := n3_; have GW147 := n4_; have GE147 := n5_; clear n0_ n1_ n2_ n3_ n4_ n5_; clear hb hbox hg; obtain ⟨hcz20_0, hcz20_1, hcz20_2, hfz20_0, hfz20_1, hfz20_2⟩ := cs3_ BK147.out) | (go_at_call 96; refine calls_of_args (args' := #[.agg #[.int .i64 ((rd_T67 x0_1 x6_1).f0), .int .i64 ((rd_T67 x0_1 x6_1).f1), .int .i64 ((rd_T67 x0_1 x6_1).f2)]]) z100_ ?_; (with_reducible refine (impl_Shrink_f1.calls k1 ((rd_T67 x0_1 x6_1).f0) ((rd_T67 x0_1 x6_1).f1) ((rd_T67 x0_1 x6_1).f2) false _ A11.out).mono ?_); rintro e w21 ⟨rfl, hb⟩; have n0_ := q_ (Kd.R_below z60_ hb); have n1_ := q_ (blk_below (g := gb147) (o := .cells #[.int .i64 ((rd_T67 x0_1 x6_1).f0), .int .i64 ((rd_T67 x0_1 x6_1).f1), .int .i64 ((rd_T67 x0_1 x6_1).f2)] 67 (0, 0)) z41_ hb); have n2_ := q_ (Kept.below (S := (fun k_ => P0_ k_)) z61_ hb); have n3_ := q_ (below_step z72_ hb); clear HO_0; clear BK147; clear HK; clear HB; have HO_0 := n0_; have BK147 := n1_; have HK := n2_; have HB := n3_; clear n0_ n1_ n2_ n3_; (try clear hb); (try clear hb2); (try clear hk); (try clear hi); obtain ⟨hcz22_0, hcz22_1, hcz22_2, hfz22_0, hfz22_1, hfz22_2⟩ := cs3_ BK147.out; have p18 : 0 ≤ (x5_1 : Int) := of_decide_eq_true z3_; have q18 : (x5_1 : Int) < ((x0_1.length : Int) : Int) := of_decide_eq_true z3_; obtain ⟨go18, co18, eo18, gb18, gl18, cl18, HG18⟩ := Kd.R_form HO_0.out (by omega); (first | cases eo18 | (injection eo18 with ea_ en_ ec_; (first | subst ea_ | (injection ea_ with ea_; subst ea_)); subst ec_; clear en_)); have GB18 := q_ gb18; have GG18 := q_ HG18; clear gb18 gl18 HG18; have HMgo18 := q_ (show (P0_ go18 ∨ w.heap.size ≤ go18) from (HO_0.out.1 _ rfl).1); (first | simp only [add_plain] at hx146_0 | skip); (first | simp only [add_plain] at hx146_1 | skip); (first | simp only [add_plain] at hx146_2 | skip); obtain ⟨ce18, hcl18, hM18, hcc18, hfr18⟩ := Kd.R_elem HO_0.out z67 (x5_1 : Int) p18 q18; obtain rfl := k67_openM hM18; have hx18_0 : w21.cell? ⟨go18, (x5_1 : Int).toNat * 3, none⟩ = some (.int .i64 ((rd_T67 x0_1 x5_1).f0)) := hcc18 0 _ rfl; have hx18_1 : w21.cell? ⟨go18, (x5_1 : Int).toNat * 3 + 1, none⟩ = some (.int .i64 ((rd_T67 x0_1 x5_1).f1)) := hcc18 1 _ rfl; have hx18_2 : w21.cell? ⟨go18, (x5_1 : Int).toNat * 3 + 2, none⟩ = some (.int .i64 ((rd_T67 x0_1 x5_1).f2)) := hcc18 2 _ rfl; have hf18_0 : w21.frozen? ⟨go18, (x5_1 : Int).toNat * 3, none⟩ = false := hfr18 0; have hf18_1 : w21.frozen? ⟨go18, (x5_1 : Int).toNat * 3 + 1, none⟩ = false := hfr18 1; have hf18_2 : w21.frozen? ⟨go18, (x5_1 : Int).toNat * 3 + 2, none⟩ = false := hfr18 2; clear hcl18 hcc18 hfr18 hM18; replace p18 := eq_true p18; replace q18 := eq_true q18; have HX23 := q_ (show Kd.R k67 67 w21 w0.heap.size (fun k_ => (P0_ k_ ∨ w.heap.size ≤ k_) ∧ k_ ≠ gb147) (.slice (some ⟨go18, 0, none⟩) x0_1.length co7) x0_1 from z32_); obtain ⟨ce23, hcl23, hM23, hcc23, hfr23⟩ := Kd.R_elem HX23.out z67 (x5_1 : Int) (of_decide_eq_true z3_) z133_; obtain rfl := k67_openM hM23; have HP23 := Kd.R_seg HX23.out (x5_1 : Int) (of_decide_eq_true z3_) z133_ (seg := [.int .i64 ((rd_T67 x0_1 x6_1).f0), .int .i64 ((rd_T67 x0_1 x6_1).f1), .int .i64 ((rd_T67 x0_1 x6_1).f2)]) (j := 0) hcl23 hcc23 (show 3 ≤ 3 from by decide) (x' := (⟨(rd_T67 x0_1 x6_1).f0, (rd_T67 x0_1 x6_1).f1, (rd_T67 x0_1 x6_1).f2⟩ : S67)) (k67_mkM _ _ _ (⟨(rd_T67 x0_1 x6_1).f0, (rd_T67 x0_1 x6_1).f1, (rd_T67 x0_1 x6_1).f2⟩ : S67) ) (fun _ hk => hk); have hx23_0 := hcc23 0 _ rfl; (try simp only [show (k67).sz = 3 from rfl, Nat.mul_one, Nat.add_zero] at hx23_0); have hf23_0 := hfr23 0; (try simp only [show (k67).sz = 3 from rfl, Nat.mul_one, Nat.add_zero] at hf23_0); have hx23_1 := hcc23 1 _ rfl; (try simp only [show (k67).sz = 3 from rfl, Nat.mul_one, Nat.add_zero] at hx23_1); have hf23_1 := hfr23 1; (try simp only [show (k67).sz = 3 from rfl, Nat.mul_one, Nat.add_zero] at hf23_1); have hx23_2 := hcc23 2 _ rfl; (try simp only [show (k67).sz = 3 from rfl, Nat.mul_one, Nat.add_zero] at hx23_2); have hf23_2 := hfr23 2; (try simp only [show (k67).sz = 3 from rfl, Nat.mul_one, Nat.add_zero] at hf23_2); clear hcl23 hcc23 hfr23 hM23) | ((with_reducible refine gate_store (t := 67) (p := 33) rfl ?_); refine store_event (t := 67) (p := 33) (v := ?vo_w24) (w1 := (((w21.setCell ⟨go18, (x5_1 : Int).toNat * 3, none⟩ (.int .i64 ((rd_T67 x0_1 x6_1).f0))).setCell ⟨go18, (x5_1 : Int).toNat * 3 + 1, none⟩ (.int .i64 ((rd_T67 x0_1 x6_1).f1))).setCell ⟨go18, (x5_1 : Int).toNat * 3 + 2, none⟩ (.int .i64 ((rd_T67 x0_1 x6_1).f2)))) ?hg ?ho ?hn ?hr ?_; (case ho => rfl); (case hg => rfl); (case hn => rfl); (case hr => exact z148_); intro w24 hw; have hg : w21.grownBy w24 (some go18) := (by rw [hw]; exact HP23.2); have hp_ : Kd.R k67 67 w24 w0.heap.size (fun k_ => (P0_ k_ ∨ w.heap.size ≤ k_) ∧ k_ ≠ gb147) (.slice (some ⟨go18, 0, none⟩) x0_1.length co7) y149 := (by rw [hw, Ny149.out]; exact HP23.1); clear HP23; have n0_ := q_ (hp_); have n1_ := q_ (blk_grown (g := gb147) (o := .cells #[.int .i64 ((rd_T67 x0_1 x6_1).f0), .int .i64 ((rd_T67 x0_1 x6_1).f1), .int .i64 ((rd_T67 x0_1 x6_1).f2)] 67 (0, 0)) (by (with_reducible repeat (first | refine blk_drewN ?_ _ | refine blk_drew ?_ | refine blk_alloc ?_ _)); exact BK147.out) hg (Kd.R_away HO_0.out (fun _ hk => hk.2))); have n2_ := q_ ((by rw [hw]; exact below_set (below_set (below_set (HB.out) GB18.out) GB18.out) GB18.out : Below w0.heap.size w0 w24)); have n3_ := q_ (Kept.of_grown (S := (fun k_ => P0_ k_)) hg z61_ (fun k_ e_ => (HO_0.out.1 k_ e_).1)); clear HO_0; clear BK147; clear HB; clear HK; have HO_0 := n0_; have BK147 := n1_; have HB := n2_; have HK := n3_; clear n0_ n1_ n2_ n3_; clear hg hw hp_))
         (try simp only [← hl0_1])
         go_roundg k1
         case measure => have := HK1.out; omega
         case rel => exact ⟨(y149), (wrap64 (x5_1 + 1)), (wrap64 (x6_1 + 1)), z7_, z7_, H', ⟨z74_⟩, ⟨z92_⟩, ⟨z61_⟩, ⟨z72_⟩⟩
        ·rw [if_neg c17] at H
         exact absurd H (by simp)
       ·rw [if_neg c16] at H
        exact absurd H (by simp)
     ·rw [if_neg c10] at H
      exact absurd H (by simp)
    ·rw [if_neg c9] at H
     have c9b0 : decide (x6_1 < (x0_1.length : Int)) = false := decide_eq_false c9
     clear c9
     by_cases c25 : 0 ≤ x5_1
     ·rw [if_pos c25] at H
      have c25b0 := eq_true c25
      have c25b1 : decide (0 ≤ x5_1) = true := decide_eq_true c25
      clear c25
      by_cases c26 : x5_1 ≤ (x0_1.length : Int)
      ·rw [if_pos c26] at H
       have c26b0 := eq_true c26
       have c26b1 : decide (x5_1 ≤ (x0_1.length : Int)) = true := decide_eq_true c26
       clear c26
       obtain ⟨y150, hy150⟩ : ∃ y_ : List (S67), y_ = (x0_1.take (x5_1 : Int).toNat) := ⟨_, rfl⟩
       replace H : (some y150) = some r := by first | (rw [hy150]; with_reducible exact H) | (have H2_ := (Option.bind_some _ _).symm.trans H; rw [hy150]; with_reducible exact H2_) | (have H2_ := (Option.bind_some _ _).symm.trans H; with_reducible exact H2_) | with_reducible exact H | (rw [hy150]; exact H) | exact H
       have Ny150 := q_ hy150
       clear hy150
       obtain rfl := Option.some.inj H
       have q27 : (x5_1 : Int) ≤ ((x0_1.length : Int) : Int) := of_decide_eq_true z3_
       obtain ⟨i027, hi027, _, hsz27, _⟩ := info_parts info67
       have hcf_ := cut_from (P := Try.prog) 24 67 .i64 Try.underlying24 hi027 3 hsz27 Ao7 x0_1.length co7 x5_1 (of_decide_eq_true z3_) q27
       obtain ⟨w9_, hc9_, hR9_, hg9_⟩ := Kd.clear_cut (P := Try.prog) k67 24 Try.underlying24 ((.agg #[(.int .i64 0), (.int .i64 0), (.int .i64 0)])) Try.zeroValue67 rfl (by decide) (by decide) HO_0.out (i := (x5_1 : Int).toNat) (by omega)
       have HB9 := q_ (HB.out.grown hg9_ HB.out.size (fun k_ e_ => Kd.R_base HO_0.out k_ e_))
       have HK9 := q_ (Kept.of_grown hg9_ HK.out (fun k_ e_ => HO_0.out.1 k_ e_))
       clear hg9_ HB HK
       have HB := HB9
       have HK := HK9
       clear HB9 HK9
       replace hc9_ : ∀ ty, (Builtin.clear_ #[24] ty #[.slice (if co7 = (x5_1 : Int).toNat then Ao7 else Ao7.map (·.add ((x5_1 : Int).toNat * 3))) (x0_1.length - (x5_1 : Int).toNat) (co7 - (x5_1 : Int).toNat)]).run Try.prog _ = .ok (.tuple #[]) w9_ := hc9_
       generalize (if co7 = (x5_1 : Int).toNat then Ao7 else Ao7.map (·.add ((x5_1 : Int).toNat * 3))) = A9_ at hcf_ hc9_
       have HC9 := q_ hc9_
       clear hc9_
       have hcut27 := cut_to (P := Try.prog) 24 67 .i64 Try.underlying24 hi027 Ao7 x0_1.length co7 x5_1 (of_decide_eq_true z3_) q27 (Kd.R_reads' HO_0.out).2.1
       have hr27 := hR9_
       have hy27 : y150.length = (x5_1 : Int).toNat := (by rw [Ny150.out, List.length_take]; omega)
       rw [← Ny150.out] at hr27
       rw [← hy27] at hr27 hcut27
       clear hy27 hi027 hsz27 HO_0
       have HO152 := q_ hr27
       clear hr27
       replace q27 := eq_true q27
       go_wp2_with ((with_reducible refine gate_builtin (b := .clear) (xs := #[.tmp 38]) rfl ?_); refine gone_clear rfl _ 24 rfl rfl (HC9.out _) ?_)
       go_ret
       exact ⟨_, z5_, by (with_reducible repeat (first | apply Kd.R_alloc | apply Kd.R_drewN | apply Kd.R_drew)); exact HO152.out, z0_, z9_⟩
      ·rw [if_neg c26] at H
       exact absurd H (by simp)
     ·rw [if_neg c25] at H
      exact absurd H (by simp)

/-! ### impl_sets: function 99 -/
def impl_sets.f (a0_0 : Int) (a0_1 : Int) (a0_2 : Int) : Option (Bool) := if a0_0 = 1 then (some true) else (some (a0_0 == 2))
set_option maxHeartbeats 8000000 in
set_option maxRecDepth 100000 in
theorem impl_sets.calls (a0_0 : Int) (a0_1 : Int) (a0_2 : Int) (r : Bool) (w : World) (h : impl_sets.f a0_0 a0_1 a0_2 = some r) :
  Calls Try.prog 99 #[.agg #[.int .i64 a0_0, .int .i64 a0_1, .int .i64 a0_2]] w fun e w' => e = .returned (.bool r) ∧ Below w.heap.size w w' := by
 have hu67 := Try.underlying67
 have HB := q_ (Below.refl w.heap.size w)
 have H : (if a0_0 = 1 then (some true) else (some (a0_0 == 2))) = some r := h
 clear h
 by_cases c2 : a0_0 = 1
 ·rw [if_pos c2] at H
  have c2b0 : (a0_0 == 1) = true := beq_iff_eq.mpr c2
  have c2b1 : (a0_0 != 1) = false := bne_eq_false_iff_eq.mpr c2
  clear c2
  obtain rfl := Option.some.inj H
  go_enter Try.func99, Try.ntmps99
  go_wp2_with (first | ((with_reducible refine gate_dst (N := 1) rfl ?_); refine box_event ?hg (N := 1) ?hd (cs := #[.int .i64 a0_0, .int .i64 a0_1, .int .i64 a0_2]) (t := 67) ?hr ?_; (case hd => rfl); (case hg => rfl); (case hr => exact z148_); intro gb153 hg w3 hbox hb; have n0_ := q_ (below_step z0_ hb); have n1_ := q_ (hbox); have n2_ := q_ ((z119_ : w.heap.size ≤ gb153)); have n3_ := q_ ((z119_ : w.heap.size ≤ gb153)); clear HB; have HB := n0_; have BK153 := n1_; have GW153 := n2_; have GE153 := n3_; clear n0_ n1_ n2_ n3_; clear hb hbox hg; obtain ⟨hcz4_0, hcz4_1, hcz4_2, hfz4_0, hfz4_1, hfz4_2⟩ := cs3_ BK153.out))
  go_ret
  exact ⟨z5_, z90_⟩
 ·rw [if_neg c2] at H
  have c2b0 : (a0_0 == 1) = false := beq_eq_false_iff_ne.mpr c2
  have c2b1 : (a0_0 != 1) = true := bne_iff_ne.mpr c2
  obtain rfl := Option.some.inj H
  go_enter Try.func99, Try.ntmps99
  go_wp2_with (first | ((with_reducible refine gate_dst (N := 1) rfl ?_); refine box_event ?hg (N := 1) ?hd (cs := #[.int .i64 a0_0, .int .i64 a0_1, .int .i64 a0_2]) (t := 67) ?hr ?_; (case hd => rfl); (case hg => rfl); (case hr => exact z148_); intro gb153 hg w5 hbox hb; have n0_ := q_ (below_step z0_ hb); have n1_ := q_ (hbox); have n2_ := q_ ((z119_ : w.heap.size ≤ gb153)); have n3_ := q_ ((z119_ : w.heap.size ≤ gb153)); clear HB; have HB := n0_; have BK153 := n1_; have GW153 := n2_; have GE153 := n3_; clear n0_ n1_ n2_ n3_; clear hb hbox hg; obtain ⟨hcz6_0, hcz6_1, hcz6_2, hfz6_0, hfz6_1, hfz6_2⟩ := cs3_ BK153.out))
  go_ret
  exact ⟨z5_, z90_⟩

/-! ### impl_Shrink_f2: function 98 -/
def impl_Shrink_f2.f (a0_0 : Int) (a0_1 : Int) (a0_2 : Int) (a28_0 : Int) (a28_1 : Int) (a28_2 : Int) : Option (Bool) := if a0_1 = a28_1 then ((impl_sets.f a0_0 a0_1 a0_2).bind fun t155 => (some t155)) else (some false)
set_option maxHeartbeats 8000000 in
set_option maxRecDepth 100000 in
theorem impl_Shrink_f2.calls (a0_0 : Int) (a0_1 : Int) (a0_2 : Int) (gc28 : Nat) (a28_0 : Int) (a28_1 : Int) (a28_2 : Int) (r : Bool) (w : World) (hb28 : w.heap[gc28]? = some (.cells #[.int .i64 a28_0, .int .i64 a28_1, .int .i64 a28_2] 67 (0, 0))) (h : impl_Shrink_f2.f a0_0 a0_1 a0_2 a28_0 a28_1 a28_2 = some r) :
  Calls Try.prog 98 #[.agg #[.int .i64 a0_0, .int .i64 a0_1, .int .i64 a0_2], .pointer (some ⟨gc28, 0, none⟩)] w fun e w' => e = .returned (.bool r) ∧ Below w.heap.size w w' := by
 have hu67 := Try.underlying67
 have BK28 := q_ hb28
 clear hb28
 have HB := q_ (Below.refl w.heap.size w)
 have H : (if a0_1 = a28_1 then ((impl_sets.f a0_0 a0_1 a0_2).bind fun t155 => (some t155)) else (some false)) = some r := h
 clear h
 by_cases c3 : a0_1 = a28_1
 ·rw [if_pos c3] at H
  have c3b0 : (a0_1 == a28_1) = true := beq_iff_eq.mpr c3
  have c3b1 : (a0_1 != a28_1) = false := bne_eq_false_iff_eq.mpr c3
  clear c3
  replace H := Option.bind_eq_some_iff.mp H
  obtain ⟨t155, A40, H⟩ := H
  replace H : (some t155) = some r := H
  have A4 := q_ A40
  clear A40
  obtain rfl := Option.some.inj H
  go_enter Try.func98, Try.ntmps98
  go_wp2_with (first | ((with_reducible refine gate_dst (N := 2) rfl ?_); refine box_event ?hg (N := 2) ?hd (cs := #[.int .i64 a0_0, .int .i64 a0_1, .int .i64 a0_2]) (t := 67) ?hr ?_; (case hd => rfl); (case hg => rfl); (case hr => exact z148_); intro gb154 hg w5 hbox hb; have n0_ := q_ (blk_below (g := gc28) (o := .cells #[.int .i64 a28_0, .int .i64 a28_1, .int .i64 a28_2] 67 (0, 0)) z25_ hb); have n1_ := q_ (below_step z10_ hb); have n2_ := q_ (hbox); have n3_ := q_ ((z135_ : w.heap.size ≤ gb154)); have n4_ := q_ ((z135_ : w.heap.size ≤ gb154)); have n5_ := q_ ((z128_ : gc28 ≠ gb154)); have n6_ := q_ ((z129_ : gb154 ≠ gc28)); clear BK28; clear HB; have BK28 := n0_; have HB := n1_; have BK154 := n2_; have GW154 := n3_; have GE154 := n4_; have NB28_154 := n5_; have NB154_28 := n6_; clear n0_ n1_ n2_ n3_ n4_ n5_ n6_; clear hb hbox hg; have hnb6 := NB154_28.out; have hnc6 := NB28_154.out; obtain ⟨hcz7_0, hcz7_1, hcz7_2, hfz7_0, hfz7_1, hfz7_2⟩ := cs3_ BK154.out; obtain ⟨hcz8_0, hcz8_1, hcz8_2, hfz8_0, hfz8_1, hfz8_2⟩ := cs3_ BK28.out) | (go_at_call 99; (with_reducible refine (impl_sets.calls a0_0 a0_1 a0_2 t155 _ A4.out).mono ?_); rintro e w9 ⟨rfl, hb⟩; have n0_ := q_ (below_step z0_ hb); clear HB; have HB := n0_; clear n0_; (try clear hb); (try clear hb2); (try clear hk); (try clear hi)))
  go_ret
  exact ⟨z5_, z0_⟩
 ·rw [if_neg c3] at H
  have c3b0 : (a0_1 == a28_1) = false := beq_eq_false_iff_ne.mpr c3
  have c3b1 : (a0_1 != a28_1) = true := bne_iff_ne.mpr c3
  obtain rfl := Option.some.inj H
  go_enter Try.func98, Try.ntmps98
  go_wp2_with (first | ((with_reducible refine gate_dst (N := 2) rfl ?_); refine box_event ?hg (N := 2) ?hd (cs := #[.int .i64 a0_0, .int .i64 a0_1, .int .i64 a0_2]) (t := 67) ?hr ?_; (case hd => rfl); (case hg => rfl); (case hr => exact z148_); intro gb154 hg w10 hbox hb; have n0_ := q_ (blk_below (g := gc28) (o := .cells #[.int .i64 a28_0, .int .i64 a28_1, .int .i64 a28_2] 67 (0, 0)) z25_ hb); have n1_ := q_ (below_step z10_ hb); have n2_ := q_ (hbox); have n3_ := q_ ((z135_ : w.heap.size ≤ gb154)); have n4_ := q_ ((z135_ : w.heap.size ≤ gb154)); have n5_ := q_ ((z128_ : gc28 ≠ gb154)); have n6_ := q_ ((z129_ : gb154 ≠ gc28)); clear BK28; clear HB; have BK28 := n0_; have HB := n1_; have BK154 := n2_; have GW154 := n3_; have GE154 := n4_; have NB28_154 := n5_; have NB154_28 := n6_; clear n0_ n1_ n2_ n3_ n4_ n5_ n6_; clear hb hbox hg; have hnb11 := NB154_28.out; have hnc11 := NB28_154.out; obtain ⟨hcz12_0, hcz12_1, hcz12_2, hfz12_0, hfz12_1, hfz12_2⟩ := cs3_ BK154.out; obtain ⟨hcz13_0, hcz13_1, hcz13_2, hfz13_0, hfz13_1, hfz13_2⟩ := cs3_ BK28.out))
  go_ret
  exact ⟨z5_, by repeat (first | (with_reducible first | exact HB.out | apply below_alloc | apply pw_below_drewN | apply below_drew1 | refine below_set ?_ GE28.out | refine below_set ?_ GE154.out) | exact HB.out)⟩

/-! ### slices_IndexFunc_Msg_98: function 100 -/
def slices_IndexFunc_Msg_98.l0 : Nat → List (S67) → Int → Int → Int → Int → Int → Option (Int)
 | 0, _, _, _, _, _, _ => none
 | k + 1, x0, x7, x8, x29000, x29001, x29002 => if x8 < x7 then (if 0 ≤ x8 then (if x8 < (x0.length : Int) then ((impl_Shrink_f2.f ((rd_T67 x0 x8).f0) ((rd_T67 x0 x8).f1) ((rd_T67 x0 x8).f2) x29000 x29001 x29002).bind fun t157 => (if t157 = true then (some x8) else (slices_IndexFunc_Msg_98.l0 k x0 x7 (wrap64 (x8 + 1)) x29000 x29001 x29002))) else (none)) else (none)) else (some (-1))
def slices_IndexFunc_Msg_98.f (k : Nat) (l0 : List (S67)) (a28_0 : Int) (a28_1 : Int) (a28_2 : Int) : Option (Int) := slices_IndexFunc_Msg_98.l0 k l0 (l0.length : Int) 0 a28_0 a28_1 a28_2
theorem slices_IndexFunc_Msg_98.mono_l : ∀ k, (∀ y0 y1 y2 y3 y4 y5, LeO (slices_IndexFunc_Msg_98.l0 k y0 y1 y2 y3 y4 y5) (slices_IndexFunc_Msg_98.l0 (k + 1) y0 y1 y2 y3 y4 y5))
 | 0 => fun _ _ _ _ _ _ r h => by simp [slices_IndexFunc_Msg_98.l0] at h
 | k + 1 => by
  have ih0 := slices_IndexFunc_Msg_98.mono_l k
  ·intro y0 y1 y2 y3 y4 y5
   unfold slices_IndexFunc_Msg_98.l0
   repeat' first
   | (with_reducible exact ih0 _ _ _ _ _ _)
   | (with_reducible exact LeO.refl _)
   | (with_reducible exact LeO.none _)
   | (with_reducible refine LeO.ite ?_ ?_)
   | (with_reducible refine LeO.bind ?_ (fun _ => ?_))
   | exact ih0 _ _ _ _ _ _
   | exact LeO.none _
   | refine LeO.ite ?_ ?_
   | refine LeO.bind ?_ (fun _ => ?_)
theorem slices_IndexFunc_Msg_98.mono : ∀ a0 a1 a2 a3 k, LeO (slices_IndexFunc_Msg_98.f k a0 a1 a2 a3) (slices_IndexFunc_Msg_98.f (k + 1) a0 a1 a2 a3) := by
 intro a0 a1 a2 a3 k
 have ih0 := slices_IndexFunc_Msg_98.mono_l k
 unfold slices_IndexFunc_Msg_98.f
 repeat' first
   | (with_reducible exact ih0 _ _ _ _ _ _)
   | (with_reducible exact LeO.refl _)
   | (with_reducible exact LeO.none _)
   | (with_reducible refine LeO.ite ?_ ?_)
   | (with_reducible refine LeO.bind ?_ (fun _ => ?_))
   | exact ih0 _ _ _ _ _ _
   | exact LeO.none _
   | refine LeO.ite ?_ ?_
   | refine LeO.bind ?_ (fun _ => ?_)
set_option maxHeartbeats 8000000 in
set_option maxRecDepth 100000 in
theorem slices_IndexFunc_Msg_98.calls (k : Nat) (A0 : Option Addr) (c0 : Nat) (l0 : List (S67)) (gc28 : Nat) (a28_0 : Int) (a28_1 : Int) (a28_2 : Int) (r : Int) (w : World) (hr0 : Kd.C k67 w A0 l0.length l0) (hc0 : l0.length ≤ c0) (hb28 : w.heap[gc28]? = some (.cells #[.int .i64 a28_0, .int .i64 a28_1, .int .i64 a28_2] 67 (0, 0))) (h : slices_IndexFunc_Msg_98.f k l0 a28_0 a28_1 a28_2 = some r) :
  Calls Try.prog 100 #[.slice A0 l0.length c0, .func (.func 98) #[] #[.pointer (some ⟨gc28, 0, none⟩)]] w fun e w' => e = .returned (.int .i64 r) ∧ Below w.heap.size w w' := by
 have hu67 := Try.underlying67
 have HR0 := q_ hr0
 have HC0 := q_ hc0
 clear hr0 hc0
 have BK28 := q_ hb28
 clear hb28
 have HB := q_ (Below.refl w.heap.size w)
 have H : (slices_IndexFunc_Msg_98.l0 k l0 (l0.length : Int) 0 a28_0 a28_1 a28_2) = some r := h
 clear h
 have H' := q_ H
 clear H
 go_enter Try.func100, Try.ntmps100
 go_wp2
 go_loopg [8] k (fun kq v8 w' => ∃ (x8_1 : Int), v8 = .int .i64 x8_1 ∧ Aside0 (slices_IndexFunc_Msg_98.l0 kq l0 (l0.length : Int) x8_1 a28_0 a28_1 a28_2 = some r) ∧ Aside0 (kq ≤ k) ∧ Aside0 (w'.heap[gc28]? = some (.cells #[.int .i64 a28_0, .int .i64 a28_1, .int .i64 a28_2] 67 (0, 0))) ∧ Aside0 (Below w.heap.size w w'))
 case atStart => exact ⟨(0), z7_, H', ⟨Nat.le_refl _⟩, ⟨z25_⟩, ⟨z10_⟩⟩
 case round =>
  clear H'
  try clear c1
  try clear c2
  try clear p2
  obtain ⟨x8_1, rfl, HA, HK1, BK28, HB⟩ := hrel
  cases gk with
  | zero => exact absurd HA.out (by simp [slices_IndexFunc_Msg_98.l0])
  | succ k1 =>
   have H := HA.out
   clear HA
   simp only [slices_IndexFunc_Msg_98.l0] at H
   by_cases c3 : x8_1 < (l0.length : Int)
   ·rw [if_pos c3] at H
    have c3b0 : decide (x8_1 < (l0.length : Int)) = true := decide_eq_true c3
    clear c3
    by_cases c4 : 0 ≤ x8_1
    ·rw [if_pos c4] at H
     have c4b0 : decide (0 ≤ x8_1) = true := decide_eq_true c4
     clear c4
     by_cases c5 : x8_1 < (l0.length : Int)
     ·rw [if_pos c5] at H
      have c5b0 : decide (x8_1 < (l0.length : Int)) = true := decide_eq_true c5
      clear c5
      replace H := Option.bind_eq_some_iff.mp H
      obtain ⟨t157, A60, H⟩ := H
      replace H : (if t157 = true then (some x8_1) else (slices_IndexFunc_Msg_98.l0 k1 l0 (l0.length : Int) (wrap64 (x8_1 + 1)) a28_0 a28_1 a28_2)) = some r := H
      have A6 := q_ A60
      clear A60
      by_cases c7 : t157 = true
      ·subst c7
       have H1 : (some x8_1) = some r := z58_
       clear H
       have H := H1
       clear H1
       obtain rfl := Option.some.inj H
       have p156 : 0 ≤ (x8_1 : Int) := of_decide_eq_true z3_
       have q156 : x8_1 < (l0.length : Int) := of_decide_eq_true z3_
       obtain ⟨ad156, e156, hx156_0, hx156_1, hx156_2⟩ := at_T67 HR0.out x8_1 p156 q156
       cases e156
       replace hx156_0 := up_ HB hx156_0
       replace hx156_1 := up_ HB hx156_1
       replace hx156_2 := up_ HB hx156_2
       replace p156 := eq_true p156
       replace q156 := eq_true q156
       go_wp2_with (first | (go_at_call 98; refine calls_of_args (args' := #[.agg #[.int .i64 ((rd_T67 l0 x8_1).f0), .int .i64 ((rd_T67 l0 x8_1).f1), .int .i64 ((rd_T67 l0 x8_1).f2)], .pointer (some ⟨gc28, 0, none⟩)]) z100_ ?_; (with_reducible refine (impl_Shrink_f2.calls ((rd_T67 l0 x8_1).f0) ((rd_T67 l0 x8_1).f1) ((rd_T67 l0 x8_1).f2) gc28 a28_0 a28_1 a28_2 true _ ?side1 A6.out).mono ?_); (case side1 => exact z164_); rintro e w8 ⟨rfl, hb⟩; have n0_ := q_ (blk_below (g := gc28) (o := .cells #[.int .i64 a28_0, .int .i64 a28_1, .int .i64 a28_2] 67 (0, 0)) z25_ hb); have n1_ := q_ (below_step z10_ hb); clear BK28; clear HB; have BK28 := n0_; have HB := n1_; clear n0_ n1_; (try clear hb); (try clear hb2); (try clear hk); (try clear hi)))
       go_ret
       exact ⟨z5_, z10_⟩
      ·replace c7 := Bool.eq_false_iff.mpr c7
       subst c7
       have H1 : (slices_IndexFunc_Msg_98.l0 k1 l0 (l0.length : Int) (wrap64 (x8_1 + 1)) a28_0 a28_1 a28_2) = some r := by rw [if_neg (show ¬ (false = true) by decide)] at H; exact H
       clear H
       have H := H1
       clear H1
       have H' := q_ H
       clear H
       have p156 : 0 ≤ (x8_1 : Int) := of_decide_eq_true z3_
       have q156 : x8_1 < (l0.length : Int) := of_decide_eq_true z3_
       obtain ⟨ad156, e156, hx156_0, hx156_1, hx156_2⟩ := at_T67 HR0.out x8_1 p156 q156
       cases e156
       replace hx156_0 := up_ HB hx156_0
       replace hx156_1 := up_ HB hx156_1
       replace hx156_2 := up_ HB hx156_2
       replace p156 := eq_true p156
       replace q156 := eq_true q156
       go_wp2_with (first | (go_at_call 98; refine calls_of_args (args' := #[.agg #[.int .i64 ((rd_T67 l0 x8_1).f0), .int .i64 ((rd_T67 l0 x8_1).f1), .int .i64 ((rd_T67 l0 x8_1).f2)], .pointer (some ⟨gc28, 0, none⟩)]) z100_ ?_; (with_reducible refine (impl_Shrink_f2.calls ((rd_T67 l0 x8_1).f0) ((rd_T67 l0 x8_1).f1) ((rd_T67 l0 x8_1).f2) gc28 a28_0 a28_1 a28_2 false _ ?side1 A6.out).mono ?_); (case side1 => exact z164_); rintro e w9 ⟨rfl, hb⟩; have n0_ := q_ (blk_below (g := gc28) (o := .cells #[.int .i64 a28_0, .int .i64 a28_1, .int .i64 a28_2] 67 (0, 0)) z25_ hb); have n1_ := q_ (below_step z10_ hb); clear BK28; clear HB; have BK28 := n0_; have HB := n1_; clear n0_ n1_; (try clear hb); (try clear hb2); (try clear hk); (try clear hi)))
       go_roundg k1
       case measure => have := HK1.out; omega
       case rel => exact ⟨(wrap64 (x8_1 + 1)), z7_, H', ⟨z74_⟩, ⟨z25_⟩, ⟨z10_⟩⟩
     ·rw [if_neg c5] at H
      exact absurd H (by simp)
    ·rw [if_neg c4] at H
     exact absurd H (by simp)
   ·rw [if_neg c3] at H
    have c3b0 : decide (x8_1 < (l0.length : Int)) = false := decide_eq_false c3
    clear c3
    obtain rfl := Option.some.inj H
    go_wp2
    go_ret
    exact ⟨z5_, z10_⟩

/-! ### slices_ContainsFunc_Msg_98: function 97 -/
def slices_ContainsFunc_Msg_98.f (k : Nat) (l0 : List (S67)) (a28_0 : Int) (a28_1 : Int) (a28_2 : Int) : Option (Bool) := (slices_IndexFunc_Msg_98.f k l0 a28_0 a28_1 a28_2).bind fun t158 => (some (decide (t158 ≥ 0)))
theorem slices_ContainsFunc_Msg_98.mono : ∀ a0 a1 a2 a3 k, LeO (slices_ContainsFunc_Msg_98.f k a0 a1 a2 a3) (slices_ContainsFunc_Msg_98.f (k + 1) a0 a1 a2 a3) := by
 intro a0 a1 a2 a3 k
 unfold slices_ContainsFunc_Msg_98.f
 repeat' first
   | (with_reducible exact slices_IndexFunc_Msg_98.mono _ _ _ _ _)
   | (with_reducible exact LeO.refl _)
   | (with_reducible exact LeO.none _)
   | (with_reducible refine LeO.ite ?_ ?_)
   | (with_reducible refine LeO.bind ?_ (fun _ => ?_))
   | exact slices_IndexFunc_Msg_98.mono _ _ _ _ _
   | exact LeO.none _
   | refine LeO.ite ?_ ?_
   | refine LeO.bind ?_ (fun _ => ?_)
set_option maxHeartbeats 8000000 in
set_option maxRecDepth 100000 in
theorem slices_ContainsFunc_Msg_98.calls (k : Nat) (A0 : Option Addr) (c0 : Nat) (l0 : List (S67)) (gc28 : Nat) (a28_0 : Int) (a28_1 : Int) (a28_2 : Int) (r : Bool) (w : World) (hr0 : Kd.C k67 w A0 l0.length l0) (hc0 : l0.length ≤ c0) (hb28 : w.heap[gc28]? = some (.cells #[.int .i64 a28_0, .int .i64 a28_1, .int .i64 a28_2] 67 (0, 0))) (h : slices_ContainsFunc_Msg_98.f k l0 a28_0 a28_1 a28_2 = some r) :
  Calls Try.prog 97 #[.slice A0 l0.length c0, .func (.func 98) #[] #[.pointer (some ⟨gc28, 0, none⟩)]] w fun e w' => e = .returned (.bool r) ∧ Below w.heap.size w w' := by
 have HR0 := q_ hr0
 have HC0 := q_ hc0
 clear hr0 hc0
 have BK28 := q_ hb28
 clear hb28
 have HB := q_ (Below.refl w.heap.size w)
 have H : ((slices_IndexFunc_Msg_98.f k l0 a28_0 a28_1 a28_2).bind fun t158 => (some (decide (t158 ≥ 0)))) = some r := h
 clear h
 replace H := Option.bind_eq_some_iff.mp H
 obtain ⟨t158, A30, H⟩ := H
 replace H : (some (decide (t158 ≥ 0))) = some r := H
 have A3 := q_ A30
 clear A30
 obtain rfl := Option.some.inj H
 go_enter Try.func97, Try.ntmps97
 go_wp2_with (first | ((with_reducible refine gate_callee (f := 100) rfl ?_); refine goesL_ (some 7) rfl rfl Try.func100 (by kernel_rfl) rfl #[.slice A0 l0.length c0, .func (.func 98) #[] #[.pointer (some ⟨gc28, 0, none⟩)]] rfl z1_ ?_; (with_reducible refine (slices_IndexFunc_Msg_98.calls k _ _ l0 gc28 a28_0 a28_1 a28_2 t158 _ ?side1 ?side2 ?side3 A3.out).mono ?_); (case side1 => exact z151_); (case side2 => exact HC0.out); (case side3 => exact z164_); rintro e w4 ⟨rfl, hb⟩; refine ⟨_, rfl, ?_⟩; have n0_ := q_ (blk_below (g := gc28) (o := .cells #[.int .i64 a28_0, .int .i64 a28_1, .int .i64 a28_2] 67 (0, 0)) z25_ hb); have n1_ := q_ (below_step z10_ hb); clear BK28; clear HB; have BK28 := n0_; have HB := n1_; clear n0_ n1_; (try clear hb); (try clear hb2); (try clear hk); (try clear hi)))
 go_ret
 exact ⟨z5_, z10_⟩

/-! ### impl_Shrink_f3: function 101 -/
def impl_Shrink_f3.f (a0_0 : Int) (a0_1 : Int) (a0_2 : Int) (a28_0 : Int) (a28_1 : Int) (a28_2 : Int) : Option (Bool) := some (a0_1 == a28_1)
set_option maxHeartbeats 8000000 in
set_option maxRecDepth 100000 in
theorem impl_Shrink_f3.calls (a0_0 : Int) (a0_1 : Int) (a0_2 : Int) (gc28 : Nat) (a28_0 : Int) (a28_1 : Int) (a28_2 : Int) (r : Bool) (w : World) (hb28 : w.heap[gc28]? = some (.cells #[.int .i64 a28_0, .int .i64 a28_1, .int .i64 a28_2] 67 (0, 0))) (h : impl_Shrink_f3.f a0_0 a0_1 a0_2 a28_0 a28_1 a28_2 = some r) :
  Calls Try.prog 101 #[.agg #[.int .i64 a0_0, .int .i64 a0_1, .int .i64 a0_2], .pointer (some ⟨gc28, 0, none⟩)] w fun e w' => e = .returned (.bool r) ∧ Below w.heap.size w w' := by
 have hu67 := Try.underlying67
 have BK28 := q_ hb28
 clear hb28
 have HB := q_ (Below.refl w.heap.size w)
 have H : (some (a0_1 == a28_1)) = some r := h
 clear h
 obtain rfl := Option.some.inj H
 go_enter Try.func101, Try.ntmps101
 go_wp2_with (first | ((with_reducible refine gate_dst (N := 2) rfl ?_); refine box_event ?hg (N := 2) ?hd (cs := #[.int .i64 a0_0, .int .i64 a0_1, .int .i64 a0_2]) (t := 67) ?hr ?_; (case hd => rfl); (case hg => rfl); (case hr => exact z148_); intro gb159 hg w3 hbox hb; have n0_ := q_ (blk_below (g := gc28) (o := .cells #[.int .i64 a28_0, .int .i64 a28_1, .int .i64 a28_2] 67 (0, 0)) z25_ hb); have n1_ := q_ (below_step z10_ hb); have n2_ := q_ (hbox); have n3_ := q_ ((z135_ : w.heap.size ≤ gb159)); have n4_ := q_ ((z135_ : w.heap.size ≤ gb159)); have n5_ := q_ ((z128_ : gc28 ≠ gb159)); have n6_ := q_ ((z129_ : gb159 ≠ gc28)); clear BK28; clear HB; have BK28 := n0_; have HB := n1_; have BK159 := n2_; have GW159 := n3_; have GE159 := n4_; have NB28_159 := n5_; have NB159_28 := n6_; clear n0_ n1_ n2_ n3_ n4_ n5_ n6_; clear hb hbox hg; have hnb4 := NB159_28.out; have hnc4 := NB28_159.out; obtain ⟨hcz5_0, hcz5_1, hcz5_2, hfz5_0, hfz5_1, hfz5_2⟩ := cs3_ BK159.out; obtain ⟨hcz6_0, hcz6_1, hcz6_2, hfz6_0, hfz6_1, hfz6_2⟩ := cs3_ BK28.out))
 go_ret
 exact ⟨z5_, by repeat (first | (with_reducible first | exact HB.out | apply below_alloc | apply pw_below_drewN | apply below_drew1 | refine below_set ?_ GE28.out | refine below_set ?_ GE159.out) | exact HB.out)⟩

end Go.Proofs.Ytphlmbhjeoljoaa.PFnShrunk
