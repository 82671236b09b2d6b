-- Written by a program of this session, which goes by the kit's print. Not trusted: Lean checks it.
import Derived.Test.YtphlmbhjeoljoaaPFnMapAllx0
import Derived.Test.YtphlmbhjeoljoaaPFnMapAllx2
namespace Go.Proofs.Ytphlmbhjeoljoaa.PFnMapAll
open Go.RowKit Go.Proofs.YtphlmbhjeoljoaaW.PrintWords Go.Proofs.YtphlmbhjeoljoaaW.PrintLast Go.Proofs.YtphlmbhjeoljoaaW.PrintMore
attribute [local go_sem] max2_int min2_int max_two min_two max_three min_three max_four min_four   -- for this text's walks alone
set_option linter.unusedVariables false
set_option linter.unusedSimpArgs false

/-! ### spec_MsgOk: function 60 -/
def spec_MsgOk.f (a0_0 : Int) (a0_1 : Int) (a0_2 : Int) : Option (Bool) := (spec_l1In.f a0_0 1 4).bind fun t118 => (if t118 = true then ((spec_l1In.f a0_1 0 999).bind fun t119 => (if t119 = true then ((spec_l1Value.f a0_2).bind fun t120 => (if t120 = true then (if a0_2 = 0 then (some true) else (if a0_0 = 1 then (some true) else (some (a0_0 == 3)))) else (some false))) else (some false))) else (some false))
set_option maxHeartbeats 8000000 in
set_option maxRecDepth 100000 in
theorem spec_MsgOk.calls (a0_0 : Int) (a0_1 : Int) (a0_2 : Int) (r : Bool) (w : World) (h : spec_MsgOk.f a0_0 a0_1 a0_2 = some r) :
  Calls Try.prog 60 #[.agg #[.int .i64 a0_0, .int .i64 a0_1, .int .i64 a0_2]] w fun e w' => e = .returned (.bool r) ∧ Below w.heap.size w w' := by
 have hu67 := Try.underlying67
 have HB := q_ (Below.refl w.heap.size w)
 have H : ((spec_l1In.f a0_0 1 4).bind fun t118 => (if t118 = true then ((spec_l1In.f a0_1 0 999).bind fun t119 => (if t119 = true then ((spec_l1Value.f a0_2).bind fun t120 => (if t120 = true then (if a0_2 = 0 then (some true) else (if a0_0 = 1 then (some true) else (some (a0_0 == 3)))) else (some false))) else (some false))) else (some false))) = some r := h
 clear h
 replace H := Option.bind_eq_some_iff.mp H
 obtain ⟨t118, A20, H⟩ := H
 replace H : (if t118 = true then ((spec_l1In.f a0_1 0 999).bind fun t119 => (if t119 = true then ((spec_l1Value.f a0_2).bind fun t120 => (if t120 = true then (if a0_2 = 0 then (some true) else (if a0_0 = 1 then (some true) else (some (a0_0 == 3)))) else (some false))) else (some false))) else (some false)) = some r := H
 have A2 := q_ A20
 clear A20
 by_cases c3 : t118 = true
 ·subst c3
  have H1 : ((spec_l1In.f a0_1 0 999).bind fun t119 => (if t119 = true then ((spec_l1Value.f a0_2).bind fun t120 => (if t120 = true then (if a0_2 = 0 then (some true) else (if a0_0 = 1 then (some true) else (some (a0_0 == 3)))) else (some false))) else (some false))) = some r := z51_
  clear H
  have H := H1
  clear H1
  replace H := Option.bind_eq_some_iff.mp H
  obtain ⟨t119, A40, H⟩ := H
  replace H : (if t119 = true then ((spec_l1Value.f a0_2).bind fun t120 => (if t120 = true then (if a0_2 = 0 then (some true) else (if a0_0 = 1 then (some true) else (some (a0_0 == 3)))) else (some false))) else (some false)) = some r := H
  have A4 := q_ A40
  clear A40
  by_cases c5 : t119 = true
  ·subst c5
   have H1 : ((spec_l1Value.f a0_2).bind fun t120 => (if t120 = true then (if a0_2 = 0 then (some true) else (if a0_0 = 1 then (some true) else (some (a0_0 == 3)))) else (some false))) = some r := z51_
   clear H
   have H := H1
   clear H1
   replace H := Option.bind_eq_some_iff.mp H
   obtain ⟨t120, A60, H⟩ := H
   replace H : (if t120 = true then (if a0_2 = 0 then (some true) else (if a0_0 = 1 then (some true) else (some (a0_0 == 3)))) else (some false)) = some r := H
   have A6 := q_ A60
   clear A60
   by_cases c7 : t120 = true
   ·subst c7
    have H1 : (if a0_2 = 0 then (some true) else (if a0_0 = 1 then (some true) else (some (a0_0 == 3)))) = some r := z51_
    clear H
    have H := H1
    clear H1
    by_cases c8 : a0_2 = 0
    ·rw [if_pos c8] at H
     have c8b0 : (a0_2 == 0) = true := beq_iff_eq.mpr c8
     have c8b1 : (a0_2 != 0) = false := bne_eq_false_iff_eq.mpr c8
     clear c8
     obtain rfl := Option.some.inj H
     go_enter Try.func60, Try.ntmps60
     go_wp2_with (first | ((with_reducible refine gate_dst (N := 1) rfl ?_); refine box_event ?hg (N := 1) ?hd (cs := #[.int .i64 a0_0, .int .i64 a0_1, .int .i64 a0_2]) (t := 67) ?hr ?_; (case hd => rfl); (case hg => rfl); (case hr => exact z108_); intro gb117 hg w9 hbox hb; have n0_ := q_ (below_step z0_ hb); have n1_ := q_ (hbox); have n2_ := q_ ((z91_ : w.heap.size ≤ gb117)); have n3_ := q_ ((z91_ : w.heap.size ≤ gb117)); clear HB; have HB := n0_; have BK117 := n1_; have GW117 := n2_; have GE117 := n3_; clear n0_ n1_ n2_ n3_; clear hb hbox hg; obtain ⟨hcz10_0, hcz10_1, hcz10_2, hfz10_0, hfz10_1, hfz10_2⟩ := cs3_ BK117.out) | ((with_reducible refine gate_callee (f := 106) rfl ?_); refine goesL_ (some 5) rfl rfl Try.func106 (by kernel_rfl) rfl #[.int .i64 a0_0, .int .i64 1, .int .i64 4] rfl z1_ ?_; (with_reducible refine (spec_l1In.calls a0_0 1 4 true _ A2.out).mono ?_); rintro e w' ⟨rfl, ⟨nd, rfl⟩⟩; refine ⟨_, rfl, ?_⟩) | (go_at_call 106; (with_reducible refine (spec_l1In.calls a0_1 0 999 true _ A4.out).mono ?_); rintro e w' ⟨rfl, ⟨nd, rfl⟩⟩) | (go_at_call 138; (with_reducible refine (spec_l1Value.calls a0_2 true _ A6.out).mono ?_); rintro e w' ⟨rfl, ⟨nd, rfl⟩⟩))
     go_ret
     exact ⟨z4_, z62_⟩
    ·rw [if_neg c8] at H
     have c8b0 : (a0_2 == 0) = false := beq_eq_false_iff_ne.mpr c8
     have c8b1 : (a0_2 != 0) = true := bne_iff_ne.mpr c8
     by_cases c11 : a0_0 = 1
     ·rw [if_pos c11] at H
      have c11b0 : (a0_0 == 1) = true := beq_iff_eq.mpr c11
      have c11b1 : (a0_0 != 1) = false := bne_eq_false_iff_eq.mpr c11
      clear c11
      obtain rfl := Option.some.inj H
      go_enter Try.func60, Try.ntmps60
      go_wp2_with (first | ((with_reducible refine gate_dst (N := 1) rfl ?_); refine box_event ?hg (N := 1) ?hd (cs := #[.int .i64 a0_0, .int .i64 a0_1, .int .i64 a0_2]) (t := 67) ?hr ?_; (case hd => rfl); (case hg => rfl); (case hr => exact z108_); intro gb117 hg w12 hbox hb; have n0_ := q_ (below_step z0_ hb); have n1_ := q_ (hbox); have n2_ := q_ ((z91_ : w.heap.size ≤ gb117)); have n3_ := q_ ((z91_ : w.heap.size ≤ gb117)); clear HB; have HB := n0_; have BK117 := n1_; have GW117 := n2_; have GE117 := n3_; clear n0_ n1_ n2_ n3_; clear hb hbox hg; obtain ⟨hcz13_0, hcz13_1, hcz13_2, hfz13_0, hfz13_1, hfz13_2⟩ := cs3_ BK117.out) | ((with_reducible refine gate_callee (f := 106) rfl ?_); refine goesL_ (some 5) rfl rfl Try.func106 (by kernel_rfl) rfl #[.int .i64 a0_0, .int .i64 1, .int .i64 4] rfl z1_ ?_; (with_reducible refine (spec_l1In.calls a0_0 1 4 true _ A2.out).mono ?_); rintro e w' ⟨rfl, ⟨nd, rfl⟩⟩; refine ⟨_, rfl, ?_⟩) | (go_at_call 106; (with_reducible refine (spec_l1In.calls a0_1 0 999 true _ A4.out).mono ?_); rintro e w' ⟨rfl, ⟨nd, rfl⟩⟩) | (go_at_call 138; (with_reducible refine (spec_l1Value.calls a0_2 true _ A6.out).mono ?_); rintro e w' ⟨rfl, ⟨nd, rfl⟩⟩))
      go_ret
      exact ⟨z4_, z62_⟩
     ·rw [if_neg c11] at H
      have c11b0 : (a0_0 == 1) = false := beq_eq_false_iff_ne.mpr c11
      have c11b1 : (a0_0 != 1) = true := bne_iff_ne.mpr c11
      obtain rfl := Option.some.inj H
      go_enter Try.func60, Try.ntmps60
      go_wp2_with (first | ((with_reducible refine gate_dst (N := 1) rfl ?_); refine box_event ?hg (N := 1) ?hd (cs := #[.int .i64 a0_0, .int .i64 a0_1, .int .i64 a0_2]) (t := 67) ?hr ?_; (case hd => rfl); (case hg => rfl); (case hr => exact z108_); intro gb117 hg w14 hbox hb; have n0_ := q_ (below_step z0_ hb); have n1_ := q_ (hbox); have n2_ := q_ ((z91_ : w.heap.size ≤ gb117)); have n3_ := q_ ((z91_ : w.heap.size ≤ gb117)); clear HB; have HB := n0_; have BK117 := n1_; have GW117 := n2_; have GE117 := n3_; clear n0_ n1_ n2_ n3_; clear hb hbox hg; obtain ⟨hcz15_0, hcz15_1, hcz15_2, hfz15_0, hfz15_1, hfz15_2⟩ := cs3_ BK117.out) | ((with_reducible refine gate_callee (f := 106) rfl ?_); refine goesL_ (some 5) rfl rfl Try.func106 (by kernel_rfl) rfl #[.int .i64 a0_0, .int .i64 1, .int .i64 4] rfl z1_ ?_; (with_reducible refine (spec_l1In.calls a0_0 1 4 true _ A2.out).mono ?_); rintro e w' ⟨rfl, ⟨nd, rfl⟩⟩; refine ⟨_, rfl, ?_⟩) | (go_at_call 106; (with_reducible refine (spec_l1In.calls a0_1 0 999 true _ A4.out).mono ?_); rintro e w' ⟨rfl, ⟨nd, rfl⟩⟩) | (go_at_call 138; (with_reducible refine (spec_l1Value.calls a0_2 true _ A6.out).mono ?_); rintro e w' ⟨rfl, ⟨nd, rfl⟩⟩))
      go_ret
      exact ⟨z4_, z62_⟩
   ·replace c7 := Bool.eq_false_iff.mpr c7
    subst c7
    have H1 : (some false) = some r := by rw [if_neg (show ¬ (false = true) by decide)] at H; exact H
    clear H
    have H := H1
    clear H1
    obtain rfl := Option.some.inj H
    go_enter Try.func60, Try.ntmps60
    go_wp2_with (first | ((with_reducible refine gate_dst (N := 1) rfl ?_); refine box_event ?hg (N := 1) ?hd (cs := #[.int .i64 a0_0, .int .i64 a0_1, .int .i64 a0_2]) (t := 67) ?hr ?_; (case hd => rfl); (case hg => rfl); (case hr => exact z108_); intro gb117 hg w16 hbox hb; have n0_ := q_ (below_step z0_ hb); have n1_ := q_ (hbox); have n2_ := q_ ((z91_ : w.heap.size ≤ gb117)); have n3_ := q_ ((z91_ : w.heap.size ≤ gb117)); clear HB; have HB := n0_; have BK117 := n1_; have GW117 := n2_; have GE117 := n3_; clear n0_ n1_ n2_ n3_; clear hb hbox hg; obtain ⟨hcz17_0, hcz17_1, hcz17_2, hfz17_0, hfz17_1, hfz17_2⟩ := cs3_ BK117.out) | ((with_reducible refine gate_callee (f := 106) rfl ?_); refine goesL_ (some 5) rfl rfl Try.func106 (by kernel_rfl) rfl #[.int .i64 a0_0, .int .i64 1, .int .i64 4] rfl z1_ ?_; (with_reducible refine (spec_l1In.calls a0_0 1 4 true _ A2.out).mono ?_); rintro e w' ⟨rfl, ⟨nd, rfl⟩⟩; refine ⟨_, rfl, ?_⟩) | (go_at_call 106; (with_reducible refine (spec_l1In.calls a0_1 0 999 true _ A4.out).mono ?_); rintro e w' ⟨rfl, ⟨nd, rfl⟩⟩) | (go_at_call 138; (with_reducible refine (spec_l1Value.calls a0_2 false _ A6.out).mono ?_); rintro e w' ⟨rfl, ⟨nd, rfl⟩⟩))
    go_ret
    exact ⟨z4_, z0_⟩
  ·replace c5 := Bool.eq_false_iff.mpr c5
   subst c5
   have H1 : (some false) = some r := by rw [if_neg (show ¬ (false = true) by decide)] at H; exact H
   clear H
   have H := H1
   clear H1
   obtain rfl := Option.some.inj H
   go_enter Try.func60, Try.ntmps60
   go_wp2_with (first | ((with_reducible refine gate_dst (N := 1) rfl ?_); refine box_event ?hg (N := 1) ?hd (cs := #[.int .i64 a0_0, .int .i64 a0_1, .int .i64 a0_2]) (t := 67) ?hr ?_; (case hd => rfl); (case hg => rfl); (case hr => exact z108_); intro gb117 hg w18 hbox hb; have n0_ := q_ (below_step z0_ hb); have n1_ := q_ (hbox); have n2_ := q_ ((z91_ : w.heap.size ≤ gb117)); have n3_ := q_ ((z91_ : w.heap.size ≤ gb117)); clear HB; have HB := n0_; have BK117 := n1_; have GW117 := n2_; have GE117 := n3_; clear n0_ n1_ n2_ n3_; clear hb hbox hg; obtain ⟨hcz19_0, hcz19_1, hcz19_2, hfz19_0, hfz19_1, hfz19_2⟩ := cs3_ BK117.out) | ((with_reducible refine gate_callee (f := 106) rfl ?_); refine goesL_ (some 5) rfl rfl Try.func106 (by kernel_rfl) rfl #[.int .i64 a0_0, .int .i64 1, .int .i64 4] rfl z1_ ?_; (with_reducible refine (spec_l1In.calls a0_0 1 4 true _ A2.out).mono ?_); rintro e w' ⟨rfl, ⟨nd, rfl⟩⟩; refine ⟨_, rfl, ?_⟩) | (go_at_call 106; (with_reducible refine (spec_l1In.calls a0_1 0 999 false _ A4.out).mono ?_); rintro e w' ⟨rfl, ⟨nd, rfl⟩⟩))
   go_ret
   exact ⟨z4_, z0_⟩
 ·replace c3 := Bool.eq_false_iff.mpr c3
  subst c3
  have H1 : (some false) = some r := by rw [if_neg (show ¬ (false = true) by decide)] at H; exact H
  clear H
  have H := H1
  clear H1
  obtain rfl := Option.some.inj H
  go_enter Try.func60, Try.ntmps60
  go_wp2_with (first | ((with_reducible refine gate_dst (N := 1) rfl ?_); refine box_event ?hg (N := 1) ?hd (cs := #[.int .i64 a0_0, .int .i64 a0_1, .int .i64 a0_2]) (t := 67) ?hr ?_; (case hd => rfl); (case hg => rfl); (case hr => exact z108_); intro gb117 hg w20 hbox hb; have n0_ := q_ (below_step z0_ hb); have n1_ := q_ (hbox); have n2_ := q_ ((z91_ : w.heap.size ≤ gb117)); have n3_ := q_ ((z91_ : w.heap.size ≤ gb117)); clear HB; have HB := n0_; have BK117 := n1_; have GW117 := n2_; have GE117 := n3_; clear n0_ n1_ n2_ n3_; clear hb hbox hg; obtain ⟨hcz21_0, hcz21_1, hcz21_2, hfz21_0, hfz21_1, hfz21_2⟩ := cs3_ BK117.out) | ((with_reducible refine gate_callee (f := 106) rfl ?_); refine goesL_ (some 5) rfl rfl Try.func106 (by kernel_rfl) rfl #[.int .i64 a0_0, .int .i64 1, .int .i64 4] rfl z1_ ?_; (with_reducible refine (spec_l1In.calls a0_0 1 4 false _ A2.out).mono ?_); rintro e w' ⟨rfl, ⟨nd, rfl⟩⟩; refine ⟨_, rfl, ?_⟩))
  go_ret
  exact ⟨z4_, z0_⟩

/-! ### spec_MapGet: function 67 -/
def spec_MapGet.l0 : Nat → List (S147) → Int → Int → Option (Int × Bool)
 | 0, _, _, _ => none
 | k + 1, x0, x1, x6 => if x6 < (x0.length : Int) then (if 0 ≤ x6 then (if ((rd_T147 x0 x6).f0) = x1 then (some ((rd_T147 x0 x6).f1, true)) else (spec_MapGet.l0 k x0 x1 (wrap64 (x6 + 1)))) else (none)) else (some (0, false))
def spec_MapGet.f (k : Nat) (l0 : List (S147)) (a1 : Int) : Option (Int × Bool) := spec_MapGet.l0 k l0 a1 0
theorem spec_MapGet.mono_l : ∀ k, (∀ y0 y1 y2, LeO (spec_MapGet.l0 k y0 y1 y2) (spec_MapGet.l0 (k + 1) y0 y1 y2))
 | 0 => fun _ _ _ r h => by simp [spec_MapGet.l0] at h
 | k + 1 => by
  have ih0 := spec_MapGet.mono_l k
  ·intro y0 y1 y2
   unfold spec_MapGet.l0
   repeat' first
   | (with_reducible exact ih0 _ _ _)
   | (with_reducible exact LeO.refl _)
   | (with_reducible exact LeO.none _)
   | (with_reducible refine LeO.ite ?_ ?_)
   | (with_reducible refine LeO.bind ?_ (fun _ => ?_))
   | exact ih0 _ _ _
   | exact LeO.none _
   | refine LeO.ite ?_ ?_
   | refine LeO.bind ?_ (fun _ => ?_)
theorem spec_MapGet.mono : ∀ a0 a1 k, LeO (spec_MapGet.f k a0 a1) (spec_MapGet.f (k + 1) a0 a1) := by
 intro a0 a1 k
 have ih0 := spec_MapGet.mono_l k
 unfold spec_MapGet.f
 repeat' first
   | (with_reducible exact ih0 _ _ _)
   | (with_reducible exact LeO.refl _)
   | (with_reducible exact LeO.none _)
   | (with_reducible refine LeO.ite ?_ ?_)
   | (with_reducible refine LeO.bind ?_ (fun _ => ?_))
   | exact ih0 _ _ _
   | exact LeO.none _
   | refine LeO.ite ?_ ?_
   | refine LeO.bind ?_ (fun _ => ?_)
set_option maxHeartbeats 8000000 in
set_option maxRecDepth 100000 in
theorem spec_MapGet.calls (k : Nat) (A0 : Option Addr) (c0 : Nat) (l0 : List (S147)) (a1 : Int) (r1 : Int) (r2 : Bool) (w : World) (hr0 : Kd.C k147 w A0 l0.length l0) (hc0 : l0.length ≤ c0) (h : spec_MapGet.f k l0 a1 = some (r1, r2)) :
  Calls Try.prog 67 #[.slice A0 l0.length c0, .int .i64 a1] w fun e w' => e = .returned (.tuple #[.int .i64 r1, .bool r2]) ∧ Drawn0 w w' := by
 have HR0 := q_ hr0
 have HC0 := q_ hc0
 clear hr0 hc0
 have H : (spec_MapGet.l0 k l0 a1 0) = some (r1, r2) := h
 clear h
 have H' := q_ H
 clear H
 go_enter Try.func67, Try.ntmps67
 go_wp2
 go_loopg [6] k (fun kq v6 w' => ∃ (x6_1 : Int), v6 = .int .i64 x6_1 ∧ Aside0 (spec_MapGet.l0 kq l0 a1 x6_1 = some (r1, r2)) ∧ Aside0 (kq ≤ k) ∧ Drawn0 w w')
 case atStart => exact ⟨(0), z7_, H', ⟨Nat.le_refl _⟩, z31_⟩
 case round =>
  clear H'
  try clear p2
  obtain ⟨x6_1, rfl, HA, HK1, ⟨m1, rfl⟩⟩ := hrel
  cases gk with
  | zero => exact absurd HA.out (by simp [spec_MapGet.l0])
  | succ k1 =>
   have H := HA.out
   clear HA
   simp only [spec_MapGet.l0] at H
   by_cases c3 : x6_1 < (l0.length : Int)
   ·rw [if_pos c3] at H
    have c3b0 : decide (x6_1 < (l0.length : Int)) = true := decide_eq_true c3
    clear c3
    by_cases c4 : 0 ≤ x6_1
    ·rw [if_pos c4] at H
     have c4b0 : decide (0 ≤ x6_1) = true := decide_eq_true c4
     clear c4
     by_cases c5 : ((rd_T147 l0 x6_1).f0) = a1
     ·rw [if_pos c5] at H
      have c5b0 : (((rd_T147 l0 x6_1).f0) == a1) = true := beq_iff_eq.mpr c5
      have c5b1 : (((rd_T147 l0 x6_1).f0) != a1) = false := bne_eq_false_iff_eq.mpr c5
      clear c5
      simp only [Option.some.injEq, Prod.mk.injEq] at H
      obtain ⟨rfl, rfl⟩ := H
      have p121 : 0 ≤ (x6_1 : Int) := of_decide_eq_true z5_
      have q121 : x6_1 < (l0.length : Int) := of_decide_eq_true z5_
      obtain ⟨ad121, e121, hx121_0, hx121_1⟩ := at_T147 HR0.out x6_1 p121 q121
      cases e121
      replace p121 := eq_true p121
      replace q121 := eq_true q121
      have p122 : 0 ≤ (x6_1 : Int) := of_decide_eq_true z5_
      have q122 : x6_1 < (l0.length : Int) := of_decide_eq_true z5_
      obtain ⟨ad122, e122, hx122_0, hx122_1⟩ := at_T147 HR0.out x6_1 p122 q122
      obtain rfl : ad121 = ad122 := (by injection e122)
      replace p122 := eq_true p122
      replace q122 := eq_true q122
      go_wp2
      go_ret2
      exact ⟨z7_, z31_⟩
     ·rw [if_neg c5] at H
      have c5b0 : (((rd_T147 l0 x6_1).f0) == a1) = false := beq_eq_false_iff_ne.mpr c5
      have c5b1 : (((rd_T147 l0 x6_1).f0) != a1) = true := bne_iff_ne.mpr c5
      have H' := q_ H
      clear H
      have p121 : 0 ≤ (x6_1 : Int) := of_decide_eq_true z5_
      have q121 : x6_1 < (l0.length : Int) := of_decide_eq_true z5_
      obtain ⟨ad121, e121, hx121_0, hx121_1⟩ := at_T147 HR0.out x6_1 p121 q121
      cases e121
      replace p121 := eq_true p121
      replace q121 := eq_true q121
      go_wp2
      go_roundg k1
      case measure => have := HK1.out; omega
      case rel => exact ⟨(wrap64 (x6_1 + 1)), z7_, H', ⟨z67_⟩, z31_⟩
    ·rw [if_neg c4] at H
     exact absurd H (by simp)
   ·rw [if_neg c3] at H
    have c3b0 : decide (x6_1 < (l0.length : Int)) = false := decide_eq_false c3
    clear c3
    simp only [Option.some.injEq, Prod.mk.injEq] at H
    obtain ⟨rfl, rfl⟩ := H
    go_wp2
    go_ret2
    exact ⟨z7_, z31_⟩

/-! ### spec_l1Max: function 162 -/
def spec_l1Max.f (a0 : Int) (a1 : Int) : Option (Int) := if a0 > a1 then (some a0) else (some a1)
set_option maxHeartbeats 8000000 in
set_option maxRecDepth 100000 in
theorem spec_l1Max.calls (a0 : Int) (a1 : Int) (r : Int) (w : World) (h : spec_l1Max.f a0 a1 = some r) :
  Calls Try.prog 162 #[.int .i64 a0, .int .i64 a1] w fun e w' => e = .returned (.int .i64 r) ∧ Drawn0 w w' := by
 have H : (if a0 > a1 then (some a0) else (some a1)) = some r := h
 clear h
 by_cases c3 : a0 > a1
 ·rw [if_pos c3] at H
  have c3b0 : decide (a1 < a0) = true := decide_eq_true c3
  clear c3
  obtain rfl := Option.some.inj H
  go_enter Try.func162, Try.ntmps162
  go_wp2
  go_ret
  exact ⟨z7_, z31_⟩
 ·rw [if_neg c3] at H
  have c3b0 : decide (a1 < a0) = false := decide_eq_false c3
  clear c3
  obtain rfl := Option.some.inj H
  go_enter Try.func162, Try.ntmps162
  go_wp2
  go_ret
  exact ⟨z7_, z31_⟩

/-! ### spec_l1Min: function 163 -/
def spec_l1Min.f (a0 : Int) (a1 : Int) : Option (Int) := if a0 < a1 then (some a0) else (some a1)
set_option maxHeartbeats 8000000 in
set_option maxRecDepth 100000 in
theorem spec_l1Min.calls (a0 : Int) (a1 : Int) (r : Int) (w : World) (h : spec_l1Min.f a0 a1 = some r) :
  Calls Try.prog 163 #[.int .i64 a0, .int .i64 a1] w fun e w' => e = .returned (.int .i64 r) ∧ Drawn0 w w' := by
 have H : (if a0 < a1 then (some a0) else (some a1)) = some r := h
 clear h
 by_cases c3 : a0 < a1
 ·rw [if_pos c3] at H
  have c3b0 : decide (a0 < a1) = true := decide_eq_true c3
  clear c3
  obtain rfl := Option.some.inj H
  go_enter Try.func163, Try.ntmps163
  go_wp2
  go_ret
  exact ⟨z7_, z31_⟩
 ·rw [if_neg c3] at H
  have c3b0 : decide (a0 < a1) = false := decide_eq_false c3
  clear c3
  obtain rfl := Option.some.inj H
  go_enter Try.func163, Try.ntmps163
  go_wp2
  go_ret
  exact ⟨z7_, z31_⟩

/-! ### spec_l1Clamp: function 93 -/
def spec_l1Clamp.f (a0 : Int) : Option (Int) := (spec_l1Min.f a0 1000000000).bind fun t123 => ((spec_l1Max.f t123 (-1000000000)).bind fun t124 => (some t124))
set_option maxHeartbeats 8000000 in
set_option maxRecDepth 100000 in
theorem spec_l1Clamp.calls (a0 : Int) (r : Int) (w : World) (h : spec_l1Clamp.f a0 = some r) :
  Calls Try.prog 93 #[.int .i64 a0] w fun e w' => e = .returned (.int .i64 r) ∧ Drawn0 w w' := by
 have H : ((spec_l1Min.f a0 1000000000).bind fun t123 => ((spec_l1Max.f t123 (-1000000000)).bind fun t124 => (some t124))) = some r := h
 clear h
 replace H := Option.bind_eq_some_iff.mp H
 obtain ⟨t123, A20, H⟩ := H
 replace H : ((spec_l1Max.f t123 (-1000000000)).bind fun t124 => (some t124)) = some r := H
 have A2 := q_ A20
 clear A20
 replace H := Option.bind_eq_some_iff.mp H
 obtain ⟨t124, A30, H⟩ := H
 replace H : (some t124) = some r := H
 have A3 := q_ A30
 clear A30
 obtain rfl := Option.some.inj H
 go_enter Try.func93, Try.ntmps93
 go_wp2_with (first | ((with_reducible refine gate_callee (f := 163) rfl ?_); refine goesL_ (some 4) rfl rfl Try.func163 (by kernel_rfl) rfl #[.int .i64 a0, .int .i64 1000000000] rfl z1_ ?_; (with_reducible refine (spec_l1Min.calls a0 1000000000 t123 _ A2.out).mono ?_); rintro e w' ⟨rfl, ⟨nd, rfl⟩⟩; refine ⟨_, rfl, ?_⟩) | ((with_reducible refine gate_callee (f := 162) rfl ?_); refine goesL_ (some 5) rfl rfl Try.func162 (by kernel_rfl) rfl #[.int .i64 t123, .int .i64 (-1000000000)] rfl z1_ ?_; (with_reducible refine (spec_l1Max.calls t123 (-1000000000) t124 _ A3.out).mono ?_); rintro e w' ⟨rfl, ⟨nd, rfl⟩⟩; refine ⟨_, rfl, ?_⟩))
 go_ret
 exact ⟨z7_, z31_⟩

/-! ### spec_l1Put: function 127 -/
mutual
def spec_l1Put.l0 : Nat → List (S147) → Int → Int → List (S147) → Bool → Int → Option ((List (S147)))
 | 0, _, _, _, _, _, _ => none
 | k + 1, x0, x1, x2, x7, x8, x9 => if x9 < (x0.length : Int) then (if x8 = true then (spec_l1Put.j1 k x0 x1 x2 x7 x8 x9 false) else (if 0 ≤ x9 then (spec_l1Put.j1 k x0 x1 x2 x7 x8 x9 (decide (((rd_T147 x0 x9).f0) ≥ x1))) else (none))) else (if x8 = true then (some x7) else (if x7.length < 8796093022208 then (some (x7 ++ [(⟨x1, x2⟩ : S147)])) else (none)))
def spec_l1Put.j1 : Nat → List (S147) → Int → Int → List (S147) → Bool → Int → Bool → Option ((List (S147)))
 | 0, _, _, _, _, _, _, _ => none
 | k + 1, x0, x1, x2, x7, x8, x9, x27 => if x27 = true then (if x7.length < 8796093022208 then ((some (x7 ++ [(⟨x1, x2⟩ : S147)] : List (S147))).bind fun y132 => (if 0 ≤ x9 then (if x9 < (x0.length : Int) then (if ((rd_T147 x0 x9).f0) = x1 then (spec_l1Put.l0 k x0 x1 x2 y132 true (wrap64 (x9 + 1))) else (if y132.length < 8796093022208 then (spec_l1Put.l0 k x0 x1 x2 (y132 ++ [(⟨(rd_T147 x0 x9).f0, (rd_T147 x0 x9).f1⟩ : S147)]) true (wrap64 (x9 + 1))) else (none))) else (none)) else (none))) else (none)) else (if 0 ≤ x9 then (if x9 < (x0.length : Int) then (if ((rd_T147 x0 x9).f0) = x1 then (spec_l1Put.l0 k x0 x1 x2 x7 x8 (wrap64 (x9 + 1))) else (if x7.length < 8796093022208 then (spec_l1Put.l0 k x0 x1 x2 (x7 ++ [(⟨(rd_T147 x0 x9).f0, (rd_T147 x0 x9).f1⟩ : S147)]) x8 (wrap64 (x9 + 1))) else (none))) else (none)) else (none))
end
def spec_l1Put.f (k : Nat) (l0 : List (S147)) (a1 : Int) (a2 : Int) : Option ((List (S147))) := spec_l1Put.l0 k l0 a1 a2 (([] : List (S147))) false 0
theorem spec_l1Put.mono_l : ∀ k, (∀ y0 y1 y2 y3 y4 y5, LeO (spec_l1Put.l0 k y0 y1 y2 y3 y4 y5) (spec_l1Put.l0 (k + 1) y0 y1 y2 y3 y4 y5)) ∧ (∀ y0 y1 y2 y3 y4 y5 y6, LeO (spec_l1Put.j1 k y0 y1 y2 y3 y4 y5 y6) (spec_l1Put.j1 (k + 1) y0 y1 y2 y3 y4 y5 y6))
 | 0 => ⟨fun _ _ _ _ _ _ r h => by simp [spec_l1Put.l0] at h, fun _ _ _ _ _ _ _ r h => by simp [spec_l1Put.j1] at h⟩
 | k + 1 => by
  obtain ⟨ih0, ih1⟩ := spec_l1Put.mono_l k
  refine ⟨?_, ?_⟩
  ·intro y0 y1 y2 y3 y4 y5
   unfold spec_l1Put.l0
   repeat' first
   | (with_reducible exact ih0 _ _ _ _ _ _)
   | (with_reducible exact ih1 _ _ _ _ _ _ _)
   | (with_reducible exact LeO.refl _)
   | (with_reducible exact LeO.none _)
   | (with_reducible refine LeO.ite ?_ ?_)
   | (with_reducible refine LeO.bind ?_ (fun _ => ?_))
   | exact ih0 _ _ _ _ _ _
   | exact ih1 _ _ _ _ _ _ _
   | exact LeO.none _
   | refine LeO.ite ?_ ?_
   | refine LeO.bind ?_ (fun _ => ?_)
  ·intro y0 y1 y2 y3 y4 y5 y6
   unfold spec_l1Put.j1
   repeat' first
   | (with_reducible exact ih0 _ _ _ _ _ _)
   | (with_reducible exact ih1 _ _ _ _ _ _ _)
   | (with_reducible exact LeO.refl _)
   | (with_reducible exact LeO.none _)
   | (with_reducible refine LeO.ite ?_ ?_)
   | (with_reducible refine LeO.bind ?_ (fun _ => ?_))
   | exact ih0 _ _ _ _ _ _
   | exact ih1 _ _ _ _ _ _ _
   | exact LeO.none _
   | refine LeO.ite ?_ ?_
   | refine LeO.bind ?_ (fun _ => ?_)
theorem spec_l1Put.mono : ∀ a0 a1 a2 k, LeO (spec_l1Put.f k a0 a1 a2) (spec_l1Put.f (k + 1) a0 a1 a2) := by
 intro a0 a1 a2 k
 obtain ⟨ih0, ih1⟩ := spec_l1Put.mono_l k
 unfold spec_l1Put.f
 repeat' first
   | (with_reducible exact ih0 _ _ _ _ _ _)
   | (with_reducible exact ih1 _ _ _ _ _ _ _)
   | (with_reducible exact LeO.refl _)
   | (with_reducible exact LeO.none _)
   | (with_reducible refine LeO.ite ?_ ?_)
   | (with_reducible refine LeO.bind ?_ (fun _ => ?_))
   | exact ih0 _ _ _ _ _ _
   | exact ih1 _ _ _ _ _ _ _
   | exact LeO.none _
   | refine LeO.ite ?_ ?_
   | refine LeO.bind ?_ (fun _ => ?_)
set_option maxHeartbeats 8000000 in
set_option maxRecDepth 100000 in
theorem spec_l1Put.calls (k : Nat) (A0 : Option Addr) (c0 : Nat) (l0 : List (S147)) (a1 : Int) (a2 : Int) (r : List (S147)) (w : World) (hr0 : Kd.C k147 w A0 l0.length l0) (hc0 : l0.length ≤ c0) (h : spec_l1Put.f k l0 a1 a2 = some r) :
  Calls Try.prog 127 #[.slice A0 l0.length c0, .int .i64 a1, .int .i64 a2] w fun e w' => ∃ v0_ : Value, e = .returned (v0_) ∧ Kd.R k147 147 w' w.heap.size (fun _ => True) v0_ r ∧ Below w.heap.size w w' := by
 have hu147 := Try.underlying147
 have HR0 := q_ hr0
 have HC0 := q_ hc0
 clear hr0 hc0
 have HB := q_ (Below.refl w.heap.size w)
 have H : (spec_l1Put.l0 k l0 a1 a2 (([] : List (S147))) false 0) = some r := h
 clear h
 obtain ⟨y125, hy125⟩ : ∃ y_ : List (S147), y_ = (([] : List (S147))) := ⟨_, rfl⟩
 replace H : (spec_l1Put.l0 k l0 a1 a2 y125 false 0) = some r := by first | (rw [hy125]; with_reducible exact H) | (have H2_ := (Option.bind_some _ _).symm.trans H; rw [hy125]; with_reducible exact H2_) | (have H2_ := (Option.bind_some _ _).symm.trans H; with_reducible exact H2_) | with_reducible exact H | (rw [hy125]; exact H) | exact H
 have Ny125 := q_ hy125
 clear hy125
 have H' := q_ H
 clear H
 go_enter Try.func127, Try.ntmps127
 go_wp2_with (first | ((with_reducible refine gate_dst (N := 10) rfl ?_); refine Kd.R_lit k147 _ 147 ?hg (N := 10) ?hd (xs := ([] : List (S147))) (inner := []) (ok := fun _ => True) (okp := fun _ => True) ?hr ?hp (fun _ hk => hk) trivial (Below.refl _ _) (Nat.le_refl _) (by simp) ?_; (case hd => rfl); (case hg => rfl); (case hr => exact z108_); (case hp => exact z140_); intro v126 w4 ho5 hb hg_ hnew_; clear hg_ hnew_; (first | rw [← Ny125.out] at ho5 | (simp only [Int.reduceToNat] at ho5; rw [← Ny125.out] at ho5)); have n0_ := q_ (Kd.R_lower ho5 (below_size z0_)); have n1_ := q_ (below_step z0_ hb); clear HB; have HO127 := n0_; have HB := n1_; clear n0_ n1_; clear hb ho5))
 go_loopg [7, 8, 9] k (fun kq v7 v8 v9 w' => ∃ (x7_1 : List (S147)) (x8_1 : Bool) (x9_1 : Int), v8 = .bool x8_1 ∧ v9 = .int .i64 x9_1 ∧ Aside0 (spec_l1Put.l0 kq l0 a1 a2 x7_1 x8_1 x9_1 = some r) ∧ Aside0 (kq ≤ k) ∧ Aside0 (Kd.R k147 147 w' w.heap.size (fun _ => True) v7 x7_1) ∧ Aside0 (Below w.heap.size w w'))
 case atStart => exact ⟨(y125), (false), (0), z7_, z7_, H', ⟨Nat.le_refl _⟩, ⟨by (with_reducible repeat (first | apply Kd.R_alloc | apply Kd.R_drewN | apply Kd.R_drew)); exact HO127.out⟩, ⟨z0_⟩⟩
 case round =>
  clear H'
  try clear c1
  try clear p2
  obtain ⟨x7_1, x8_1, x9_1, rfl, rfl, HA, HK1, HO_7, HB⟩ := hrel
  cases gk with
  | zero => exact absurd HA.out (by simp [spec_l1Put.l0])
  | succ k1 =>
   have H := HA.out
   clear HA
   simp only [spec_l1Put.l0] at H
   by_cases c6 : x9_1 < (l0.length : Int)
   ·rw [if_pos c6] at H
    have c6b0 : decide (x9_1 < (l0.length : Int)) = true := decide_eq_true c6
    clear c6
    have HC7 := q_ H
    clear H
    go_upto_region 6 with (fail)
    go_cut [27] (fun v27 wc => ∃ (kq : Nat) (x27_6 : Bool), v27 = .bool x27_6 ∧ Aside0 (spec_l1Put.j1 kq l0 a1 a2 x7_1 x8_1 x9_1 x27_6 = some r) ∧ Aside0 (kq ≤ k1) ∧ Aside0 (Kd.R k147 147 wc w.heap.size (fun _ => True) u7 x7_1) ∧ Aside0 (Below w.heap.size w wc))
    case first =>
     have H := HC7.out
     clear HC7
     by_cases c8 : x8_1 = true
     ·subst c8
      have H1 : (spec_l1Put.j1 k1 l0 a1 a2 x7_1 true x9_1 false) = some r := z51_
      clear H
      have H := H1
      clear H1
      have H' := q_ H
      clear H
      go_wp2
      go_meet
      case rel => exact ⟨_, (false), z7_, H', ⟨by have := HK1.out; first | omega | exact Nat.le_refl _⟩, ⟨z44_⟩, ⟨z0_⟩⟩
     ·replace c8 := Bool.eq_false_iff.mpr c8
      subst c8
      have H1 : (if 0 ≤ x9_1 then (spec_l1Put.j1 k1 l0 a1 a2 x7_1 false x9_1 (decide (((rd_T147 l0 x9_1).f0) ≥ a1))) else (none)) = some r := by rw [if_neg (show ¬ (false = true) by decide)] at H; exact H
      clear H
      have H := H1
      clear H1
      by_cases c9 : 0 ≤ x9_1
      ·rw [if_pos c9] at H
       have c9b0 : decide (0 ≤ x9_1) = true := decide_eq_true c9
       clear c9
       (first | rw [c9b0] | (simp only [i64_w, i32_w]; rw [c9b0]) | skip)
       have H' := q_ H
       clear H
       have p131 : 0 ≤ (x9_1 : Int) := of_decide_eq_true z5_
       have q131 : x9_1 < (l0.length : Int) := of_decide_eq_true z5_
       obtain ⟨ad131, e131, hx131_0, hx131_1⟩ := at_T147 HR0.out x9_1 p131 q131
       cases e131
       replace hx131_0 := up_ HB hx131_0
       replace hx131_1 := up_ HB hx131_1
       replace p131 := eq_true p131
       replace q131 := eq_true q131
       go_wp2
       go_meet
       case rel => exact ⟨_, (decide (((rd_T147 l0 x9_1).f0) ≥ a1)), z7_, H', ⟨by have := HK1.out; first | omega | exact Nat.le_refl _⟩, ⟨z44_⟩, ⟨z0_⟩⟩
      ·rw [if_neg c9] at H
       exact absurd H (by simp)
    case rest =>
     clear HC7
     try clear c1
     try clear p1
     try clear q1
     try clear hx1
     try clear p2
     try clear c6
     try clear c6b0
     try clear c8
     try clear c9
     try clear c9b0
     try clear hx131_0
     try clear hx131_1
     try clear p131
     try clear p2
     try clear q131
     obtain ⟨kq, x27_6, rfl, HA, HJ6, HO_7, HB⟩ := hcut
     cases kq with
     | zero => exact absurd HA.out (by simp [spec_l1Put.j1])
     | succ kj6 =>
      have H := HA.out
      clear HA
      simp only [spec_l1Put.j1] at H
      by_cases c10 : x27_6 = true
      ·subst c10
       have H1 : (if x7_1.length < 8796093022208 then ((some (x7_1 ++ [(⟨a1, a2⟩ : S147)] : List (S147))).bind fun y132 => (if 0 ≤ x9_1 then (if x9_1 < (l0.length : Int) then (if ((rd_T147 l0 x9_1).f0) = a1 then (spec_l1Put.l0 kj6 l0 a1 a2 y132 true (wrap64 (x9_1 + 1))) else (if y132.length < 8796093022208 then (spec_l1Put.l0 kj6 l0 a1 a2 (y132 ++ [(⟨(rd_T147 l0 x9_1).f0, (rd_T147 l0 x9_1).f1⟩ : S147)]) true (wrap64 (x9_1 + 1))) else (none))) else (none)) else (none))) else (none)) = some r := z51_
       clear H
       have H := H1
       clear H1
       by_cases c11 : x7_1.length < 8796093022208
       ·rw [if_pos c11] at H
        have LMc11 := q_ c11
        clear c11
        obtain ⟨y132, hy132⟩ : ∃ y_ : List (S147), y_ = (x7_1 ++ [(⟨a1, a2⟩ : S147)]) := ⟨_, rfl⟩
        replace H : (if 0 ≤ x9_1 then (if x9_1 < (l0.length : Int) then (if ((rd_T147 l0 x9_1).f0) = a1 then (spec_l1Put.l0 kj6 l0 a1 a2 y132 true (wrap64 (x9_1 + 1))) else (if y132.length < 8796093022208 then (spec_l1Put.l0 kj6 l0 a1 a2 (y132 ++ [(⟨(rd_T147 l0 x9_1).f0, (rd_T147 l0 x9_1).f1⟩ : S147)]) true (wrap64 (x9_1 + 1))) else (none))) else (none)) else (none)) = some r := by first | (rw [hy132]; with_reducible exact H) | (have H2_ := (Option.bind_some _ _).symm.trans H; rw [hy132]; with_reducible exact H2_) | (have H2_ := (Option.bind_some _ _).symm.trans H; with_reducible exact H2_) | with_reducible exact H | (rw [hy132]; exact H) | exact H
        have Ny132 := q_ hy132
        clear hy132
        by_cases c12 : 0 ≤ x9_1
        ·rw [if_pos c12] at H
         have c12b0 : decide (0 ≤ x9_1) = true := decide_eq_true c12
         clear c12
         by_cases c13 : x9_1 < (l0.length : Int)
         ·rw [if_pos c13] at H
          have c13b0 : decide (x9_1 < (l0.length : Int)) = true := decide_eq_true c13
          clear c13
          by_cases c14 : ((rd_T147 l0 x9_1).f0) = a1
          ·rw [if_pos c14] at H
           have c14b0 : (((rd_T147 l0 x9_1).f0) == a1) = true := beq_iff_eq.mpr c14
           have c14b1 : (((rd_T147 l0 x9_1).f0) != a1) = false := bne_eq_false_iff_eq.mpr c14
           clear c14
           have H' := q_ H
           clear H
           go_wp2_with (first | ((with_reducible refine gate_builtin (b := .append) (xs := #[.tmp 28, .tmp 32]) rfl ?_); at_builtin; refine Kd.R_append k147 (w0 := w) w.heap.size rfl (.tmp 28) (.tmp 32) 42 147 (.agg #[(.int .i64 0), (.int .i64 0)]) 16 rfl Try.underlying42 info147 rfl (by decide) (by omega) u7 x7_1 (⟨a1, a2⟩ : S147) [.int .i64 a1, .int .i64 a2] (fun _ => True) (fun _ => False) rfl rfl ?aP (fun _ hk => hk.elim) ?aF ?aO ?aB ?aS ?aL ?_; (case aP => exact k147_mkM _ _ _ (⟨a1, a2⟩ : S147)); (case aB => exact z0_); (case aF => exact z134_); (case aO => exact z44_); (case aS => exact z138_); (case aL => have := LMc11.out; omega); intro v133 w15 ho hb hg hat; rw [← Ny132.out] at ho; have n0_ := q_ (hb); have n1_ := q_ (ho); clear HB; clear HO_7; have HB := n0_; have HO134 := n1_; clear n0_ n1_; clear ho hb hg hat; have p135 : 0 ≤ (x9_1 : Int) := of_decide_eq_true z5_; have q135 : x9_1 < (l0.length : Int) := of_decide_eq_true z5_; obtain ⟨ad135, e135, hx135_0, hx135_1⟩ := at_T147 HR0.out x9_1 p135 q135; cases e135; replace hx135_0 := up_ HB hx135_0; replace hx135_1 := up_ HB hx135_1; replace p135 := eq_true p135; replace q135 := eq_true q135))
           go_roundg kj6
           case measure => have := HK1.out; have := HJ6.out; omega
           case rel => exact ⟨(y132), (true), (wrap64 (x9_1 + 1)), z7_, z7_, H', ⟨z85_⟩, ⟨z77_⟩, ⟨z0_⟩⟩
          ·rw [if_neg c14] at H
           have c14b0 : (((rd_T147 l0 x9_1).f0) == a1) = false := beq_eq_false_iff_ne.mpr c14
           have c14b1 : (((rd_T147 l0 x9_1).f0) != a1) = true := bne_iff_ne.mpr c14
           by_cases c16 : y132.length < 8796093022208
           ·rw [if_pos c16] at H
            have LMc16 := q_ c16
            clear c16
            obtain ⟨y137, hy137⟩ : ∃ y_ : List (S147), y_ = (y132 ++ [(⟨(rd_T147 l0 x9_1).f0, (rd_T147 l0 x9_1).f1⟩ : S147)]) := ⟨_, rfl⟩
            replace H : (spec_l1Put.l0 kj6 l0 a1 a2 y137 true (wrap64 (x9_1 + 1))) = some r := by first | (rw [hy137]; with_reducible exact H) | (have H2_ := (Option.bind_some _ _).symm.trans H; rw [hy137]; with_reducible exact H2_) | (have H2_ := (Option.bind_some _ _).symm.trans H; with_reducible exact H2_) | with_reducible exact H | (rw [hy137]; exact H) | exact H
            have Ny137 := q_ hy137
            clear hy137
            have H' := q_ H
            clear H
            go_wp2_with (first | ((with_reducible refine gate_builtin (b := .append) (xs := #[.tmp 28, .tmp 32]) rfl ?_); at_builtin; refine Kd.R_append k147 (w0 := w) w.heap.size rfl (.tmp 28) (.tmp 32) 42 147 (.agg #[(.int .i64 0), (.int .i64 0)]) 16 rfl Try.underlying42 info147 rfl (by decide) (by omega) u7 x7_1 (⟨a1, a2⟩ : S147) [.int .i64 a1, .int .i64 a2] (fun _ => True) (fun _ => False) rfl rfl ?aP (fun _ hk => hk.elim) ?aF ?aO ?aB ?aS ?aL ?_; (case aP => exact k147_mkM _ _ _ (⟨a1, a2⟩ : S147)); (case aB => exact z0_); (case aF => exact z134_); (case aO => exact z44_); (case aS => exact z138_); (case aL => have := LMc11.out; omega); intro v133 w17 ho hb hg hat; rw [← Ny132.out] at ho; have n0_ := q_ (hb); have n1_ := q_ (ho); clear HB; clear HO_7; have HB := n0_; have HO134 := n1_; clear n0_ n1_; clear ho hb hg hat; have p135 : 0 ≤ (x9_1 : Int) := of_decide_eq_true z5_; have q135 : x9_1 < (l0.length : Int) := of_decide_eq_true z5_; obtain ⟨ad135, e135, hx135_0, hx135_1⟩ := at_T147 HR0.out x9_1 p135 q135; cases e135; replace hx135_0 := up_ HB hx135_0; replace hx135_1 := up_ HB hx135_1; replace p135 := eq_true p135; replace q135 := eq_true q135; have p136 : 0 ≤ (x9_1 : Int) := of_decide_eq_true z5_; have q136 : x9_1 < (l0.length : Int) := of_decide_eq_true z5_; obtain ⟨ad136, e136, hx136_0, hx136_1⟩ := at_T147 HR0.out x9_1 p136 q136; obtain rfl : ad135 = ad136 := (by injection e136); replace hx136_0 := up_ HB hx136_0; replace hx136_1 := up_ HB hx136_1; replace p136 := eq_true p136; replace q136 := eq_true q136) | ((with_reducible refine gate_builtin (b := .append) (xs := #[.tmp 41, .tmp 46]) rfl ?_); at_builtin; refine Kd.R_append k147 (w0 := w) w.heap.size rfl (.tmp 41) (.tmp 46) 42 147 (.agg #[(.int .i64 0), (.int .i64 0)]) 16 rfl Try.underlying42 info147 rfl (by decide) (by omega) v133 y132 (⟨(rd_T147 l0 x9_1).f0, (rd_T147 l0 x9_1).f1⟩ : S147) [.int .i64 ((rd_T147 l0 x9_1).f0), .int .i64 ((rd_T147 l0 x9_1).f1)] (fun _ => True) (fun _ => False) rfl rfl ?aP (fun _ hk => hk.elim) ?aF ?aO ?aB ?aS ?aL ?_; (case aP => exact z142_); (case aB => exact z0_); (case aF => exact z134_); (case aO => exact z77_); (case aS => exact z138_); (case aL => have := LMc16.out; omega); intro v138 w18 ho hb hg hat; rw [← Ny137.out] at ho; have n0_ := q_ (hb); have n1_ := q_ (ho); clear HB; clear HO134; have HB := n0_; have HO139 := n1_; clear n0_ n1_; clear ho hb hg hat))
            go_roundg kj6
            case measure => have := HK1.out; have := HJ6.out; omega
            case rel => exact ⟨(y137), (true), (wrap64 (x9_1 + 1)), z7_, z7_, H', ⟨z85_⟩, ⟨by (with_reducible repeat (first | apply Kd.R_alloc | apply Kd.R_drewN | apply Kd.R_drew)); exact HO139.out⟩, ⟨z0_⟩⟩
           ·rw [if_neg c16] at H
            exact absurd H (by simp)
         ·rw [if_neg c13] at H
          exact absurd H (by simp)
        ·rw [if_neg c12] at H
         exact absurd H (by simp)
       ·rw [if_neg c11] at H
        exact absurd H (by simp)
      ·replace c10 := Bool.eq_false_iff.mpr c10
       subst c10
       have H1 : (if 0 ≤ x9_1 then (if x9_1 < (l0.length : Int) then (if ((rd_T147 l0 x9_1).f0) = a1 then (spec_l1Put.l0 kj6 l0 a1 a2 x7_1 x8_1 (wrap64 (x9_1 + 1))) else (if x7_1.length < 8796093022208 then (spec_l1Put.l0 kj6 l0 a1 a2 (x7_1 ++ [(⟨(rd_T147 l0 x9_1).f0, (rd_T147 l0 x9_1).f1⟩ : S147)]) x8_1 (wrap64 (x9_1 + 1))) else (none))) else (none)) else (none)) = some r := by rw [if_neg (show ¬ (false = true) by decide)] at H; exact H
       clear H
       have H := H1
       clear H1
       by_cases c19 : 0 ≤ x9_1
       ·rw [if_pos c19] at H
        have c19b0 : decide (0 ≤ x9_1) = true := decide_eq_true c19
        clear c19
        by_cases c20 : x9_1 < (l0.length : Int)
        ·rw [if_pos c20] at H
         have c20b0 : decide (x9_1 < (l0.length : Int)) = true := decide_eq_true c20
         clear c20
         by_cases c21 : ((rd_T147 l0 x9_1).f0) = a1
         ·rw [if_pos c21] at H
          have c21b0 : (((rd_T147 l0 x9_1).f0) == a1) = true := beq_iff_eq.mpr c21
          have c21b1 : (((rd_T147 l0 x9_1).f0) != a1) = false := bne_eq_false_iff_eq.mpr c21
          clear c21
          have H' := q_ H
          clear H
          have p140 : 0 ≤ (x9_1 : Int) := of_decide_eq_true z5_
          have q140 : x9_1 < (l0.length : Int) := of_decide_eq_true z5_
          obtain ⟨ad140, e140, hx140_0, hx140_1⟩ := at_T147 HR0.out x9_1 p140 q140
          cases e140
          replace hx140_0 := up_ HB hx140_0
          replace hx140_1 := up_ HB hx140_1
          replace p140 := eq_true p140
          replace q140 := eq_true q140
          go_wp2
          go_roundg kj6
          case measure => have := HK1.out; have := HJ6.out; omega
          case rel => exact ⟨(x7_1), (x8_1), (wrap64 (x9_1 + 1)), z7_, z7_, H', ⟨z85_⟩, ⟨z44_⟩, ⟨z0_⟩⟩
         ·rw [if_neg c21] at H
          have c21b0 : (((rd_T147 l0 x9_1).f0) == a1) = false := beq_eq_false_iff_ne.mpr c21
          have c21b1 : (((rd_T147 l0 x9_1).f0) != a1) = true := bne_iff_ne.mpr c21
          by_cases c22 : x7_1.length < 8796093022208
          ·rw [if_pos c22] at H
           have LMc22 := q_ c22
           clear c22
           obtain ⟨y142, hy142⟩ : ∃ y_ : List (S147), y_ = (x7_1 ++ [(⟨(rd_T147 l0 x9_1).f0, (rd_T147 l0 x9_1).f1⟩ : S147)]) := ⟨_, rfl⟩
           replace H : (spec_l1Put.l0 kj6 l0 a1 a2 y142 x8_1 (wrap64 (x9_1 + 1))) = some r := by first | (rw [hy142]; with_reducible exact H) | (have H2_ := (Option.bind_some _ _).symm.trans H; rw [hy142]; with_reducible exact H2_) | (have H2_ := (Option.bind_some _ _).symm.trans H; with_reducible exact H2_) | with_reducible exact H | (rw [hy142]; exact H) | exact H
           have Ny142 := q_ hy142
           clear hy142
           have H' := q_ H
           clear H
           have p140 : 0 ≤ (x9_1 : Int) := of_decide_eq_true z5_
           have q140 : x9_1 < (l0.length : Int) := of_decide_eq_true z5_
           obtain ⟨ad140, e140, hx140_0, hx140_1⟩ := at_T147 HR0.out x9_1 p140 q140
           cases e140
           replace hx140_0 := up_ HB hx140_0
           replace hx140_1 := up_ HB hx140_1
           replace p140 := eq_true p140
           replace q140 := eq_true q140
           have p141 : 0 ≤ (x9_1 : Int) := of_decide_eq_true z5_
           have q141 : x9_1 < (l0.length : Int) := of_decide_eq_true z5_
           obtain ⟨ad141, e141, hx141_0, hx141_1⟩ := at_T147 HR0.out x9_1 p141 q141
           obtain rfl : ad140 = ad141 := (by injection e141)
           replace hx141_0 := up_ HB hx141_0
           replace hx141_1 := up_ HB hx141_1
           replace p141 := eq_true p141
           replace q141 := eq_true q141
           go_wp2_with (first | ((with_reducible refine gate_builtin (b := .append) (xs := #[.tmp 41, .tmp 46]) rfl ?_); at_builtin; refine Kd.R_append k147 (w0 := w) w.heap.size rfl (.tmp 41) (.tmp 46) 42 147 (.agg #[(.int .i64 0), (.int .i64 0)]) 16 rfl Try.underlying42 info147 rfl (by decide) (by omega) u7 x7_1 (⟨(rd_T147 l0 x9_1).f0, (rd_T147 l0 x9_1).f1⟩ : S147) [.int .i64 ((rd_T147 l0 x9_1).f0), .int .i64 ((rd_T147 l0 x9_1).f1)] (fun _ => True) (fun _ => False) rfl rfl ?aP (fun _ hk => hk.elim) ?aF ?aO ?aB ?aS ?aL ?_; (case aP => exact z142_); (case aB => exact z0_); (case aF => exact z134_); (case aO => exact z44_); (case aS => exact z138_); (case aL => have := LMc22.out; omega); intro v143 w23 ho hb hg hat; rw [← Ny142.out] at ho; have n0_ := q_ (hb); have n1_ := q_ (ho); clear HB; clear HO_7; have HB := n0_; have HO144 := n1_; clear n0_ n1_; clear ho hb hg hat))
           go_roundg kj6
           case measure => have := HK1.out; have := HJ6.out; omega
           case rel => exact ⟨(y142), (x8_1), (wrap64 (x9_1 + 1)), z7_, z7_, H', ⟨z85_⟩, ⟨by (with_reducible repeat (first | apply Kd.R_alloc | apply Kd.R_drewN | apply Kd.R_drew)); exact HO144.out⟩, ⟨z0_⟩⟩
          ·rw [if_neg c22] at H
           exact absurd H (by simp)
        ·rw [if_neg c20] at H
         exact absurd H (by simp)
       ·rw [if_neg c19] at H
        exact absurd H (by simp)
   ·rw [if_neg c6] at H
    have c6b0 : decide (x9_1 < (l0.length : Int)) = false := decide_eq_false c6
    clear c6
    by_cases c24 : x8_1 = true
    ·subst c24
     have H1 : (some x7_1) = some r := z51_
     clear H
     have H := H1
     clear H1
     obtain rfl := Option.some.inj H
     go_wp2
     go_ret
     exact ⟨_, z4_, z44_, z0_⟩
    ·replace c24 := Bool.eq_false_iff.mpr c24
     subst c24
     have H1 : (if x7_1.length < 8796093022208 then (some (x7_1 ++ [(⟨a1, a2⟩ : S147)])) else (none)) = some r := by rw [if_neg (show ¬ (false = true) by decide)] at H; exact H
     clear H
     have H := H1
     clear H1
     by_cases c25 : x7_1.length < 8796093022208
     ·rw [if_pos c25] at H
      have LMc25 := q_ c25
      clear c25
      obtain ⟨y128, hy128⟩ : ∃ y_ : List (S147), y_ = (x7_1 ++ [(⟨a1, a2⟩ : S147)]) := ⟨_, rfl⟩
      replace H : (some y128) = some r := by first | (rw [hy128]; with_reducible exact H) | (have H2_ := (Option.bind_some _ _).symm.trans H; rw [hy128]; with_reducible exact H2_) | (have H2_ := (Option.bind_some _ _).symm.trans H; with_reducible exact H2_) | with_reducible exact H | (rw [hy128]; exact H) | exact H
      have Ny128 := q_ hy128
      clear hy128
      obtain rfl := Option.some.inj H
      go_wp2_with (first | ((with_reducible refine gate_builtin (b := .append) (xs := #[.tmp 50, .tmp 54]) rfl ?_); at_builtin; refine Kd.R_append k147 (w0 := w) w.heap.size rfl (.tmp 50) (.tmp 54) 42 147 (.agg #[(.int .i64 0), (.int .i64 0)]) 16 rfl Try.underlying42 info147 rfl (by decide) (by omega) u7 x7_1 (⟨a1, a2⟩ : S147) [.int .i64 a1, .int .i64 a2] (fun _ => True) (fun _ => False) rfl rfl ?aP (fun _ hk => hk.elim) ?aF ?aO ?aB ?aS ?aL ?_; (case aP => exact k147_mkM _ _ _ (⟨a1, a2⟩ : S147)); (case aB => exact z0_); (case aF => exact z134_); (case aO => exact z44_); (case aS => exact z138_); (case aL => have := LMc25.out; omega); intro v129 w26 ho hb hg hat; rw [← Ny128.out] at ho; have n0_ := q_ (hb); have n1_ := q_ (ho); clear HB; clear HO_7; have HB := n0_; have HO130 := n1_; clear n0_ n1_; clear ho hb hg hat))
      go_ret
      exact ⟨_, z4_, by (with_reducible repeat (first | apply Kd.R_alloc | apply Kd.R_drewN | apply Kd.R_drew)); exact HO130.out, z0_⟩
     ·rw [if_neg c25] at H
      exact absurd H (by simp)

/-! ### spec_l1Without: function 128 -/
def spec_l1Without.l0 : Nat → List (S147) → Int → List (S147) → Int → Option ((List (S147)))
 | 0, _, _, _, _ => none
 | k + 1, x0, x1, x5, x6 => if x6 < (x0.length : Int) then (if 0 ≤ x6 then (if ((rd_T147 x0 x6).f0) = x1 then (spec_l1Without.l0 k x0 x1 x5 (wrap64 (x6 + 1))) else (if x5.length < 8796093022208 then (spec_l1Without.l0 k x0 x1 (x5 ++ [(⟨(rd_T147 x0 x6).f0, (rd_T147 x0 x6).f1⟩ : S147)]) (wrap64 (x6 + 1))) else (none))) else (none)) else (some x5)
def spec_l1Without.f (k : Nat) (l0 : List (S147)) (a1 : Int) : Option ((List (S147))) := spec_l1Without.l0 k l0 a1 (([] : List (S147))) 0
theorem spec_l1Without.mono_l : ∀ k, (∀ y0 y1 y2 y3, LeO (spec_l1Without.l0 k y0 y1 y2 y3) (spec_l1Without.l0 (k + 1) y0 y1 y2 y3))
 | 0 => fun _ _ _ _ r h => by simp [spec_l1Without.l0] at h
 | k + 1 => by
  have ih0 := spec_l1Without.mono_l k
  ·intro y0 y1 y2 y3
   unfold spec_l1Without.l0
   repeat' first
   | (with_reducible exact ih0 _ _ _ _)
   | (with_reducible exact LeO.refl _)
   | (with_reducible exact LeO.none _)
   | (with_reducible refine LeO.ite ?_ ?_)
   | (with_reducible refine LeO.bind ?_ (fun _ => ?_))
   | exact ih0 _ _ _ _
   | exact LeO.none _
   | refine LeO.ite ?_ ?_
   | refine LeO.bind ?_ (fun _ => ?_)
theorem spec_l1Without.mono : ∀ a0 a1 k, LeO (spec_l1Without.f k a0 a1) (spec_l1Without.f (k + 1) a0 a1) := by
 intro a0 a1 k
 have ih0 := spec_l1Without.mono_l k
 unfold spec_l1Without.f
 repeat' first
   | (with_reducible exact ih0 _ _ _ _)
   | (with_reducible exact LeO.refl _)
   | (with_reducible exact LeO.none _)
   | (with_reducible refine LeO.ite ?_ ?_)
   | (with_reducible refine LeO.bind ?_ (fun _ => ?_))
   | exact ih0 _ _ _ _
   | exact LeO.none _
   | refine LeO.ite ?_ ?_
   | refine LeO.bind ?_ (fun _ => ?_)
set_option maxHeartbeats 8000000 in
set_option maxRecDepth 100000 in
theorem spec_l1Without.calls (k : Nat) (A0 : Option Addr) (c0 : Nat) (l0 : List (S147)) (a1 : Int) (r : List (S147)) (w : World) (hr0 : Kd.C k147 w A0 l0.length l0) (hc0 : l0.length ≤ c0) (h : spec_l1Without.f k l0 a1 = some r) :
  Calls Try.prog 128 #[.slice A0 l0.length c0, .int .i64 a1] w fun e w' => ∃ v0_ : Value, e = .returned (v0_) ∧ Kd.R k147 147 w' w.heap.size (fun _ => True) v0_ r ∧ Below w.heap.size w w' := by
 have hu147 := Try.underlying147
 have HR0 := q_ hr0
 have HC0 := q_ hc0
 clear hr0 hc0
 have HB := q_ (Below.refl w.heap.size w)
 have H : (spec_l1Without.l0 k l0 a1 (([] : List (S147))) 0) = some r := h
 clear h
 obtain ⟨y145, hy145⟩ : ∃ y_ : List (S147), y_ = (([] : List (S147))) := ⟨_, rfl⟩
 replace H : (spec_l1Without.l0 k l0 a1 y145 0) = some r := by first | (rw [hy145]; with_reducible exact H) | (have H2_ := (Option.bind_some _ _).symm.trans H; rw [hy145]; with_reducible exact H2_) | (have H2_ := (Option.bind_some _ _).symm.trans H; with_reducible exact H2_) | with_reducible exact H | (rw [hy145]; exact H) | exact H
 have Ny145 := q_ hy145
 clear hy145
 have H' := q_ H
 clear H
 go_enter Try.func128, Try.ntmps128
 go_wp2_with (first | ((with_reducible refine gate_dst (N := 7) rfl ?_); refine Kd.R_lit k147 _ 147 ?hg (N := 7) ?hd (xs := ([] : List (S147))) (inner := []) (ok := fun _ => True) (okp := fun _ => True) ?hr ?hp (fun _ hk => hk) trivial (Below.refl _ _) (Nat.le_refl _) (by simp) ?_; (case hd => rfl); (case hg => rfl); (case hr => exact z108_); (case hp => exact z140_); intro v146 w3 ho4 hb hg_ hnew_; clear hg_ hnew_; (first | rw [← Ny145.out] at ho4 | (simp only [Int.reduceToNat] at ho4; rw [← Ny145.out] at ho4)); have n0_ := q_ (Kd.R_lower ho4 (below_size z0_)); have n1_ := q_ (below_step z0_ hb); clear HB; have HO147 := n0_; have HB := n1_; clear n0_ n1_; clear hb ho4))
 go_loopg [5, 6] k (fun kq v5 v6 w' => ∃ (x5_1 : List (S147)) (x6_1 : Int), v6 = .int .i64 x6_1 ∧ Aside0 (spec_l1Without.l0 kq l0 a1 x5_1 x6_1 = some r) ∧ Aside0 (kq ≤ k) ∧ Aside0 (Kd.R k147 147 w' w.heap.size (fun _ => True) v5 x5_1) ∧ Aside0 (Below w.heap.size w w'))
 case atStart => exact ⟨(y145), (0), z7_, H', ⟨Nat.le_refl _⟩, ⟨by (with_reducible repeat (first | apply Kd.R_alloc | apply Kd.R_drewN | apply Kd.R_drew)); exact HO147.out⟩, ⟨z0_⟩⟩
 case round =>
  clear H'
  try clear c1
  try clear p2
  obtain ⟨x5_1, x6_1, rfl, HA, HK1, HO_5, HB⟩ := hrel
  cases gk with
  | zero => exact absurd HA.out (by simp [spec_l1Without.l0])
  | succ k1 =>
   have H := HA.out
   clear HA
   simp only [spec_l1Without.l0] at H
   by_cases c5 : x6_1 < (l0.length : Int)
   ·rw [if_pos c5] at H
    have c5b0 : decide (x6_1 < (l0.length : Int)) = true := decide_eq_true c5
    clear c5
    by_cases c6 : 0 ≤ x6_1
    ·rw [if_pos c6] at H
     have c6b0 : decide (0 ≤ x6_1) = true := decide_eq_true c6
     clear c6
     by_cases c7 : ((rd_T147 l0 x6_1).f0) = a1
     ·rw [if_pos c7] at H
      have c7b0 : (((rd_T147 l0 x6_1).f0) == a1) = true := beq_iff_eq.mpr c7
      have c7b1 : (((rd_T147 l0 x6_1).f0) != a1) = false := bne_eq_false_iff_eq.mpr c7
      clear c7
      have H' := q_ H
      clear H
      have p148 : 0 ≤ (x6_1 : Int) := of_decide_eq_true z5_
      have q148 : x6_1 < (l0.length : Int) := of_decide_eq_true z5_
      obtain ⟨ad148, e148, hx148_0, hx148_1⟩ := at_T147 HR0.out x6_1 p148 q148
      cases e148
      replace hx148_0 := up_ HB hx148_0
      replace hx148_1 := up_ HB hx148_1
      replace p148 := eq_true p148
      replace q148 := eq_true q148
      go_wp2
      go_roundg k1
      case measure => have := HK1.out; omega
      case rel => exact ⟨(x5_1), (wrap64 (x6_1 + 1)), z7_, H', ⟨z67_⟩, ⟨z17_⟩, ⟨z0_⟩⟩
     ·rw [if_neg c7] at H
      have c7b0 : (((rd_T147 l0 x6_1).f0) == a1) = false := beq_eq_false_iff_ne.mpr c7
      have c7b1 : (((rd_T147 l0 x6_1).f0) != a1) = true := bne_iff_ne.mpr c7
      by_cases c8 : x5_1.length < 8796093022208
      ·rw [if_pos c8] at H
       have LMc8 := q_ c8
       clear c8
       obtain ⟨y150, hy150⟩ : ∃ y_ : List (S147), y_ = (x5_1 ++ [(⟨(rd_T147 l0 x6_1).f0, (rd_T147 l0 x6_1).f1⟩ : S147)]) := ⟨_, rfl⟩
       replace H : (spec_l1Without.l0 k1 l0 a1 y150 (wrap64 (x6_1 + 1))) = some r := by first | (rw [hy150]; with_reducible exact H) | (have H2_ := (Option.bind_some _ _).symm.trans H; rw [hy150]; with_reducible exact H2_) | (have H2_ := (Option.bind_some _ _).symm.trans H; with_reducible exact H2_) | with_reducible exact H | (rw [hy150]; exact H) | exact H
       have Ny150 := q_ hy150
       clear hy150
       have H' := q_ H
       clear H
       have p148 : 0 ≤ (x6_1 : Int) := of_decide_eq_true z5_
       have q148 : x6_1 < (l0.length : Int) := of_decide_eq_true z5_
       obtain ⟨ad148, e148, hx148_0, hx148_1⟩ := at_T147 HR0.out x6_1 p148 q148
       cases e148
       replace hx148_0 := up_ HB hx148_0
       replace hx148_1 := up_ HB hx148_1
       replace p148 := eq_true p148
       replace q148 := eq_true q148
       have p149 : 0 ≤ (x6_1 : Int) := of_decide_eq_true z5_
       have q149 : x6_1 < (l0.length : Int) := of_decide_eq_true z5_
       obtain ⟨ad149, e149, hx149_0, hx149_1⟩ := at_T147 HR0.out x6_1 p149 q149
       obtain rfl : ad148 = ad149 := (by injection e149)
       replace hx149_0 := up_ HB hx149_0
       replace hx149_1 := up_ HB hx149_1
       replace p149 := eq_true p149
       replace q149 := eq_true q149
       go_wp2_with (first | ((with_reducible refine gate_builtin (b := .append) (xs := #[.tmp 21, .tmp 26]) rfl ?_); at_builtin; refine Kd.R_append k147 (w0 := w) w.heap.size rfl (.tmp 21) (.tmp 26) 42 147 (.agg #[(.int .i64 0), (.int .i64 0)]) 16 rfl Try.underlying42 info147 rfl (by decide) (by omega) u5 x5_1 (⟨(rd_T147 l0 x6_1).f0, (rd_T147 l0 x6_1).f1⟩ : S147) [.int .i64 ((rd_T147 l0 x6_1).f0), .int .i64 ((rd_T147 l0 x6_1).f1)] (fun _ => True) (fun _ => False) rfl rfl ?aP (fun _ hk => hk.elim) ?aF ?aO ?aB ?aS ?aL ?_; (case aP => exact k147_mkM _ _ _ (⟨(rd_T147 l0 x6_1).f0, (rd_T147 l0 x6_1).f1⟩ : S147)); (case aB => exact z0_); (case aF => exact z134_); (case aO => exact z17_); (case aS => exact z138_); (case aL => have := LMc8.out; omega); intro v151 w9 ho hb hg hat; rw [← Ny150.out] at ho; have n0_ := q_ (hb); have n1_ := q_ (ho); clear HB; clear HO_5; have HB := n0_; have HO152 := n1_; clear n0_ n1_; clear ho hb hg hat))
       go_roundg k1
       case measure => have := HK1.out; omega
       case rel => exact ⟨(y150), (wrap64 (x6_1 + 1)), z7_, H', ⟨z67_⟩, ⟨by (with_reducible repeat (first | apply Kd.R_alloc | apply Kd.R_drewN | apply Kd.R_drew)); exact HO152.out⟩, ⟨z0_⟩⟩
      ·rw [if_neg c8] at H
       exact absurd H (by simp)
    ·rw [if_neg c6] at H
     exact absurd H (by simp)
   ·rw [if_neg c5] at H
    have c5b0 : decide (x6_1 < (l0.length : Int)) = false := decide_eq_false c5
    clear c5
    obtain rfl := Option.some.inj H
    go_wp2
    go_ret
    exact ⟨_, z4_, z17_, z0_⟩

end Go.Proofs.Ytphlmbhjeoljoaa.PFnMapAll
