-- Written by a program of this session, which goes by the kit's print. Not trusted: Lean checks it.
import Derived.Test.YtphlmbhjeoljoaaPFnExactShrinkx0
import Derived.Test.YtphlmbhjeoljoaaPFnExactShrinkx1
import Derived.Test.YtphlmbhjeoljoaaPFnExactShrinkx2
namespace Go.Proofs.Ytphlmbhjeoljoaa.PFnExactShrink
open Go.RowKit Go.Proofs.YtphlmbhjeoljoaaW.PrintWords Go.Proofs.YtphlmbhjeoljoaaW.PrintLast Go.Proofs.YtphlmbhjeoljoaaW.PrintMore
attribute [local go_sem] max2_int min2_int max_two min_two max_three min_three max_four min_four   -- for this text's walks alone
set_option linter.unusedVariables false
set_option linter.unusedSimpArgs false

/-! ### spec_l1First: function 92 -/
def spec_l1First.l0 : Nat → List (S67) → Int → Int → Option (Int)
 | 0, _, _, _ => none
 | k + 1, x0, x1, x5 => if x5 < (x0.length : Int) then (if 0 ≤ x5 then (if ((rd_T67 x0 x5).f1) = x1 then (some x5) else (spec_l1First.l0 k x0 x1 (wrap64 (x5 + 1)))) else (none)) else (some (-1))
def spec_l1First.f (k : Nat) (l0 : List (S67)) (a1 : Int) : Option (Int) := spec_l1First.l0 k l0 a1 0
theorem spec_l1First.mono_l : ∀ k, (∀ y0 y1 y2, LeO (spec_l1First.l0 k y0 y1 y2) (spec_l1First.l0 (k + 1) y0 y1 y2))
 | 0 => fun _ _ _ r h => by simp [spec_l1First.l0] at h
 | k + 1 => by
  have ih0 := spec_l1First.mono_l k
  ·intro y0 y1 y2
   unfold spec_l1First.l0
   repeat' first
   | (with_reducible exact ih0 _ _ _)
   | (with_reducible exact LeO.refl _)
   | (with_reducible exact LeO.none _)
   | (with_reducible refine LeO.ite ?_ ?_)
   | (with_reducible refine LeO.bind ?_ (fun _ => ?_))
   | exact ih0 _ _ _
   | exact LeO.none _
   | refine LeO.ite ?_ ?_
   | refine LeO.bind ?_ (fun _ => ?_)
theorem spec_l1First.mono : ∀ a0 a1 k, LeO (spec_l1First.f k a0 a1) (spec_l1First.f (k + 1) a0 a1) := by
 intro a0 a1 k
 have ih0 := spec_l1First.mono_l k
 unfold spec_l1First.f
 repeat' first
   | (with_reducible exact ih0 _ _ _)
   | (with_reducible exact LeO.refl _)
   | (with_reducible exact LeO.none _)
   | (with_reducible refine LeO.ite ?_ ?_)
   | (with_reducible refine LeO.bind ?_ (fun _ => ?_))
   | exact ih0 _ _ _
   | exact LeO.none _
   | refine LeO.ite ?_ ?_
   | refine LeO.bind ?_ (fun _ => ?_)
set_option maxHeartbeats 8000000 in
set_option maxRecDepth 100000 in
theorem spec_l1First.calls (k : Nat) (A0 : Option Addr) (c0 : Nat) (l0 : List (S67)) (a1 : Int) (r : Int) (w : World) (hr0 : Kd.C k67 w A0 l0.length l0) (hc0 : l0.length ≤ c0) (h : spec_l1First.f k l0 a1 = some r) :
  Calls Try.prog 92 #[.slice A0 l0.length c0, .int .i64 a1] w fun e w' => e = .returned (.int .i64 r) ∧ Drawn0 w w' := by
 have HR0 := q_ hr0
 have HC0 := q_ hc0
 clear hr0 hc0
 have H : (spec_l1First.l0 k l0 a1 0) = some r := h
 clear h
 have H' := q_ H
 clear H
 go_enter Try.func92, Try.ntmps92
 go_wp2
 go_loopg [5] k (fun kq v5 w' => ∃ (x5_1 : Int), v5 = .int .i64 x5_1 ∧ Aside0 (spec_l1First.l0 kq l0 a1 x5_1 = some r) ∧ Aside0 (kq ≤ k) ∧ Drawn0 w w')
 case atStart => exact ⟨(0), z9_, H', ⟨Nat.le_refl _⟩, z28_⟩
 case round =>
  clear H'
  try clear p2
  obtain ⟨x5_1, rfl, HA, HK1, ⟨m1, rfl⟩⟩ := hrel
  cases gk with
  | zero => exact absurd HA.out (by simp [spec_l1First.l0])
  | succ k1 =>
   have H := HA.out
   clear HA
   simp only [spec_l1First.l0] at H
   by_cases c3 : x5_1 < (l0.length : Int)
   ·rw [if_pos c3] at H
    have c3b0 : decide (x5_1 < (l0.length : Int)) = true := decide_eq_true c3
    clear c3
    by_cases c4 : 0 ≤ x5_1
    ·rw [if_pos c4] at H
     have c4b0 : decide (0 ≤ x5_1) = true := decide_eq_true c4
     clear c4
     by_cases c5 : ((rd_T67 l0 x5_1).f1) = a1
     ·rw [if_pos c5] at H
      have c5b0 : (((rd_T67 l0 x5_1).f1) == a1) = true := beq_iff_eq.mpr c5
      have c5b1 : (((rd_T67 l0 x5_1).f1) != a1) = false := bne_eq_false_iff_eq.mpr c5
      clear c5
      obtain rfl := Option.some.inj H
      have p112 : 0 ≤ (x5_1 : Int) := of_decide_eq_true z2_
      have q112 : x5_1 < (l0.length : Int) := of_decide_eq_true z2_
      obtain ⟨ad112, e112, hx112_0, hx112_1, hx112_2⟩ := at_T67 HR0.out x5_1 p112 q112
      cases e112
      replace p112 := eq_true p112
      replace q112 := eq_true q112
      go_wp2
      go_ret
      exact ⟨z9_, z28_⟩
     ·rw [if_neg c5] at H
      have c5b0 : (((rd_T67 l0 x5_1).f1) == a1) = false := beq_eq_false_iff_ne.mpr c5
      have c5b1 : (((rd_T67 l0 x5_1).f1) != a1) = true := bne_iff_ne.mpr c5
      have H' := q_ H
      clear H
      have p112 : 0 ≤ (x5_1 : Int) := of_decide_eq_true z2_
      have q112 : x5_1 < (l0.length : Int) := of_decide_eq_true z2_
      obtain ⟨ad112, e112, hx112_0, hx112_1, hx112_2⟩ := at_T67 HR0.out x5_1 p112 q112
      cases e112
      replace p112 := eq_true p112
      replace q112 := eq_true q112
      go_wp2
      go_roundg k1
      case measure => have := HK1.out; omega
      case rel => exact ⟨(wrap64 (x5_1 + 1)), z9_, H', ⟨z49_⟩, z28_⟩
    ·rw [if_neg c4] at H
     exact absurd H (by simp)
   ·rw [if_neg c3] at H
    have c3b0 : decide (x5_1 < (l0.length : Int)) = false := decide_eq_false c3
    clear c3
    obtain rfl := Option.some.inj H
    go_wp2
    go_ret
    exact ⟨z9_, z28_⟩

/-! ### spec_l1Max: function 162 -/
def spec_l1Max.f (a0 : Int) (a1 : Int) : Option (Int) := if a0 > a1 then (some a0) else (some a1)
set_option maxHeartbeats 8000000 in
set_option maxRecDepth 100000 in
theorem spec_l1Max.calls (a0 : Int) (a1 : Int) (r : Int) (w : World) (h : spec_l1Max.f a0 a1 = some r) :
  Calls Try.prog 162 #[.int .i64 a0, .int .i64 a1] w fun e w' => e = .returned (.int .i64 r) ∧ Drawn0 w w' := by
 have H : (if a0 > a1 then (some a0) else (some a1)) = some r := h
 clear h
 by_cases c3 : a0 > a1
 ·rw [if_pos c3] at H
  have c3b0 : decide (a1 < a0) = true := decide_eq_true c3
  clear c3
  obtain rfl := Option.some.inj H
  go_enter Try.func162, Try.ntmps162
  go_wp2
  go_ret
  exact ⟨z9_, z28_⟩
 ·rw [if_neg c3] at H
  have c3b0 : decide (a1 < a0) = false := decide_eq_false c3
  clear c3
  obtain rfl := Option.some.inj H
  go_enter Try.func162, Try.ntmps162
  go_wp2
  go_ret
  exact ⟨z9_, z28_⟩

/-! ### spec_l1Min: function 163 -/
def spec_l1Min.f (a0 : Int) (a1 : Int) : Option (Int) := if a0 < a1 then (some a0) else (some a1)
set_option maxHeartbeats 8000000 in
set_option maxRecDepth 100000 in
theorem spec_l1Min.calls (a0 : Int) (a1 : Int) (r : Int) (w : World) (h : spec_l1Min.f a0 a1 = some r) :
  Calls Try.prog 163 #[.int .i64 a0, .int .i64 a1] w fun e w' => e = .returned (.int .i64 r) ∧ Drawn0 w w' := by
 have H : (if a0 < a1 then (some a0) else (some a1)) = some r := h
 clear h
 by_cases c3 : a0 < a1
 ·rw [if_pos c3] at H
  have c3b0 : decide (a0 < a1) = true := decide_eq_true c3
  clear c3
  obtain rfl := Option.some.inj H
  go_enter Try.func163, Try.ntmps163
  go_wp2
  go_ret
  exact ⟨z9_, z28_⟩
 ·rw [if_neg c3] at H
  have c3b0 : decide (a0 < a1) = false := decide_eq_false c3
  clear c3
  obtain rfl := Option.some.inj H
  go_enter Try.func163, Try.ntmps163
  go_wp2
  go_ret
  exact ⟨z9_, z28_⟩

/-! ### spec_l1Clamp: function 93 -/
def spec_l1Clamp.f (a0 : Int) : Option (Int) := (spec_l1Min.f a0 1000000000).bind fun t113 => ((spec_l1Max.f t113 (-1000000000)).bind fun t114 => (some t114))
set_option maxHeartbeats 8000000 in
set_option maxRecDepth 100000 in
theorem spec_l1Clamp.calls (a0 : Int) (r : Int) (w : World) (h : spec_l1Clamp.f a0 = some r) :
  Calls Try.prog 93 #[.int .i64 a0] w fun e w' => e = .returned (.int .i64 r) ∧ Drawn0 w w' := by
 have H : ((spec_l1Min.f a0 1000000000).bind fun t113 => ((spec_l1Max.f t113 (-1000000000)).bind fun t114 => (some t114))) = some r := h
 clear h
 replace H := Option.bind_eq_some_iff.mp H
 obtain ⟨t113, A20, H⟩ := H
 replace H : ((spec_l1Max.f t113 (-1000000000)).bind fun t114 => (some t114)) = some r := H
 have A2 := q_ A20
 clear A20
 replace H := Option.bind_eq_some_iff.mp H
 obtain ⟨t114, A30, H⟩ := H
 replace H : (some t114) = some r := H
 have A3 := q_ A30
 clear A30
 obtain rfl := Option.some.inj H
 go_enter Try.func93, Try.ntmps93
 go_wp2_with (first | ((with_reducible refine gate_callee (f := 163) rfl ?_); refine goesL_ (some 4) rfl rfl Try.func163 (by kernel_rfl) rfl #[.int .i64 a0, .int .i64 1000000000] rfl z1_ ?_; (with_reducible refine (spec_l1Min.calls a0 1000000000 t113 _ A2.out).mono ?_); rintro e w' ⟨rfl, ⟨nd, rfl⟩⟩; refine ⟨_, rfl, ?_⟩) | ((with_reducible refine gate_callee (f := 162) rfl ?_); refine goesL_ (some 5) rfl rfl Try.func162 (by kernel_rfl) rfl #[.int .i64 t113, .int .i64 (-1000000000)] rfl z1_ ?_; (with_reducible refine (spec_l1Max.calls t113 (-1000000000) t114 _ A3.out).mono ?_); rintro e w' ⟨rfl, ⟨nd, rfl⟩⟩; refine ⟨_, rfl, ?_⟩))
 go_ret
 exact ⟨z9_, z28_⟩

/-! ### spec_Shrink: function 16 -/
mutual
def spec_Shrink.l0 : Nat → List (S67) → List (S67) → Int → Option ((List (S67)))
 | 0, _, _, _ => none
 | k + 1, x0, x3, x4 => if x4 < (x0.length : Int) then (if 0 ≤ x4 then ((spec_MsgOk.f ((rd_T67 x0 x4).f0) ((rd_T67 x0 x4).f1) ((rd_T67 x0 x4).f2)).bind fun t120 => (if t120 = true then (if ((rd_T67 x0 x4).f0) = 4 then (spec_Shrink.j1 k x0 x3 x4 true ((rd_T67 x0 x4).f0) ((rd_T67 x0 x4).f1) ((rd_T67 x0 x4).f2)) else ((spec_l1Over.f k x0 x4).bind fun t121 => (spec_Shrink.j1 k x0 x3 x4 t121 ((rd_T67 x0 x4).f0) ((rd_T67 x0 x4).f1) ((rd_T67 x0 x4).f2)))) else (spec_Shrink.j1 k x0 x3 x4 true ((rd_T67 x0 x4).f0) ((rd_T67 x0 x4).f1) ((rd_T67 x0 x4).f2)))) else (none)) else (some x3)
def spec_Shrink.j1 : Nat → List (S67) → List (S67) → Int → Bool → Int → Int → Int → Option ((List (S67)))
 | 0, _, _, _, _, _, _, _ => none
 | k + 1, x0, x3, x4, x30, x120000, x120001, x120002 => if x30 = true then (spec_Shrink.l0 k x0 x3 (wrap64 (x4 + 1))) else ((spec_l1First.f k x3 x120001).bind fun t122 => (if t122 ≥ 0 then (if 0 ≤ t122 then (if t122 < (x3.length : Int) then (if ((rd_T67 x3 t122).f0) = 1 then (if x120000 = 3 then ((spec_l1Clamp.f (wrap64 (((rd_T67 x3 t122).f2) + x120002))).bind fun t125 => (spec_Shrink.l0 k x0 (x3.set (t122 : Int).toNat (⟨(rd_T67 x3 t122).f0, (rd_T67 x3 t122).f1, t125⟩ : S67)) (wrap64 (x4 + 1)))) else (if x3.length < 5864062014805 then (spec_Shrink.l0 k x0 (x3 ++ [(⟨x120000, x120001, x120002⟩ : S67)]) (wrap64 (x4 + 1))) else (none))) else (if x3.length < 5864062014805 then (spec_Shrink.l0 k x0 (x3 ++ [(⟨x120000, x120001, x120002⟩ : S67)]) (wrap64 (x4 + 1))) else (none))) else (none)) else (none)) else (if x3.length < 5864062014805 then (spec_Shrink.l0 k x0 (x3 ++ [(⟨x120000, x120001, x120002⟩ : S67)]) (wrap64 (x4 + 1))) else (none))))
end
def spec_Shrink.f (k : Nat) (l0 : List (S67)) : Option ((List (S67))) := spec_Shrink.l0 k l0 (([] : List (S67))) 0
theorem spec_Shrink.mono_l : ∀ k, (∀ y0 y1 y2, LeO (spec_Shrink.l0 k y0 y1 y2) (spec_Shrink.l0 (k + 1) y0 y1 y2)) ∧ (∀ y0 y1 y2 y3 y4 y5 y6, LeO (spec_Shrink.j1 k y0 y1 y2 y3 y4 y5 y6) (spec_Shrink.j1 (k + 1) y0 y1 y2 y3 y4 y5 y6))
 | 0 => ⟨fun _ _ _ r h => by simp [spec_Shrink.l0] at h, fun _ _ _ _ _ _ _ r h => by simp [spec_Shrink.j1] at h⟩
 | k + 1 => by
  obtain ⟨ih0, ih1⟩ := spec_Shrink.mono_l k
  refine ⟨?_, ?_⟩
  ·intro y0 y1 y2
   unfold spec_Shrink.l0
   repeat' first
   | (with_reducible exact ih0 _ _ _)
   | (with_reducible exact ih1 _ _ _ _ _ _ _)
   | (with_reducible exact spec_l1First.mono _ _ _)
   | (with_reducible exact spec_l1Over.mono _ _ _)
   | (with_reducible exact LeO.refl _)
   | (with_reducible exact LeO.none _)
   | (with_reducible refine LeO.ite ?_ ?_)
   | (with_reducible refine LeO.bind ?_ (fun _ => ?_))
   | exact ih0 _ _ _
   | exact ih1 _ _ _ _ _ _ _
   | exact spec_l1First.mono _ _ _
   | exact spec_l1Over.mono _ _ _
   | exact LeO.none _
   | refine LeO.ite ?_ ?_
   | refine LeO.bind ?_ (fun _ => ?_)
  ·intro y0 y1 y2 y3 y4 y5 y6
   unfold spec_Shrink.j1
   repeat' first
   | (with_reducible exact ih0 _ _ _)
   | (with_reducible exact ih1 _ _ _ _ _ _ _)
   | (with_reducible exact spec_l1First.mono _ _ _)
   | (with_reducible exact spec_l1Over.mono _ _ _)
   | (with_reducible exact LeO.refl _)
   | (with_reducible exact LeO.none _)
   | (with_reducible refine LeO.ite ?_ ?_)
   | (with_reducible refine LeO.bind ?_ (fun _ => ?_))
   | exact ih0 _ _ _
   | exact ih1 _ _ _ _ _ _ _
   | exact spec_l1First.mono _ _ _
   | exact spec_l1Over.mono _ _ _
   | exact LeO.none _
   | refine LeO.ite ?_ ?_
   | refine LeO.bind ?_ (fun _ => ?_)
theorem spec_Shrink.mono : ∀ a0 k, LeO (spec_Shrink.f k a0) (spec_Shrink.f (k + 1) a0) := by
 intro a0 k
 obtain ⟨ih0, ih1⟩ := spec_Shrink.mono_l k
 unfold spec_Shrink.f
 repeat' first
   | (with_reducible exact ih0 _ _ _)
   | (with_reducible exact ih1 _ _ _ _ _ _ _)
   | (with_reducible exact spec_l1First.mono _ _ _)
   | (with_reducible exact spec_l1Over.mono _ _ _)
   | (with_reducible exact LeO.refl _)
   | (with_reducible exact LeO.none _)
   | (with_reducible refine LeO.ite ?_ ?_)
   | (with_reducible refine LeO.bind ?_ (fun _ => ?_))
   | exact ih0 _ _ _
   | exact ih1 _ _ _ _ _ _ _
   | exact spec_l1First.mono _ _ _
   | exact spec_l1Over.mono _ _ _
   | exact LeO.none _
   | refine LeO.ite ?_ ?_
   | refine LeO.bind ?_ (fun _ => ?_)
def spec_Shrink.T9 : Bool × List (List Nat × List Nat) := (true, [([], []), ([], []), ([], []), ([], []), ([2, 3], [2, 3]), ([4], [4]), ([5], [5]), ([], []), ([7], [7]), ([6, 8], [6, 8]), ([9], [9]), ([0, 1, 0, 1, 2, 3, 4, 5, 6, 7, 8, 9, 10], [0, 1]), ([11, 0, 1, 2, 3, 4, 5, 6, 7, 8, 9, 10], [11]), ([12, 10, 10, 0, 1, 2, 3, 4, 5, 6, 7, 8, 9, 10], [10, 12])])
def spec_Shrink.B9 : List Nat := [0, 0, 0, 0, 12, 28, 60, 0, 128, 508, 1020, 2047, 4095, 8191]
theorem spec_Shrink.tab9 : rtab .any (opsOf Try.f16 9) = spec_Shrink.T9 := by kernel_rfl
theorem spec_Shrink.bits9 : waitsOk spec_Shrink.T9.2 spec_Shrink.B9 = true := by kernel_rfl
set_option maxHeartbeats 8000000 in
set_option maxRecDepth 100000 in
theorem spec_Shrink.calls (k : Nat) (A0 : Option Addr) (c0 : Nat) (l0 : List (S67)) (r : List (S67)) (w : World) (hr0 : Kd.C k67 w A0 l0.length l0) (hc0 : l0.length ≤ c0) (h : spec_Shrink.f k l0 = some r) :
  Calls Try.prog 16 #[.slice A0 l0.length c0] w fun e w' => ∃ v0_ : Value, e = .returned (v0_) ∧ Kd.R k67 67 w' w.heap.size (fun _ => True) v0_ r ∧ Below w.heap.size w w' := by
 have hu67 := Try.underlying67
 have HR0 := q_ hr0
 have HC0 := q_ hc0
 clear hr0 hc0
 have HB := q_ (Below.refl w.heap.size w)
 have H : (spec_Shrink.l0 k l0 (([] : List (S67))) 0) = some r := h
 clear h
 obtain ⟨y115, hy115⟩ : ∃ y_ : List (S67), y_ = (([] : List (S67))) := ⟨_, rfl⟩
 replace H : (spec_Shrink.l0 k l0 y115 0) = some r := by first | (rw [hy115]; with_reducible exact H) | (have H2_ := (Option.bind_some _ _).symm.trans H; rw [hy115]; with_reducible exact H2_) | (have H2_ := (Option.bind_some _ _).symm.trans H; with_reducible exact H2_) | with_reducible exact H | (rw [hy115]; exact H) | exact H
 have Ny115 := q_ hy115
 clear hy115
 have H' := q_ H
 clear H
 go_enter Try.func16, Try.ntmps16
 go_wp2_with (first | ((with_reducible refine gate_dst (N := 7) rfl ?_); refine Kd.R_lit k67 _ 67 ?hg (N := 7) ?hd (xs := ([] : List (S67))) (inner := []) (ok := fun _ => True) (okp := fun _ => True) ?hr ?hp (fun _ hk => hk) trivial (Below.refl _ _) (Nat.le_refl _) (by simp) ?_; (case hd => rfl); (case hg => rfl); (case hr => exact z88_); (case hp => exact (Reps.none _ _)); intro v116 w2 ho3 hb hg_ hnew_; clear hg_ hnew_; (first | rw [← Ny115.out] at ho3 | (simp only [Int.reduceToNat] at ho3; rw [← Ny115.out] at ho3)); have n0_ := q_ (Kd.R_lower ho3 (below_size z0_)); have n1_ := q_ (below_step z0_ hb); clear HB; have HO117 := n0_; have HB := n1_; clear n0_ n1_; clear hb ho3))
 go_loopg [3, 4] k (fun kq v3 v4 w' => ∃ (x3_1 : List (S67)) (x4_1 : Int), v4 = .int .i64 x4_1 ∧ Aside0 (spec_Shrink.l0 kq l0 x3_1 x4_1 = some r) ∧ Aside0 (kq ≤ k) ∧ Aside0 (Kd.R k67 67 w' w.heap.size (fun _ => True) v3 x3_1) ∧ Aside0 (Below w.heap.size w w'))
 case atStart => exact ⟨(y115), (0), z9_, H', ⟨Nat.le_refl _⟩, ⟨by (with_reducible repeat (first | apply Kd.R_alloc | apply Kd.R_drewN | apply Kd.R_drew)); exact HO117.out⟩, ⟨z0_⟩⟩
 case round =>
  clear H'
  try clear c1
  try clear p2
  obtain ⟨x3_1, x4_1, rfl, HA, HK1, HO_3, HB⟩ := hrel
  cases gk with
  | zero => exact absurd HA.out (by simp [spec_Shrink.l0])
  | succ k1 =>
   have H := HA.out
   clear HA
   simp only [spec_Shrink.l0] at H
   by_cases c4 : x4_1 < (l0.length : Int)
   ·rw [if_pos c4] at H
    have c4b0 : decide (x4_1 < (l0.length : Int)) = true := decide_eq_true c4
    clear c4
    by_cases c5 : 0 ≤ x4_1
    ·rw [if_pos c5] at H
     have c5b0 : decide (0 ≤ x4_1) = true := decide_eq_true c5
     clear c5
     have HC6 := q_ H
     clear H
     have p118 : 0 ≤ (x4_1 : Int) := of_decide_eq_true z2_
     have q118 : x4_1 < (l0.length : Int) := of_decide_eq_true z2_
     obtain ⟨ad118, e118, hx118_0, hx118_1, hx118_2⟩ := at_T67 HR0.out x4_1 p118 q118
     cases e118
     replace hx118_0 := up_ HB hx118_0
     replace hx118_1 := up_ HB hx118_1
     replace hx118_2 := up_ HB hx118_2
     replace p118 := eq_true p118
     replace q118 := eq_true q118
     go_upto_region 6 with (first | ((with_reducible refine gate_dst (N := 5) rfl ?_); refine box_event ?hg (N := 5) ?hd (cs := #[.int .i64 0, .int .i64 0, .int .i64 0]) (t := 67) ?hr ?_; (case hd => rfl); (case hg => rfl); (case hr => exact z88_); intro gb119 hg w7 hbox hb; have n0_ := q_ (Kd.R_below (Kd.R_elderB z8_ gb119 (Nat.le_of_eq hg.symm)) hb); have n1_ := q_ (below_step z0_ hb); have n2_ := q_ (hbox); have n3_ := q_ ((z69_ : w.heap.size ≤ gb119)); have n4_ := q_ ((z69_ : w.heap.size ≤ gb119)); clear HO_3; clear HB; have HO_3 := n0_; have HB := n1_; have BK119 := n2_; have GW119 := n3_; have GE119 := n4_; clear n0_ n1_ n2_ n3_ n4_; clear hb hbox hg; obtain ⟨hcz8_0, hcz8_1, hcz8_2, hfz8_0, hfz8_1, hfz8_2⟩ := cs3_ BK119.out))
     (try simp only [Act.put, List.setIfInBounds_toArray, List.set_cons_zero, List.set_cons_succ])
     go_cut [30] (fun v30 wc => ∃ (kq : Nat) (x30_5 : Bool), v30 = .bool x30_5 ∧ Aside0 (spec_Shrink.j1 kq l0 x3_1 x4_1 x30_5 ((rd_T67 l0 x4_1).f0) ((rd_T67 l0 x4_1).f1) ((rd_T67 l0 x4_1).f2) = some r) ∧ Aside0 (kq ≤ k1) ∧ Aside0 (Kd.R k67 67 wc w.heap.size (fun k_ => k_ ≠ gb119) u3 x3_1) ∧ Aside0 (wc.heap[gb119]? = some (.cells #[.int .i64 ((rd_T67 l0 x4_1).f0), .int .i64 ((rd_T67 l0 x4_1).f1), .int .i64 ((rd_T67 l0 x4_1).f2)] 67 (0, 0))) ∧ Aside0 (Below w.heap.size w wc))
     case first =>
      have H := HC6.out
      clear HC6
      replace H := Option.bind_eq_some_iff.mp H
      obtain ⟨t120, A90, H⟩ := H
      replace H : (if t120 = true then (if ((rd_T67 l0 x4_1).f0) = 4 then (spec_Shrink.j1 k1 l0 x3_1 x4_1 true ((rd_T67 l0 x4_1).f0) ((rd_T67 l0 x4_1).f1) ((rd_T67 l0 x4_1).f2)) else ((spec_l1Over.f k1 l0 x4_1).bind fun t121 => (spec_Shrink.j1 k1 l0 x3_1 x4_1 t121 ((rd_T67 l0 x4_1).f0) ((rd_T67 l0 x4_1).f1) ((rd_T67 l0 x4_1).f2)))) else (spec_Shrink.j1 k1 l0 x3_1 x4_1 true ((rd_T67 l0 x4_1).f0) ((rd_T67 l0 x4_1).f1) ((rd_T67 l0 x4_1).f2))) = some r := H
      have A9 := q_ A90
      clear A90
      by_cases c10 : t120 = true
      ·subst c10
       have H1 : (if ((rd_T67 l0 x4_1).f0) = 4 then (spec_Shrink.j1 k1 l0 x3_1 x4_1 true ((rd_T67 l0 x4_1).f0) ((rd_T67 l0 x4_1).f1) ((rd_T67 l0 x4_1).f2)) else ((spec_l1Over.f k1 l0 x4_1).bind fun t121 => (spec_Shrink.j1 k1 l0 x3_1 x4_1 t121 ((rd_T67 l0 x4_1).f0) ((rd_T67 l0 x4_1).f1) ((rd_T67 l0 x4_1).f2)))) = some r := z41_
       clear H
       have H := H1
       clear H1
       by_cases c11 : ((rd_T67 l0 x4_1).f0) = 4
       ·rw [if_pos c11] at H
        have c11b0 : (((rd_T67 l0 x4_1).f0) == 4) = true := beq_iff_eq.mpr c11
        have c11b1 : (((rd_T67 l0 x4_1).f0) != 4) = false := bne_eq_false_iff_eq.mpr c11
        clear c11
        (first | rw [c11b0] | (simp only [i64_w, i32_w]; rw [c11b0]) | skip)
        have H' := q_ H
        clear H
        obtain ⟨hcz12_0, hcz12_1, hcz12_2, hfz12_0, hfz12_1, hfz12_2⟩ := cs3_ BK119.out
        go_wp2_with (first | ((with_reducible refine gate_callee (f := 60) rfl ?_); refine goesL_ (some 19) rfl rfl Try.func60 (by kernel_rfl) rfl #[.agg #[.int .i64 ((rd_T67 l0 x4_1).f0), .int .i64 ((rd_T67 l0 x4_1).f1), .int .i64 ((rd_T67 l0 x4_1).f2)]] rfl z1_ ?_; (with_reducible refine (spec_MsgOk.calls ((rd_T67 l0 x4_1).f0) ((rd_T67 l0 x4_1).f1) ((rd_T67 l0 x4_1).f2) true _ A9.out).mono ?_); rintro e w13 ⟨rfl, hb⟩; refine ⟨_, rfl, ?_⟩; have n0_ := q_ (Kd.R_below z29_ hb); have n1_ := q_ (blk_below (g := gb119) (o := .cells #[.int .i64 ((rd_T67 l0 x4_1).f0), .int .i64 ((rd_T67 l0 x4_1).f1), .int .i64 ((rd_T67 l0 x4_1).f2)] 67 (0, 0)) z17_ hb); have n2_ := q_ (below_step z10_ hb); clear HO_3; clear BK119; clear HB; have HO_3 := n0_; have BK119 := n1_; have HB := n2_; clear n0_ n1_ n2_; (try clear hb); (try clear hb2); (try clear hk); (try clear hi); obtain ⟨hcz14_0, hcz14_1, hcz14_2, hfz14_0, hfz14_1, hfz14_2⟩ := cs3_ BK119.out))
        go_meet
        case rel => exact ⟨_, (true), z9_, H', ⟨z65_⟩, ⟨z52_⟩, ⟨z30_⟩, ⟨z10_⟩⟩
       ·rw [if_neg c11] at H
        have c11b0 : (((rd_T67 l0 x4_1).f0) == 4) = false := beq_eq_false_iff_ne.mpr c11
        have c11b1 : (((rd_T67 l0 x4_1).f0) != 4) = true := bne_iff_ne.mpr c11
        (first | rw [c11b0] | (simp only [i64_w, i32_w]; rw [c11b0]) | skip)
        replace H := Option.bind_eq_some_iff.mp H
        obtain ⟨t121, A150, H⟩ := H
        replace H : (spec_Shrink.j1 k1 l0 x3_1 x4_1 t121 ((rd_T67 l0 x4_1).f0) ((rd_T67 l0 x4_1).f1) ((rd_T67 l0 x4_1).f2)) = some r := H
        have A15 := q_ A150
        clear A150
        have H' := q_ H
        clear H
        obtain ⟨hcz16_0, hcz16_1, hcz16_2, hfz16_0, hfz16_1, hfz16_2⟩ := cs3_ BK119.out
        go_wp2_with (first | ((with_reducible refine gate_callee (f := 60) rfl ?_); refine goesL_ (some 19) rfl rfl Try.func60 (by kernel_rfl) rfl #[.agg #[.int .i64 ((rd_T67 l0 x4_1).f0), .int .i64 ((rd_T67 l0 x4_1).f1), .int .i64 ((rd_T67 l0 x4_1).f2)]] rfl z1_ ?_; (with_reducible refine (spec_MsgOk.calls ((rd_T67 l0 x4_1).f0) ((rd_T67 l0 x4_1).f1) ((rd_T67 l0 x4_1).f2) true _ A9.out).mono ?_); rintro e w17 ⟨rfl, hb⟩; refine ⟨_, rfl, ?_⟩; have n0_ := q_ (Kd.R_below z29_ hb); have n1_ := q_ (blk_below (g := gb119) (o := .cells #[.int .i64 ((rd_T67 l0 x4_1).f0), .int .i64 ((rd_T67 l0 x4_1).f1), .int .i64 ((rd_T67 l0 x4_1).f2)] 67 (0, 0)) z17_ hb); have n2_ := q_ (below_step z10_ hb); clear HO_3; clear BK119; clear HB; have HO_3 := n0_; have BK119 := n1_; have HB := n2_; clear n0_ n1_ n2_; (try clear hb); (try clear hb2); (try clear hk); (try clear hi); obtain ⟨hcz18_0, hcz18_1, hcz18_2, hfz18_0, hfz18_1, hfz18_2⟩ := cs3_ BK119.out) | (go_at_call 91; (with_reducible refine (spec_l1Over.calls k1 _ _ l0 x4_1 t121 _ ?side1 ?side2 A15.out).mono ?_); (case side1 => exact z92_); (case side2 => exact HC0.out); rintro e w19 ⟨rfl, hb⟩; have n0_ := q_ (Kd.R_below z8_ hb); have n1_ := q_ (blk_below (g := gb119) (o := .cells #[.int .i64 ((rd_T67 l0 x4_1).f0), .int .i64 ((rd_T67 l0 x4_1).f1), .int .i64 ((rd_T67 l0 x4_1).f2)] 67 (0, 0)) z30_ hb); have n2_ := q_ (below_step z10_ hb); clear HO_3; clear BK119; clear HB; have HO_3 := n0_; have BK119 := n1_; have HB := n2_; clear n0_ n1_ n2_; (try clear hb); (try clear hb2); (try clear hk); (try clear hi)))
        go_meet
        case rel => exact ⟨_, (t121), z9_, H', ⟨z65_⟩, ⟨z52_⟩, ⟨z30_⟩, ⟨z10_⟩⟩
      ·replace c10 := Bool.eq_false_iff.mpr c10
       subst c10
       have H1 : (spec_Shrink.j1 k1 l0 x3_1 x4_1 true ((rd_T67 l0 x4_1).f0) ((rd_T67 l0 x4_1).f1) ((rd_T67 l0 x4_1).f2)) = some r := by rw [if_neg (show ¬ (false = true) by decide)] at H; exact H
       clear H
       have H := H1
       clear H1
       have H' := q_ H
       clear H
       obtain ⟨hcz20_0, hcz20_1, hcz20_2, hfz20_0, hfz20_1, hfz20_2⟩ := cs3_ BK119.out
       go_wp2_with (first | ((with_reducible refine gate_callee (f := 60) rfl ?_); refine goesL_ (some 19) rfl rfl Try.func60 (by kernel_rfl) rfl #[.agg #[.int .i64 ((rd_T67 l0 x4_1).f0), .int .i64 ((rd_T67 l0 x4_1).f1), .int .i64 ((rd_T67 l0 x4_1).f2)]] rfl z1_ ?_; (with_reducible refine (spec_MsgOk.calls ((rd_T67 l0 x4_1).f0) ((rd_T67 l0 x4_1).f1) ((rd_T67 l0 x4_1).f2) false _ A9.out).mono ?_); rintro e w21 ⟨rfl, hb⟩; refine ⟨_, rfl, ?_⟩; have n0_ := q_ (Kd.R_below z29_ hb); have n1_ := q_ (blk_below (g := gb119) (o := .cells #[.int .i64 ((rd_T67 l0 x4_1).f0), .int .i64 ((rd_T67 l0 x4_1).f1), .int .i64 ((rd_T67 l0 x4_1).f2)] 67 (0, 0)) z17_ hb); have n2_ := q_ (below_step z10_ hb); clear HO_3; clear BK119; clear HB; have HO_3 := n0_; have BK119 := n1_; have HB := n2_; clear n0_ n1_ n2_; (try clear hb); (try clear hb2); (try clear hk); (try clear hi)))
       go_meet
       case rel => exact ⟨_, (true), z9_, H', ⟨z65_⟩, ⟨z52_⟩, ⟨z30_⟩, ⟨z10_⟩⟩
     case rest =>
      clear HC6
      try clear c1
      try clear p1
      try clear q1
      try clear hx1
      try clear p2
      try clear c4
      try clear c4b0
      try clear c5
      try clear c5b0
      try clear c6
      try clear c10
      try clear c11
      try clear c11b0
      try clear c11b1
      try clear p11
      try clear q11
      try clear hx11
      try clear c16
      try clear hcz12_0
      try clear hcz12_1
      try clear hcz12_2
      try clear hcz14_0
      try clear hcz14_1
      try clear hcz14_2
      try clear hcz16_0
      try clear hcz16_1
      try clear hcz16_2
      try clear hcz18_0
      try clear hcz18_1
      try clear hcz18_2
      try clear hcz20_0
      try clear hcz20_1
      try clear hcz20_2
      try clear hcz8_0
      try clear hcz8_1
      try clear hcz8_2
      try clear hfz12_0
      try clear hfz12_1
      try clear hfz12_2
      try clear hfz14_0
      try clear hfz14_1
      try clear hfz14_2
      try clear hfz16_0
      try clear hfz16_1
      try clear hfz16_2
      try clear hfz18_0
      try clear hfz18_1
      try clear hfz18_2
      try clear hfz20_0
      try clear hfz20_1
      try clear hfz20_2
      try clear hfz8_0
      try clear hfz8_1
      try clear hfz8_2
      try clear hx118_0
      try clear hx118_1
      try clear hx118_2
      try clear p118
      try clear p2
      try clear q118
      obtain ⟨kq, x30_5, rfl, HA, HJ5, HO_3, BK119, HB⟩ := hcut
      cases kq with
      | zero => exact absurd HA.out (by simp [spec_Shrink.j1])
      | succ kj5 =>
       have H := HA.out
       clear HA
       simp only [spec_Shrink.j1] at H
       by_cases c22 : x30_5 = true
       ·subst c22
        have H1 : (spec_Shrink.l0 kj5 l0 x3_1 (wrap64 (x4_1 + 1))) = some r := z41_
        clear H
        have H := H1
        clear H1
        have H' := q_ H
        clear H
        go_wp2
        go_roundg kj5
        case measure => have := HK1.out; have := HJ5.out; omega
        case rel => exact ⟨(x3_1), (wrap64 (x4_1 + 1)), z9_, H', ⟨z64_⟩, ⟨by (with_reducible repeat (first | apply Kd.R_alloc | apply Kd.R_drewN | apply Kd.R_drew)); exact Kd.R_mono HO_3.out (fun _ hk => trivial)⟩, ⟨z10_⟩⟩
       ·replace c22 := Bool.eq_false_iff.mpr c22
        subst c22
        have H1 : ((spec_l1First.f kj5 x3_1 ((rd_T67 l0 x4_1).f1)).bind fun t122 => (if t122 ≥ 0 then (if 0 ≤ t122 then (if t122 < (x3_1.length : Int) then (if ((rd_T67 x3_1 t122).f0) = 1 then (if ((rd_T67 l0 x4_1).f0) = 3 then ((spec_l1Clamp.f (wrap64 (((rd_T67 x3_1 t122).f2) + ((rd_T67 l0 x4_1).f2)))).bind fun t125 => (spec_Shrink.l0 kj5 l0 (x3_1.set (t122 : Int).toNat (⟨(rd_T67 x3_1 t122).f0, (rd_T67 x3_1 t122).f1, t125⟩ : S67)) (wrap64 (x4_1 + 1)))) else (if x3_1.length < 5864062014805 then (spec_Shrink.l0 kj5 l0 (x3_1 ++ [(⟨((rd_T67 l0 x4_1).f0), ((rd_T67 l0 x4_1).f1), ((rd_T67 l0 x4_1).f2)⟩ : S67)]) (wrap64 (x4_1 + 1))) else (none))) else (if x3_1.length < 5864062014805 then (spec_Shrink.l0 kj5 l0 (x3_1 ++ [(⟨((rd_T67 l0 x4_1).f0), ((rd_T67 l0 x4_1).f1), ((rd_T67 l0 x4_1).f2)⟩ : S67)]) (wrap64 (x4_1 + 1))) else (none))) else (none)) else (none)) else (if x3_1.length < 5864062014805 then (spec_Shrink.l0 kj5 l0 (x3_1 ++ [(⟨((rd_T67 l0 x4_1).f0), ((rd_T67 l0 x4_1).f1), ((rd_T67 l0 x4_1).f2)⟩ : S67)]) (wrap64 (x4_1 + 1))) else (none)))) = some r := by rw [if_neg (show ¬ (false = true) by decide)] at H; exact H
        clear H
        have H := H1
        clear H1
        replace H := Option.bind_eq_some_iff.mp H
        obtain ⟨t122, A230, H⟩ := H
        replace H : (if t122 ≥ 0 then (if 0 ≤ t122 then (if t122 < (x3_1.length : Int) then (if ((rd_T67 x3_1 t122).f0) = 1 then (if ((rd_T67 l0 x4_1).f0) = 3 then ((spec_l1Clamp.f (wrap64 (((rd_T67 x3_1 t122).f2) + ((rd_T67 l0 x4_1).f2)))).bind fun t125 => (spec_Shrink.l0 kj5 l0 (x3_1.set (t122 : Int).toNat (⟨(rd_T67 x3_1 t122).f0, (rd_T67 x3_1 t122).f1, t125⟩ : S67)) (wrap64 (x4_1 + 1)))) else (if x3_1.length < 5864062014805 then (spec_Shrink.l0 kj5 l0 (x3_1 ++ [(⟨((rd_T67 l0 x4_1).f0), ((rd_T67 l0 x4_1).f1), ((rd_T67 l0 x4_1).f2)⟩ : S67)]) (wrap64 (x4_1 + 1))) else (none))) else (if x3_1.length < 5864062014805 then (spec_Shrink.l0 kj5 l0 (x3_1 ++ [(⟨((rd_T67 l0 x4_1).f0), ((rd_T67 l0 x4_1).f1), ((rd_T67 l0 x4_1).f2)⟩ : S67)]) (wrap64 (x4_1 + 1))) else (none))) else (none)) else (none)) else (if x3_1.length < 5864062014805 then (spec_Shrink.l0 kj5 l0 (x3_1 ++ [(⟨((rd_T67 l0 x4_1).f0), ((rd_T67 l0 x4_1).f1), ((rd_T67 l0 x4_1).f2)⟩ : S67)]) (wrap64 (x4_1 + 1))) else (none))) = some r := H
        have A23 := q_ A230
        clear A230
        by_cases c24 : t122 ≥ 0
        ·rw [if_pos c24] at H
         have c24b0 : decide (0 ≤ t122) = true := decide_eq_true c24
         clear c24
         by_cases c25 : 0 ≤ t122
         ·rw [if_pos c25] at H
          have c25b0 : decide (0 ≤ t122) = true := decide_eq_true c25
          clear c25
          by_cases c26 : t122 < (x3_1.length : Int)
          ·rw [if_pos c26] at H
           have c26b0 : decide (t122 < (x3_1.length : Int)) = true := decide_eq_true c26
           clear c26
           by_cases c27 : ((rd_T67 x3_1 t122).f0) = 1
           ·rw [if_pos c27] at H
            have c27b0 : (((rd_T67 x3_1 t122).f0) == 1) = true := beq_iff_eq.mpr c27
            have c27b1 : (((rd_T67 x3_1 t122).f0) != 1) = false := bne_eq_false_iff_eq.mpr c27
            clear c27
            by_cases c28 : ((rd_T67 l0 x4_1).f0) = 3
            ·rw [if_pos c28] at H
             have c28b0 : (((rd_T67 l0 x4_1).f0) == 3) = true := beq_iff_eq.mpr c28
             have c28b1 : (((rd_T67 l0 x4_1).f0) != 3) = false := bne_eq_false_iff_eq.mpr c28
             clear c28
             replace H := Option.bind_eq_some_iff.mp H
             obtain ⟨t125, A290, H⟩ := H
             replace H : (spec_Shrink.l0 kj5 l0 (x3_1.set (t122 : Int).toNat (⟨(rd_T67 x3_1 t122).f0, (rd_T67 x3_1 t122).f1, t125⟩ : S67)) (wrap64 (x4_1 + 1))) = some r := H
             have A29 := q_ A290
             clear A290
             obtain ⟨y126, hy126⟩ : ∃ y_ : List (S67), y_ = (x3_1.set (t122 : Int).toNat (⟨(rd_T67 x3_1 t122).f0, (rd_T67 x3_1 t122).f1, t125⟩ : S67)) := ⟨_, rfl⟩
             replace H : (spec_Shrink.l0 kj5 l0 y126 (wrap64 (x4_1 + 1))) = some r := by first | (rw [hy126]; with_reducible exact H) | (have H2_ := (Option.bind_some _ _).symm.trans H; rw [hy126]; with_reducible exact H2_) | (have H2_ := (Option.bind_some _ _).symm.trans H; with_reducible exact H2_) | with_reducible exact H | (rw [hy126]; exact H) | exact H
             have Ny126 := q_ hy126
             clear hy126
             have H' := q_ H
             clear H
             obtain ⟨hcz31_0, hcz31_1, hcz31_2, hfz31_0, hfz31_1, hfz31_2⟩ := cs3_ BK119.out
             obtain ⟨Ao32, co32, eo32⟩ := Kd.R_slice HO_3.out
             subst eo32
             try go_wp2_with (first | ((with_reducible refine gate_callee (f := 92) rfl ?_); refine goesL_ (some 34) rfl rfl Try.func92 (by kernel_rfl) rfl #[.slice Ao32 x3_1.length co32, .int .i64 ((rd_T67 l0 x4_1).f1)] rfl z1_ ?_; (with_reducible refine (spec_l1First.calls kj5 _ _ x3_1 ((rd_T67 l0 x4_1).f1) t122 _ ?side1 ?side2 A23.out).mono ?_); (case side1 => exact z103_); (case side2 => exact (Kd.R_reads' HO_3.out).2.1); rintro e w' ⟨rfl, ⟨nd, rfl⟩⟩; refine ⟨_, rfl, ?_⟩; (try (rw [drewN_self wc]; generalize hq_ : World.drewN wc _ = wc; have n0_ : Aside0 (Kd.R k67 67 wc w.heap.size (fun k_ => k_ ≠ gb119) (.slice Ao32 x3_1.length co32) x3_1) := ⟨by rw [← hq_]; exact z8_⟩; have n1_ : Aside0 (wc.heap[gb119]? = some (.cells #[.int .i64 ((rd_T67 l0 x4_1).f0), .int .i64 ((rd_T67 l0 x4_1).f1), .int .i64 ((rd_T67 l0 x4_1).f2)] 67 (0, 0))) := ⟨by rw [← hq_]; exact z30_⟩; have n2_ : Aside0 (Below w.heap.size w wc) := ⟨by rw [← hq_]; exact z10_⟩; clear HO_3 BK119 HB hq_; have HO_3 := n0_; have BK119 := n1_; have HB := n2_; clear n0_ n1_ n2_)); obtain ⟨hcq119_0, hcq119_1, hcq119_2, hfq119_0, hfq119_1, hfq119_2⟩ := cs3_ BK119.out; have p123 : 0 ≤ (t122 : Int) := of_decide_eq_true z2_; have q123 : t122 < (x3_1.length : Int) := of_decide_eq_true z2_; obtain ⟨ad123, e123, hx123_0, hx123_1, hx123_2⟩ := at_T67 (Kd.R_reads' HO_3.out).2.2 t122 p123 q123; cases e123; replace p123 := eq_true p123; replace q123 := eq_true q123))
             have n0_ := q_ (Kd.R_drew HO_3.out)
             have n1_ := q_ (blk_drew BK119.out)
             have n2_ := q_ (below_drew1 HB.out)
             clear HO_3
             clear BK119
             clear HB
             have HO_3 := n0_
             have BK119 := n1_
             have HB := n2_
             clear n0_ n1_ n2_
             have p124 : 0 ≤ (t122 : Int) := of_decide_eq_true z2_
             have q124 : t122 < (x3_1.length : Int) := of_decide_eq_true z2_
             obtain ⟨ad124, e124, hx124_0, hx124_1, hx124_2⟩ := at_T67 (Kd.R_reads' HO_3.out).2.2 t122 p124 q124
             obtain rfl : ad123 = ad124 := (by injection e124)
             replace p124 := eq_true p124
             replace q124 := eq_true q124
             refine start_ (n := 14) (S := fun w' => w'.cell? ⟨gb119, 0, none⟩ = some (.int .i64 ((rd_T67 l0 x4_1).f0)) ∧ w'.cell? ⟨gb119, 1, none⟩ = some (.int .i64 ((rd_T67 l0 x4_1).f1)) ∧ w'.cell? ⟨gb119, 2, none⟩ = some (.int .i64 ((rd_T67 l0 x4_1).f2)) ∧ w'.cell? (ad123.add ((t122).toNat * 3)) = some (.int .i64 ((rd_T67 x3_1 t122).f0)) ∧ w'.cell? ⟨(ad123.add ((t122).toNat * 3)).block, (ad123.add ((t122).toNat * 3)).off + 1, none⟩ = some (.int .i64 ((rd_T67 x3_1 t122).f1)) ∧ w'.cell? ⟨(ad123.add ((t122).toNat * 3)).block, (ad123.add ((t122).toNat * 3)).off + 2, none⟩ = some (.int .i64 ((rd_T67 x3_1 t122).f2))) (ds := [13]) #[false, false, false, false, false, false, false, false, false, false, false, false, false, false] (by kernel_rfl) rfl rfl ⟨(blk_cell BK119.out 0).trans rfl, (blk_cell BK119.out 1).trans rfl, (blk_cell BK119.out 2).trans rfl, hx124_0, hx124_1, hx124_2⟩ (fun hHeld => ?_); refine with_tabW spec_Shrink.tab9 spec_Shrink.bits9 (fun HT_ HW_ => ?_)
             generalize wc.drew = w33 at HO_3 BK119 HB hx124_0 hx124_1 hx124_2 hHeld ⊢
             refine pure_ (i := 0) (N := some 50) (v := ?_) (a' := ?_) #[true, false, false, false, false, false, false, false, false, false, false, false, false, false] rfl rfl (any_of HT_.out (by kernel_rfl)) (fun _ _ _ h => h) (Or.inl ⟨by rfl, ?_⟩) ?_ ?_
             rotate_left
             ·intro w'
              go_simp
              with_reducible rfl
             rotate_left
             ·simp only [Act.put, List.setIfInBounds_toArray, List.set_cons_zero, List.set_cons_succ, i64_w, i32_w]
              rfl
             refine pure_ (i := 1) (N := some 51) (v := ?_) (a' := ?_) #[true, true, false, false, false, false, false, false, false, false, false, false, false, false] rfl rfl (any_of HT_.out (by kernel_rfl)) (fun _ _ _ h => h) (Or.inl ⟨by rfl, ?_⟩) ?_ ?_
             rotate_left
             ·intro w'
              go_simp
              with_reducible rfl
             rotate_left
             ·simp only [Act.put, List.setIfInBounds_toArray, List.set_cons_zero, List.set_cons_succ, i64_w, i32_w]
              rfl
             refine pure_ (i := 2) (N := some 52) (v := ?_) (a' := ?_) #[true, true, true, false, false, false, false, false, false, false, false, false, false, false] rfl rfl (any_of HT_.out (by kernel_rfl)) (fun _ _ _ h => h) (Or.inl ⟨by rfl, ?_⟩) ?_ ?_
             rotate_left
             ·intro w'
              go_simp
              with_reducible rfl
             rotate_left
             ·simp only [Act.put, List.setIfInBounds_toArray, List.set_cons_zero, List.set_cons_succ, i64_w, i32_w]
              rfl
             refine pure_ (i := 3) (N := some 53) (v := ?_) (a' := ?_) #[true, true, true, true, false, false, false, false, false, false, false, false, false, false] rfl rfl (any_of HT_.out (by kernel_rfl)) (fun _ _ _ h => h) (Or.inl ⟨by rfl, ?_⟩) ?_ ?_
             rotate_left
             ·intro w'
              go_simp
              with_reducible rfl
             rotate_left
             ·simp only [Act.put, List.setIfInBounds_toArray, List.set_cons_zero, List.set_cons_succ, i64_w, i32_w]
              rfl
             refine pure_ (i := 4) (N := some 54) (v := ?_) (a' := ?_) #[true, true, true, true, true, false, false, false, false, false, false, false, false, false] rfl rfl (any_of HT_.out (by kernel_rfl)) (fun _ _ _ h => h) (Or.inl ⟨by rfl, ?_⟩) ?_ ?_
             rotate_left
             ·intro w'
              go_simp
              with_reducible rfl
             rotate_left
             ·simp only [Act.put, List.setIfInBounds_toArray, List.set_cons_zero, List.set_cons_succ, i64_w, i32_w]
              rfl
             refine pure_ (i := 5) (N := some 55) (v := ?_) (a' := ?_) #[true, true, true, true, true, true, false, false, false, false, false, false, false, false] rfl rfl (any_of HT_.out (by kernel_rfl)) (fun _ _ _ h => h) (Or.inl ⟨by rfl, ?_⟩) ?_ ?_
             rotate_left
             ·intro w'
              go_simp
              with_reducible rfl
             rotate_left
             ·simp only [Act.put, List.setIfInBounds_toArray, List.set_cons_zero, List.set_cons_succ, i64_w, i32_w]
              rfl
             refine pure_ (i := 7) (N := some 57) (v := ?_) (a' := ?_) #[true, true, true, true, true, true, false, true, false, false, false, false, false, false] rfl rfl (any_of HT_.out (by kernel_rfl)) (fun _ _ _ h => h) (Or.inl ⟨by rfl, ?_⟩) ?_ ?_
             rotate_left
             ·intro w'
              go_simp
              with_reducible rfl
             rotate_left
             ·simp only [Act.put, List.setIfInBounds_toArray, List.set_cons_zero, List.set_cons_succ, i64_w, i32_w]
              rfl
             refine take_ (i := 6) (N := some 56) (v := ?_) (a' := ?_) #[true, true, true, true, true, true, true, true, false, false, false, false, false, false] rfl rfl (take_ofW HT_.out HW_.out (by kernel_rfl)) (fun _ _ _ h => h) (Or.inl ⟨by rfl, ?_⟩) hHeld ?_ ?_
             rotate_left
             ·rintro w' ⟨s0, s1, s2, s3, s4, s5⟩
              go_simp
              with_reducible rfl
             rotate_left
             ·simp only [Act.put, List.setIfInBounds_toArray, List.set_cons_zero, List.set_cons_succ, i64_w, i32_w]
              rfl
             refine take_ (i := 8) (N := some 58) (v := ?_) (a' := ?_) #[true, true, true, true, true, true, true, true, true, false, false, false, false, false] rfl rfl (take_ofW HT_.out HW_.out (by kernel_rfl)) (fun _ _ _ h => h) (Or.inl ⟨by rfl, ?_⟩) hHeld ?_ ?_
             rotate_left
             ·rintro w' ⟨s0, s1, s2, s3, s4, s5⟩
              go_simp
              with_reducible rfl
             rotate_left
             ·simp only [Act.put, List.setIfInBounds_toArray, List.set_cons_zero, List.set_cons_succ, i64_w, i32_w]
              rfl
             refine pure_ (i := 9) (N := some 59) (v := ?_) (a' := ?_) #[true, true, true, true, true, true, true, true, true, true, false, false, false, false] rfl rfl (any_of HT_.out (by kernel_rfl)) (fun _ _ _ h => h) (Or.inl ⟨by rfl, ?_⟩) ?_ ?_
             rotate_left
             ·intro w'
              go_simp
              with_reducible rfl
             rotate_left
             ·simp only [Act.put, List.setIfInBounds_toArray, List.set_cons_zero, List.set_cons_succ, i64_w, i32_w]
              rfl
             refine one_ (i := 10) (N := some 60) #[true, true, true, true, true, true, true, true, true, true, true, false, false, false] rfl rfl (one_of HT_.out (by kernel_rfl)) (by decide) (fun K hK => ?_)
             refine goes_ Try.func93 (by kernel_rfl) rfl #[.int .i64 (wrap64 (((rd_T67 x3_1 t122).f2) + ((rd_T67 l0 x4_1).f2)))] (by rfl) rfl rfl z1_ ?_
             with_reducible refine (spec_l1Clamp.calls (wrap64 (((rd_T67 x3_1 t122).f2) + ((rd_T67 l0 x4_1).f2))) t125 _ A29.out).mono ?_
             rintro e w' ⟨rfl, ⟨nd, rfl⟩⟩
             refine ⟨_, rfl, ?_⟩
             have p30 : 0 ≤ (t122 : Int) := of_decide_eq_true z2_
             have q30 : (t122 : Int) < ((x3_1.length : Int) : Int) := of_decide_eq_true z2_
             obtain ⟨go30, co30, eo30, gb30, gl30, cl30, HG30⟩ := Kd.R_form HO_3.out (by omega)
             (first | cases eo30 | (injection eo30 with ea_ en_ ec_; (first | subst ea_ | (injection ea_ with ea_; subst ea_)); subst ec_; clear en_))
             have GB30 := q_ gb30
             have GG30 := q_ HG30
             clear gb30 gl30 HG30
             (first | simp only [add_plain] at hx123_0 | skip)
             (first | simp only [add_plain] at hx123_1 | skip)
             (first | simp only [add_plain] at hx123_2 | skip)
             (first | simp only [add_plain] at hx124_0 | skip)
             (first | simp only [add_plain] at hx124_1 | skip)
             (first | simp only [add_plain] at hx124_2 | skip)
             obtain ⟨ce30, hcl30, hM30, hcc30, hfr30⟩ := Kd.R_elem HO_3.out z67 (t122 : Int) p30 q30
             obtain rfl := k67_openM hM30
             have hx30_0 : World.cell? _ ⟨go30, (t122 : Int).toNat * 3, none⟩ = some (.int .i64 ((rd_T67 x3_1 t122).f0)) := hcc30 0 _ rfl
             have hx30_1 : World.cell? _ ⟨go30, (t122 : Int).toNat * 3 + 1, none⟩ = some (.int .i64 ((rd_T67 x3_1 t122).f1)) := hcc30 1 _ rfl
             have hx30_2 : World.cell? _ ⟨go30, (t122 : Int).toNat * 3 + 2, none⟩ = some (.int .i64 ((rd_T67 x3_1 t122).f2)) := hcc30 2 _ rfl
             have hf30_0 : World.frozen? _ ⟨go30, (t122 : Int).toNat * 3, none⟩ = false := hfr30 0
             have hf30_1 : World.frozen? _ ⟨go30, (t122 : Int).toNat * 3 + 1, none⟩ = false := hfr30 1
             have hf30_2 : World.frozen? _ ⟨go30, (t122 : Int).toNat * 3 + 2, none⟩ = false := hfr30 2
             clear hcl30 hcc30 hfr30 hM30
             replace p30 := eq_true p30
             replace q30 := eq_true q30
             obtain ⟨ce34, hcl34, hM34, hcc34, hfr34⟩ := Kd.R_elem HO_3.out z67 (t122 : Int) (of_decide_eq_true z2_) z75_
             obtain rfl := k67_openM hM34
             have HP34 := (Kd.R_seg HO_3.out (t122 : Int) (of_decide_eq_true z2_) z75_ (seg := [.int .i64 t125]) (j := 2) hcl34 hcc34 (show 3 ≤ 3 from by decide) (x' := (⟨(rd_T67 x3_1 t122).f0, (rd_T67 x3_1 t122).f1, t125⟩ : S67)) (k67_mkM _ _ _ (⟨(rd_T67 x3_1 t122).f0, (rd_T67 x3_1 t122).f1, t125⟩ : S67) ) (fun _ hk => hk)).1
             rw [← Ny126.out] at HP34
             have HQ34 := q_ HP34
             clear hcl34 hcc34 hfr34 hM34 HP34
             refine hK.out _ _ ⟨(blk_cell BK119.out 0).trans rfl, (blk_cell BK119.out 1).trans rfl, (blk_cell BK119.out 2).trans rfl, hHeld.2.2.2.1, hHeld.2.2.2.2.1, hHeld.2.2.2.2.2⟩ (fun hHeld => ?_)
             clear hK K
             refine norm_ (a' := ?_) ?_ ?_
             rotate_left
             ·show Act.put _ (some 60) _ = _
              simp only [Act.put, List.setIfInBounds_toArray, List.set_cons_zero, List.set_cons_succ, i64_w, i32_w]
              rfl
             refine pure_ (i := 11) (N := some 61) (v := ?_) (a' := ?_) #[true, true, true, true, true, true, true, true, true, true, true, true, false, false] rfl rfl (any_of HT_.out (by kernel_rfl)) (fun _ _ _ h => h) (Or.inl ⟨by rfl, ?_⟩) ?_ ?_
             rotate_left
             ·intro w'
              go_simp
              with_reducible rfl
             rotate_left
             ·simp only [Act.put, List.setIfInBounds_toArray, List.set_cons_zero, List.set_cons_succ, i64_w, i32_w]
              rfl
             refine pure_ (i := 12) (N := some 62) (v := ?_) (a' := ?_) #[true, true, true, true, true, true, true, true, true, true, true, true, true, false] rfl rfl (any_of HT_.out (by kernel_rfl)) (fun _ _ _ h => h) (Or.inl ⟨by rfl, ?_⟩) ?_ ?_
             rotate_left
             ·intro w'
              go_simp
              with_reducible rfl
             rotate_left
             ·simp only [Act.put, List.setIfInBounds_toArray, List.set_cons_zero, List.set_cons_succ, i64_w, i32_w]
              rfl
             refine last_ (i := 13) (N := none) #[true, true, true, true, true, true, true, true, true, true, true, true, true, true] rfl rfl (one_of HT_.out (by kernel_rfl)) (by decide) (fun K hK => ?_)
             refine skip_ (w1 := ?_) (by rfl) rfl ?_ ?_
             rotate_left
             ·go_simp
              rfl
             refine hK.out _ _ ?_
             clear hK K
             refine done_ (done_of HT_.out (by kernel_rfl)) ?_
             try go_wp2
             go_roundg kj5
             case measure => have := HK1.out; have := HJ5.out; omega
             case rel => exact ⟨(y126), (wrap64 (x4_1 + 1)), z9_, H', ⟨z64_⟩, ⟨by (with_reducible repeat (first | apply Kd.R_alloc | apply Kd.R_drewN | apply Kd.R_drew)); exact Kd.R_mono HQ34.out (fun _ hk => trivial)⟩, ⟨by repeat (first | (with_reducible first | exact HB.out | apply below_alloc | apply pw_below_drewN | apply below_drew1 | refine below_set ?_ GB30.out | refine below_set ?_ GE119.out) | exact HB.out)⟩⟩
            ·rw [if_neg c28] at H
             have c28b0 : (((rd_T67 l0 x4_1).f0) == 3) = false := beq_eq_false_iff_ne.mpr c28
             have c28b1 : (((rd_T67 l0 x4_1).f0) != 3) = true := bne_iff_ne.mpr c28
             by_cases c35 : x3_1.length < 5864062014805
             ·rw [if_pos c35] at H
              have LMc35 := q_ c35
              clear c35
              obtain ⟨y127, hy127⟩ : ∃ y_ : List (S67), y_ = (x3_1 ++ [(⟨((rd_T67 l0 x4_1).f0), ((rd_T67 l0 x4_1).f1), ((rd_T67 l0 x4_1).f2)⟩ : S67)]) := ⟨_, rfl⟩
              replace H : (spec_Shrink.l0 kj5 l0 y127 (wrap64 (x4_1 + 1))) = some r := by first | (rw [hy127]; with_reducible exact H) | (have H2_ := (Option.bind_some _ _).symm.trans H; rw [hy127]; with_reducible exact H2_) | (have H2_ := (Option.bind_some _ _).symm.trans H; with_reducible exact H2_) | with_reducible exact H | (rw [hy127]; exact H) | exact H
              have Ny127 := q_ hy127
              clear hy127
              have H' := q_ H
              clear H
              obtain ⟨hcz36_0, hcz36_1, hcz36_2, hfz36_0, hfz36_1, hfz36_2⟩ := cs3_ BK119.out
              obtain ⟨Ao37, co37, eo37⟩ := Kd.R_slice HO_3.out
              subst eo37
              go_wp2_with (first | ((with_reducible refine gate_callee (f := 92) rfl ?_); refine goesL_ (some 34) rfl rfl Try.func92 (by kernel_rfl) rfl #[.slice Ao37 x3_1.length co37, .int .i64 ((rd_T67 l0 x4_1).f1)] rfl z1_ ?_; (with_reducible refine (spec_l1First.calls kj5 _ _ x3_1 ((rd_T67 l0 x4_1).f1) t122 _ ?side1 ?side2 A23.out).mono ?_); (case side1 => exact z103_); (case side2 => exact (Kd.R_reads' HO_3.out).2.1); rintro e w' ⟨rfl, ⟨nd, rfl⟩⟩; refine ⟨_, rfl, ?_⟩; have p123 : 0 ≤ (t122 : Int) := of_decide_eq_true z2_; have q123 : t122 < (x3_1.length : Int) := of_decide_eq_true z2_; obtain ⟨ad123, e123, hx123_0, hx123_1, hx123_2⟩ := at_T67 (Kd.R_reads' HO_3.out).2.2 t122 p123 q123; cases e123; replace p123 := eq_true p123; replace q123 := eq_true q123) | ((with_reducible refine gate_builtin (b := .append) (xs := #[.tmp 63, .tmp 65]) rfl ?_); at_builtin; refine Kd.R_append k67 (w0 := w) w.heap.size rfl (.tmp 63) (.tmp 65) 24 67 (.agg #[(.int .i64 0), (.int .i64 0), (.int .i64 0)]) 24 rfl Try.underlying24 info67 rfl (by decide) (by omega) (.slice (some ad123) x3_1.length co37) x3_1 (⟨((rd_T67 l0 x4_1).f0), ((rd_T67 l0 x4_1).f1), ((rd_T67 l0 x4_1).f2)⟩ : S67) [.int .i64 ((rd_T67 l0 x4_1).f0), .int .i64 ((rd_T67 l0 x4_1).f1), .int .i64 ((rd_T67 l0 x4_1).f2)] (fun k_ => k_ ≠ gb119) (fun _ => False) rfl rfl ?aP (fun _ hk => hk.elim) ?aF ?aO ?aB ?aS ?aL ?_; (case aP => exact z111_); (case aB => exact z10_); (case aF => exact z106_); (case aO => exact z8_); (case aS => exact (below_size z10_)); (case aL => have := LMc35.out; omega); intro v128 w38 ho hb hg hat; rw [← Ny127.out] at ho; have n0_ := q_ (blk_grown (g := gb119) (o := .cells #[.int .i64 ((rd_T67 l0 x4_1).f0), .int .i64 ((rd_T67 l0 x4_1).f1), .int .i64 ((rd_T67 l0 x4_1).f2)] 67 (0, 0)) z30_ hg (Kd.R_away HO_3.out (fun _ hk => hk))); have n1_ := q_ (hb); have n2_ := q_ (ho); clear BK119; clear HB; clear HO_3; have BK119 := n0_; have HB := n1_; have HO129 := n2_; clear n0_ n1_ n2_; clear ho hb hg hat))
              go_roundg kj5
              case measure => have := HK1.out; have := HJ5.out; omega
              case rel => exact ⟨(y127), (wrap64 (x4_1 + 1)), z9_, H', ⟨z64_⟩, ⟨by (with_reducible repeat (first | apply Kd.R_alloc | apply Kd.R_drewN | apply Kd.R_drew)); exact Kd.R_mono HO129.out (fun _ hk => trivial)⟩, ⟨z10_⟩⟩
             ·rw [if_neg c35] at H
              exact absurd H (by simp)
           ·rw [if_neg c27] at H
            have c27b0 : (((rd_T67 x3_1 t122).f0) == 1) = false := beq_eq_false_iff_ne.mpr c27
            have c27b1 : (((rd_T67 x3_1 t122).f0) != 1) = true := bne_iff_ne.mpr c27
            by_cases c39 : x3_1.length < 5864062014805
            ·rw [if_pos c39] at H
             have LMc39 := q_ c39
             clear c39
             obtain ⟨y130, hy130⟩ : ∃ y_ : List (S67), y_ = (x3_1 ++ [(⟨((rd_T67 l0 x4_1).f0), ((rd_T67 l0 x4_1).f1), ((rd_T67 l0 x4_1).f2)⟩ : S67)]) := ⟨_, rfl⟩
             replace H : (spec_Shrink.l0 kj5 l0 y130 (wrap64 (x4_1 + 1))) = some r := by first | (rw [hy130]; with_reducible exact H) | (have H2_ := (Option.bind_some _ _).symm.trans H; rw [hy130]; with_reducible exact H2_) | (have H2_ := (Option.bind_some _ _).symm.trans H; with_reducible exact H2_) | with_reducible exact H | (rw [hy130]; exact H) | exact H
             have Ny130 := q_ hy130
             clear hy130
             have H' := q_ H
             clear H
             obtain ⟨hcz40_0, hcz40_1, hcz40_2, hfz40_0, hfz40_1, hfz40_2⟩ := cs3_ BK119.out
             obtain ⟨Ao41, co41, eo41⟩ := Kd.R_slice HO_3.out
             subst eo41
             go_wp2_with (first | ((with_reducible refine gate_callee (f := 92) rfl ?_); refine goesL_ (some 34) rfl rfl Try.func92 (by kernel_rfl) rfl #[.slice Ao41 x3_1.length co41, .int .i64 ((rd_T67 l0 x4_1).f1)] rfl z1_ ?_; (with_reducible refine (spec_l1First.calls kj5 _ _ x3_1 ((rd_T67 l0 x4_1).f1) t122 _ ?side1 ?side2 A23.out).mono ?_); (case side1 => exact z103_); (case side2 => exact (Kd.R_reads' HO_3.out).2.1); rintro e w' ⟨rfl, ⟨nd, rfl⟩⟩; refine ⟨_, rfl, ?_⟩; have p123 : 0 ≤ (t122 : Int) := of_decide_eq_true z2_; have q123 : t122 < (x3_1.length : Int) := of_decide_eq_true z2_; obtain ⟨ad123, e123, hx123_0, hx123_1, hx123_2⟩ := at_T67 (Kd.R_reads' HO_3.out).2.2 t122 p123 q123; cases e123; replace p123 := eq_true p123; replace q123 := eq_true q123) | ((with_reducible refine gate_builtin (b := .append) (xs := #[.tmp 63, .tmp 65]) rfl ?_); at_builtin; refine Kd.R_append k67 (w0 := w) w.heap.size rfl (.tmp 63) (.tmp 65) 24 67 (.agg #[(.int .i64 0), (.int .i64 0), (.int .i64 0)]) 24 rfl Try.underlying24 info67 rfl (by decide) (by omega) (.slice (some ad123) x3_1.length co41) x3_1 (⟨((rd_T67 l0 x4_1).f0), ((rd_T67 l0 x4_1).f1), ((rd_T67 l0 x4_1).f2)⟩ : S67) [.int .i64 ((rd_T67 l0 x4_1).f0), .int .i64 ((rd_T67 l0 x4_1).f1), .int .i64 ((rd_T67 l0 x4_1).f2)] (fun k_ => k_ ≠ gb119) (fun _ => False) rfl rfl ?aP (fun _ hk => hk.elim) ?aF ?aO ?aB ?aS ?aL ?_; (case aP => exact z111_); (case aB => exact z10_); (case aF => exact z106_); (case aO => exact z8_); (case aS => exact (below_size z10_)); (case aL => have := LMc39.out; omega); intro v131 w42 ho hb hg hat; rw [← Ny130.out] at ho; have n0_ := q_ (blk_grown (g := gb119) (o := .cells #[.int .i64 ((rd_T67 l0 x4_1).f0), .int .i64 ((rd_T67 l0 x4_1).f1), .int .i64 ((rd_T67 l0 x4_1).f2)] 67 (0, 0)) z30_ hg (Kd.R_away HO_3.out (fun _ hk => hk))); have n1_ := q_ (hb); have n2_ := q_ (ho); clear BK119; clear HB; clear HO_3; have BK119 := n0_; have HB := n1_; have HO132 := n2_; clear n0_ n1_ n2_; clear ho hb hg hat))
             go_roundg kj5
             case measure => have := HK1.out; have := HJ5.out; omega
             case rel => exact ⟨(y130), (wrap64 (x4_1 + 1)), z9_, H', ⟨z64_⟩, ⟨by (with_reducible repeat (first | apply Kd.R_alloc | apply Kd.R_drewN | apply Kd.R_drew)); exact Kd.R_mono HO132.out (fun _ hk => trivial)⟩, ⟨z10_⟩⟩
            ·rw [if_neg c39] at H
             exact absurd H (by simp)
          ·rw [if_neg c26] at H
           exact absurd H (by simp)
         ·rw [if_neg c25] at H
          exact absurd H (by simp)
        ·rw [if_neg c24] at H
         have c24b0 : decide (0 ≤ t122) = false := decide_eq_false c24
         clear c24
         by_cases c43 : x3_1.length < 5864062014805
         ·rw [if_pos c43] at H
          have LMc43 := q_ c43
          clear c43
          obtain ⟨y133, hy133⟩ : ∃ y_ : List (S67), y_ = (x3_1 ++ [(⟨((rd_T67 l0 x4_1).f0), ((rd_T67 l0 x4_1).f1), ((rd_T67 l0 x4_1).f2)⟩ : S67)]) := ⟨_, rfl⟩
          replace H : (spec_Shrink.l0 kj5 l0 y133 (wrap64 (x4_1 + 1))) = some r := by first | (rw [hy133]; with_reducible exact H) | (have H2_ := (Option.bind_some _ _).symm.trans H; rw [hy133]; with_reducible exact H2_) | (have H2_ := (Option.bind_some _ _).symm.trans H; with_reducible exact H2_) | with_reducible exact H | (rw [hy133]; exact H) | exact H
          have Ny133 := q_ hy133
          clear hy133
          have H' := q_ H
          clear H
          obtain ⟨hcz44_0, hcz44_1, hcz44_2, hfz44_0, hfz44_1, hfz44_2⟩ := cs3_ BK119.out
          obtain ⟨Ao45, co45, eo45⟩ := Kd.R_slice HO_3.out
          subst eo45
          go_wp2_with (first | ((with_reducible refine gate_callee (f := 92) rfl ?_); refine goesL_ (some 34) rfl rfl Try.func92 (by kernel_rfl) rfl #[.slice Ao45 x3_1.length co45, .int .i64 ((rd_T67 l0 x4_1).f1)] rfl z1_ ?_; (with_reducible refine (spec_l1First.calls kj5 _ _ x3_1 ((rd_T67 l0 x4_1).f1) t122 _ ?side1 ?side2 A23.out).mono ?_); (case side1 => exact z103_); (case side2 => exact (Kd.R_reads' HO_3.out).2.1); rintro e w' ⟨rfl, ⟨nd, rfl⟩⟩; refine ⟨_, rfl, ?_⟩) | ((with_reducible refine gate_builtin (b := .append) (xs := #[.tmp 63, .tmp 65]) rfl ?_); at_builtin; refine Kd.R_append k67 (w0 := w) w.heap.size rfl (.tmp 63) (.tmp 65) 24 67 (.agg #[(.int .i64 0), (.int .i64 0), (.int .i64 0)]) 24 rfl Try.underlying24 info67 rfl (by decide) (by omega) (.slice Ao45 x3_1.length co45) x3_1 (⟨((rd_T67 l0 x4_1).f0), ((rd_T67 l0 x4_1).f1), ((rd_T67 l0 x4_1).f2)⟩ : S67) [.int .i64 ((rd_T67 l0 x4_1).f0), .int .i64 ((rd_T67 l0 x4_1).f1), .int .i64 ((rd_T67 l0 x4_1).f2)] (fun k_ => k_ ≠ gb119) (fun _ => False) rfl rfl ?aP (fun _ hk => hk.elim) ?aF ?aO ?aB ?aS ?aL ?_; (case aP => exact z111_); (case aB => exact z10_); (case aF => exact z106_); (case aO => exact z8_); (case aS => exact (below_size z10_)); (case aL => have := LMc43.out; omega); intro v134 w46 ho hb hg hat; rw [← Ny133.out] at ho; have n0_ := q_ (blk_grown (g := gb119) (o := .cells #[.int .i64 ((rd_T67 l0 x4_1).f0), .int .i64 ((rd_T67 l0 x4_1).f1), .int .i64 ((rd_T67 l0 x4_1).f2)] 67 (0, 0)) z30_ hg (Kd.R_away HO_3.out (fun _ hk => hk))); have n1_ := q_ (hb); have n2_ := q_ (ho); clear BK119; clear HB; clear HO_3; have BK119 := n0_; have HB := n1_; have HO135 := n2_; clear n0_ n1_ n2_; clear ho hb hg hat))
          go_roundg kj5
          case measure => have := HK1.out; have := HJ5.out; omega
          case rel => exact ⟨(y133), (wrap64 (x4_1 + 1)), z9_, H', ⟨z64_⟩, ⟨by (with_reducible repeat (first | apply Kd.R_alloc | apply Kd.R_drewN | apply Kd.R_drew)); exact Kd.R_mono HO135.out (fun _ hk => trivial)⟩, ⟨z10_⟩⟩
         ·rw [if_neg c43] at H
          exact absurd H (by simp)
    ·rw [if_neg c5] at H
     exact absurd H (by simp)
   ·rw [if_neg c4] at H
    have c4b0 : decide (x4_1 < (l0.length : Int)) = false := decide_eq_false c4
    clear c4
    obtain rfl := Option.some.inj H
    go_wp2
    go_ret
    exact ⟨_, z3_, z8_, z0_⟩

/-! ### laws_toMsg: function 50 -/
def laws_toMsg.f (a0_0 : Int) (a0_1 : Int) (a0_2 : Int) : Option (Int × Int × Int) := some (a0_0, a0_1, a0_2)
set_option maxHeartbeats 8000000 in
set_option maxRecDepth 100000 in
theorem laws_toMsg.calls (a0_0 : Int) (a0_1 : Int) (a0_2 : Int) (r1 : Int) (r2 : Int) (r3 : Int) (w : World) (h : laws_toMsg.f a0_0 a0_1 a0_2 = some (r1, r2, r3)) :
  Calls Try.prog 50 #[.agg #[.int .i64 a0_0, .int .i64 a0_1, .int .i64 a0_2]] w fun e w' => e = .returned (.agg #[.int .i64 r1, .int .i64 r2, .int .i64 r3]) ∧ Below w.heap.size w w' := by
 have hu63 := Try.underlying63
 have hu67 := Try.underlying67
 have HB := q_ (Below.refl w.heap.size w)
 have H : (some (a0_0, a0_1, a0_2)) = some (r1, r2, r3) := h
 clear h
 simp only [Option.some.injEq, Prod.mk.injEq] at H
 obtain ⟨rfl, rfl, rfl⟩ := H
 go_enter Try.func50, Try.ntmps50
 go_wp2_with (first | ((with_reducible refine gate_dst (N := 1) rfl ?_); refine box_event ?hg (N := 1) ?hd (cs := #[.int .i64 a0_0, .int .i64 a0_1, .int .i64 a0_2]) (t := 63) ?hr ?_; (case hd => rfl); (case hg => rfl); (case hr => exact z88_); intro gb136 hg w2 hbox hb; have n0_ := q_ (below_step z0_ hb); have n1_ := q_ (hbox); have n2_ := q_ ((z69_ : w.heap.size ≤ gb136)); have n3_ := q_ ((z69_ : w.heap.size ≤ gb136)); clear HB; have HB := n0_; have BK136 := n1_; have GW136 := n2_; have GE136 := n3_; clear n0_ n1_ n2_ n3_; clear hb hbox hg) | ((with_reducible refine gate_dst (N := 2) rfl ?_); refine box_event ?hg (N := 2) ?hd (cs := #[.int .i64 0, .int .i64 0, .int .i64 0]) (t := 67) ?hr ?_; (case hd => rfl); (case hg => rfl); (case hr => exact z88_); intro gb137 hg w3 hbox hb; have n0_ := q_ (blk_below (g := gb136) (o := .cells #[.int .i64 a0_0, .int .i64 a0_1, .int .i64 a0_2] 63 (0, 0)) z39_ hb); have n1_ := q_ (below_step z47_ hb); have n2_ := q_ (hbox); have n3_ := q_ ((by rw [hg]; exact (below_size z47_) : w.heap.size ≤ gb137)); have n4_ := q_ ((by rw [hg]; exact (below_size z47_) : w.heap.size ≤ gb137)); have n5_ := q_ ((z79_ : gb136 ≠ gb137)); have n6_ := q_ ((z80_ : gb137 ≠ gb136)); clear BK136; clear HB; have BK136 := n0_; have HB := n1_; have BK137 := n2_; have GW137 := n3_; have GE137 := n4_; have NB136_137 := n5_; have NB137_136 := n6_; clear n0_ n1_ n2_ n3_ n4_ n5_ n6_; clear hb hbox hg) | ((with_reducible refine gate_dst (N := 3) rfl ?_); refine box_event ?hg (N := 3) ?hd (cs := #[.int .i64 0, .int .i64 0, .int .i64 0]) (t := 67) ?hr ?_; (case hd => rfl); (case hg => rfl); (case hr => exact z88_); intro gb138 hg w4 hbox hb; have n0_ := q_ (blk_below (g := gb136) (o := .cells #[.int .i64 a0_0, .int .i64 a0_1, .int .i64 a0_2] 63 (0, 0)) z39_ hb); have n1_ := q_ (blk_below (g := gb137) (o := .cells #[.int .i64 0, .int .i64 0, .int .i64 0] 67 (0, 0)) z53_ hb); have n2_ := q_ (below_step z42_ hb); have n3_ := q_ (hbox); have n4_ := q_ ((by rw [hg]; exact (below_size z42_) : w.heap.size ≤ gb138)); have n5_ := q_ ((by rw [hg]; exact (below_size z42_) : w.heap.size ≤ gb138)); have n6_ := q_ ((z79_ : gb136 ≠ gb138)); have n7_ := q_ ((z80_ : gb138 ≠ gb136)); have n8_ := q_ ((by rw [hg]; exact Nat.ne_of_lt (blk_lt (g := gb137) (o := .cells #[.int .i64 0, .int .i64 0, .int .i64 0] 67 (0, 0)) z53_) : gb137 ≠ gb138)); have n9_ := q_ ((by rw [hg]; exact Nat.ne_of_gt (blk_lt (g := gb137) (o := .cells #[.int .i64 0, .int .i64 0, .int .i64 0] 67 (0, 0)) z53_) : gb138 ≠ gb137)); clear BK136; clear BK137; clear HB; have BK136 := n0_; have BK137 := n1_; have HB := n2_; have BK138 := n3_; have GW138 := n4_; have GE138 := n5_; have NB136_138 := n6_; have NB138_136 := n7_; have NB137_138 := n8_; have NB138_137 := n9_; clear n0_ n1_ n2_ n3_ n4_ n5_ n6_ n7_ n8_ n9_; clear hb hbox hg; have hnb5 := NB136_137.out; have hnc5 := NB137_136.out; have hnb6 := NB136_138.out; have hnc6 := NB138_136.out; obtain ⟨hcz7_0, hcz7_1, hcz7_2, hfz7_0, hfz7_1, hfz7_2⟩ := cs3_ BK136.out; have hnb8 := NB138_137.out; have hnc8 := NB137_138.out; obtain ⟨hcz9_0, hcz9_1, hcz9_2, hfz9_0, hfz9_1, hfz9_2⟩ := cs3_ BK138.out; obtain ⟨hcz10_0, hcz10_1, hcz10_2, hfz10_0, hfz10_1, hfz10_2⟩ := cs3_ BK137.out))
 refine bodyPost_ret (results_cell_row rfl _ _ gb137 67 #[.int .i64 a0_0, .int .i64 a0_1, .int .i64 a0_2] (0, 0) _ rfl (by (with_reducible repeat (first | refine blk_drewN ?_ _ | refine blk_drew ?_ | refine blk_alloc ?_ _)); refine blk_put (cs := #[.int .i64 a0_0, .int .i64 a0_1, .int .i64 0]) ?_ 2 _ rfl; (with_reducible repeat (first | refine blk_drewN ?_ _ | refine blk_drew ?_ | refine blk_alloc ?_ _)); refine blk_put (cs := #[.int .i64 a0_0, .int .i64 0, .int .i64 0]) ?_ 1 _ rfl; (with_reducible repeat (first | refine blk_drewN ?_ _ | refine blk_drew ?_ | refine blk_alloc ?_ _)); refine blk_put (cs := #[.int .i64 0, .int .i64 0, .int .i64 0]) ?_ 0 _ rfl; (with_reducible repeat (first | refine blk_drewN ?_ _ | refine blk_drew ?_ | refine blk_alloc ?_ _)); refine blk_far ?_ NB137_138.out _; (with_reducible repeat (first | refine blk_drewN ?_ _ | refine blk_drew ?_ | refine blk_alloc ?_ _)); refine blk_far ?_ NB137_138.out _; (with_reducible repeat (first | refine blk_drewN ?_ _ | refine blk_drew ?_ | refine blk_alloc ?_ _)); refine blk_far ?_ NB137_138.out _; (with_reducible repeat (first | refine blk_drewN ?_ _ | refine blk_drew ?_ | refine blk_alloc ?_ _)); exact BK137.out) Try.underlying67 rfl (by kernel_rfl)) rfl ?_
 exact ⟨z3_, by repeat (first | (with_reducible first | exact HB.out | apply below_alloc | apply pw_below_drewN | apply below_drew1 | refine below_set ?_ GE136.out | refine below_set ?_ GE137.out | refine below_set ?_ GE138.out) | exact HB.out)⟩

/-! ### laws_toMsgS: function 17 -/
def laws_toMsgS.l0 : Nat → List (S63) → List (S67) → Int → Option ((List (S67)))
 | 0, _, _, _ => none
 | k + 1, x0, x3, x4 => if x4 < (x0.length : Int) then (if 0 ≤ x4 then ((laws_toMsg.f ((rd_T63 x0 x4).f0) ((rd_T63 x0 x4).f1) ((rd_T63 x0 x4).f2)).bind fun bt143 => (if x4 < (x3.length : Int) then (laws_toMsgS.l0 k x0 (x3.set (x4 : Int).toNat (⟨bt143.1, bt143.2.1, bt143.2.2⟩ : S67)) (wrap64 (x4 + 1))) else (none))) else (none)) else (some x3)
def laws_toMsgS.f (k : Nat) (l0 : List (S63)) : Option ((List (S67))) := if 0 ≤ (l0.length : Int) then (if ((l0.length : Int) : Int).toNat ≤ 11728124029610 then (laws_toMsgS.l0 k l0 (List.replicate ((l0.length : Int) : Int).toNat z67) 0) else (none)) else (none)
theorem laws_toMsgS.mono_l : ∀ k, (∀ y0 y1 y2, LeO (laws_toMsgS.l0 k y0 y1 y2) (laws_toMsgS.l0 (k + 1) y0 y1 y2))
 | 0 => fun _ _ _ r h => by simp [laws_toMsgS.l0] at h
 | k + 1 => by
  have ih0 := laws_toMsgS.mono_l k
  ·intro y0 y1 y2
   unfold laws_toMsgS.l0
   repeat' first
   | (with_reducible exact ih0 _ _ _)
   | (with_reducible exact LeO.refl _)
   | (with_reducible exact LeO.none _)
   | (with_reducible refine LeO.ite ?_ ?_)
   | (with_reducible refine LeO.bind ?_ (fun _ => ?_))
   | exact ih0 _ _ _
   | exact LeO.none _
   | refine LeO.ite ?_ ?_
   | refine LeO.bind ?_ (fun _ => ?_)
theorem laws_toMsgS.mono : ∀ a0 k, LeO (laws_toMsgS.f k a0) (laws_toMsgS.f (k + 1) a0) := by
 intro a0 k
 have ih0 := laws_toMsgS.mono_l k
 unfold laws_toMsgS.f
 repeat' first
   | (with_reducible exact ih0 _ _ _)
   | (with_reducible exact LeO.refl _)
   | (with_reducible exact LeO.none _)
   | (with_reducible refine LeO.ite ?_ ?_)
   | (with_reducible refine LeO.bind ?_ (fun _ => ?_))
   | exact ih0 _ _ _
   | exact LeO.none _
   | refine LeO.ite ?_ ?_
   | refine LeO.bind ?_ (fun _ => ?_)
set_option maxHeartbeats 8000000 in
set_option maxRecDepth 100000 in
theorem laws_toMsgS.calls (k : Nat) (A0 : Option Addr) (c0 : Nat) (l0 : List (S63)) (r : List (S67)) (w : World) (hr0 : Kd.C k63 w A0 l0.length l0) (hc0 : l0.length ≤ c0) (h : laws_toMsgS.f k l0 = some r) :
  Calls Try.prog 17 #[.slice A0 l0.length c0] w fun e w' => ∃ v0_ : Value, e = .returned (v0_) ∧ Kd.R k67 67 w' w.heap.size (fun _ => True) v0_ r ∧ Below w.heap.size w w' := by
 have hu63 := Try.underlying63
 have hu67 := Try.underlying67
 have HR0 := q_ hr0
 have HC0 := q_ hc0
 clear hr0 hc0
 have HB := q_ (Below.refl w.heap.size w)
 have H : (if 0 ≤ (l0.length : Int) then (if ((l0.length : Int) : Int).toNat ≤ 11728124029610 then (laws_toMsgS.l0 k l0 (List.replicate ((l0.length : Int) : Int).toNat z67) 0) else (none)) else (none)) = some r := h
 clear h
 by_cases c2 : 0 ≤ (l0.length : Int)
 ·rw [if_pos c2] at H
  have c2b0 := eq_true c2
  have c2b1 : decide (0 ≤ (l0.length : Int)) = true := decide_eq_true c2
  clear c2
  by_cases c3 : ((l0.length : Int) : Int).toNat ≤ 11728124029610
  ·rw [if_pos c3] at H
   have c3b0 := eq_true c3
   have c3b1 : decide (((l0.length : Int) : Int).toNat ≤ 11728124029610) = true := decide_eq_true c3
   clear c3
   obtain ⟨y139, hy139⟩ : ∃ y_ : List (S67), y_ = (List.replicate ((l0.length : Int) : Int).toNat z67) := ⟨_, rfl⟩
   replace H : (laws_toMsgS.l0 k l0 y139 0) = some r := by first | (rw [hy139]; with_reducible exact H) | (have H2_ := (Option.bind_some _ _).symm.trans H; rw [hy139]; with_reducible exact H2_) | (have H2_ := (Option.bind_some _ _).symm.trans H; with_reducible exact H2_) | with_reducible exact H | (rw [hy139]; exact H) | exact H
   have Ny139 := q_ hy139
   clear hy139
   have H' := q_ H
   clear H
   go_enter Try.func17, Try.ntmps17
   go_wp2_with (first | ((with_reducible refine gate_dst (N := 7) rfl ?_); refine Kd.R_make k67 _ 67 rfl (N := 7) rfl 24 _ _ rfl (l0.length : Int) rfl rfl Try.underlying24 (.agg #[(.int .i64 0), (.int .i64 0), (.int .i64 0)]) 24 info67 rfl (by decide) (by omega) z67 (ok := fun _ => True) (okp := fun _ => True) (k67_mkM _ _ _ z67 ) (fun _ hk => hk) trivial (of_decide_eq_true z2_) (Nat.le_trans (Nat.mul_le_mul_right _ (of_decide_eq_true z2_ : (l0.length : Int).toNat ≤ 11728124029610)) (by omega)) (Below.refl _ _) (Nat.le_refl _) ?_; intro v140 w4 ho5 hb hg_ hnew_; clear hg_ hnew_; (first | rw [← Ny139.out] at ho5 | (simp only [Int.reduceToNat] at ho5; rw [← Ny139.out] at ho5)); have n0_ := q_ (Kd.R_lower ho5 (below_size z0_)); have n1_ := q_ (below_step z0_ hb); clear HB; have HO141 := n0_; have HB := n1_; clear n0_ n1_; clear hb ho5))
   go_loopg [4] k (fun kq v4 w' => ∃ (x3_1 : List (S67)) (x4_1 : Int), v4 = .int .i64 x4_1 ∧ Aside0 (laws_toMsgS.l0 kq l0 x3_1 x4_1 = some r) ∧ Aside0 (kq ≤ k) ∧ Aside0 (Kd.R k67 67 w' w.heap.size (fun _ => True) v140 x3_1) ∧ Aside0 (Below w.heap.size w w'))
   case atStart => exact ⟨(y139), (0), z9_, H', ⟨Nat.le_refl _⟩, ⟨by (with_reducible repeat (first | apply Kd.R_alloc | apply Kd.R_drewN | apply Kd.R_drew)); exact HO141.out⟩, ⟨z0_⟩⟩
   case round =>
    clear H'
    try clear c1
    try clear c2
    try clear c2b0
    try clear c2b1
    try clear p2
    try clear c3
    try clear c3b0
    try clear c3b1
    obtain ⟨x3_1, x4_1, rfl, HA, HK1, HO_3, HB⟩ := hrel
    cases gk with
    | zero => exact absurd HA.out (by simp [laws_toMsgS.l0])
    | succ k1 =>
     have H := HA.out
     clear HA
     simp only [laws_toMsgS.l0] at H
     by_cases c6 : x4_1 < (l0.length : Int)
     ·rw [if_pos c6] at H
      have c6b0 : decide (x4_1 < (l0.length : Int)) = true := decide_eq_true c6
      clear c6
      by_cases c7 : 0 ≤ x4_1
      ·rw [if_pos c7] at H
       have c7b0 : decide (0 ≤ x4_1) = true := decide_eq_true c7
       clear c7
       replace H := Option.bind_eq_some_iff.mp H
       obtain ⟨⟨t143, t144, t145⟩, A80, H⟩ := H
       replace H : (if x4_1 < (x3_1.length : Int) then (laws_toMsgS.l0 k1 l0 (x3_1.set (x4_1 : Int).toNat (⟨t143, t144, t145⟩ : S67)) (wrap64 (x4_1 + 1))) else (none)) = some r := H
       have A8 := q_ A80
       clear A80
       by_cases c9 : x4_1 < (x3_1.length : Int)
       ·rw [if_pos c9] at H
        have c9b0 : decide (x4_1 < (x3_1.length : Int)) = true := decide_eq_true c9
        clear c9
        obtain ⟨y146, hy146⟩ : ∃ y_ : List (S67), y_ = (x3_1.set (x4_1 : Int).toNat (⟨t143, t144, t145⟩ : S67)) := ⟨_, rfl⟩
        replace H : (laws_toMsgS.l0 k1 l0 y146 (wrap64 (x4_1 + 1))) = some r := by first | (rw [hy146]; with_reducible exact H) | (have H2_ := (Option.bind_some _ _).symm.trans H; rw [hy146]; with_reducible exact H2_) | (have H2_ := (Option.bind_some _ _).symm.trans H; with_reducible exact H2_) | with_reducible exact H | (rw [hy146]; exact H) | exact H
        have Ny146 := q_ hy146
        clear hy146
        have H' := q_ H
        clear H
        have p142 : 0 ≤ (x4_1 : Int) := of_decide_eq_true z2_
        have q142 : x4_1 < (l0.length : Int) := of_decide_eq_true z2_
        obtain ⟨ad142, e142, hx142_0, hx142_1, hx142_2⟩ := at_T63 HR0.out x4_1 p142 q142
        cases e142
        replace hx142_0 := up_ HB hx142_0
        replace hx142_1 := up_ HB hx142_1
        replace hx142_2 := up_ HB hx142_2
        replace p142 := eq_true p142
        replace q142 := eq_true q142
        go_wp2_with (first | ((with_reducible refine gate_callee (f := 50) rfl ?_); refine goesL_ (some 20) rfl rfl Try.func50 (by kernel_rfl) rfl #[.agg #[.int .i64 ((rd_T63 l0 x4_1).f0), .int .i64 ((rd_T63 l0 x4_1).f1), .int .i64 ((rd_T63 l0 x4_1).f2)]] rfl z1_ ?_; (with_reducible refine (laws_toMsg.calls ((rd_T63 l0 x4_1).f0) ((rd_T63 l0 x4_1).f1) ((rd_T63 l0 x4_1).f2) t143 t144 t145 _ A8.out).mono ?_); rintro e w11 ⟨rfl, hb⟩; refine ⟨_, rfl, ?_⟩; have n0_ := q_ (Kd.R_below z8_ hb); have n1_ := q_ (below_step z0_ hb); clear HO_3; clear HB; have HO_3 := n0_; have HB := n1_; clear n0_ n1_; (try clear hb); (try clear hb2); (try clear hk); (try clear hi); have p10 : 0 ≤ (x4_1 : Int) := of_decide_eq_true z2_; have q10 : (x4_1 : Int) < ((x3_1.length : Int) : Int) := of_decide_eq_true z2_; obtain ⟨go10, co10, eo10, gb10, gl10, cl10, HG10⟩ := Kd.R_form HO_3.out (by omega); (first | cases eo10 | (injection eo10 with ea_ en_ ec_; (first | subst ea_ | (injection ea_ with ea_; subst ea_)); subst ec_; clear en_)); have GB10 := q_ gb10; have GG10 := q_ HG10; clear gb10 gl10 HG10; obtain ⟨ce10, hcl10, hM10, hcc10, hfr10⟩ := Kd.R_elem HO_3.out z67 (x4_1 : Int) p10 q10; obtain rfl := k67_openM hM10; have hx10_0 : w11.cell? ⟨go10, (x4_1 : Int).toNat * 3, none⟩ = some (.int .i64 ((rd_T67 x3_1 x4_1).f0)) := hcc10 0 _ rfl; have hx10_1 : w11.cell? ⟨go10, (x4_1 : Int).toNat * 3 + 1, none⟩ = some (.int .i64 ((rd_T67 x3_1 x4_1).f1)) := hcc10 1 _ rfl; have hx10_2 : w11.cell? ⟨go10, (x4_1 : Int).toNat * 3 + 2, none⟩ = some (.int .i64 ((rd_T67 x3_1 x4_1).f2)) := hcc10 2 _ rfl; have hf10_0 : w11.frozen? ⟨go10, (x4_1 : Int).toNat * 3, none⟩ = false := hfr10 0; have hf10_1 : w11.frozen? ⟨go10, (x4_1 : Int).toNat * 3 + 1, none⟩ = false := hfr10 1; have hf10_2 : w11.frozen? ⟨go10, (x4_1 : Int).toNat * 3 + 2, none⟩ = false := hfr10 2; clear hcl10 hcc10 hfr10 hM10; replace p10 := eq_true p10; replace q10 := eq_true q10; have HX12 := q_ (show Kd.R k67 67 w11 w.heap.size (fun _ => True) (.slice (some ⟨go10, 0, none⟩) x3_1.length co10) x3_1 from z8_); obtain ⟨ce12, hcl12, hM12, hcc12, hfr12⟩ := Kd.R_elem HX12.out z67 (x4_1 : Int) (of_decide_eq_true z2_) z76_; obtain rfl := k67_openM hM12; have HP12 := Kd.R_seg HX12.out (x4_1 : Int) (of_decide_eq_true z2_) z76_ (seg := [.int .i64 t143, .int .i64 t144, .int .i64 t145]) (j := 0) hcl12 hcc12 (show 3 ≤ 3 from by decide) (x' := (⟨t143, t144, t145⟩ : S67)) (k67_mkM _ _ _ (⟨t143, t144, t145⟩ : S67) ) (fun _ hk => hk); have hx12_0 := hcc12 0 _ rfl; (try simp only [show (k67).sz = 3 from rfl, Nat.mul_one, Nat.add_zero] at hx12_0); have hf12_0 := hfr12 0; (try simp only [show (k67).sz = 3 from rfl, Nat.mul_one, Nat.add_zero] at hf12_0); have hx12_1 := hcc12 1 _ rfl; (try simp only [show (k67).sz = 3 from rfl, Nat.mul_one, Nat.add_zero] at hx12_1); have hf12_1 := hfr12 1; (try simp only [show (k67).sz = 3 from rfl, Nat.mul_one, Nat.add_zero] at hf12_1); have hx12_2 := hcc12 2 _ rfl; (try simp only [show (k67).sz = 3 from rfl, Nat.mul_one, Nat.add_zero] at hx12_2); have hf12_2 := hfr12 2; (try simp only [show (k67).sz = 3 from rfl, Nat.mul_one, Nat.add_zero] at hf12_2); clear hcl12 hcc12 hfr12 hM12) | ((with_reducible refine gate_store (t := 67) (p := 21) rfl ?_); refine store_event (t := 67) (p := 21) (v := ?vo_w13) (w1 := (((w11.setCell ⟨go10, (x4_1 : Int).toNat * 3, none⟩ (.int .i64 t143)).setCell ⟨go10, (x4_1 : Int).toNat * 3 + 1, none⟩ (.int .i64 t144)).setCell ⟨go10, (x4_1 : Int).toNat * 3 + 2, none⟩ (.int .i64 t145))) ?hg ?ho ?hn ?hr ?_; (case ho => rfl); (case hg => rfl); (case hn => rfl); (case hr => exact z88_); intro w13 hw; have hg : w11.grownBy w13 (some go10) := (by rw [hw]; exact HP12.2); have hp_ : Kd.R k67 67 w13 w.heap.size (fun _ => True) (.slice (some ⟨go10, 0, none⟩) x3_1.length co10) y146 := (by rw [hw, Ny146.out]; exact HP12.1); clear HP12; have n0_ := q_ (hp_); have n1_ := q_ ((by rw [hw]; exact below_set (below_set (below_set (HB.out) GB10.out) GB10.out) GB10.out : Below w.heap.size w w13)); clear HO_3; clear HB; have HO_3 := n0_; have HB := n1_; clear n0_ n1_; clear hg hw hp_))
        go_roundg k1
        case measure => have := HK1.out; omega
        case rel => exact ⟨(y146), (wrap64 (x4_1 + 1)), z9_, H', ⟨z49_⟩, ⟨z8_⟩, ⟨z0_⟩⟩
       ·rw [if_neg c9] at H
        exact absurd H (by simp)
      ·rw [if_neg c7] at H
       exact absurd H (by simp)
     ·rw [if_neg c6] at H
      have c6b0 : decide (x4_1 < (l0.length : Int)) = false := decide_eq_false c6
      clear c6
      obtain rfl := Option.some.inj H
      go_wp2
      go_ret
      exact ⟨_, z3_, z8_, z0_⟩
  ·rw [if_neg c3] at H
   exact absurd H (by simp)
 ·rw [if_neg c2] at H
  exact absurd H (by simp)

end Go.Proofs.Ytphlmbhjeoljoaa.PFnExactShrink
