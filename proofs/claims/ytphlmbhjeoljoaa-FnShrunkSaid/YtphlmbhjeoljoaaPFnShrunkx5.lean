-- Written by a program of this session, which goes by the kit's print. Not trusted: Lean checks it.
import Derived.Test.YtphlmbhjeoljoaaPFnShrunkx0
import Derived.Test.YtphlmbhjeoljoaaPFnShrunkx3
import Derived.Test.YtphlmbhjeoljoaaPFnShrunkx4
namespace Go.Proofs.Ytphlmbhjeoljoaa.PFnShrunk
open Go.RowKit Go.Proofs.YtphlmbhjeoljoaaW.PrintWords Go.Proofs.YtphlmbhjeoljoaaW.PrintLast Go.Proofs.YtphlmbhjeoljoaaW.PrintMore
attribute [local go_sem] max2_int min2_int max_two min_two max_three min_three max_four min_four   -- for this text's walks alone
set_option linter.unusedVariables false
set_option linter.unusedSimpArgs false

/-! ### spec_l1First: function 92 -/
def spec_l1First.l0 : Nat → List (S67) → Int → Int → Option (Int)
 | 0, _, _, _ => none
 | k + 1, x0, x1, x5 => if x5 < (x0.length : Int) then (if 0 ≤ x5 then (if ((rd_T67 x0 x5).f1) = x1 then (some x5) else (spec_l1First.l0 k x0 x1 (wrap64 (x5 + 1)))) else (none)) else (some (-1))
def spec_l1First.f (k : Nat) (l0 : List (S67)) (a1 : Int) : Option (Int) := spec_l1First.l0 k l0 a1 0
theorem spec_l1First.mono_l : ∀ k, (∀ y0 y1 y2, LeO (spec_l1First.l0 k y0 y1 y2) (spec_l1First.l0 (k + 1) y0 y1 y2))
 | 0 => fun _ _ _ r h => by simp [spec_l1First.l0] at h
 | k + 1 => by
  have ih0 := spec_l1First.mono_l k
  ·intro y0 y1 y2
   unfold spec_l1First.l0
   repeat' first
   | (with_reducible exact ih0 _ _ _)
   | (with_reducible exact LeO.refl _)
   | (with_reducible exact LeO.none _)
   | (with_reducible refine LeO.ite ?_ ?_)
   | (with_reducible refine LeO.bind ?_ (fun _ => ?_))
   | exact ih0 _ _ _
   | exact LeO.none _
   | refine LeO.ite ?_ ?_
   | refine LeO.bind ?_ (fun _ => ?_)
theorem spec_l1First.mono : ∀ a0 a1 k, LeO (spec_l1First.f k a0 a1) (spec_l1First.f (k + 1) a0 a1) := by
 intro a0 a1 k
 have ih0 := spec_l1First.mono_l k
 unfold spec_l1First.f
 repeat' first
   | (with_reducible exact ih0 _ _ _)
   | (with_reducible exact LeO.refl _)
   | (with_reducible exact LeO.none _)
   | (with_reducible refine LeO.ite ?_ ?_)
   | (with_reducible refine LeO.bind ?_ (fun _ => ?_))
   | exact ih0 _ _ _
   | exact LeO.none _
   | refine LeO.ite ?_ ?_
   | refine LeO.bind ?_ (fun _ => ?_)
set_option maxHeartbeats 8000000 in
set_option maxRecDepth 100000 in
theorem spec_l1First.calls (k : Nat) (A0 : Option Addr) (c0 : Nat) (l0 : List (S67)) (a1 : Int) (r : Int) (w : World) (hr0 : Kd.C k67 w A0 l0.length l0) (hc0 : l0.length ≤ c0) (h : spec_l1First.f k l0 a1 = some r) :
  Calls Try.prog 92 #[.slice A0 l0.length c0, .int .i64 a1] w fun e w' => e = .returned (.int .i64 r) ∧ Drawn0 w w' := by
 have HR0 := q_ hr0
 have HC0 := q_ hc0
 clear hr0 hc0
 have H : (spec_l1First.l0 k l0 a1 0) = some r := h
 clear h
 have H' := q_ H
 clear H
 go_enter Try.func92, Try.ntmps92
 go_wp2
 go_loopg [5] k (fun kq v5 w' => ∃ (x5_1 : Int), v5 = .int .i64 x5_1 ∧ Aside0 (spec_l1First.l0 kq l0 a1 x5_1 = some r) ∧ Aside0 (kq ≤ k) ∧ Drawn0 w w')
 case atStart => exact ⟨(0), z7_, H', ⟨Nat.le_refl _⟩, z34_⟩
 case round =>
  clear H'
  try clear p2
  obtain ⟨x5_1, rfl, HA, HK1, ⟨m1, rfl⟩⟩ := hrel
  cases gk with
  | zero => exact absurd HA.out (by simp [spec_l1First.l0])
  | succ k1 =>
   have H := HA.out
   clear HA
   simp only [spec_l1First.l0] at H
   by_cases c3 : x5_1 < (l0.length : Int)
   ·rw [if_pos c3] at H
    have c3b0 : decide (x5_1 < (l0.length : Int)) = true := decide_eq_true c3
    clear c3
    by_cases c4 : 0 ≤ x5_1
    ·rw [if_pos c4] at H
     have c4b0 : decide (0 ≤ x5_1) = true := decide_eq_true c4
     clear c4
     by_cases c5 : ((rd_T67 l0 x5_1).f1) = a1
     ·rw [if_pos c5] at H
      have c5b0 : (((rd_T67 l0 x5_1).f1) == a1) = true := beq_iff_eq.mpr c5
      have c5b1 : (((rd_T67 l0 x5_1).f1) != a1) = false := bne_eq_false_iff_eq.mpr c5
      clear c5
      obtain rfl := Option.some.inj H
      have p112 : 0 ≤ (x5_1 : Int) := of_decide_eq_true z3_
      have q112 : x5_1 < (l0.length : Int) := of_decide_eq_true z3_
      obtain ⟨ad112, e112, hx112_0, hx112_1, hx112_2⟩ := at_T67 HR0.out x5_1 p112 q112
      cases e112
      replace p112 := eq_true p112
      replace q112 := eq_true q112
      go_wp2
      go_ret
      exact ⟨z7_, z34_⟩
     ·rw [if_neg c5] at H
      have c5b0 : (((rd_T67 l0 x5_1).f1) == a1) = false := beq_eq_false_iff_ne.mpr c5
      have c5b1 : (((rd_T67 l0 x5_1).f1) != a1) = true := bne_iff_ne.mpr c5
      have H' := q_ H
      clear H
      have p112 : 0 ≤ (x5_1 : Int) := of_decide_eq_true z3_
      have q112 : x5_1 < (l0.length : Int) := of_decide_eq_true z3_
      obtain ⟨ad112, e112, hx112_0, hx112_1, hx112_2⟩ := at_T67 HR0.out x5_1 p112 q112
      cases e112
      replace p112 := eq_true p112
      replace q112 := eq_true q112
      go_wp2
      go_roundg k1
      case measure => have := HK1.out; omega
      case rel => exact ⟨(wrap64 (x5_1 + 1)), z7_, H', ⟨z74_⟩, z34_⟩
    ·rw [if_neg c4] at H
     exact absurd H (by simp)
   ·rw [if_neg c3] at H
    have c3b0 : decide (x5_1 < (l0.length : Int)) = false := decide_eq_false c3
    clear c3
    obtain rfl := Option.some.inj H
    go_wp2
    go_ret
    exact ⟨z7_, z34_⟩

/-! ### spec_l1Max: function 162 -/
def spec_l1Max.f (a0 : Int) (a1 : Int) : Option (Int) := if a0 > a1 then (some a0) else (some a1)
set_option maxHeartbeats 8000000 in
set_option maxRecDepth 100000 in
theorem spec_l1Max.calls (a0 : Int) (a1 : Int) (r : Int) (w : World) (h : spec_l1Max.f a0 a1 = some r) :
  Calls Try.prog 162 #[.int .i64 a0, .int .i64 a1] w fun e w' => e = .returned (.int .i64 r) ∧ Drawn0 w w' := by
 have H : (if a0 > a1 then (some a0) else (some a1)) = some r := h
 clear h
 by_cases c3 : a0 > a1
 ·rw [if_pos c3] at H
  have c3b0 : decide (a1 < a0) = true := decide_eq_true c3
  clear c3
  obtain rfl := Option.some.inj H
  go_enter Try.func162, Try.ntmps162
  go_wp2
  go_ret
  exact ⟨z7_, z34_⟩
 ·rw [if_neg c3] at H
  have c3b0 : decide (a1 < a0) = false := decide_eq_false c3
  clear c3
  obtain rfl := Option.some.inj H
  go_enter Try.func162, Try.ntmps162
  go_wp2
  go_ret
  exact ⟨z7_, z34_⟩

/-! ### spec_l1Min: function 163 -/
def spec_l1Min.f (a0 : Int) (a1 : Int) : Option (Int) := if a0 < a1 then (some a0) else (some a1)
set_option maxHeartbeats 8000000 in
set_option maxRecDepth 100000 in
theorem spec_l1Min.calls (a0 : Int) (a1 : Int) (r : Int) (w : World) (h : spec_l1Min.f a0 a1 = some r) :
  Calls Try.prog 163 #[.int .i64 a0, .int .i64 a1] w fun e w' => e = .returned (.int .i64 r) ∧ Drawn0 w w' := by
 have H : (if a0 < a1 then (some a0) else (some a1)) = some r := h
 clear h
 by_cases c3 : a0 < a1
 ·rw [if_pos c3] at H
  have c3b0 : decide (a0 < a1) = true := decide_eq_true c3
  clear c3
  obtain rfl := Option.some.inj H
  go_enter Try.func163, Try.ntmps163
  go_wp2
  go_ret
  exact ⟨z7_, z34_⟩
 ·rw [if_neg c3] at H
  have c3b0 : decide (a0 < a1) = false := decide_eq_false c3
  clear c3
  obtain rfl := Option.some.inj H
  go_enter Try.func163, Try.ntmps163
  go_wp2
  go_ret
  exact ⟨z7_, z34_⟩

/-! ### spec_l1Clamp: function 93 -/
def spec_l1Clamp.f (a0 : Int) : Option (Int) := (spec_l1Min.f a0 1000000000).bind fun t113 => ((spec_l1Max.f t113 (-1000000000)).bind fun t114 => (some t114))
set_option maxHeartbeats 8000000 in
set_option maxRecDepth 100000 in
theorem spec_l1Clamp.calls (a0 : Int) (r : Int) (w : World) (h : spec_l1Clamp.f a0 = some r) :
  Calls Try.prog 93 #[.int .i64 a0] w fun e w' => e = .returned (.int .i64 r) ∧ Drawn0 w w' := by
 have H : ((spec_l1Min.f a0 1000000000).bind fun t113 => ((spec_l1Max.f t113 (-1000000000)).bind fun t114 => (some t114))) = some r := h
 clear h
 replace H := Option.bind_eq_some_iff.mp H
 obtain ⟨t113, A20, H⟩ := H
 replace H : ((spec_l1Max.f t113 (-1000000000)).bind fun t114 => (some t114)) = some r := H
 have A2 := q_ A20
 clear A20
 replace H := Option.bind_eq_some_iff.mp H
 obtain ⟨t114, A30, H⟩ := H
 replace H : (some t114) = some r := H
 have A3 := q_ A30
 clear A30
 obtain rfl := Option.some.inj H
 go_enter Try.func93, Try.ntmps93
 go_wp2_with (first | ((with_reducible refine gate_callee (f := 163) rfl ?_); refine goesL_ (some 4) rfl rfl Try.func163 (by kernel_rfl) rfl #[.int .i64 a0, .int .i64 1000000000] rfl z1_ ?_; (with_reducible refine (spec_l1Min.calls a0 1000000000 t113 _ A2.out).mono ?_); rintro e w' ⟨rfl, ⟨nd, rfl⟩⟩; refine ⟨_, rfl, ?_⟩) | ((with_reducible refine gate_callee (f := 162) rfl ?_); refine goesL_ (some 5) rfl rfl Try.func162 (by kernel_rfl) rfl #[.int .i64 t113, .int .i64 (-1000000000)] rfl z1_ ?_; (with_reducible refine (spec_l1Max.calls t113 (-1000000000) t114 _ A3.out).mono ?_); rintro e w' ⟨rfl, ⟨nd, rfl⟩⟩; refine ⟨_, rfl, ?_⟩))
 go_ret
 exact ⟨z7_, z34_⟩

/-! ### spec_Shrink: function 16 -/
mutual
def spec_Shrink.l0 : Nat → List (S67) → List (S67) → Int → Option ((List (S67)))
 | 0, _, _, _ => none
 | k + 1, x0, x3, x4 => if x4 < (x0.length : Int) then (if 0 ≤ x4 then ((spec_MsgOk.f ((rd_T67 x0 x4).f0) ((rd_T67 x0 x4).f1) ((rd_T67 x0 x4).f2)).bind fun t120 => (if t120 = true then (if ((rd_T67 x0 x4).f0) = 4 then (spec_Shrink.j1 k x0 x3 x4 true ((rd_T67 x0 x4).f0) ((rd_T67 x0 x4).f1) ((rd_T67 x0 x4).f2)) else ((spec_l1Over.f k x0 x4).bind fun t121 => (spec_Shrink.j1 k x0 x3 x4 t121 ((rd_T67 x0 x4).f0) ((rd_T67 x0 x4).f1) ((rd_T67 x0 x4).f2)))) else (spec_Shrink.j1 k x0 x3 x4 true ((rd_T67 x0 x4).f0) ((rd_T67 x0 x4).f1) ((rd_T67 x0 x4).f2)))) else (none)) else (some x3)
def spec_Shrink.j1 : Nat → List (S67) → List (S67) → Int → Bool → Int → Int → Int → Option ((List (S67)))
 | 0, _, _, _, _, _, _, _ => none
 | k + 1, x0, x3, x4, x30, x120000, x120001, x120002 => if x30 = true then (spec_Shrink.l0 k x0 x3 (wrap64 (x4 + 1))) else ((spec_l1First.f k x3 x120001).bind fun t122 => (if t122 ≥ 0 then (if 0 ≤ t122 then (if t122 < (x3.length : Int) then (if ((rd_T67 x3 t122).f0) = 1 then (if x120000 = 3 then ((spec_l1Clamp.f (wrap64 (((rd_T67 x3 t122).f2) + x120002))).bind fun t125 => (spec_Shrink.l0 k x0 (x3.set (t122 : Int).toNat (⟨(rd_T67 x3 t122).f0, (rd_T67 x3 t122).f1, t125⟩ : S67)) (wrap64 (x4 + 1)))) else (if x3.length < 5864062014805 then (spec_Shrink.l0 k x0 (x3 ++ [(⟨x120000, x120001, x120002⟩ : S67)]) (wrap64 (x4 + 1))) else (none))) else (if x3.length < 5864062014805 then (spec_Shrink.l0 k x0 (x3 ++ [(⟨x120000, x120001, x120002⟩ : S67)]) (wrap64 (x4 + 1))) else (none))) else (none)) else (none)) else (if x3.length < 5864062014805 then (spec_Shrink.l0 k x0 (x3 ++ [(⟨x120000, x120001, x120002⟩ : S67)]) (wrap64 (x4 + 1))) else (none))))
end
def spec_Shrink.f (k : Nat) (l0 : List (S67)) : Option ((List (S67))) := spec_Shrink.l0 k l0 (([] : List (S67))) 0
theorem spec_Shrink.mono_l : ∀ k, (∀ y0 y1 y2, LeO (spec_Shrink.l0 k y0 y1 y2) (spec_Shrink.l0 (k + 1) y0 y1 y2)) ∧ (∀ y0 y1 y2 y3 y4 y5 y6, LeO (spec_Shrink.j1 k y0 y1 y2 y3 y4 y5 y6) (spec_Shrink.j1 (k + 1) y0 y1 y2 y3 y4 y5 y6))
 | 0 => ⟨fun _ _ _ r h => by simp [spec_Shrink.l0] at h, fun _ _ _ _ _ _ _ r h => by simp [spec_Shrink.j1] at h⟩
 | k + 1 => by
  obtain ⟨ih0, ih1⟩ := spec_Shrink.mono_l k
  refine ⟨?_, ?_⟩
  ·intro y0 y1 y2
   unfold spec_Shrink.l0
   repeat' first
   | (with_reducible exact ih0 _ _ _)
   | (with_reducible exact ih1 _ _ _ _ _ _ _)
   | (with_reducible exact spec_l1First.mono _ _ _)
   | (with_reducible exact spec_l1Over.mono _ _ _)
   | (with_reducible exact LeO.refl _)
   | (with_reducible exact LeO.none _)
   | (with_reducible refine LeO.ite ?_ ?_)
   | (with_reducible refine LeO.bind ?_ (fun _ => ?_))
   | exact ih0 _ _ _
   | exact ih1 _ _ _ _ _ _ _
   | exact spec_l1First.mono _ _ _
   | exact spec_l1Over.mono _ _ _
   | exact LeO.none _
   | refine LeO.ite ?_ ?_
   | refine LeO.bind ?_ (fun _ => ?_)
  ·intro y0 y1 y2 y3 y4 y5 y6
   unfold spec_Shrink.j1
   repeat' first
   | (with_reducible exact ih0 _ _ _)
   | (with_reducible exact ih1 _ _ _ _ _ _ _)
   | (with_reducible exact spec_l1First.mono _ _ _)
   | (with_reducible exact spec_l1Over.mono _ _ _)
   | (with_reducible exact LeO.refl _)
   | (with_reducible exact LeO.none _)
   | (with_reducible refine LeO.ite ?_ ?_)
   | (with_reducible refine LeO.bind ?_ (fun _ => ?_))
   | exact ih0 _ _ _
   | exact ih1 _ _ _ _ _ _ _
   | exact spec_l1First.mono _ _ _
   | exact spec_l1Over.mono _ _ _
   | exact LeO.none _
   | refine LeO.ite ?_ ?_
   | refine LeO.bind ?_ (fun _ => ?_)
theorem spec_Shrink.mono : ∀ a0 k, LeO (spec_Shrink.f k a0) (spec_Shrink.f (k + 1) a0) := by
 intro a0 k
 obtain ⟨ih0, ih1⟩ := spec_Shrink.mono_l k
 unfold spec_Shrink.f
 repeat' first
   | (with_reducible exact ih0 _ _ _)
   | (with_reducible exact ih1 _ _ _ _ _ _ _)
   | (with_reducible exact spec_l1First.mono _ _ _)
   | (with_reducible exact spec_l1Over.mono _ _ _)
   | (with_reducible exact LeO.refl _)
   | (with_reducible exact LeO.none _)
   | (with_reducible refine LeO.ite ?_ ?_)
   | (with_reducible refine LeO.bind ?_ (fun _ => ?_))
   | exact ih0 _ _ _
   | exact ih1 _ _ _ _ _ _ _
   | exact spec_l1First.mono _ _ _
   | exact spec_l1Over.mono _ _ _
   | exact LeO.none _
   | refine LeO.ite ?_ ?_
   | refine LeO.bind ?_ (fun _ => ?_)
def spec_Shrink.T9 : Bool × List (List Nat × List Nat) := (true, [([], []), ([], []), ([], []), ([], []), ([2, 3], [2, 3]), ([4], [4]), ([5], [5]), ([], []), ([7], [7]), ([6, 8], [6, 8]), ([9], [9]), ([0, 1, 0, 1, 2, 3, 4, 5, 6, 7, 8, 9, 10], [0, 1]), ([11, 0, 1, 2, 3, 4, 5, 6, 7, 8, 9, 10], [11]), ([12, 10, 10, 0, 1, 2, 3, 4, 5, 6, 7, 8, 9, 10], [10, 12])])
def spec_Shrink.B9 : List Nat := [0, 0, 0, 0, 12, 28, 60, 0, 128, 508, 1020, 2047, 4095, 8191]
theorem spec_Shrink.tab9 : rtab .any (opsOf Try.f16 9) = spec_Shrink.T9 := by kernel_rfl
theorem spec_Shrink.bits9 : waitsOk spec_Shrink.T9.2 spec_Shrink.B9 = true := by kernel_rfl
set_option maxHeartbeats 8000000 in
set_option maxRecDepth 100000 in
theorem spec_Shrink.calls (k : Nat) (A0 : Option Addr) (c0 : Nat) (l0 : List (S67)) (r : List (S67)) (w : World) (hr0 : Kd.C k67 w A0 l0.length l0) (hc0 : l0.length ≤ c0) (h : spec_Shrink.f k l0 = some r) :
  Calls Try.prog 16 #[.slice A0 l0.length c0] w fun e w' => ∃ v0_ : Value, e = .returned (v0_) ∧ Kd.R k67 67 w' w.heap.size (fun _ => True) v0_ r ∧ Below w.heap.size w w' := by
 have hu67 := Try.underlying67
 have HR0 := q_ hr0
 have HC0 := q_ hc0
 clear hr0 hc0
 have HB := q_ (Below.refl w.heap.size w)
 have H : (spec_Shrink.l0 k l0 (([] : List (S67))) 0) = some r := h
 clear h
 obtain ⟨y115, hy115⟩ : ∃ y_ : List (S67), y_ = (([] : List (S67))) := ⟨_, rfl⟩
 replace H : (spec_Shrink.l0 k l0 y115 0) = some r := by first | (rw [hy115]; with_reducible exact H) | (have H2_ := (Option.bind_some _ _).symm.trans H; rw [hy115]; with_reducible exact H2_) | (have H2_ := (Option.bind_some _ _).symm.trans H; with_reducible exact H2_) | with_reducible exact H | (rw [hy115]; exact H) | exact H
 have Ny115 := q_ hy115
 clear hy115
 have H' := q_ H
 clear H
 go_enter Try.func16, Try.ntmps16
 go_wp2_with (first | ((with_reducible refine gate_dst (N := 7) rfl ?_); refine Kd.R_lit k67 _ 67 ?hg (N := 7) ?hd (xs := ([] : List (S67))) (inner := []) (ok := fun _ => True) (okp := fun _ => True) ?hr ?hp (fun _ hk => hk) trivial (Below.refl _ _) (Nat.le_refl _) (by simp) ?_; (case hd => rfl); (case hg => rfl); (case hr => exact z148_); (case hp => exact (Reps.none _ _)); intro v116 w2 ho3 hb hg_ hnew_; clear hg_ hnew_; (first | rw [← Ny115.out] at ho3 | (simp only [Int.reduceToNat] at ho3; rw [← Ny115.out] at ho3)); have n0_ := q_ (Kd.R_lower ho3 (below_size z0_)); have n1_ := q_ (below_step z0_ hb); clear HB; have HO117 := n0_; have HB := n1_; clear n0_ n1_; clear hb ho3))
 go_loopg [3, 4] k (fun kq v3 v4 w' => ∃ (x3_1 : List (S67)) (x4_1 : Int), v4 = .int .i64 x4_1 ∧ Aside0 (spec_Shrink.l0 kq l0 x3_1 x4_1 = some r) ∧ Aside0 (kq ≤ k) ∧ Aside0 (Kd.R k67 67 w' w.heap.size (fun _ => True) v3 x3_1) ∧ Aside0 (Below w.heap.size w w'))
 case atStart => exact ⟨(y115), (0), z7_, H', ⟨Nat.le_refl _⟩, ⟨by (with_reducible repeat (first | apply Kd.R_alloc | apply Kd.R_drewN | apply Kd.R_drew)); exact HO117.out⟩, ⟨z0_⟩⟩
 case round =>
  clear H'
  try clear c1
  try clear p2
  obtain ⟨x3_1, x4_1, rfl, HA, HK1, HO_3, HB⟩ := hrel
  cases gk with
  | zero => exact absurd HA.out (by simp [spec_Shrink.l0])
  | succ k1 =>
   have H := HA.out
   clear HA
   simp only [spec_Shrink.l0] at H
   by_cases c4 : x4_1 < (l0.length : Int)
   ·rw [if_pos c4] at H
    have c4b0 : decide (x4_1 < (l0.length : Int)) = true := decide_eq_true c4
    clear c4
    by_cases c5 : 0 ≤ x4_1
    ·rw [if_pos c5] at H
     have c5b0 : decide (0 ≤ x4_1) = true := decide_eq_true c5
     clear c5
     have HC6 := q_ H
     clear H
     have p118 : 0 ≤ (x4_1 : Int) := of_decide_eq_true z3_
     have q118 : x4_1 < (l0.length : Int) := of_decide_eq_true z3_
     obtain ⟨ad118, e118, hx118_0, hx118_1, hx118_2⟩ := at_T67 HR0.out x4_1 p118 q118
     cases e118
     replace hx118_0 := up_ HB hx118_0
     replace hx118_1 := up_ HB hx118_1
     replace hx118_2 := up_ HB hx118_2
     replace p118 := eq_true p118
     replace q118 := eq_true q118
     go_upto_region 6 with (first | ((with_reducible refine gate_dst (N := 5) rfl ?_); refine box_event ?hg (N := 5) ?hd (cs := #[.int .i64 0, .int .i64 0, .int .i64 0]) (t := 67) ?hr ?_; (case hd => rfl); (case hg => rfl); (case hr => exact z148_); intro gb119 hg w7 hbox hb; have n0_ := q_ (Kd.R_below (Kd.R_elderB z12_ gb119 (Nat.le_of_eq hg.symm)) hb); have n1_ := q_ (below_step z0_ hb); have n2_ := q_ (hbox); have n3_ := q_ ((z119_ : w.heap.size ≤ gb119)); have n4_ := q_ ((z119_ : w.heap.size ≤ gb119)); clear HO_3; clear HB; have HO_3 := n0_; have HB := n1_; have BK119 := n2_; have GW119 := n3_; have GE119 := n4_; clear n0_ n1_ n2_ n3_ n4_; clear hb hbox hg; obtain ⟨hcz8_0, hcz8_1, hcz8_2, hfz8_0, hfz8_1, hfz8_2⟩ := cs3_ BK119.out))
     (try simp only [Act.put, List.setIfInBounds_toArray, List.set_cons_zero, List.set_cons_succ])
     go_cut [30] (fun v30 wc => ∃ (kq : Nat) (x30_5 : Bool), v30 = .bool x30_5 ∧ Aside0 (spec_Shrink.j1 kq l0 x3_1 x4_1 x30_5 ((rd_T67 l0 x4_1).f0) ((rd_T67 l0 x4_1).f1) ((rd_T67 l0 x4_1).f2) = some r) ∧ Aside0 (kq ≤ k1) ∧ Aside0 (Kd.R k67 67 wc w.heap.size (fun k_ => k_ ≠ gb119) u3 x3_1) ∧ Aside0 (wc.heap[gb119]? = some (.cells #[.int .i64 ((rd_T67 l0 x4_1).f0), .int .i64 ((rd_T67 l0 x4_1).f1), .int .i64 ((rd_T67 l0 x4_1).f2)] 67 (0, 0))) ∧ Aside0 (Below w.heap.size w wc))
     case first =>
      have H := HC6.out
      clear HC6
      replace H := Option.bind_eq_some_iff.mp H
      obtain ⟨t120, A90, H⟩ := H
      replace H : (if t120 = true then (if ((rd_T67 l0 x4_1).f0) = 4 then (spec_Shrink.j1 k1 l0 x3_1 x4_1 true ((rd_T67 l0 x4_1).f0) ((rd_T67 l0 x4_1).f1) ((rd_T67 l0 x4_1).f2)) else ((spec_l1Over.f k1 l0 x4_1).bind fun t121 => (spec_Shrink.j1 k1 l0 x3_1 x4_1 t121 ((rd_T67 l0 x4_1).f0) ((rd_T67 l0 x4_1).f1) ((rd_T67 l0 x4_1).f2)))) else (spec_Shrink.j1 k1 l0 x3_1 x4_1 true ((rd_T67 l0 x4_1).f0) ((rd_T67 l0 x4_1).f1) ((rd_T67 l0 x4_1).f2))) = some r := H
      have A9 := q_ A90
      clear A90
      by_cases c10 : t120 = true
      ·subst c10
       have H1 : (if ((rd_T67 l0 x4_1).f0) = 4 then (spec_Shrink.j1 k1 l0 x3_1 x4_1 true ((rd_T67 l0 x4_1).f0) ((rd_T67 l0 x4_1).f1) ((rd_T67 l0 x4_1).f2)) else ((spec_l1Over.f k1 l0 x4_1).bind fun t121 => (spec_Shrink.j1 k1 l0 x3_1 x4_1 t121 ((rd_T67 l0 x4_1).f0) ((rd_T67 l0 x4_1).f1) ((rd_T67 l0 x4_1).f2)))) = some r := z58_
       clear H
       have H := H1
       clear H1
       by_cases c11 : ((rd_T67 l0 x4_1).f0) = 4
       ·rw [if_pos c11] at H
        have c11b0 : (((rd_T67 l0 x4_1).f0) == 4) = true := beq_iff_eq.mpr c11
        have c11b1 : (((rd_T67 l0 x4_1).f0) != 4) = false := bne_eq_false_iff_eq.mpr c11
        clear c11
        (first | rw [c11b0] | (simp only [i64_w, i32_w]; rw [c11b0]) | skip)
        have H' := q_ H
        clear H
        obtain ⟨hcz12_0, hcz12_1, hcz12_2, hfz12_0, hfz12_1, hfz12_2⟩ := cs3_ BK119.out
        go_wp2_with (first | ((with_reducible refine gate_callee (f := 60) rfl ?_); refine goesL_ (some 19) rfl rfl Try.func60 (by kernel_rfl) rfl #[.agg #[.int .i64 ((rd_T67 l0 x4_1).f0), .int .i64 ((rd_T67 l0 x4_1).f1), .int .i64 ((rd_T67 l0 x4_1).f2)]] rfl z1_ ?_; (with_reducible refine (spec_MsgOk.calls ((rd_T67 l0 x4_1).f0) ((rd_T67 l0 x4_1).f1) ((rd_T67 l0 x4_1).f2) true _ A9.out).mono ?_); rintro e w13 ⟨rfl, hb⟩; refine ⟨_, rfl, ?_⟩; have n0_ := q_ (Kd.R_below z43_ hb); have n1_ := q_ (blk_below (g := gb119) (o := .cells #[.int .i64 ((rd_T67 l0 x4_1).f0), .int .i64 ((rd_T67 l0 x4_1).f1), .int .i64 ((rd_T67 l0 x4_1).f2)] 67 (0, 0)) z24_ hb); have n2_ := q_ (below_step z14_ hb); clear HO_3; clear BK119; clear HB; have HO_3 := n0_; have BK119 := n1_; have HB := n2_; clear n0_ n1_ n2_; (try clear hb); (try clear hb2); (try clear hk); (try clear hi); obtain ⟨hcz14_0, hcz14_1, hcz14_2, hfz14_0, hfz14_1, hfz14_2⟩ := cs3_ BK119.out))
        go_meet
        case rel => exact ⟨_, (true), z7_, H', ⟨z95_⟩, ⟨z85_⟩, ⟨z46_⟩, ⟨z14_⟩⟩
       ·rw [if_neg c11] at H
        have c11b0 : (((rd_T67 l0 x4_1).f0) == 4) = false := beq_eq_false_iff_ne.mpr c11
        have c11b1 : (((rd_T67 l0 x4_1).f0) != 4) = true := bne_iff_ne.mpr c11
        (first | rw [c11b0] | (simp only [i64_w, i32_w]; rw [c11b0]) | skip)
        replace H := Option.bind_eq_some_iff.mp H
        obtain ⟨t121, A150, H⟩ := H
        replace H : (spec_Shrink.j1 k1 l0 x3_1 x4_1 t121 ((rd_T67 l0 x4_1).f0) ((rd_T67 l0 x4_1).f1) ((rd_T67 l0 x4_1).f2)) = some r := H
        have A15 := q_ A150
        clear A150
        have H' := q_ H
        clear H
        obtain ⟨hcz16_0, hcz16_1, hcz16_2, hfz16_0, hfz16_1, hfz16_2⟩ := cs3_ BK119.out
        go_wp2_with (first | ((with_reducible refine gate_callee (f := 60) rfl ?_); refine goesL_ (some 19) rfl rfl Try.func60 (by kernel_rfl) rfl #[.agg #[.int .i64 ((rd_T67 l0 x4_1).f0), .int .i64 ((rd_T67 l0 x4_1).f1), .int .i64 ((rd_T67 l0 x4_1).f2)]] rfl z1_ ?_; (with_reducible refine (spec_MsgOk.calls ((rd_T67 l0 x4_1).f0) ((rd_T67 l0 x4_1).f1) ((rd_T67 l0 x4_1).f2) true _ A9.out).mono ?_); rintro e w17 ⟨rfl, hb⟩; refine ⟨_, rfl, ?_⟩; have n0_ := q_ (Kd.R_below z43_ hb); have n1_ := q_ (blk_below (g := gb119) (o := .cells #[.int .i64 ((rd_T67 l0 x4_1).f0), .int .i64 ((rd_T67 l0 x4_1).f1), .int .i64 ((rd_T67 l0 x4_1).f2)] 67 (0, 0)) z24_ hb); have n2_ := q_ (below_step z14_ hb); clear HO_3; clear BK119; clear HB; have HO_3 := n0_; have BK119 := n1_; have HB := n2_; clear n0_ n1_ n2_; (try clear hb); (try clear hb2); (try clear hk); (try clear hi); obtain ⟨hcz18_0, hcz18_1, hcz18_2, hfz18_0, hfz18_1, hfz18_2⟩ := cs3_ BK119.out) | (go_at_call 91; (with_reducible refine (spec_l1Over.calls k1 _ _ l0 x4_1 t121 _ ?side1 ?side2 A15.out).mono ?_); (case side1 => exact z153_); (case side2 => exact HC0.out); rintro e w19 ⟨rfl, hb⟩; have n0_ := q_ (Kd.R_below z12_ hb); have n1_ := q_ (blk_below (g := gb119) (o := .cells #[.int .i64 ((rd_T67 l0 x4_1).f0), .int .i64 ((rd_T67 l0 x4_1).f1), .int .i64 ((rd_T67 l0 x4_1).f2)] 67 (0, 0)) z46_ hb); have n2_ := q_ (below_step z14_ hb); clear HO_3; clear BK119; clear HB; have HO_3 := n0_; have BK119 := n1_; have HB := n2_; clear n0_ n1_ n2_; (try clear hb); (try clear hb2); (try clear hk); (try clear hi)))
        go_meet
        case rel => exact ⟨_, (t121), z7_, H', ⟨z95_⟩, ⟨z85_⟩, ⟨z46_⟩, ⟨z14_⟩⟩
      ·replace c10 := Bool.eq_false_iff.mpr c10
       subst c10
       have H1 : (spec_Shrink.j1 k1 l0 x3_1 x4_1 true ((rd_T67 l0 x4_1).f0) ((rd_T67 l0 x4_1).f1) ((rd_T67 l0 x4_1).f2)) = some r := by rw [if_neg (show ¬ (false = true) by decide)] at H; exact H
       clear H
       have H := H1
       clear H1
       have H' := q_ H
       clear H
       obtain ⟨hcz20_0, hcz20_1, hcz20_2, hfz20_0, hfz20_1, hfz20_2⟩ := cs3_ BK119.out
       go_wp2_with (first | ((with_reducible refine gate_callee (f := 60) rfl ?_); refine goesL_ (some 19) rfl rfl Try.func60 (by kernel_rfl) rfl #[.agg #[.int .i64 ((rd_T67 l0 x4_1).f0), .int .i64 ((rd_T67 l0 x4_1).f1), .int .i64 ((rd_T67 l0 x4_1).f2)]] rfl z1_ ?_; (with_reducible refine (spec_MsgOk.calls ((rd_T67 l0 x4_1).f0) ((rd_T67 l0 x4_1).f1) ((rd_T67 l0 x4_1).f2) false _ A9.out).mono ?_); rintro e w21 ⟨rfl, hb⟩; refine ⟨_, rfl, ?_⟩; have n0_ := q_ (Kd.R_below z43_ hb); have n1_ := q_ (blk_below (g := gb119) (o := .cells #[.int .i64 ((rd_T67 l0 x4_1).f0), .int .i64 ((rd_T67 l0 x4_1).f1), .int .i64 ((rd_T67 l0 x4_1).f2)] 67 (0, 0)) z24_ hb); have n2_ := q_ (below_step z14_ hb); clear HO_3; clear BK119; clear HB; have HO_3 := n0_; have BK119 := n1_; have HB := n2_; clear n0_ n1_ n2_; (try clear hb); (try clear hb2); (try clear hk); (try clear hi)))
       go_meet
       case rel => exact ⟨_, (true), z7_, H', ⟨z95_⟩, ⟨z85_⟩, ⟨z46_⟩, ⟨z14_⟩⟩
     case rest =>
      clear HC6
      try clear c1
      try clear p1
      try clear q1
      try clear hx1
      try clear p2
      try clear c4
      try clear c4b0
      try clear c5
      try clear c5b0
      try clear c6
      try clear c10
      try clear c11
      try clear c11b0
      try clear c11b1
      try clear p11
      try clear q11
      try clear hx11
      try clear c16
      try clear hcz12_0
      try clear hcz12_1
      try clear hcz12_2
      try clear hcz14_0
      try clear hcz14_1
      try clear hcz14_2
      try clear hcz16_0
      try clear hcz16_1
      try clear hcz16_2
      try clear hcz18_0
      try clear hcz18_1
      try clear hcz18_2
      try clear hcz20_0
      try clear hcz20_1
      try clear hcz20_2
      try clear hcz8_0
      try clear hcz8_1
      try clear hcz8_2
      try clear hfz12_0
      try clear hfz12_1
      try clear hfz12_2
      try clear hfz14_0
      try clear hfz14_1
      try clear hfz14_2
      try clear hfz16_0
      try clear hfz16_1
      try clear hfz16_2
      try clear hfz18_0
      try clear hfz18_1
      try clear hfz18_2
      try clear hfz20_0
      try clear hfz20_1
      try clear hfz20_2
      try clear hfz8_0
      try clear hfz8_1
      try clear hfz8_2
      try clear hx118_0
      try clear hx118_1
      try clear hx118_2
      try clear p118
      try clear p2
      try clear q118
      obtain ⟨kq, x30_5, rfl, HA, HJ5, HO_3, BK119, HB⟩ := hcut
      cases kq with
      | zero => exact absurd HA.out (by simp [spec_Shrink.j1])
      | succ kj5 =>
       have H := HA.out
       clear HA
       simp only [spec_Shrink.j1] at H
       by_cases c22 : x30_5 = true
       ·subst c22
        have H1 : (spec_Shrink.l0 kj5 l0 x3_1 (wrap64 (x4_1 + 1))) = some r := z58_
        clear H
        have H := H1
        clear H1
        have H' := q_ H
        clear H
        go_wp2
        go_roundg kj5
        case measure => have := HK1.out; have := HJ5.out; omega
        case rel => exact ⟨(x3_1), (wrap64 (x4_1 + 1)), z7_, H', ⟨z109_⟩, ⟨by (with_reducible repeat (first | apply Kd.R_alloc | apply Kd.R_drewN | apply Kd.R_drew)); exact Kd.R_mono HO_3.out (fun _ hk => trivial)⟩, ⟨z14_⟩⟩
       ·replace c22 := Bool.eq_false_iff.mpr c22
        subst c22
        have H1 : ((spec_l1First.f kj5 x3_1 ((rd_T67 l0 x4_1).f1)).bind fun t122 => (if t122 ≥ 0 then (if 0 ≤ t122 then (if t122 < (x3_1.length : Int) then (if ((rd_T67 x3_1 t122).f0) = 1 then (if ((rd_T67 l0 x4_1).f0) = 3 then ((spec_l1Clamp.f (wrap64 (((rd_T67 x3_1 t122).f2) + ((rd_T67 l0 x4_1).f2)))).bind fun t125 => (spec_Shrink.l0 kj5 l0 (x3_1.set (t122 : Int).toNat (⟨(rd_T67 x3_1 t122).f0, (rd_T67 x3_1 t122).f1, t125⟩ : S67)) (wrap64 (x4_1 + 1)))) else (if x3_1.length < 5864062014805 then (spec_Shrink.l0 kj5 l0 (x3_1 ++ [(⟨((rd_T67 l0 x4_1).f0), ((rd_T67 l0 x4_1).f1), ((rd_T67 l0 x4_1).f2)⟩ : S67)]) (wrap64 (x4_1 + 1))) else (none))) else (if x3_1.length < 5864062014805 then (spec_Shrink.l0 kj5 l0 (x3_1 ++ [(⟨((rd_T67 l0 x4_1).f0), ((rd_T67 l0 x4_1).f1), ((rd_T67 l0 x4_1).f2)⟩ : S67)]) (wrap64 (x4_1 + 1))) else (none))) else (none)) else (none)) else (if x3_1.length < 5864062014805 then (spec_Shrink.l0 kj5 l0 (x3_1 ++ [(⟨((rd_T67 l0 x4_1).f0), ((rd_T67 l0 x4_1).f1), ((rd_T67 l0 x4_1).f2)⟩ : S67)]) (wrap64 (x4_1 + 1))) else (none)))) = some r := by rw [if_neg (show ¬ (false = true) by decide)] at H; exact H
        clear H
        have H := H1
        clear H1
        replace H := Option.bind_eq_some_iff.mp H
        obtain ⟨t122, A230, H⟩ := H
        replace H : (if t122 ≥ 0 then (if 0 ≤ t122 then (if t122 < (x3_1.length : Int) then (if ((rd_T67 x3_1 t122).f0) = 1 then (if ((rd_T67 l0 x4_1).f0) = 3 then ((spec_l1Clamp.f (wrap64 (((rd_T67 x3_1 t122).f2) + ((rd_T67 l0 x4_1).f2)))).bind fun t125 => (spec_Shrink.l0 kj5 l0 (x3_1.set (t122 : Int).toNat (⟨(rd_T67 x3_1 t122).f0, (rd_T67 x3_1 t122).f1, t125⟩ : S67)) (wrap64 (x4_1 + 1)))) else (if x3_1.length < 5864062014805 then (spec_Shrink.l0 kj5 l0 (x3_1 ++ [(⟨((rd_T67 l0 x4_1).f0), ((rd_T67 l0 x4_1).f1), ((rd_T67 l0 x4_1).f2)⟩ : S67)]) (wrap64 (x4_1 + 1))) else (none))) else (if x3_1.length < 5864062014805 then (spec_Shrink.l0 kj5 l0 (x3_1 ++ [(⟨((rd_T67 l0 x4_1).f0), ((rd_T67 l0 x4_1).f1), ((rd_T67 l0 x4_1).f2)⟩ : S67)]) (wrap64 (x4_1 + 1))) else (none))) else (none)) else (none)) else (if x3_1.length < 5864062014805 then (spec_Shrink.l0 kj5 l0 (x3_1 ++ [(⟨((rd_T67 l0 x4_1).f0), ((rd_T67 l0 x4_1).f1), ((rd_T67 l0 x4_1).f2)⟩ : S67)]) (wrap64 (x4_1 + 1))) else (none))) = some r := H
        have A23 := q_ A230
        clear A230
        by_cases c24 : t122 ≥ 0
        ·rw [if_pos c24] at H
         have c24b0 : decide (0 ≤ t122) = true := decide_eq_true c24
         clear c24
         by_cases c25 : 0 ≤ t122
         ·rw [if_pos c25] at H
          have c25b0 : decide (0 ≤ t122) = true := decide_eq_true c25
          clear c25
          by_cases c26 : t122 < (x3_1.length : Int)
          ·rw [if_pos c26] at H
           have c26b0 : decide (t122 < (x3_1.length : Int)) = true := decide_eq_true c26
           clear c26
           by_cases c27 : ((rd_T67 x3_1 t122).f0) = 1
           ·rw [if_pos c27] at H
            have c27b0 : (((rd_T67 x3_1 t122).f0) == 1) = true := beq_iff_eq.mpr c27
            have c27b1 : (((rd_T67 x3_1 t122).f0) != 1) = false := bne_eq_false_iff_eq.mpr c27
            clear c27
            by_cases c28 : ((rd_T67 l0 x4_1).f0) = 3
            ·rw [if_pos c28] at H
             have c28b0 : (((rd_T67 l0 x4_1).f0) == 3) = true := beq_iff_eq.mpr c28
             have c28b1 : (((rd_T67 l0 x4_1).f0) != 3) = false := bne_eq_false_iff_eq.mpr c28
             clear c28
             replace H := Option.bind_eq_some_iff.mp H
             obtain ⟨t125, A290, H⟩ := H
             replace H : (spec_Shrink.l0 kj5 l0 (x3_1.set (t122 : Int).toNat (⟨(rd_T67 x3_1 t122).f0, (rd_T67 x3_1 t122).f1, t125⟩ : S67)) (wrap64 (x4_1 + 1))) = some r := H
             have A29 := q_ A290
             clear A290
             obtain ⟨y126, hy126⟩ : ∃ y_ : List (S67), y_ = (x3_1.set (t122 : Int).toNat (⟨(rd_T67 x3_1 t122).f0, (rd_T67 x3_1 t122).f1, t125⟩ : S67)) := ⟨_, rfl⟩
             replace H : (spec_Shrink.l0 kj5 l0 y126 (wrap64 (x4_1 + 1))) = some r := by first | (rw [hy126]; with_reducible exact H) | (have H2_ := (Option.bind_some _ _).symm.trans H; rw [hy126]; with_reducible exact H2_) | (have H2_ := (Option.bind_some _ _).symm.trans H; with_reducible exact H2_) | with_reducible exact H | (rw [hy126]; exact H) | exact H
             have Ny126 := q_ hy126
             clear hy126
             have H' := q_ H
             clear H
             obtain ⟨hcz31_0, hcz31_1, hcz31_2, hfz31_0, hfz31_1, hfz31_2⟩ := cs3_ BK119.out
             obtain ⟨Ao32, co32, eo32⟩ := Kd.R_slice HO_3.out
             subst eo32
             try go_wp2_with (first | ((with_reducible refine gate_callee (f := 92) rfl ?_); refine goesL_ (some 34) rfl rfl Try.func92 (by kernel_rfl) rfl #[.slice Ao32 x3_1.length co32, .int .i64 ((rd_T67 l0 x4_1).f1)] rfl z1_ ?_; (with_reducible refine (spec_l1First.calls kj5 _ _ x3_1 ((rd_T67 l0 x4_1).f1) t122 _ ?side1 ?side2 A23.out).mono ?_); (case side1 => exact z156_); (case side2 => exact z180_); rintro e w' ⟨rfl, ⟨nd, rfl⟩⟩; refine ⟨_, rfl, ?_⟩; (try (rw [drewN_self wc]; generalize hq_ : World.drewN wc _ = wc; have n0_ : Aside0 (Kd.R k67 67 wc w.heap.size (fun k_ => k_ ≠ gb119) (.slice Ao32 x3_1.length co32) x3_1) := ⟨by rw [← hq_]; exact z12_⟩; have n1_ : Aside0 (wc.heap[gb119]? = some (.cells #[.int .i64 ((rd_T67 l0 x4_1).f0), .int .i64 ((rd_T67 l0 x4_1).f1), .int .i64 ((rd_T67 l0 x4_1).f2)] 67 (0, 0))) := ⟨by rw [← hq_]; exact z46_⟩; have n2_ : Aside0 (Below w.heap.size w wc) := ⟨by rw [← hq_]; exact z14_⟩; clear HO_3 BK119 HB hq_; have HO_3 := n0_; have BK119 := n1_; have HB := n2_; clear n0_ n1_ n2_)); obtain ⟨hcq119_0, hcq119_1, hcq119_2, hfq119_0, hfq119_1, hfq119_2⟩ := cs3_ BK119.out; have p123 : 0 ≤ (t122 : Int) := of_decide_eq_true z3_; have q123 : t122 < (x3_1.length : Int) := of_decide_eq_true z3_; obtain ⟨ad123, e123, hx123_0, hx123_1, hx123_2⟩ := at_T67 (Kd.R_reads' HO_3.out).2.2 t122 p123 q123; cases e123; replace p123 := eq_true p123; replace q123 := eq_true q123))
             have n0_ := q_ (Kd.R_drew HO_3.out)
             have n1_ := q_ (blk_drew BK119.out)
             have n2_ := q_ (below_drew1 HB.out)
             clear HO_3
             clear BK119
             clear HB
             have HO_3 := n0_
             have BK119 := n1_
             have HB := n2_
             clear n0_ n1_ n2_
             have p124 : 0 ≤ (t122 : Int) := of_decide_eq_true z3_
             have q124 : t122 < (x3_1.length : Int) := of_decide_eq_true z3_
             obtain ⟨ad124, e124, hx124_0, hx124_1, hx124_2⟩ := at_T67 (Kd.R_reads' HO_3.out).2.2 t122 p124 q124
             obtain rfl : ad123 = ad124 := (by injection e124)
             replace p124 := eq_true p124
             replace q124 := eq_true q124
             refine start_ (n := 14) (S := fun w' => w'.cell? ⟨gb119, 0, none⟩ = some (.int .i64 ((rd_T67 l0 x4_1).f0)) ∧ w'.cell? ⟨gb119, 1, none⟩ = some (.int .i64 ((rd_T67 l0 x4_1).f1)) ∧ w'.cell? ⟨gb119, 2, none⟩ = some (.int .i64 ((rd_T67 l0 x4_1).f2)) ∧ w'.cell? (ad123.add ((t122).toNat * 3)) = some (.int .i64 ((rd_T67 x3_1 t122).f0)) ∧ w'.cell? ⟨(ad123.add ((t122).toNat * 3)).block, (ad123.add ((t122).toNat * 3)).off + 1, none⟩ = some (.int .i64 ((rd_T67 x3_1 t122).f1)) ∧ w'.cell? ⟨(ad123.add ((t122).toNat * 3)).block, (ad123.add ((t122).toNat * 3)).off + 2, none⟩ = some (.int .i64 ((rd_T67 x3_1 t122).f2))) (ds := [13]) #[false, false, false, false, false, false, false, false, false, false, false, false, false, false] (by kernel_rfl) rfl rfl ⟨(blk_cell BK119.out 0).trans rfl, (blk_cell BK119.out 1).trans rfl, (blk_cell BK119.out 2).trans rfl, hx124_0, hx124_1, hx124_2⟩ (fun hHeld => ?_); refine with_tabW spec_Shrink.tab9 spec_Shrink.bits9 (fun HT_ HW_ => ?_)
             generalize wc.drew = w33 at HO_3 BK119 HB hx124_0 hx124_1 hx124_2 hHeld ⊢
             refine pure_ (i := 0) (N := some 50) (v := ?_) (a' := ?_) #[true, false, false, false, false, false, false, false, false, false, false, false, false, false] rfl rfl (any_of HT_.out (by kernel_rfl)) (fun _ _ _ h => h) (Or.inl ⟨by rfl, ?_⟩) ?_ ?_
             rotate_left
             ·intro w'
              go_simp
              with_reducible rfl
             rotate_left
             ·simp only [Act.put, List.setIfInBounds_toArray, List.set_cons_zero, List.set_cons_succ, i64_w, i32_w]
              rfl
             refine pure_ (i := 1) (N := some 51) (v := ?_) (a' := ?_) #[true, true, false, false, false, false, false, false, false, false, false, false, false, false] rfl rfl (any_of HT_.out (by kernel_rfl)) (fun _ _ _ h => h) (Or.inl ⟨by rfl, ?_⟩) ?_ ?_
             rotate_left
             ·intro w'
              go_simp
              with_reducible rfl
             rotate_left
             ·simp only [Act.put, List.setIfInBounds_toArray, List.set_cons_zero, List.set_cons_succ, i64_w, i32_w]
              rfl
             refine pure_ (i := 2) (N := some 52) (v := ?_) (a' := ?_) #[true, true, true, false, false, false, false, false, false, false, false, false, false, false] rfl rfl (any_of HT_.out (by kernel_rfl)) (fun _ _ _ h => h) (Or.inl ⟨by rfl, ?_⟩) ?_ ?_
             rotate_left
             ·intro w'
              go_simp
              with_reducible rfl
             rotate_left
             ·simp only [Act.put, List.setIfInBounds_toArray, List.set_cons_zero, List.set_cons_succ, i64_w, i32_w]
              rfl
             refine pure_ (i := 3) (N := some 53) (v := ?_) (a' := ?_) #[true, true, true, true, false, false, false, false, false, false, false, false, false, false] rfl rfl (any_of HT_.out (by kernel_rfl)) (fun _ _ _ h => h) (Or.inl ⟨by rfl, ?_⟩) ?_ ?_
             rotate_left
             ·intro w'
              go_simp
              with_reducible rfl
             rotate_left
             ·simp only [Act.put, List.setIfInBounds_toArray, List.set_cons_zero, List.set_cons_succ, i64_w, i32_w]
              rfl
             refine pure_ (i := 4) (N := some 54) (v := ?_) (a' := ?_) #[true, true, true, true, true, false, false, false, false, false, false, false, false, false] rfl rfl (any_of HT_.out (by kernel_rfl)) (fun _ _ _ h => h) (Or.inl ⟨by rfl, ?_⟩) ?_ ?_
             rotate_left
             ·intro w'
              go_simp
              with_reducible rfl
             rotate_left
             ·simp only [Act.put, List.setIfInBounds_toArray, List.set_cons_zero, List.set_cons_succ, i64_w, i32_w]
              rfl
             refine pure_ (i := 5) (N := some 55) (v := ?_) (a' := ?_) #[true, true, true, true, true, true, false, false, false, false, false, false, false, false] rfl rfl (any_of HT_.out (by kernel_rfl)) (fun _ _ _ h => h) (Or.inl ⟨by rfl, ?_⟩) ?_ ?_
             rotate_left
             ·intro w'
              go_simp
              with_reducible rfl
             rotate_left
             ·simp only [Act.put, List.setIfInBounds_toArray, List.set_cons_zero, List.set_cons_succ, i64_w, i32_w]
              rfl
             refine pure_ (i := 7) (N := some 57) (v := ?_) (a' := ?_) #[true, true, true, true, true, true, false, true, false, false, false, false, false, false] rfl rfl (any_of HT_.out (by kernel_rfl)) (fun _ _ _ h => h) (Or.inl ⟨by rfl, ?_⟩) ?_ ?_
             rotate_left
             ·intro w'
              go_simp
              with_reducible rfl
             rotate_left
             ·simp only [Act.put, List.setIfInBounds_toArray, List.set_cons_zero, List.set_cons_succ, i64_w, i32_w]
              rfl
             refine take_ (i := 6) (N := some 56) (v := ?_) (a' := ?_) #[true, true, true, true, true, true, true, true, false, false, false, false, false, false] rfl rfl (take_ofW HT_.out HW_.out (by kernel_rfl)) (fun _ _ _ h => h) (Or.inl ⟨by rfl, ?_⟩) hHeld ?_ ?_
             rotate_left
             ·rintro w' ⟨s0, s1, s2, s3, s4, s5⟩
              go_simp
              with_reducible rfl
             rotate_left
             ·simp only [Act.put, List.setIfInBounds_toArray, List.set_cons_zero, List.set_cons_succ, i64_w, i32_w]
              rfl
             refine take_ (i := 8) (N := some 58) (v := ?_) (a' := ?_) #[true, true, true, true, true, true, true, true, true, false, false, false, false, false] rfl rfl (take_ofW HT_.out HW_.out (by kernel_rfl)) (fun _ _ _ h => h) (Or.inl ⟨by rfl, ?_⟩) hHeld ?_ ?_
             rotate_left
             ·rintro w' ⟨s0, s1, s2, s3, s4, s5⟩
              go_simp
              with_reducible rfl
             rotate_left
             ·simp only [Act.put, List.setIfInBounds_toArray, List.set_cons_zero, List.set_cons_succ, i64_w, i32_w]
              rfl
             refine pure_ (i := 9) (N := some 59) (v := ?_) (a' := ?_) #[true, true, true, true, true, true, true, true, true, true, false, false, false, false] rfl rfl (any_of HT_.out (by kernel_rfl)) (fun _ _ _ h => h) (Or.inl ⟨by rfl, ?_⟩) ?_ ?_
             rotate_left
             ·intro w'
              go_simp
              with_reducible rfl
             rotate_left
             ·simp only [Act.put, List.setIfInBounds_toArray, List.set_cons_zero, List.set_cons_succ, i64_w, i32_w]
              rfl
             refine one_ (i := 10) (N := some 60) #[true, true, true, true, true, true, true, true, true, true, true, false, false, false] rfl rfl (one_of HT_.out (by kernel_rfl)) (by decide) (fun K hK => ?_)
             refine goes_ Try.func93 (by kernel_rfl) rfl #[.int .i64 (wrap64 (((rd_T67 x3_1 t122).f2) + ((rd_T67 l0 x4_1).f2)))] (by rfl) rfl rfl z1_ ?_
             with_reducible refine (spec_l1Clamp.calls (wrap64 (((rd_T67 x3_1 t122).f2) + ((rd_T67 l0 x4_1).f2))) t125 _ A29.out).mono ?_
             rintro e w' ⟨rfl, ⟨nd, rfl⟩⟩
             refine ⟨_, rfl, ?_⟩
             have p30 : 0 ≤ (t122 : Int) := of_decide_eq_true z3_
             have q30 : (t122 : Int) < ((x3_1.length : Int) : Int) := of_decide_eq_true z3_
             obtain ⟨go30, co30, eo30, gb30, gl30, cl30, HG30⟩ := Kd.R_form HO_3.out (by omega)
             (first | cases eo30 | (injection eo30 with ea_ en_ ec_; (first | subst ea_ | (injection ea_ with ea_; subst ea_)); subst ec_; clear en_))
             have GB30 := q_ gb30
             have GG30 := q_ HG30
             clear gb30 gl30 HG30
             (first | simp only [add_plain] at hx123_0 | skip)
             (first | simp only [add_plain] at hx123_1 | skip)
             (first | simp only [add_plain] at hx123_2 | skip)
             (first | simp only [add_plain] at hx124_0 | skip)
             (first | simp only [add_plain] at hx124_1 | skip)
             (first | simp only [add_plain] at hx124_2 | skip)
             obtain ⟨ce30, hcl30, hM30, hcc30, hfr30⟩ := Kd.R_elem HO_3.out z67 (t122 : Int) p30 q30
             obtain rfl := k67_openM hM30
             have hx30_0 : World.cell? _ ⟨go30, (t122 : Int).toNat * 3, none⟩ = some (.int .i64 ((rd_T67 x3_1 t122).f0)) := hcc30 0 _ rfl
             have hx30_1 : World.cell? _ ⟨go30, (t122 : Int).toNat * 3 + 1, none⟩ = some (.int .i64 ((rd_T67 x3_1 t122).f1)) := hcc30 1 _ rfl
             have hx30_2 : World.cell? _ ⟨go30, (t122 : Int).toNat * 3 + 2, none⟩ = some (.int .i64 ((rd_T67 x3_1 t122).f2)) := hcc30 2 _ rfl
             have hf30_0 : World.frozen? _ ⟨go30, (t122 : Int).toNat * 3, none⟩ = false := hfr30 0
             have hf30_1 : World.frozen? _ ⟨go30, (t122 : Int).toNat * 3 + 1, none⟩ = false := hfr30 1
             have hf30_2 : World.frozen? _ ⟨go30, (t122 : Int).toNat * 3 + 2, none⟩ = false := hfr30 2
             clear hcl30 hcc30 hfr30 hM30
             replace p30 := eq_true p30
             replace q30 := eq_true q30
             obtain ⟨ce34, hcl34, hM34, hcc34, hfr34⟩ := Kd.R_elem HO_3.out z67 (t122 : Int) (of_decide_eq_true z3_) z132_
             obtain rfl := k67_openM hM34
             have HP34 := (Kd.R_seg HO_3.out (t122 : Int) (of_decide_eq_true z3_) z132_ (seg := [.int .i64 t125]) (j := 2) hcl34 hcc34 (show 3 ≤ 3 from by decide) (x' := (⟨(rd_T67 x3_1 t122).f0, (rd_T67 x3_1 t122).f1, t125⟩ : S67)) (k67_mkM _ _ _ (⟨(rd_T67 x3_1 t122).f0, (rd_T67 x3_1 t122).f1, t125⟩ : S67) ) (fun _ hk => hk)).1
             rw [← Ny126.out] at HP34
             have HQ34 := q_ HP34
             clear hcl34 hcc34 hfr34 hM34 HP34
             refine hK.out _ _ ⟨(blk_cell BK119.out 0).trans rfl, (blk_cell BK119.out 1).trans rfl, (blk_cell BK119.out 2).trans rfl, hHeld.2.2.2.1, hHeld.2.2.2.2.1, hHeld.2.2.2.2.2⟩ (fun hHeld => ?_)
             clear hK K
             refine norm_ (a' := ?_) ?_ ?_
             rotate_left
             ·show Act.put _ (some 60) _ = _
              simp only [Act.put, List.setIfInBounds_toArray, List.set_cons_zero, List.set_cons_succ, i64_w, i32_w]
              rfl
             refine pure_ (i := 11) (N := some 61) (v := ?_) (a' := ?_) #[true, true, true, true, true, true, true, true, true, true, true, true, false, false] rfl rfl (any_of HT_.out (by kernel_rfl)) (fun _ _ _ h => h) (Or.inl ⟨by rfl, ?_⟩) ?_ ?_
             rotate_left
             ·intro w'
              go_simp
              with_reducible rfl
             rotate_left
             ·simp only [Act.put, List.setIfInBounds_toArray, List.set_cons_zero, List.set_cons_succ, i64_w, i32_w]
              rfl
             refine pure_ (i := 12) (N := some 62) (v := ?_) (a' := ?_) #[true, true, true, true, true, true, true, true, true, true, true, true, true, false] rfl rfl (any_of HT_.out (by kernel_rfl)) (fun _ _ _ h => h) (Or.inl ⟨by rfl, ?_⟩) ?_ ?_
             rotate_left
             ·intro w'
              go_simp
              with_reducible rfl
             rotate_left
             ·simp only [Act.put, List.setIfInBounds_toArray, List.set_cons_zero, List.set_cons_succ, i64_w, i32_w]
              rfl
             refine last_ (i := 13) (N := none) #[true, true, true, true, true, true, true, true, true, true, true, true, true, true] rfl rfl (one_of HT_.out (by kernel_rfl)) (by decide) (fun K hK => ?_)
             refine skip_ (w1 := ?_) (by rfl) rfl ?_ ?_
             rotate_left
             ·go_simp
              rfl
             refine hK.out _ _ ?_
             clear hK K
             refine done_ (done_of HT_.out (by kernel_rfl)) ?_
             try go_wp2
             go_roundg kj5
             case measure => have := HK1.out; have := HJ5.out; omega
             case rel => exact ⟨(y126), (wrap64 (x4_1 + 1)), z7_, H', ⟨z109_⟩, ⟨by (with_reducible repeat (first | apply Kd.R_alloc | apply Kd.R_drewN | apply Kd.R_drew)); exact Kd.R_mono HQ34.out (fun _ hk => trivial)⟩, ⟨by repeat (first | (with_reducible first | exact HB.out | apply below_alloc | apply pw_below_drewN | apply below_drew1 | refine below_set ?_ GB30.out | refine below_set ?_ GE119.out) | exact HB.out)⟩⟩
            ·rw [if_neg c28] at H
             have c28b0 : (((rd_T67 l0 x4_1).f0) == 3) = false := beq_eq_false_iff_ne.mpr c28
             have c28b1 : (((rd_T67 l0 x4_1).f0) != 3) = true := bne_iff_ne.mpr c28
             by_cases c35 : x3_1.length < 5864062014805
             ·rw [if_pos c35] at H
              have LMc35 := q_ c35
              clear c35
              obtain ⟨y127, hy127⟩ : ∃ y_ : List (S67), y_ = (x3_1 ++ [(⟨((rd_T67 l0 x4_1).f0), ((rd_T67 l0 x4_1).f1), ((rd_T67 l0 x4_1).f2)⟩ : S67)]) := ⟨_, rfl⟩
              replace H : (spec_Shrink.l0 kj5 l0 y127 (wrap64 (x4_1 + 1))) = some r := by first | (rw [hy127]; with_reducible exact H) | (have H2_ := (Option.bind_some _ _).symm.trans H; rw [hy127]; with_reducible exact H2_) | (have H2_ := (Option.bind_some _ _).symm.trans H; with_reducible exact H2_) | with_reducible exact H | (rw [hy127]; exact H) | exact H
              have Ny127 := q_ hy127
              clear hy127
              have H' := q_ H
              clear H
              obtain ⟨hcz36_0, hcz36_1, hcz36_2, hfz36_0, hfz36_1, hfz36_2⟩ := cs3_ BK119.out
              obtain ⟨Ao37, co37, eo37⟩ := Kd.R_slice HO_3.out
              subst eo37
              go_wp2_with (first | ((with_reducible refine gate_callee (f := 92) rfl ?_); refine goesL_ (some 34) rfl rfl Try.func92 (by kernel_rfl) rfl #[.slice Ao37 x3_1.length co37, .int .i64 ((rd_T67 l0 x4_1).f1)] rfl z1_ ?_; (with_reducible refine (spec_l1First.calls kj5 _ _ x3_1 ((rd_T67 l0 x4_1).f1) t122 _ ?side1 ?side2 A23.out).mono ?_); (case side1 => exact z156_); (case side2 => exact z180_); rintro e w' ⟨rfl, ⟨nd, rfl⟩⟩; refine ⟨_, rfl, ?_⟩; have p123 : 0 ≤ (t122 : Int) := of_decide_eq_true z3_; have q123 : t122 < (x3_1.length : Int) := of_decide_eq_true z3_; obtain ⟨ad123, e123, hx123_0, hx123_1, hx123_2⟩ := at_T67 (Kd.R_reads' HO_3.out).2.2 t122 p123 q123; cases e123; replace p123 := eq_true p123; replace q123 := eq_true q123) | ((with_reducible refine gate_builtin (b := .append) (xs := #[.tmp 63, .tmp 65]) rfl ?_); at_builtin; refine Kd.R_append k67 (w0 := w) w.heap.size rfl (.tmp 63) (.tmp 65) 24 67 (.agg #[(.int .i64 0), (.int .i64 0), (.int .i64 0)]) 24 rfl Try.underlying24 info67 rfl (by decide) (by omega) (.slice (some ad123) x3_1.length co37) x3_1 (⟨((rd_T67 l0 x4_1).f0), ((rd_T67 l0 x4_1).f1), ((rd_T67 l0 x4_1).f2)⟩ : S67) [.int .i64 ((rd_T67 l0 x4_1).f0), .int .i64 ((rd_T67 l0 x4_1).f1), .int .i64 ((rd_T67 l0 x4_1).f2)] (fun k_ => k_ ≠ gb119) (fun _ => False) rfl rfl ?aP (fun _ hk => hk.elim) ?aF ?aO ?aB ?aS ?aL ?_; (case aP => exact z176_); (case aB => exact z14_); (case aF => exact z165_); (case aO => exact z12_); (case aS => exact (below_size z14_)); (case aL => have := LMc35.out; omega); intro v128 w38 ho hb hg hat; rw [← Ny127.out] at ho; have n0_ := q_ (blk_grown (g := gb119) (o := .cells #[.int .i64 ((rd_T67 l0 x4_1).f0), .int .i64 ((rd_T67 l0 x4_1).f1), .int .i64 ((rd_T67 l0 x4_1).f2)] 67 (0, 0)) z46_ hg (Kd.R_away HO_3.out (fun _ hk => hk))); have n1_ := q_ (hb); have n2_ := q_ (ho); clear BK119; clear HB; clear HO_3; have BK119 := n0_; have HB := n1_; have HO129 := n2_; clear n0_ n1_ n2_; clear ho hb hg hat))
              go_roundg kj5
              case measure => have := HK1.out; have := HJ5.out; omega
              case rel => exact ⟨(y127), (wrap64 (x4_1 + 1)), z7_, H', ⟨z109_⟩, ⟨by (with_reducible repeat (first | apply Kd.R_alloc | apply Kd.R_drewN | apply Kd.R_drew)); exact Kd.R_mono HO129.out (fun _ hk => trivial)⟩, ⟨z14_⟩⟩
             ·rw [if_neg c35] at H
              exact absurd H (by simp)
           ·rw [if_neg c27] at H
            have c27b0 : (((rd_T67 x3_1 t122).f0) == 1) = false := beq_eq_false_iff_ne.mpr c27
            have c27b1 : (((rd_T67 x3_1 t122).f0) != 1) = true := bne_iff_ne.mpr c27
            by_cases c39 : x3_1.length < 5864062014805
            ·rw [if_pos c39] at H
             have LMc39 := q_ c39
             clear c39
             obtain ⟨y130, hy130⟩ : ∃ y_ : List (S67), y_ = (x3_1 ++ [(⟨((rd_T67 l0 x4_1).f0), ((rd_T67 l0 x4_1).f1), ((rd_T67 l0 x4_1).f2)⟩ : S67)]) := ⟨_, rfl⟩
             replace H : (spec_Shrink.l0 kj5 l0 y130 (wrap64 (x4_1 + 1))) = some r := by first | (rw [hy130]; with_reducible exact H) | (have H2_ := (Option.bind_some _ _).symm.trans H; rw [hy130]; with_reducible exact H2_) | (have H2_ := (Option.bind_some _ _).symm.trans H; with_reducible exact H2_) | with_reducible exact H | (rw [hy130]; exact H) | exact H
             have Ny130 := q_ hy130
             clear hy130
             have H' := q_ H
             clear H
             obtain ⟨hcz40_0, hcz40_1, hcz40_2, hfz40_0, hfz40_1, hfz40_2⟩ := cs3_ BK119.out
             obtain ⟨Ao41, co41, eo41⟩ := Kd.R_slice HO_3.out
             subst eo41
             go_wp2_with (first | ((with_reducible refine gate_callee (f := 92) rfl ?_); refine goesL_ (some 34) rfl rfl Try.func92 (by kernel_rfl) rfl #[.slice Ao41 x3_1.length co41, .int .i64 ((rd_T67 l0 x4_1).f1)] rfl z1_ ?_; (with_reducible refine (spec_l1First.calls kj5 _ _ x3_1 ((rd_T67 l0 x4_1).f1) t122 _ ?side1 ?side2 A23.out).mono ?_); (case side1 => exact z156_); (case side2 => exact z180_); rintro e w' ⟨rfl, ⟨nd, rfl⟩⟩; refine ⟨_, rfl, ?_⟩; have p123 : 0 ≤ (t122 : Int) := of_decide_eq_true z3_; have q123 : t122 < (x3_1.length : Int) := of_decide_eq_true z3_; obtain ⟨ad123, e123, hx123_0, hx123_1, hx123_2⟩ := at_T67 (Kd.R_reads' HO_3.out).2.2 t122 p123 q123; cases e123; replace p123 := eq_true p123; replace q123 := eq_true q123) | ((with_reducible refine gate_builtin (b := .append) (xs := #[.tmp 63, .tmp 65]) rfl ?_); at_builtin; refine Kd.R_append k67 (w0 := w) w.heap.size rfl (.tmp 63) (.tmp 65) 24 67 (.agg #[(.int .i64 0), (.int .i64 0), (.int .i64 0)]) 24 rfl Try.underlying24 info67 rfl (by decide) (by omega) (.slice (some ad123) x3_1.length co41) x3_1 (⟨((rd_T67 l0 x4_1).f0), ((rd_T67 l0 x4_1).f1), ((rd_T67 l0 x4_1).f2)⟩ : S67) [.int .i64 ((rd_T67 l0 x4_1).f0), .int .i64 ((rd_T67 l0 x4_1).f1), .int .i64 ((rd_T67 l0 x4_1).f2)] (fun k_ => k_ ≠ gb119) (fun _ => False) rfl rfl ?aP (fun _ hk => hk.elim) ?aF ?aO ?aB ?aS ?aL ?_; (case aP => exact z176_); (case aB => exact z14_); (case aF => exact z165_); (case aO => exact z12_); (case aS => exact (below_size z14_)); (case aL => have := LMc39.out; omega); intro v131 w42 ho hb hg hat; rw [← Ny130.out] at ho; have n0_ := q_ (blk_grown (g := gb119) (o := .cells #[.int .i64 ((rd_T67 l0 x4_1).f0), .int .i64 ((rd_T67 l0 x4_1).f1), .int .i64 ((rd_T67 l0 x4_1).f2)] 67 (0, 0)) z46_ hg (Kd.R_away HO_3.out (fun _ hk => hk))); have n1_ := q_ (hb); have n2_ := q_ (ho); clear BK119; clear HB; clear HO_3; have BK119 := n0_; have HB := n1_; have HO132 := n2_; clear n0_ n1_ n2_; clear ho hb hg hat))
             go_roundg kj5
             case measure => have := HK1.out; have := HJ5.out; omega
             case rel => exact ⟨(y130), (wrap64 (x4_1 + 1)), z7_, H', ⟨z109_⟩, ⟨by (with_reducible repeat (first | apply Kd.R_alloc | apply Kd.R_drewN | apply Kd.R_drew)); exact Kd.R_mono HO132.out (fun _ hk => trivial)⟩, ⟨z14_⟩⟩
            ·rw [if_neg c39] at H
             exact absurd H (by simp)
          ·rw [if_neg c26] at H
           exact absurd H (by simp)
         ·rw [if_neg c25] at H
          exact absurd H (by simp)
        ·rw [if_neg c24] at H
         have c24b0 : decide (0 ≤ t122) = false := decide_eq_false c24
         clear c24
         by_cases c43 : x3_1.length < 5864062014805
         ·rw [if_pos c43] at H
          have LMc43 := q_ c43
          clear c43
          obtain ⟨y133, hy133⟩ : ∃ y_ : List (S67), y_ = (x3_1 ++ [(⟨((rd_T67 l0 x4_1).f0), ((rd_T67 l0 x4_1).f1), ((rd_T67 l0 x4_1).f2)⟩ : S67)]) := ⟨_, rfl⟩
          replace H : (spec_Shrink.l0 kj5 l0 y133 (wrap64 (x4_1 + 1))) = some r := by first | (rw [hy133]; with_reducible exact H) | (have H2_ := (Option.bind_some _ _).symm.trans H; rw [hy133]; with_reducible exact H2_) | (have H2_ := (Option.bind_some _ _).symm.trans H; with_reducible exact H2_) | with_reducible exact H | (rw [hy133]; exact H) | exact H
          have Ny133 := q_ hy133
          clear hy133
          have H' := q_ H
          clear H
          obtain ⟨hcz44_0, hcz44_1, hcz44_2, hfz44_0, hfz44_1, hfz44_2⟩ := cs3_ BK119.out
          obtain ⟨Ao45, co45, eo45⟩ := Kd.R_slice HO_3.out
          subst eo45
          go_wp2_with (first | ((with_reducible refine gate_callee (f := 92) rfl ?_); refine goesL_ (some 34) rfl rfl Try.func92 (by kernel_rfl) rfl #[.slice Ao45 x3_1.length co45, .int .i64 ((rd_T67 l0 x4_1).f1)] rfl z1_ ?_; (with_reducible refine (spec_l1First.calls kj5 _ _ x3_1 ((rd_T67 l0 x4_1).f1) t122 _ ?side1 ?side2 A23.out).mono ?_); (case side1 => exact z156_); (case side2 => exact z180_); rintro e w' ⟨rfl, ⟨nd, rfl⟩⟩; refine ⟨_, rfl, ?_⟩) | ((with_reducible refine gate_builtin (b := .append) (xs := #[.tmp 63, .tmp 65]) rfl ?_); at_builtin; refine Kd.R_append k67 (w0 := w) w.heap.size rfl (.tmp 63) (.tmp 65) 24 67 (.agg #[(.int .i64 0), (.int .i64 0), (.int .i64 0)]) 24 rfl Try.underlying24 info67 rfl (by decide) (by omega) (.slice Ao45 x3_1.length co45) x3_1 (⟨((rd_T67 l0 x4_1).f0), ((rd_T67 l0 x4_1).f1), ((rd_T67 l0 x4_1).f2)⟩ : S67) [.int .i64 ((rd_T67 l0 x4_1).f0), .int .i64 ((rd_T67 l0 x4_1).f1), .int .i64 ((rd_T67 l0 x4_1).f2)] (fun k_ => k_ ≠ gb119) (fun _ => False) rfl rfl ?aP (fun _ hk => hk.elim) ?aF ?aO ?aB ?aS ?aL ?_; (case aP => exact z176_); (case aB => exact z14_); (case aF => exact z165_); (case aO => exact z12_); (case aS => exact (below_size z14_)); (case aL => have := LMc43.out; omega); intro v134 w46 ho hb hg hat; rw [← Ny133.out] at ho; have n0_ := q_ (blk_grown (g := gb119) (o := .cells #[.int .i64 ((rd_T67 l0 x4_1).f0), .int .i64 ((rd_T67 l0 x4_1).f1), .int .i64 ((rd_T67 l0 x4_1).f2)] 67 (0, 0)) z46_ hg (Kd.R_away HO_3.out (fun _ hk => hk))); have n1_ := q_ (hb); have n2_ := q_ (ho); clear BK119; clear HB; clear HO_3; have BK119 := n0_; have HB := n1_; have HO135 := n2_; clear n0_ n1_ n2_; clear ho hb hg hat))
          go_roundg kj5
          case measure => have := HK1.out; have := HJ5.out; omega
          case rel => exact ⟨(y133), (wrap64 (x4_1 + 1)), z7_, H', ⟨z109_⟩, ⟨by (with_reducible repeat (first | apply Kd.R_alloc | apply Kd.R_drewN | apply Kd.R_drew)); exact Kd.R_mono HO135.out (fun _ hk => trivial)⟩, ⟨z14_⟩⟩
         ·rw [if_neg c43] at H
          exact absurd H (by simp)
    ·rw [if_neg c5] at H
     exact absurd H (by simp)
   ·rw [if_neg c4] at H
    have c4b0 : decide (x4_1 < (l0.length : Int)) = false := decide_eq_false c4
    clear c4
    obtain rfl := Option.some.inj H
    go_wp2
    go_ret
    exact ⟨_, z5_, z12_, z0_⟩

/-! ### slices_Clone_Msg: function 95 -/
def slices_Clone_Msg.f (l0 : List (S67)) : Option (List (S67)) := if l0.length < 5864062014805 then some l0 else none
set_option maxHeartbeats 8000000 in
set_option maxRecDepth 100000 in
theorem slices_Clone_Msg.calls (A0 : Option Addr) (c0 : Nat) (l0 : List (S67)) (r : List (S67)) (w : World) (hr0 : Kd.C k67 w A0 l0.length l0) (hc0 : l0.length ≤ c0) (h : slices_Clone_Msg.f l0 = some r) :
  Calls Try.prog 95 #[.slice A0 l0.length c0] w fun e w' => ∃ v0_ : Value, e = .returned (v0_) ∧ Kd.R k67 67 w' w.heap.size (fun _ => True) v0_ r ∧ Below w.heap.size w w' := by
 unfold slices_Clone_Msg.f at h
 by_cases hlim : l0.length < 5864062014805
 ·rw [if_pos hlim] at h
  obtain rfl := Option.some.inj h
  rcases A0 with _ | ad
  ·have h0 : l0 = [] := by
    rcases Nat.eq_zero_or_pos l0.length with h0 | h0
    ·exact List.eq_nil_of_length_eq_zero h0
    ·obtain ⟨ad, e, _⟩ := hr0.2.2 h0
     cases e
   subst h0
   have hn := fun W : World => Lib.run_eql_slice_nil (P := Try.prog) W 24 67 none 0 c0 0 0 Try.underlying24
   simp only [Option.isNone_none] at hn
   clear hr0 hc0 h hlim
   go_enter Try.func95, Try.ntmps95
   go_wp2
   go_ret
   exact ⟨_, rfl, Kd.R_nil _ _ _ _ _, Below.refl _ _⟩
  ·have hn := fun W : World => Lib.run_eql_slice_nil (P := Try.prog) W 24 67 (some ad) l0.length c0 0 0 Try.underlying24
   simp only [Option.isNone_some] at hn
   have HR0 := q_ hr0
   have HLM := q_ hlim
   have HB := q_ (Below.refl w.heap.size w)
   clear hr0 hc0 h hlim
   go_enter Try.func95, Try.ntmps95
   go_wp2_with (first | ((with_reducible refine gate_dst (N := 5) rfl ?_); refine Kd.R_lit k67 _ 67 ?hg (N := 5) ?hd (xs := ([] : List (S67))) (inner := []) (ok := fun _ => True) (okp := fun _ => True) ?hr ?hp (fun _ hk => hk) trivial (Below.refl _ _) (Nat.le_refl _) (by simp) ?_; (case hd => rfl); (case hg => rfl); (case hr => exact z148_); (case hp => exact (Reps.none _ _)); intro v1 w6 ho7 hb hg_ hnew_; clear hg_ hnew_; have n0_ := q_ (Kd.R_lower ho7 (below_size z0_)); have n2_ := q_ (below_step z0_ hb); clear HB; have HO1 := n0_; have HB := n2_; clear n0_ n2_; clear hb ho7) | ((with_reducible refine gate_builtin (b := .append) (xs := #[.tmp 5, .tmp 6]) rfl ?_); at_builtin; refine Kd.R_append_rows k67 (w0 := w) w.heap.size rfl (.tmp 5) (.tmp 6) 24 67 (.agg #[(.int .i64 0), (.int .i64 0), (.int .i64 0)]) 24 rfl Try.underlying24 info67 rfl (by decide) (by omega) v1 [] l0 _ _ _ (fun _ => True) (fun _ => False) rfl rfl ?aO ?aR (fun _ _ h => h) (fun _ h => h.elim) ?aF ?aB ?aS ?aL ?_; (case aR => exact z153_); (case aB => exact z0_); (case aF => exact z177_); (case aO => exact z110_); (case aS => exact (below_size z0_)); (case aL => have := HLM.out; simp only [List.length_nil]; omega); intro v2 w7 ho hb hg hat; rw [List.nil_append] at ho; have HO2 := q_ ho; have n1_ := q_ hb; clear HB HO1; have HB := n1_; clear n1_; clear ho hb hg hat))
   go_ret
   exact ⟨_, rfl, z111_, z0_⟩
 ·rw [if_neg hlim] at h
  cases h

/-! ### impl_within: function 176 -/
def impl_within.f (a0 : Int) (a1 : Int) (a2 : Int) : Option (Bool) := if a0 ≥ a1 then (some (decide (a0 ≤ a2))) else (some false)
set_option maxHeartbeats 8000000 in
set_option maxRecDepth 100000 in
theorem impl_within.calls (a0 : Int) (a1 : Int) (a2 : Int) (r : Bool) (w : World) (h : impl_within.f a0 a1 a2 = some r) :
  Calls Try.prog 176 #[.int .i64 a0, .int .i64 a1, .int .i64 a2] w fun e w' => e = .returned (.bool r) ∧ Drawn0 w w' := by
 have H : (if a0 ≥ a1 then (some (decide (a0 ≤ a2))) else (some false)) = some r := h
 clear h
 by_cases c4 : a0 ≥ a1
 ·rw [if_pos c4] at H
  have c4b0 : decide (a1 ≤ a0) = true := decide_eq_true c4
  clear c4
  obtain rfl := Option.some.inj H
  go_enter Try.func176, Try.ntmps176
  go_wp2
  go_ret
  exact ⟨z7_, z34_⟩
 ·rw [if_neg c4] at H
  have c4b0 : decide (a1 ≤ a0) = false := decide_eq_false c4
  clear c4
  obtain rfl := Option.some.inj H
  go_enter Try.func176, Try.ntmps176
  go_wp2
  go_ret
  exact ⟨z7_, z34_⟩

/-! ### impl_isKey: function 136 -/
def impl_isKey.f (a0 : Int) : Option (Bool) := (impl_within.f a0 0 999).bind fun t136 => (some t136)
set_option maxHeartbeats 8000000 in
set_option maxRecDepth 100000 in
theorem impl_isKey.calls (a0 : Int) (r : Bool) (w : World) (h : impl_isKey.f a0 = some r) :
  Calls Try.prog 136 #[.int .i64 a0] w fun e w' => e = .returned (.bool r) ∧ Drawn0 w w' := by
 have H : ((impl_within.f a0 0 999).bind fun t136 => (some t136)) = some r := h
 clear h
 replace H := Option.bind_eq_some_iff.mp H
 obtain ⟨t136, A20, H⟩ := H
 replace H : (some t136) = some r := H
 have A2 := q_ A20
 clear A20
 obtain rfl := Option.some.inj H
 go_enter Try.func136, Try.ntmps136
 go_wp2_with (first | ((with_reducible refine gate_callee (f := 176) rfl ?_); refine goesL_ (some 4) rfl rfl Try.func176 (by kernel_rfl) rfl #[.int .i64 a0, .int .i64 0, .int .i64 999] rfl z1_ ?_; (with_reducible refine (impl_within.calls a0 0 999 t136 _ A2.out).mono ?_); rintro e w' ⟨rfl, ⟨nd, rfl⟩⟩; refine ⟨_, rfl, ?_⟩))
 go_ret
 exact ⟨z7_, z34_⟩

/-! ### impl_isNum: function 137 -/
def impl_isNum.f (a0 : Int) : Option (Bool) := (impl_within.f a0 (-1000000000) 1000000000).bind fun t137 => (some t137)
set_option maxHeartbeats 8000000 in
set_option maxRecDepth 100000 in
theorem impl_isNum.calls (a0 : Int) (r : Bool) (w : World) (h : impl_isNum.f a0 = some r) :
  Calls Try.prog 137 #[.int .i64 a0] w fun e w' => e = .returned (.bool r) ∧ Drawn0 w w' := by
 have H : ((impl_within.f a0 (-1000000000) 1000000000).bind fun t137 => (some t137)) = some r := h
 clear h
 replace H := Option.bind_eq_some_iff.mp H
 obtain ⟨t137, A20, H⟩ := H
 replace H : (some t137) = some r := H
 have A2 := q_ A20
 clear A20
 obtain rfl := Option.some.inj H
 go_enter Try.func137, Try.ntmps137
 go_wp2_with (first | ((with_reducible refine gate_callee (f := 176) rfl ?_); refine goesL_ (some 4) rfl rfl Try.func176 (by kernel_rfl) rfl #[.int .i64 a0, .int .i64 (-1000000000), .int .i64 1000000000] rfl z1_ ?_; (with_reducible refine (impl_within.calls a0 (-1000000000) 1000000000 t137 _ A2.out).mono ?_); rintro e w' ⟨rfl, ⟨nd, rfl⟩⟩; refine ⟨_, rfl, ?_⟩))
 go_ret
 exact ⟨z7_, z34_⟩

end Go.Proofs.Ytphlmbhjeoljoaa.PFnShrunk
