-- Written by a program of this session, which goes by the kit's print. Not trusted: Lean checks it.
import Derived.Test.YtphlmbhjeoljoaaPFnShrunkx0
import Derived.Test.YtphlmbhjeoljoaaPFnShrunkx1
import Derived.Test.YtphlmbhjeoljoaaPFnShrunkx5
import Derived.Test.YtphlmbhjeoljoaaPFnShrunkx6
import Derived.Test.YtphlmbhjeoljoaaPFnShrunkx7
import Derived.Test.YtphlmbhjeoljoaaPFnShrunkx10
import Derived.Test.YtphlmbhjeoljoaaPFnShrunkx11
namespace Go.Proofs.Ytphlmbhjeoljoaa.PFnShrunk
open Go.RowKit Go.Proofs.YtphlmbhjeoljoaaW.PrintWords Go.Proofs.YtphlmbhjeoljoaaW.PrintLast Go.Proofs.YtphlmbhjeoljoaaW.PrintMore
attribute [local go_sem] max2_int min2_int max_two min_two max_three min_three max_four min_four   -- for this text's walks alone
set_option linter.unusedVariables false
set_option linter.unusedSimpArgs false

attribute [local go_sem high] eqA67
/-! ### laws_sameMsgs: function 69 -/
def laws_sameMsgs.l0 : Nat → List (S67) → List (S67) → Int → Option (Bool)
 | 0, _, _, _ => none
 | k + 1, x0, x1, x5 => if x5 < (x0.length : Int) then (if 0 ≤ x5 then (if x5 < (x1.length : Int) then (if (!(((rd_T67 x0 x5).f0) == ((rd_T67 x1 x5).f0)) || (!(((rd_T67 x0 x5).f1) == ((rd_T67 x1 x5).f1)) || (!(((rd_T67 x0 x5).f2) == ((rd_T67 x1 x5).f2))))) = true then (some false) else (laws_sameMsgs.l0 k x0 x1 (wrap64 (x5 + 1)))) else (none)) else (none)) else (some true)
def laws_sameMsgs.f (k : Nat) (l0 : List (S67)) (l1 : List (S67)) : Option (Bool) := if (l0.length : Int) = (l1.length : Int) then (laws_sameMsgs.l0 k l0 l1 0) else (some false)
theorem laws_sameMsgs.mono_l : ∀ k, (∀ y0 y1 y2, LeO (laws_sameMsgs.l0 k y0 y1 y2) (laws_sameMsgs.l0 (k + 1) y0 y1 y2))
 | 0 => fun _ _ _ r h => by simp [laws_sameMsgs.l0] at h
 | k + 1 => by
  have ih0 := laws_sameMsgs.mono_l k
  ·intro y0 y1 y2
   unfold laws_sameMsgs.l0
   repeat' first
   | (with_reducible exact ih0 _ _ _)
   | (with_reducible exact LeO.refl _)
   | (with_reducible exact LeO.none _)
   | (with_reducible refine LeO.ite ?_ ?_)
   | (with_reducible refine LeO.bind ?_ (fun _ => ?_))
   | exact ih0 _ _ _
   | exact LeO.none _
   | refine LeO.ite ?_ ?_
   | refine LeO.bind ?_ (fun _ => ?_)
theorem laws_sameMsgs.mono : ∀ a0 a1 k, LeO (laws_sameMsgs.f k a0 a1) (laws_sameMsgs.f (k + 1) a0 a1) := by
 intro a0 a1 k
 have ih0 := laws_sameMsgs.mono_l k
 unfold laws_sameMsgs.f
 repeat' first
   | (with_reducible exact ih0 _ _ _)
   | (with_reducible exact LeO.refl _)
   | (with_reducible exact LeO.none _)
   | (with_reducible refine LeO.ite ?_ ?_)
   | (with_reducible refine LeO.bind ?_ (fun _ => ?_))
   | exact ih0 _ _ _
   | exact LeO.none _
   | refine LeO.ite ?_ ?_
   | refine LeO.bind ?_ (fun _ => ?_)
set_option maxHeartbeats 8000000 in
set_option maxRecDepth 100000 in
theorem laws_sameMsgs.calls (k : Nat) (A0 : Option Addr) (c0 : Nat) (l0 : List (S67)) (A1 : Option Addr) (c1 : Nat) (l1 : List (S67)) (r : Bool) (w : World) (hr0 : Kd.C k67 w A0 l0.length l0) (hc0 : l0.length ≤ c0) (hr1 : Kd.C k67 w A1 l1.length l1) (hc1 : l1.length ≤ c1) (h : laws_sameMsgs.f k l0 l1 = some r) :
  Calls Try.prog 69 #[.slice A0 l0.length c0, .slice A1 l1.length c1] w fun e w' => e = .returned (.bool r) ∧ Drawn0 w w' := by
 have hu67 := Try.underlying67
 have HR0 := q_ hr0
 have HC0 := q_ hc0
 clear hr0 hc0
 have HR1 := q_ hr1
 have HC1 := q_ hc1
 clear hr1 hc1
 have H : (if (l0.length : Int) = (l1.length : Int) then (laws_sameMsgs.l0 k l0 l1 0) else (some false)) = some r := h
 clear h
 by_cases c3 : (l0.length : Int) = (l1.length : Int)
 ·rw [if_pos c3] at H
  have c3b0 : ((l0.length : Int) == (l1.length : Int)) = true := beq_iff_eq.mpr c3
  have c3b1 : ((l0.length : Int) != (l1.length : Int)) = false := bne_eq_false_iff_eq.mpr c3
  have c3b2 : (l0.length == l1.length) = true := z112_
  clear c3
  have H' := q_ H
  clear H
  go_enter Try.func69, Try.ntmps69
  go_wp2
  repeat (go_quiet (fail); try go_wp2)
  go_loopg [5] k (fun kq v5 w' => ∃ (x5_1 : Int), v5 = .int .i64 x5_1 ∧ Aside0 (laws_sameMsgs.l0 kq l0 l1 x5_1 = some r) ∧ Aside0 (kq ≤ k) ∧ Drawn0 w w')
  case atStart => exact ⟨(0), z7_, H', ⟨Nat.le_refl _⟩, z34_⟩
  case round =>
   clear H'
   try clear c1
   try clear p2
   try clear c3
   try clear c3b0
   try clear c3b1
   try clear c3b2
   obtain ⟨x5_1, rfl, HA, HK1, ⟨m1, rfl⟩⟩ := hrel
   cases gk with
   | zero => exact absurd HA.out (by simp [laws_sameMsgs.l0])
   | succ k1 =>
    have H := HA.out
    clear HA
    simp only [laws_sameMsgs.l0] at H
    by_cases c4 : x5_1 < (l0.length : Int)
    ·rw [if_pos c4] at H
     have c4b0 : decide (x5_1 < (l0.length : Int)) = true := decide_eq_true c4
     clear c4
     by_cases c5 : 0 ≤ x5_1
     ·rw [if_pos c5] at H
      have c5b0 : decide (0 ≤ x5_1) = true := decide_eq_true c5
      clear c5
      by_cases c6 : x5_1 < (l1.length : Int)
      ·rw [if_pos c6] at H
       have c6b0 : decide (x5_1 < (l1.length : Int)) = true := decide_eq_true c6
       clear c6
       by_cases c7 : (!(((rd_T67 l0 x5_1).f0) == ((rd_T67 l1 x5_1).f0)) || (!(((rd_T67 l0 x5_1).f1) == ((rd_T67 l1 x5_1).f1)) || (!(((rd_T67 l0 x5_1).f2) == ((rd_T67 l1 x5_1).f2))))) = true
       ·rw [if_pos c7] at H
        have c7b0 : (!(((rd_T67 l0 x5_1).f0) == ((rd_T67 l1 x5_1).f0)) || (!(((rd_T67 l0 x5_1).f1) == ((rd_T67 l1 x5_1).f1)) || (!(((rd_T67 l0 x5_1).f2) == ((rd_T67 l1 x5_1).f2))))) = true := c7
        clear c7
        obtain rfl := Option.some.inj H
        have p421 : 0 ≤ (x5_1 : Int) := of_decide_eq_true z3_
        have q421 : x5_1 < (l0.length : Int) := of_decide_eq_true z3_
        obtain ⟨ad421, e421, hx421_0, hx421_1, hx421_2⟩ := at_T67 HR0.out x5_1 p421 q421
        cases e421
        replace p421 := eq_true p421
        replace q421 := eq_true q421
        have p422 : 0 ≤ (x5_1 : Int) := of_decide_eq_true z3_
        have q422 : x5_1 < (l1.length : Int) := of_decide_eq_true z3_
        obtain ⟨ad422, e422, hx422_0, hx422_1, hx422_2⟩ := at_T67 HR1.out x5_1 p422 q422
        cases e422
        replace p422 := eq_true p422
        replace q422 := eq_true q422
        go_wp2
        repeat (go_quiet (fail); try go_wp2)
        go_ret
        exact ⟨z7_, z34_⟩
       ·rw [if_neg c7] at H
        have c7b0 : (!(((rd_T67 l0 x5_1).f0) == ((rd_T67 l1 x5_1).f0)) || (!(((rd_T67 l0 x5_1).f1) == ((rd_T67 l1 x5_1).f1)) || (!(((rd_T67 l0 x5_1).f2) == ((rd_T67 l1 x5_1).f2))))) = false := by simpa using c7
        clear c7
        have H' := q_ H
        clear H
        have p421 : 0 ≤ (x5_1 : Int) := of_decide_eq_true z3_
        have q421 : x5_1 < (l0.length : Int) := of_decide_eq_true z3_
        obtain ⟨ad421, e421, hx421_0, hx421_1, hx421_2⟩ := at_T67 HR0.out x5_1 p421 q421
        cases e421
        replace p421 := eq_true p421
        replace q421 := eq_true q421
        have p422 : 0 ≤ (x5_1 : Int) := of_decide_eq_true z3_
        have q422 : x5_1 < (l1.length : Int) := of_decide_eq_true z3_
        obtain ⟨ad422, e422, hx422_0, hx422_1, hx422_2⟩ := at_T67 HR1.out x5_1 p422 q422
        cases e422
        replace p422 := eq_true p422
        replace q422 := eq_true q422
        go_wp2
        repeat (go_quiet (fail); try go_wp2)
        go_roundg k1
        case measure => have := HK1.out; omega
        case rel => exact ⟨(wrap64 (x5_1 + 1)), z7_, H', ⟨z74_⟩, z34_⟩
      ·rw [if_neg c6] at H
       exact absurd H (by simp)
     ·rw [if_neg c5] at H
      exact absurd H (by simp)
    ·rw [if_neg c4] at H
     have c4b0 : decide (x5_1 < (l0.length : Int)) = false := decide_eq_false c4
     clear c4
     obtain rfl := Option.some.inj H
     go_wp2
     repeat (go_quiet (fail); try go_wp2)
     go_ret
     exact ⟨z7_, z34_⟩
 ·rw [if_neg c3] at H
  have c3b0 : ((l0.length : Int) == (l1.length : Int)) = false := beq_eq_false_iff_ne.mpr c3
  have c3b1 : ((l0.length : Int) != (l1.length : Int)) = true := bne_iff_ne.mpr c3
  have c3b2 : (l0.length == l1.length) = false := z112_
  obtain rfl := Option.some.inj H
  go_enter Try.func69, Try.ntmps69
  go_wp2
  repeat (go_quiet (fail); try go_wp2)
  go_ret
  exact ⟨z7_, z34_⟩

/-! ### laws_FnShrunk: function 11 -/
mutual
def laws_FnShrunk.j0 : Nat → List (S67) → List (S147) → List (S67) → Bool → Option (Bool)
 | 0, _, _, _, _ => none
 | k + 1, x3, x4, x6, x37 => if x37 = true then (some false) else (laws_FnShrunk.l0 k x3 x4 x6 0)
def laws_FnShrunk.l0 : Nat → List (S67) → List (S147) → List (S67) → Int → Option (Bool)
 | 0, _, _, _, _ => none
 | k + 1, x3, x4, x6, x7 => if x7 < (x6.length : Int) then (if 0 ≤ x7 then ((impl_MsgOk.f k ((rd_T67 x6 x7).f0) ((rd_T67 x6 x7).f1) ((rd_T67 x6 x7).f2)).bind fun t445 => (if t445 = true then (if ((rd_T67 x6 x7).f0) = 4 then (some false) else (laws_FnShrunk.l0 k x3 x4 x6 (wrap64 (x7 + 1)))) else (some false))) else (none)) else ((impl_MapAll.f k x4 x6).bind fun t447 => ((impl_MapAll.f k x4 x3).bind fun t450 => ((laws_samePairs.f k t447 t450).bind fun t453 => (some t453))))
end
def laws_FnShrunk.f (k : Nat) (l0 : List Int) : Option (Bool) := (laws_big.f l0).bind fun t423 => (if t423 = true then (some true) else ((spec_DrawShrink.f k l0).bind fun t424 => ((spec_DrawMapAll.f k l0).bind fun bt427 => ((impl_Shrink.f k t424).bind fun t433 => ((spec_Shrink.f k t424).bind fun t436 => ((laws_sameMsgs.f k t433 t436).bind fun t439 => (if t439 = true then (if (t433.length : Int) > (t424.length : Int) then (laws_FnShrunk.j0 k t424 bt427.1 t433 true) else ((impl_Shrink.f k t433).bind fun t440 => ((laws_sameMsgs.f k t440 t433).bind fun t443 => (laws_FnShrunk.j0 k t424 bt427.1 t433 (!t443))))) else (laws_FnShrunk.j0 k t424 bt427.1 t433 true))))))))
theorem laws_FnShrunk.mono_l : ∀ k, (∀ y0 y1 y2 y3, LeO (laws_FnShrunk.j0 k y0 y1 y2 y3) (laws_FnShrunk.j0 (k + 1) y0 y1 y2 y3)) ∧ (∀ y0 y1 y2 y3, LeO (laws_FnShrunk.l0 k y0 y1 y2 y3) (laws_FnShrunk.l0 (k + 1) y0 y1 y2 y3))
 | 0 => ⟨fun _ _ _ _ r h => by simp [laws_FnShrunk.j0] at h, fun _ _ _ _ r h => by simp [laws_FnShrunk.l0] at h⟩
 | k + 1 => by
  obtain ⟨ih0, ih1⟩ := laws_FnShrunk.mono_l k
  refine ⟨?_, ?_⟩
  ·intro y0 y1 y2 y3
   unfold laws_FnShrunk.j0
   repeat' first
   | (with_reducible exact ih0 _ _ _ _)
   | (with_reducible exact ih1 _ _ _ _)
   | (with_reducible exact impl_MapAll.mono _ _ _)
   | (with_reducible exact impl_MsgOk.mono _ _ _ _)
   | (with_reducible exact impl_Shrink.mono _ _)
   | (with_reducible exact laws_sameMsgs.mono _ _ _)
   | (with_reducible exact laws_samePairs.mono _ _ _)
   | (with_reducible exact spec_DrawMapAll.mono _ _)
   | (with_reducible exact spec_DrawShrink.mono _ _)
   | (with_reducible exact spec_Shrink.mono _ _)
   | (with_reducible exact LeO.refl _)
   | (with_reducible exact LeO.none _)
   | (with_reducible refine LeO.ite ?_ ?_)
   | (with_reducible refine LeO.bind ?_ (fun _ => ?_))
   | exact ih0 _ _ _ _
   | exact ih1 _ _ _ _
   | exact impl_MapAll.mono _ _ _
   | exact impl_MsgOk.mono _ _ _ _
   | exact impl_Shrink.mono _ _
   | exact laws_sameMsgs.mono _ _ _
   | exact laws_samePairs.mono _ _ _
   | exact spec_DrawMapAll.mono _ _
   | exact spec_DrawShrink.mono _ _
   | exact spec_Shrink.mono _ _
   | exact LeO.none _
   | refine LeO.ite ?_ ?_
   | refine LeO.bind ?_ (fun _ => ?_)
  ·intro y0 y1 y2 y3
   unfold laws_FnShrunk.l0
   repeat' first
   | (with_reducible exact ih0 _ _ _ _)
   | (with_reducible exact ih1 _ _ _ _)
   | (with_reducible exact impl_MapAll.mono _ _ _)
   | (with_reducible exact impl_MsgOk.mono _ _ _ _)
   | (with_reducible exact impl_Shrink.mono _ _)
   | (with_reducible exact laws_sameMsgs.mono _ _ _)
   | (with_reducible exact laws_samePairs.mono _ _ _)
   | (with_reducible exact spec_DrawMapAll.mono _ _)
   | (with_reducible exact spec_DrawShrink.mono _ _)
   | (with_reducible exact spec_Shrink.mono _ _)
   | (with_reducible exact LeO.refl _)
   | (with_reducible exact LeO.none _)
   | (with_reducible refine LeO.ite ?_ ?_)
   | (with_reducible refine LeO.bind ?_ (fun _ => ?_))
   | exact ih0 _ _ _ _
   | exact ih1 _ _ _ _
   | exact impl_MapAll.mono _ _ _
   | exact impl_MsgOk.mono _ _ _ _
   | exact impl_Shrink.mono _ _
   | exact laws_sameMsgs.mono _ _ _
   | exact laws_samePairs.mono _ _ _
   | exact spec_DrawMapAll.mono _ _
   | exact spec_DrawShrink.mono _ _
   | exact spec_Shrink.mono _ _
   | exact LeO.none _
   | refine LeO.ite ?_ ?_
   | refine LeO.bind ?_ (fun _ => ?_)
theorem laws_FnShrunk.mono : ∀ a0 k, LeO (laws_FnShrunk.f k a0) (laws_FnShrunk.f (k + 1) a0) := by
 intro a0 k
 obtain ⟨ih0, ih1⟩ := laws_FnShrunk.mono_l k
 unfold laws_FnShrunk.f
 repeat' first
   | (with_reducible exact ih0 _ _ _ _)
   | (with_reducible exact ih1 _ _ _ _)
   | (with_reducible exact impl_MapAll.mono _ _ _)
   | (with_reducible exact impl_MsgOk.mono _ _ _ _)
   | (with_reducible exact impl_Shrink.mono _ _)
   | (with_reducible exact laws_sameMsgs.mono _ _ _)
   | (with_reducible exact laws_samePairs.mono _ _ _)
   | (with_reducible exact spec_DrawMapAll.mono _ _)
   | (with_reducible exact spec_DrawShrink.mono _ _)
   | (with_reducible exact spec_Shrink.mono _ _)
   | (with_reducible exact LeO.refl _)
   | (with_reducible exact LeO.none _)
   | (with_reducible refine LeO.ite ?_ ?_)
   | (with_reducible refine LeO.bind ?_ (fun _ => ?_))
   | exact ih0 _ _ _ _
   | exact ih1 _ _ _ _
   | exact impl_MapAll.mono _ _ _
   | exact impl_MsgOk.mono _ _ _ _
   | exact impl_Shrink.mono _ _
   | exact laws_sameMsgs.mono _ _ _
   | exact laws_samePairs.mono _ _ _
   | exact spec_DrawMapAll.mono _ _
   | exact spec_DrawShrink.mono _ _
   | exact spec_Shrink.mono _ _
   | exact LeO.none _
   | refine LeO.ite ?_ ?_
   | refine LeO.bind ?_ (fun _ => ?_)
set_option maxHeartbeats 8000000 in
set_option maxRecDepth 100000 in
theorem laws_FnShrunk.calls (k : Nat) (A0 : Option Addr) (c0 : Nat) (l0 : List Int) (r : Bool) (w : World) (hr0 : Kd.C (Kd.int .u8) w A0 l0.length l0) (hc0 : l0.length ≤ c0) (h : laws_FnShrunk.f k l0 = some r) :
  Calls Try.prog 11 #[.slice A0 l0.length c0] w fun e w' => e = .returned (.bool r) ∧ Below w.heap.size w w' := by
 have hu67 := Try.underlying67
 have HR0 := q_ hr0
 have HC0 := q_ hc0
 clear hr0 hc0
 have HB := q_ (Below.refl w.heap.size w)
 have H : ((laws_big.f l0).bind fun t423 => (if t423 = true then (some true) else ((spec_DrawShrink.f k l0).bind fun t424 => ((spec_DrawMapAll.f k l0).bind fun bt427 => ((impl_Shrink.f k t424).bind fun t433 => ((spec_Shrink.f k t424).bind fun t436 => ((laws_sameMsgs.f k t433 t436).bind fun t439 => (if t439 = true then (if (t433.length : Int) > (t424.length : Int) then (laws_FnShrunk.j0 k t424 bt427.1 t433 true) else ((impl_Shrink.f k t433).bind fun t440 => ((laws_sameMsgs.f k t440 t433).bind fun t443 => (laws_FnShrunk.j0 k t424 bt427.1 t433 (!t443))))) else (laws_FnShrunk.j0 k t424 bt427.1 t433 true))))))))) = some r := h
 clear h
 replace H := Option.bind_eq_some_iff.mp H
 obtain ⟨t423, A20, H⟩ := H
 replace H : (if t423 = true then (some true) else ((spec_DrawShrink.f k l0).bind fun t424 => ((spec_DrawMapAll.f k l0).bind fun bt427 => ((impl_Shrink.f k t424).bind fun t433 => ((spec_Shrink.f k t424).bind fun t436 => ((laws_sameMsgs.f k t433 t436).bind fun t439 => (if t439 = true then (if (t433.length : Int) > (t424.length : Int) then (laws_FnShrunk.j0 k t424 bt427.1 t433 true) else ((impl_Shrink.f k t433).bind fun t440 => ((laws_sameMsgs.f k t440 t433).bind fun t443 => (laws_FnShrunk.j0 k t424 bt427.1 t433 (!t443))))) else (laws_FnShrunk.j0 k t424 bt427.1 t433 true)))))))) = some r := H
 have A2 := q_ A20
 clear A20
 by_cases c3 : t423 = true
 ·subst c3
  have H1 : (some true) = some r := z58_
  clear H
  have H := H1
  clear H1
  obtain rfl := Option.some.inj H
  go_enter Try.func11, Try.ntmps11
  go_wp2_with (first | ((with_reducible refine gate_callee (f := 34) rfl ?_); refine goesL_ (some 9) rfl rfl Try.func34 (by kernel_rfl) rfl #[.slice A0 l0.length c0] rfl z1_ ?_; (with_reducible refine (laws_big.calls _ _ l0 true _ ?side1 ?side2 A2.out).mono ?_); (case side1 => exact z151_); (case side2 => exact HC0.out); rintro e w' ⟨rfl, ⟨nd, rfl⟩⟩; refine ⟨_, rfl, ?_⟩))
  go_ret
  exact ⟨z5_, z0_⟩
 ·replace c3 := Bool.eq_false_iff.mpr c3
  subst c3
  have H1 : ((spec_DrawShrink.f k l0).bind fun t424 => ((spec_DrawMapAll.f k l0).bind fun bt427 => ((impl_Shrink.f k t424).bind fun t433 => ((spec_Shrink.f k t424).bind fun t436 => ((laws_sameMsgs.f k t433 t436).bind fun t439 => (if t439 = true then (if (t433.length : Int) > (t424.length : Int) then (laws_FnShrunk.j0 k t424 bt427.1 t433 true) else ((impl_Shrink.f k t433).bind fun t440 => ((laws_sameMsgs.f k t440 t433).bind fun t443 => (laws_FnShrunk.j0 k t424 bt427.1 t433 (!t443))))) else (laws_FnShrunk.j0 k t424 bt427.1 t433 true))))))) = some r := by rw [if_neg (show ¬ (false = true) by decide)] at H; exact H
  clear H
  have H := H1
  clear H1
  replace H := Option.bind_eq_some_iff.mp H
  obtain ⟨t424, A40, H⟩ := H
  replace H : ((spec_DrawMapAll.f k l0).bind fun bt427 => ((impl_Shrink.f k t424).bind fun t433 => ((spec_Shrink.f k t424).bind fun t436 => ((laws_sameMsgs.f k t433 t436).bind fun t439 => (if t439 = true then (if (t433.length : Int) > (t424.length : Int) then (laws_FnShrunk.j0 k t424 bt427.1 t433 true) else ((impl_Shrink.f k t433).bind fun t440 => ((laws_sameMsgs.f k t440 t433).bind fun t443 => (laws_FnShrunk.j0 k t424 bt427.1 t433 (!t443))))) else (laws_FnShrunk.j0 k t424 bt427.1 t433 true)))))) = some r := H
  have A4 := q_ A40
  clear A40
  replace H := Option.bind_eq_some_iff.mp H
  obtain ⟨⟨t427, t428⟩, A50, H⟩ := H
  replace H : ((impl_Shrink.f k t424).bind fun t433 => ((spec_Shrink.f k t424).bind fun t436 => ((laws_sameMsgs.f k t433 t436).bind fun t439 => (if t439 = true then (if (t433.length : Int) > (t424.length : Int) then (laws_FnShrunk.j0 k t424 t427 t433 true) else ((impl_Shrink.f k t433).bind fun t440 => ((laws_sameMsgs.f k t440 t433).bind fun t443 => (laws_FnShrunk.j0 k t424 t427 t433 (!t443))))) else (laws_FnShrunk.j0 k t424 t427 t433 true))))) = some r := H
  have A5 := q_ A50
  clear A50
  replace H := Option.bind_eq_some_iff.mp H
  obtain ⟨t433, A60, H⟩ := H
  replace H : ((spec_Shrink.f k t424).bind fun t436 => ((laws_sameMsgs.f k t433 t436).bind fun t439 => (if t439 = true then (if (t433.length : Int) > (t424.length : Int) then (laws_FnShrunk.j0 k t424 t427 t433 true) else ((impl_Shrink.f k t433).bind fun t440 => ((laws_sameMsgs.f k t440 t433).bind fun t443 => (laws_FnShrunk.j0 k t424 t427 t433 (!t443))))) else (laws_FnShrunk.j0 k t424 t427 t433 true)))) = some r := H
  have A6 := q_ A60
  clear A60
  have HC7 := q_ H
  clear H
  go_enter Try.func11, Try.ntmps11
  go_upto_region 6 with (first | ((with_reducible refine gate_callee (f := 34) rfl ?_); refine goesL_ (some 9) rfl rfl Try.func34 (by kernel_rfl) rfl #[.slice A0 l0.length c0] rfl z1_ ?_; (with_reducible refine (laws_big.calls _ _ l0 false _ ?side1 ?side2 A2.out).mono ?_); (case side1 => exact z151_); (case side2 => exact HC0.out); rintro e w' ⟨rfl, ⟨nd, rfl⟩⟩; refine ⟨_, rfl, ?_⟩) | ((with_reducible refine gate_callee (f := 68) rfl ?_); refine goesL_ (some 11) rfl rfl Try.func68 (by kernel_rfl) rfl #[.slice A0 l0.length c0] rfl z1_ ?_; (with_reducible refine (spec_DrawShrink.calls k _ _ l0 t424 _ ?side1 ?side2 A4.out).mono ?_); (case side1 => exact z151_); (case side2 => exact HC0.out); rintro e w8 ⟨v425, rfl, ho0, hb⟩; refine ⟨_, rfl, ?_⟩; have n0_ := q_ (Kd.R_lower ho0 (below_size z0_)); have n1_ := q_ (below_step z0_ hb); clear HB; have HO426 := n0_; have HB := n1_; clear n0_ n1_; (try clear hb); (try clear hb2); (try clear hk); (try clear hi); (try clear ho0)) | ((with_reducible refine gate_callee (f := 64) rfl ?_); refine goesL_ (some 14) rfl rfl Try.func64 (by kernel_rfl) rfl #[.slice A0 l0.length c0] rfl z1_ ?_; (with_reducible refine (spec_DrawMapAll.calls k _ _ l0 t427 t428 _ ?side1 ?side2 A5.out).mono ?_); (case side1 => exact z153_); (case side2 => exact HC0.out); rintro e w9 ⟨v429, v431, rfl, ho0, ho1, hb⟩; refine ⟨_, rfl, ?_⟩; have n0_ := q_ (Kd.R_elder' z50_ (Kd.R_base ho1) hb); have n1_ := q_ (Kd.R_lower ho0 (below_size z0_)); have n2_ := q_ (Kd.R_lower (Kd.R_new' ho1 (Kd.R_lt z50_)) (below_size z0_)); have n3_ := q_ (below_step z0_ hb); clear HO426; clear HB; have HO426 := n0_; have HO430 := n1_; have HO432 := n2_; have HB := n3_; clear n0_ n1_ n2_ n3_; (try clear hb); (try clear hb2); (try clear hk); (try clear hi); (try clear ho0); (try clear ho1); obtain ⟨Ao10, co10, eo10⟩ := Kd.R_slice HO426.out; subst eo10) | ((with_reducible refine gate_callee (f := 18) rfl ?_); refine goesL_ (some 18) rfl rfl Try.func18 (by kernel_rfl) rfl #[.slice Ao10 t424.length co10] rfl z1_ ?_; (with_reducible refine (impl_Shrink.calls k _ _ t424 t433 _ ?side1 ?side2 A6.out).mono ?_); (case side1 => exact z162_); (case side2 => exact z182_); rintro e w11 ⟨v434, rfl, ho0, hb⟩; refine ⟨_, rfl, ?_⟩; have n0_ := q_ (Kd.R_elder' z50_ (Kd.R_base ho0) hb); have n1_ := q_ (Kd.R_below z62_ hb); have n2_ := q_ (Kd.R_elder' z56_ (Kd.R_base ho0) hb); have n3_ := q_ (Kd.R_lower (Kd.R_new' (Kd.R_new' ho0 (Kd.R_lt z50_)) (Kd.R_lt z56_)) (below_size z0_)); have n4_ := q_ (below_step z0_ hb); clear HO426; clear HO430; clear HO432; clear HB; have HO426 := n0_; have HO430 := n1_; have HO432 := n2_; have HO435 := n3_; have HB := n4_; clear n0_ n1_ n2_ n3_ n4_; (try clear hb); (try clear hb2); (try clear hk); (try clear hi); (try clear ho0)))
  (try simp only [Act.put, List.setIfInBounds_toArray, List.set_cons_zero, List.set_cons_succ])
  go_cut [37] (fun v37 wc => ∃ (kq : Nat) (x37_6 : Bool), v37 = .bool x37_6 ∧ Aside0 (laws_FnShrunk.j0 kq t424 t427 t433 x37_6 = some r) ∧ Aside0 (kq ≤ k) ∧ Aside0 (Kd.R k67 67 wc w.heap.size (fun k_ => some k_ ≠ (v434 : Value).ownBlock) (.slice Ao10 t424.length co10) t424) ∧ Aside0 (Kd.R k147 147 wc w.heap.size (fun _ => True) v429 t427) ∧ Aside0 (Kd.R k67 67 wc w.heap.size (fun k_ => some k_ ≠ ((.slice Ao10 t424.length co10) : Value).ownBlock) v434 t433) ∧ Aside0 (Below w.heap.size w wc))
  case first =>
   have H := HC7.out
   clear HC7
   replace H := Option.bind_eq_some_iff.mp H
   obtain ⟨t436, A120, H⟩ := H
   replace H : ((laws_sameMsgs.f k t433 t436).bind fun t439 => (if t439 = true then (if (t433.length : Int) > (t424.length : Int) then (laws_FnShrunk.j0 k t424 t427 t433 true) else ((impl_Shrink.f k t433).bind fun t440 => ((laws_sameMsgs.f k t440 t433).bind fun t443 => (laws_FnShrunk.j0 k t424 t427 t433 (!t443))))) else (laws_FnShrunk.j0 k t424 t427 t433 true))) = some r := H
   have A12 := q_ A120
   clear A120
   replace H := Option.bind_eq_some_iff.mp H
   obtain ⟨t439, A130, H⟩ := H
   replace H : (if t439 = true then (if (t433.length : Int) > (t424.length : Int) then (laws_FnShrunk.j0 k t424 t427 t433 true) else ((impl_Shrink.f k t433).bind fun t440 => ((laws_sameMsgs.f k t440 t433).bind fun t443 => (laws_FnShrunk.j0 k t424 t427 t433 (!t443))))) else (laws_FnShrunk.j0 k t424 t427 t433 true)) = some r := H
   have A13 := q_ A130
   clear A130
   by_cases c14 : t439 = true
   ·subst c14
    have H1 : (if (t433.length : Int) > (t424.length : Int) then (laws_FnShrunk.j0 k t424 t427 t433 true) else ((impl_Shrink.f k t433).bind fun t440 => ((laws_sameMsgs.f k t440 t433).bind fun t443 => (laws_FnShrunk.j0 k t424 t427 t433 (!t443))))) = some r := z58_
    clear H
    have H := H1
    clear H1
    by_cases c15 : (t433.length : Int) > (t424.length : Int)
    ·rw [if_pos c15] at H
     have c15b0 : decide ((t424.length : Int) < (t433.length : Int)) = true := decide_eq_true c15
     have c15b1 : decide (t424.length < t433.length) = true := decide_eq_true (Int.ofNat_lt.mp c15)
     clear c15
     (first | rw [c15b0] | (simp only [i64_w, i32_w]; rw [c15b0]) | skip)
     have H' := q_ H
     clear H
     go_wp2_with (first | ((with_reducible refine gate_callee (f := 16) rfl ?_); refine goesL_ (some 21) rfl rfl Try.func16 (by kernel_rfl) rfl #[.slice Ao10 t424.length co10] rfl z1_ ?_; (with_reducible refine (spec_Shrink.calls k _ _ t424 t436 _ ?side1 ?side2 A12.out).mono ?_); (case side1 => exact z162_); (case side2 => exact z182_); rintro e w16 ⟨v437, rfl, ho0, hb⟩; refine ⟨_, rfl, ?_⟩; have n0_ := q_ (Kd.R_elder' z50_ (Kd.R_base ho0) hb); have n1_ := q_ (Kd.R_below z62_ hb); have n2_ := q_ (Kd.R_elder' z56_ (Kd.R_base ho0) hb); have n3_ := q_ (Kd.R_elder' z63_ (Kd.R_base ho0) hb); have n4_ := q_ (Kd.R_lower (Kd.R_new' (Kd.R_new' (Kd.R_new' ho0 (Kd.R_lt z50_)) (Kd.R_lt z56_)) (Kd.R_lt z63_)) (below_size z0_)); have n5_ := q_ (below_step z0_ hb); clear HO426; clear HO430; clear HO432; clear HO435; clear HB; have HO426 := n0_; have HO430 := n1_; have HO432 := n2_; have HO435 := n3_; have HO438 := n4_; have HB := n5_; clear n0_ n1_ n2_ n3_ n4_ n5_; (try clear hb); (try clear hb2); (try clear hk); (try clear hi); (try clear ho0); obtain ⟨Ao17, co17, eo17⟩ := Kd.R_slice HO435.out; subst eo17; obtain ⟨Ao18, co18, eo18⟩ := Kd.R_slice HO438.out; subst eo18) | ((with_reducible refine gate_callee (f := 69) rfl ?_); refine goesL_ (some 22) rfl rfl Try.func69 (by kernel_rfl) rfl #[.slice Ao17 t433.length co17, .slice Ao18 t436.length co18] rfl z1_ ?_; (with_reducible refine (laws_sameMsgs.calls k _ _ t433 _ _ t436 true _ ?side1 ?side2 ?side3 ?side4 A13.out).mono ?_); (case side1 => exact z155_); (case side2 => exact z179_); (case side3 => exact z166_); (case side4 => exact (Kd.R_reads' HO438.out).2.1); rintro e w' ⟨rfl, ⟨nd, rfl⟩⟩; refine ⟨_, rfl, ?_⟩))
     go_meet
     case rel => exact ⟨_, (true), z7_, H', ⟨z88_⟩, ⟨z94_⟩, ⟨z62_⟩, ⟨z93_⟩, ⟨z0_⟩⟩
    ·rw [if_neg c15] at H
     have c15b0 : decide ((t424.length : Int) < (t433.length : Int)) = false := decide_eq_false c15
     have c15b1 : decide (t424.length < t433.length) = false := decide_eq_false (fun h => c15 (Int.ofNat_lt.mpr h))
     clear c15
     (first | rw [c15b0] | (simp only [i64_w, i32_w]; rw [c15b0]) | skip)
     replace H := Option.bind_eq_some_iff.mp H
     obtain ⟨t440, A190, H⟩ := H
     replace H : ((laws_sameMsgs.f k t440 t433).bind fun t443 => (laws_FnShrunk.j0 k t424 t427 t433 (!t443))) = some r := H
     have A19 := q_ A190
     clear A190
     replace H := Option.bind_eq_some_iff.mp H
     obtain ⟨t443, A200, H⟩ := H
     replace H : (laws_FnShrunk.j0 k t424 t427 t433 (!t443)) = some r := H
     have A20 := q_ A200
     clear A200
     have H' := q_ H
     clear H
     go_wp2_with (first | ((with_reducible refine gate_callee (f := 16) rfl ?_); refine goesL_ (some 21) rfl rfl Try.func16 (by kernel_rfl) rfl #[.slice Ao10 t424.length co10] rfl z1_ ?_; (with_reducible refine (spec_Shrink.calls k _ _ t424 t436 _ ?side1 ?side2 A12.out).mono ?_); (case side1 => exact z162_); (case side2 => exact z182_); rintro e w21 ⟨v437, rfl, ho0, hb⟩; refine ⟨_, rfl, ?_⟩; have n0_ := q_ (Kd.R_elder' z50_ (Kd.R_base ho0) hb); have n1_ := q_ (Kd.R_below z62_ hb); have n2_ := q_ (Kd.R_elder' z56_ (Kd.R_base ho0) hb); have n3_ := q_ (Kd.R_elder' z63_ (Kd.R_base ho0) hb); have n4_ := q_ (Kd.R_lower (Kd.R_new' (Kd.R_new' (Kd.R_new' ho0 (Kd.R_lt z50_)) (Kd.R_lt z56_)) (Kd.R_lt z63_)) (below_size z0_)); have n5_ := q_ (below_step z0_ hb); clear HO426; clear HO430; clear HO432; clear HO435; clear HB; have HO426 := n0_; have HO430 := n1_; have HO432 := n2_; have HO435 := n3_; have HO438 := n4_; have HB := n5_; clear n0_ n1_ n2_ n3_ n4_ n5_; (try clear hb); (try clear hb2); (try clear hk); (try clear hi); (try clear ho0); obtain ⟨Ao22, co22, eo22⟩ := Kd.R_slice HO435.out; subst eo22; obtain ⟨Ao23, co23, eo23⟩ := Kd.R_slice HO438.out; subst eo23) | ((with_reducible refine gate_callee (f := 69) rfl ?_); refine goesL_ (some 22) rfl rfl Try.func69 (by kernel_rfl) rfl #[.slice Ao22 t433.length co22, .slice Ao23 t436.length co23] rfl z1_ ?_; (with_reducible refine (laws_sameMsgs.calls k _ _ t433 _ _ t436 true _ ?side1 ?side2 ?side3 ?side4 A13.out).mono ?_); (case side1 => exact z155_); (case side2 => exact z179_); (case side3 => exact z166_); (case side4 => exact (Kd.R_reads' HO438.out).2.1); rintro e w' ⟨rfl, ⟨nd, rfl⟩⟩; refine ⟨_, rfl, ?_⟩) | (go_at_call 18; (with_reducible refine (impl_Shrink.calls k _ _ t433 t440 _ ?side1 ?side2 A19.out).mono ?_); (case side1 => exact z155_); (case side2 => exact z179_); rintro e w24 ⟨v441, rfl, ho0, hb⟩; have n0_ := q_ (Kd.R_elder' z50_ (Kd.R_base ho0) hb); have n1_ := q_ (Kd.R_below z62_ hb); have n2_ := q_ (Kd.R_elder' z56_ (Kd.R_base ho0) hb); have n3_ := q_ (Kd.R_elder' z63_ (Kd.R_base ho0) hb); have n4_ := q_ (Kd.R_elder' z107_ (Kd.R_base ho0) hb); have n5_ := q_ (Kd.R_lower (Kd.R_new' (Kd.R_new' (Kd.R_new' (Kd.R_new' ho0 (Kd.R_lt z50_)) (Kd.R_lt z56_)) (Kd.R_lt z63_)) (Kd.R_lt z107_)) (below_size z0_)); have n6_ := q_ (below_step z0_ hb); clear HO426; clear HO430; clear HO432; clear HO435; clear HO438; clear HB; have HO426 := n0_; have HO430 := n1_; have HO432 := n2_; have HO435 := n3_; have HO438 := n4_; have HO442 := n5_; have HB := n6_; clear n0_ n1_ n2_ n3_ n4_ n5_ n6_; (try clear hb); (try clear hb2); (try clear hk); (try clear hi); (try clear ho0); obtain ⟨Ao25, co25, eo25⟩ := Kd.R_slice HO442.out; subst eo25) | (go_at_call 69; (with_reducible refine (laws_sameMsgs.calls k _ _ t440 _ _ t433 t443 _ ?side1 ?side2 ?side3 ?side4 A20.out).mono ?_); (case side1 => repeat (first | exact (Kd.R_reads' HO442.out).2.2 | (with_reducible refine Kd.C_alloc ?_ _) | (with_reducible refine Kd.C_drewN ?_ _) | (with_reducible refine Kd.C_drew ?_))); (case side2 => exact (Kd.R_reads' HO442.out).2.1); (case side3 => exact z155_); (case side4 => exact z179_); rintro e w' ⟨rfl, ⟨nd, rfl⟩⟩))
     go_meet
     case rel => exact ⟨_, (!t443), z7_, H', ⟨z88_⟩, ⟨by (with_reducible repeat (first | apply Kd.R_alloc | apply Kd.R_drewN | apply Kd.R_drew)); exact Kd.R_mono HO426.out (fun _ hk => hk.1.1.2)⟩, ⟨z62_⟩, ⟨by (with_reducible repeat (first | apply Kd.R_alloc | apply Kd.R_drewN | apply Kd.R_drew)); exact Kd.R_mono HO435.out (fun _ hk => hk.1.1.1.2)⟩, ⟨z0_⟩⟩
   ·replace c14 := Bool.eq_false_iff.mpr c14
    subst c14
    have H1 : (laws_FnShrunk.j0 k t424 t427 t433 true) = some r := by rw [if_neg (show ¬ (false = true) by decide)] at H; exact H
    clear H
    have H := H1
    clear H1
    have H' := q_ H
    clear H
    go_wp2_with (first | ((with_reducible refine gate_callee (f := 16) rfl ?_); refine goesL_ (some 21) rfl rfl Try.func16 (by kernel_rfl) rfl #[.slice Ao10 t424.length co10] rfl z1_ ?_; (with_reducible refine (spec_Shrink.calls k _ _ t424 t436 _ ?side1 ?side2 A12.out).mono ?_); (case side1 => exact z162_); (case side2 => exact z182_); rintro e w26 ⟨v437, rfl, ho0, hb⟩; refine ⟨_, rfl, ?_⟩; have n0_ := q_ (Kd.R_elder' z50_ (Kd.R_base ho0) hb); have n1_ := q_ (Kd.R_below z62_ hb); have n2_ := q_ (Kd.R_elder' z56_ (Kd.R_base ho0) hb); have n3_ := q_ (Kd.R_elder' z63_ (Kd.R_base ho0) hb); have n4_ := q_ (Kd.R_lower (Kd.R_new' (Kd.R_new' (Kd.R_new' ho0 (Kd.R_lt z50_)) (Kd.R_lt z56_)) (Kd.R_lt z63_)) (below_size z0_)); have n5_ := q_ (below_step z0_ hb); clear HO426; clear HO430; clear HO432; clear HO435; clear HB; have HO426 := n0_; have HO430 := n1_; have HO432 := n2_; have HO435 := n3_; have HO438 := n4_; have HB := n5_; clear n0_ n1_ n2_ n3_ n4_ n5_; (try clear hb); (try clear hb2); (try clear hk); (try clear hi); (try clear ho0); obtain ⟨Ao27, co27, eo27⟩ := Kd.R_slice HO435.out; subst eo27; obtain ⟨Ao28, co28, eo28⟩ := Kd.R_slice HO438.out; subst eo28) | ((with_reducible refine gate_callee (f := 69) rfl ?_); refine goesL_ (some 22) rfl rfl Try.func69 (by kernel_rfl) rfl #[.slice Ao27 t433.length co27, .slice Ao28 t436.length co28] rfl z1_ ?_; (with_reducible refine (laws_sameMsgs.calls k _ _ t433 _ _ t436 false _ ?side1 ?side2 ?side3 ?side4 A13.out).mono ?_); (case side1 => exact z155_); (case side2 => exact z179_); (case side3 => exact z166_); (case side4 => exact (Kd.R_reads' HO438.out).2.1); rintro e w' ⟨rfl, ⟨nd, rfl⟩⟩; refine ⟨_, rfl, ?_⟩))
    go_meet
    case rel => exact ⟨_, (true), z7_, H', ⟨z88_⟩, ⟨z94_⟩, ⟨z62_⟩, ⟨z93_⟩, ⟨z0_⟩⟩
  case rest =>
   clear HC7
   try clear c1
   try clear p2
   try clear c3
   try clear c6
   try clear c11
   try clear c14
   try clear c15
   try clear c15b0
   try clear c15b1
   try clear c16
   try clear c18
   obtain ⟨kq, x37_6, rfl, HA, HJ6, HO_3, HO_4, HO_6, HB⟩ := hcut
   cases kq with
   | zero => exact absurd HA.out (by simp [laws_FnShrunk.j0])
   | succ kj6 =>
    have H := HA.out
    clear HA
    simp only [laws_FnShrunk.j0] at H
    by_cases c29 : x37_6 = true
    ·subst c29
     have H1 : (some false) = some r := z58_
     clear H
     have H := H1
     clear H1
     obtain rfl := Option.some.inj H
     go_wp2
     go_ret
     exact ⟨z5_, z0_⟩
    ·replace c29 := Bool.eq_false_iff.mpr c29
     subst c29
     have H1 : (laws_FnShrunk.l0 kj6 t424 t427 t433 0) = some r := by rw [if_neg (show ¬ (false = true) by decide)] at H; exact H
     clear H
     have H := H1
     clear H1
     have H' := q_ H
     clear H
     go_wp2
     go_loopg [7] kj6 (fun kq v7 w' => ∃ (x7_2 : Int), v7 = .int .i64 x7_2 ∧ Aside0 (laws_FnShrunk.l0 kq t424 t427 t433 x7_2 = some r) ∧ Aside0 (kq ≤ kj6) ∧ Aside0 (Kd.R k67 67 w' w.heap.size (fun k_ => some k_ ≠ (v434 : Value).ownBlock) (.slice Ao10 t424.length co10) t424) ∧ Aside0 (Kd.R k147 147 w' w.heap.size (fun _ => True) v429 t427) ∧ Aside0 (Kd.R k67 67 w' w.heap.size (fun k_ => some k_ ≠ ((.slice Ao10 t424.length co10) : Value).ownBlock) v434 t433) ∧ Aside0 (Below w.heap.size w w'))
     case atStart => exact ⟨(0), z7_, H', ⟨Nat.le_refl _⟩, ⟨z12_⟩, ⟨z17_⟩, ⟨z71_⟩, ⟨z0_⟩⟩
     case round =>
      clear H'
      try clear c1
      try clear c2
      try clear p2
      try clear c3
      try clear c6
      try clear c11
      try clear c14
      try clear c15
      try clear c15b0
      try clear c15b1
      try clear c16
      try clear c18
      try clear c29
      try clear p2
      obtain ⟨x7_2, rfl, HA, HK2, HO_3, HO_4, HO_6, HB⟩ := hrel
      cases gk with
      | zero => exact absurd HA.out (by simp [laws_FnShrunk.l0])
      | succ k2 =>
       have H := HA.out
       clear HA
       simp only [laws_FnShrunk.l0] at H
       by_cases c30 : x7_2 < (t433.length : Int)
       ·rw [if_pos c30] at H
        have c30b0 : decide (x7_2 < (t433.length : Int)) = true := decide_eq_true c30
        clear c30
        by_cases c31 : 0 ≤ x7_2
        ·rw [if_pos c31] at H
         have c31b0 : decide (0 ≤ x7_2) = true := decide_eq_true c31
         clear c31
         replace H := Option.bind_eq_some_iff.mp H
         obtain ⟨t445, A320, H⟩ := H
         replace H : (if t445 = true then (if ((rd_T67 t433 x7_2).f0) = 4 then (some false) else (laws_FnShrunk.l0 k2 t424 t427 t433 (wrap64 (x7_2 + 1)))) else (some false)) = some r := H
         have A32 := q_ A320
         clear A320
         by_cases c33 : t445 = true
         ·subst c33
          have H1 : (if ((rd_T67 t433 x7_2).f0) = 4 then (some false) else (laws_FnShrunk.l0 k2 t424 t427 t433 (wrap64 (x7_2 + 1)))) = some r := z58_
          clear H
          have H := H1
          clear H1
          by_cases c34 : ((rd_T67 t433 x7_2).f0) = 4
          ·rw [if_pos c34] at H
           have c34b0 : (((rd_T67 t433 x7_2).f0) == 4) = true := beq_iff_eq.mpr c34
           have c34b1 : (((rd_T67 t433 x7_2).f0) != 4) = false := bne_eq_false_iff_eq.mpr c34
           clear c34
           obtain rfl := Option.some.inj H
           obtain ⟨Ao35, co35, eo35⟩ := Kd.R_slice HO_6.out
           subst eo35
           have p444 : 0 ≤ (x7_2 : Int) := of_decide_eq_true z3_
           have q444 : x7_2 < (t433.length : Int) := of_decide_eq_true z3_
           obtain ⟨ad444, e444, hx444_0, hx444_1, hx444_2⟩ := at_T67 (Kd.R_reads' HO_6.out).2.2 x7_2 p444 q444
           cases e444
           replace p444 := eq_true p444
           replace q444 := eq_true q444
           go_wp2_with (first | ((with_reducible refine gate_callee (f := 59) rfl ?_); refine goesL_ (some 48) rfl rfl Try.func59 (by kernel_rfl) rfl #[.agg #[.int .i64 ((rd_T67 t433 x7_2).f0), .int .i64 ((rd_T67 t433 x7_2).f1), .int .i64 ((rd_T67 t433 x7_2).f2)]] rfl z1_ ?_; (with_reducible refine (impl_MsgOk.calls k2 ((rd_T67 t433 x7_2).f0) ((rd_T67 t433 x7_2).f1) ((rd_T67 t433 x7_2).f2) true _ A32.out).mono ?_); rintro e w36 ⟨rfl, hb⟩; refine ⟨_, rfl, ?_⟩; have n0_ := q_ (Kd.R_below z12_ hb); have n1_ := q_ (Kd.R_below z17_ hb); have n2_ := q_ (Kd.R_below z71_ hb); have n3_ := q_ (below_step z0_ hb); clear HO_3; clear HO_4; clear HO_6; clear HB; have HO_3 := n0_; have HO_4 := n1_; have HO_6 := n2_; have HB := n3_; clear n0_ n1_ n2_ n3_; (try clear hb); (try clear hb2); (try clear hk); (try clear hi); have p446 : 0 ≤ (x7_2 : Int) := of_decide_eq_true z3_; have q446 : x7_2 < (t433.length : Int) := of_decide_eq_true z3_; obtain ⟨ad446, e446, hx446_0, hx446_1, hx446_2⟩ := at_T67 (Kd.R_reads' HO_6.out).2.2 x7_2 p446 q446; obtain rfl : ad444 = ad446 := (by injection e446); replace p446 := eq_true p446; replace q446 := eq_true q446))
           go_ret
           exact ⟨z5_, z0_⟩
          ·rw [if_neg c34] at H
           have c34b0 : (((rd_T67 t433 x7_2).f0) == 4) = false := beq_eq_false_iff_ne.mpr c34
           have c34b1 : (((rd_T67 t433 x7_2).f0) != 4) = true := bne_iff_ne.mpr c34
           have H' := q_ H
           clear H
           obtain ⟨Ao37, co37, eo37⟩ := Kd.R_slice HO_6.out
           subst eo37
           have p444 : 0 ≤ (x7_2 : Int) := of_decide_eq_true z3_
           have q444 : x7_2 < (t433.length : Int) := of_decide_eq_true z3_
           obtain ⟨ad444, e444, hx444_0, hx444_1, hx444_2⟩ := at_T67 (Kd.R_reads' HO_6.out).2.2 x7_2 p444 q444
           cases e444
           replace p444 := eq_true p444
           replace q444 := eq_true q444
           go_wp2_with (first | ((with_reducible refine gate_callee (f := 59) rfl ?_); refine goesL_ (some 48) rfl rfl Try.func59 (by kernel_rfl) rfl #[.agg #[.int .i64 ((rd_T67 t433 x7_2).f0), .int .i64 ((rd_T67 t433 x7_2).f1), .int .i64 ((rd_T67 t433 x7_2).f2)]] rfl z1_ ?_; (with_reducible refine (impl_MsgOk.calls k2 ((rd_T67 t433 x7_2).f0) ((rd_T67 t433 x7_2).f1) ((rd_T67 t433 x7_2).f2) true _ A32.out).mono ?_); rintro e w38 ⟨rfl, hb⟩; refine ⟨_, rfl, ?_⟩; have n0_ := q_ (Kd.R_below z12_ hb); have n1_ := q_ (Kd.R_below z17_ hb); have n2_ := q_ (Kd.R_below z71_ hb); have n3_ := q_ (below_step z0_ hb); clear HO_3; clear HO_4; clear HO_6; clear HB; have HO_3 := n0_; have HO_4 := n1_; have HO_6 := n2_; have HB := n3_; clear n0_ n1_ n2_ n3_; (try clear hb); (try clear hb2); (try clear hk); (try clear hi); have p446 : 0 ≤ (x7_2 : Int) := of_decide_eq_true z3_; have q446 : x7_2 < (t433.length : Int) := of_decide_eq_true z3_; obtain ⟨ad446, e446, hx446_0, hx446_1, hx446_2⟩ := at_T67 (Kd.R_reads' HO_6.out).2.2 x7_2 p446 q446; obtain rfl : ad444 = ad446 := (by injection e446); replace p446 := eq_true p446; replace q446 := eq_true q446))
           go_roundg k2
           case measure => have := HJ6.out; have := HK2.out; omega
           case rel => exact ⟨(wrap64 (x7_2 + 1)), z7_, H', ⟨by have := HJ6.out; have := HK2.out; omega⟩, ⟨z12_⟩, ⟨z17_⟩, ⟨z71_⟩, ⟨z0_⟩⟩
         ·replace c33 := Bool.eq_false_iff.mpr c33
          subst c33
          have H1 : (some false) = some r := by rw [if_neg (show ¬ (false = true) by decide)] at H; exact H
          clear H
          have H := H1
          clear H1
          obtain rfl := Option.some.inj H
          obtain ⟨Ao39, co39, eo39⟩ := Kd.R_slice HO_6.out
          subst eo39
          have p444 : 0 ≤ (x7_2 : Int) := of_decide_eq_true z3_
          have q444 : x7_2 < (t433.length : Int) := of_decide_eq_true z3_
          obtain ⟨ad444, e444, hx444_0, hx444_1, hx444_2⟩ := at_T67 (Kd.R_reads' HO_6.out).2.2 x7_2 p444 q444
          cases e444
          replace p444 := eq_true p444
          replace q444 := eq_true q444
          go_wp2_with (first | ((with_reducible refine gate_callee (f := 59) rfl ?_); refine goesL_ (some 48) rfl rfl Try.func59 (by kernel_rfl) rfl #[.agg #[.int .i64 ((rd_T67 t433 x7_2).f0), .int .i64 ((rd_T67 t433 x7_2).f1), .int .i64 ((rd_T67 t433 x7_2).f2)]] rfl z1_ ?_; (with_reducible refine (impl_MsgOk.calls k2 ((rd_T67 t433 x7_2).f0) ((rd_T67 t433 x7_2).f1) ((rd_T67 t433 x7_2).f2) false _ A32.out).mono ?_); rintro e w40 ⟨rfl, hb⟩; refine ⟨_, rfl, ?_⟩; have n0_ := q_ (Kd.R_below z12_ hb); have n1_ := q_ (Kd.R_below z17_ hb); have n2_ := q_ (Kd.R_below z71_ hb); have n3_ := q_ (below_step z0_ hb); clear HO_3; clear HO_4; clear HO_6; clear HB; have HO_3 := n0_; have HO_4 := n1_; have HO_6 := n2_; have HB := n3_; clear n0_ n1_ n2_ n3_; (try clear hb); (try clear hb2); (try clear hk); (try clear hi)))
          go_ret
          exact ⟨z5_, z0_⟩
        ·rw [if_neg c31] at H
         exact absurd H (by simp)
       ·rw [if_neg c30] at H
        have c30b0 : decide (x7_2 < (t433.length : Int)) = false := decide_eq_false c30
        clear c30
        replace H := Option.bind_eq_some_iff.mp H
        obtain ⟨t447, A410, H⟩ := H
        replace H : ((impl_MapAll.f k2 t427 t424).bind fun t450 => ((laws_samePairs.f k2 t447 t450).bind fun t453 => (some t453))) = some r := H
        have A41 := q_ A410
        clear A410
        replace H := Option.bind_eq_some_iff.mp H
        obtain ⟨t450, A420, H⟩ := H
        replace H : ((laws_samePairs.f k2 t447 t450).bind fun t453 => (some t453)) = some r := H
        have A42 := q_ A420
        clear A420
        replace H := Option.bind_eq_some_iff.mp H
        obtain ⟨t453, A430, H⟩ := H
        replace H : (some t453) = some r := H
        have A43 := q_ A430
        clear A430
        obtain rfl := Option.some.inj H
        obtain ⟨Ao44, co44, eo44⟩ := Kd.R_slice HO_6.out
        subst eo44
        obtain ⟨Ao45, co45, eo45⟩ := Kd.R_slice HO_4.out
        subst eo45
        go_wp2_with (first | ((with_reducible refine gate_callee (f := 63) rfl ?_); refine goesL_ (some 60) rfl rfl Try.func63 (by kernel_rfl) rfl #[.slice Ao45 t427.length co45, .slice Ao44 t433.length co44] rfl z1_ ?_; (with_reducible refine (impl_MapAll.calls k2 _ _ t427 _ _ t433 t447 _ ?side1 ?side2 ?side3 ?side4 A41.out).mono ?_); (case side1 => exact z154_); (case side2 => exact z178_); (case side3 => repeat (first | exact (Kd.R_reads' HO_6.out).2.2 | (with_reducible refine Kd.C_alloc ?_ _) | (with_reducible refine Kd.C_drewN ?_ _) | (with_reducible refine Kd.C_drew ?_))); (case side4 => exact (Kd.R_reads' HO_6.out).2.1); rintro e w46 ⟨v448, rfl, ho0, hb⟩; refine ⟨_, rfl, ?_⟩; have n0_ := q_ (Kd.R_below z12_ hb); have n1_ := q_ (Kd.R_elder' z17_ (Kd.R_base ho0) hb); have n2_ := q_ (Kd.R_below z71_ hb); have n3_ := q_ (Kd.R_lower (Kd.R_new' ho0 (Kd.R_lt z17_)) (below_size z0_)); have n4_ := q_ (below_step z0_ hb); clear HO_3; clear HO_4; clear HO_6; clear HB; have HO_3 := n0_; have HO_4 := n1_; have HO_6 := n2_; have HO449 := n3_; have HB := n4_; clear n0_ n1_ n2_ n3_ n4_; (try clear hb); (try clear hb2); (try clear hk); (try clear hi); (try clear ho0)) | ((with_reducible refine gate_callee (f := 63) rfl ?_); refine goesL_ (some 63) rfl rfl Try.func63 (by kernel_rfl) rfl #[.slice Ao45 t427.length co45, .slice Ao10 t424.length co10] rfl z1_ ?_; (with_reducible refine (impl_MapAll.calls k2 _ _ t427 _ _ t424 t450 _ ?side1 ?side2 ?side3 ?side4 A42.out).mono ?_); (case side1 => exact z154_); (case side2 => exact z178_); (case side3 => exact z156_); (case side4 => exact z180_); rintro e w47 ⟨v451, rfl, ho0, hb⟩; refine ⟨_, rfl, ?_⟩; have n0_ := q_ (Kd.R_below z12_ hb); have n1_ := q_ (Kd.R_elder' z17_ (Kd.R_base ho0) hb); have n2_ := q_ (Kd.R_below z71_ hb); have n3_ := q_ (Kd.R_elder' z108_ (Kd.R_base ho0) hb); have n4_ := q_ (Kd.R_lower (Kd.R_new' (Kd.R_new' ho0 (Kd.R_lt z17_)) (Kd.R_lt z108_)) (below_size z0_)); have n5_ := q_ (below_step z0_ hb); clear HO_3; clear HO_4; clear HO_6; clear HO449; clear HB; have HO_3 := n0_; have HO_4 := n1_; have HO_6 := n2_; have HO449 := n3_; have HO452 := n4_; have HB := n5_; clear n0_ n1_ n2_ n3_ n4_ n5_; (try clear hb); (try clear hb2); (try clear hk); (try clear hi); (try clear ho0); obtain ⟨Ao48, co48, eo48⟩ := Kd.R_slice HO449.out; subst eo48; obtain ⟨Ao49, co49, eo49⟩ := Kd.R_slice HO452.out; subst eo49) | ((with_reducible refine gate_callee (f := 56) rfl ?_); refine goesL_ (some 64) rfl rfl Try.func56 (by kernel_rfl) rfl #[.slice Ao48 t447.length co48, .slice Ao49 t450.length co49] rfl z1_ ?_; (with_reducible refine (laws_samePairs.calls k2 _ _ t447 _ _ t450 t453 _ ?side1 ?side2 ?side3 ?side4 A43.out).mono ?_); (case side1 => repeat (first | exact (Kd.R_reads' HO449.out).2.2 | (with_reducible refine Kd.C_alloc ?_ _) | (with_reducible refine Kd.C_drewN ?_ _) | (with_reducible refine Kd.C_drew ?_))); (case side2 => exact (Kd.R_reads' HO449.out).2.1); (case side3 => repeat (first | exact (Kd.R_reads' HO452.out).2.2 | (with_reducible refine Kd.C_alloc ?_ _) | (with_reducible refine Kd.C_drewN ?_ _) | (with_reducible refine Kd.C_drew ?_))); (case side4 => exact (Kd.R_reads' HO452.out).2.1); rintro e w' ⟨rfl, ⟨nd, rfl⟩⟩; refine ⟨_, rfl, ?_⟩))
        go_ret
        exact ⟨z5_, z0_⟩

/-- THE ONE PURE STATEMENT of laws_FnShrunk: yours. -/
def laws_FnShrunk.Pure : Prop := ∀ (l0 : List Int), l0.length ≤ maxLen → l0.length * 1 ≤ 140737488351232 → (∀ x ∈ l0, (Lit.int .u8 x).wf = true) → ∃ k, laws_FnShrunk.f k l0 = some true
theorem laws_FnShrunk.walk (P : laws_FnShrunk.Pure) (a0 : Option Addr) (len0 cap0 : Nat) (z0 : List Int) (w : World) (w0 : (a0 = none ∧ len0 = 0 ∧ cap0 = 0 ∧ z0 = []) ∨ ∃ x, a0 = some x ∧ len0 ≤ cap0 ∧ cap0 ≤ maxLen ∧ z0.length = cap0 ∧ (∀ i, i < z0.length → w.cell? (x.add i) = some (.int .u8 (z0.getD i 0))) ∧ ∀ n ∈ z0, (Lit.int .u8 n).wf = true) (y0 : len0 * 1 ≤ 140737488351232) :
  Calls Try.prog 11 #[.slice a0 len0 cap0] w fun e w' => e = .returned (.bool true) ∧ Below w.heap.size w w' := by
 obtain ⟨l0, rfl, hr0, hm0, hw0, hc0⟩ := ReadsInt.ofRowC w0
 obtain ⟨k, h⟩ := P l0 hm0 y0 hw0
 refine (laws_FnShrunk.calls k _ _ l0 true w (Kd.C_of_reads (d := (0 : Int)) (h1 := fun _ => rfl) hr0) hc0 h).mono ?_
 rintro e w' ⟨rfl, hd⟩
 exact ⟨rfl, hd⟩

end Go.Proofs.Ytphlmbhjeoljoaa.PFnShrunk
