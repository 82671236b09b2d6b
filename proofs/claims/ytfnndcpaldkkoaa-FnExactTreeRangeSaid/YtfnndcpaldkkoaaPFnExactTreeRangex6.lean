-- Written by a program of this session, which goes by the kit's print. Not trusted: Lean checks it.
import Derived.Test.YtfnndcpaldkkoaaPFnExactTreeRangex0
namespace Go.Proofs.Ytfnndcpaldkkoaa.PFnExactTreeRange
open Go.RowKit Go.Proofs.YtfnndcpaldkkoaaW.PrintWords Go.Proofs.YtfnndcpaldkkoaaW.PrintLast Go.Proofs.YtfnndcpaldkkoaaW.PrintMore
attribute [local go_sem] Instr.field asAgg max2_int min2_int max_two min_two max_three min_three max_four min_four   -- for this text's walks alone
set_option linter.unusedVariables false
set_option linter.unusedSimpArgs false

/-! ### laws_heldPairS: function 40 -/
def laws_heldPairS.l0 : Nat → List (S92) → Int → Int → Option (Int)
 | 0, _, _, _ => none
 | k + 1, x0, x1, x5 => if x5 < (x0.length : Int) then (if 0 ≤ x5 then (if ((rd_T92 x0 x5).f0) = x1 then (if ((rd_T92 x0 x5).f1) = (wrap64 (x1 + 1)) then (laws_heldPairS.l0 k x0 (wrap64 ((wrap64 (x1 + 1)) + 1)) (wrap64 (x5 + 1))) else (some (-1))) else (some (-1))) else (none)) else (some x1)
def laws_heldPairS.f (k : Nat) (l0 : List (S92)) (a1 : Int) : Option (Int) := laws_heldPairS.l0 k l0 a1 0
theorem laws_heldPairS.mono_l : ∀ k, (∀ y0 y1 y2, LeO (laws_heldPairS.l0 k y0 y1 y2) (laws_heldPairS.l0 (k + 1) y0 y1 y2))
 | 0 => fun _ _ _ r h => by simp [laws_heldPairS.l0] at h
 | k + 1 => by
  have ih0 := laws_heldPairS.mono_l k
  ·intro y0 y1 y2
   unfold laws_heldPairS.l0
   exact zm_
theorem laws_heldPairS.mono : ∀ a0 a1 k, LeO (laws_heldPairS.f k a0 a1) (laws_heldPairS.f (k + 1) a0 a1) := by
 intro a0 a1 k
 have ih0 := laws_heldPairS.mono_l k
 unfold laws_heldPairS.f
 exact zm_
set_option maxHeartbeats 8000000 in
set_option maxRecDepth 100000 in
theorem laws_heldPairS.calls (k : Nat) (A0 : Option Addr) (c0 : Nat) (l0 : List (S92)) (a1 : Int) (r : Int) (w : World) (hr0 : Kd.C k92 w A0 l0.length l0) (hc0 : l0.length ≤ c0) (h : laws_heldPairS.f k l0 a1 = some r) :
  Calls Try.prog 40 #[.slice A0 l0.length c0, .int .i64 a1] w fun e w' => e = .returned (.int .i64 r) ∧ Drawn0 w w' := by
 have HR0 := q_ hr0
 have HC0 := q_ hc0
 clear hr0 hc0
 have H := h; clear h
 unfold laws_heldPairS.f at H
 have H' := q_ H
 clear H
 go_enter Try.func40, Try.ntmps40
 go_wp2
 go_loopg [1, 5] k (fun kq v1 v5 w' => ∃ (x1_1 : Int) (x5_1 : Int), v1 = .int .i64 x1_1 ∧ v5 = .int .i64 x5_1 ∧ Aside0 (laws_heldPairS.l0 kq l0 x1_1 x5_1 = some r) ∧ Aside0 (kq ≤ k) ∧ Drawn0 w w')
 case atStart => exact ⟨(a1), (0), z4_, z4_, H', ⟨Nat.le_refl _⟩, z9_⟩
 case round =>
  clear H'
  try clear p2
  obtain ⟨x1_1, x5_1, rfl, rfl, HA, HK1, ⟨m1, rfl⟩⟩ := hrel
  obtain ⟨k1, rfl, H⟩ := rn_ (k := gk) HA (by rintro rfl; simp only [laws_heldPairS.l0])
  clear HA
  simp only [laws_heldPairS.l0] at H
  replace H := kd_ H; rcases H with ⟨c3b0, H⟩ | ⟨c3b0, H⟩
  ·replace H := kdn_ H; obtain ⟨c4b0, H⟩ := H
   replace H := ke_ H; rcases H with ⟨c5b0, c5b1, H⟩ | ⟨c5, c5b0, c5b1, H⟩
   ·replace H := ke_ H; rcases H with ⟨c6b0, c6b1, H⟩ | ⟨c6, c6b0, c6b1, H⟩
    ·have H' := q_ H
     clear H
     have p194 : 0 ≤ (x5_1 : Int) := of_decide_eq_true z1_
     have q194 : x5_1 < (l0.length : Int) := of_decide_eq_true z1_
     obtain ⟨ad194, e194, hx194_0, hx194_1⟩ := at_T92 HR0.out x5_1 p194 q194
     cases e194
     replace p194 := eq_true p194
     replace q194 := eq_true q194
     have p195 : 0 ≤ (x5_1 : Int) := of_decide_eq_true z1_
     have q195 : x5_1 < (l0.length : Int) := of_decide_eq_true z1_
     obtain ⟨ad195, e195, hx195_0, hx195_1⟩ := at_T92 HR0.out x5_1 p195 q195
     obtain rfl : ad194 = ad195 := (by injection e195)
     replace p195 := eq_true p195
     replace q195 := eq_true q195
     go_wp2
     go_roundg k1
     case measure => have := HK1.out; omega
     case rel => exact ⟨(wrap64 ((wrap64 (x1_1 + 1)) + 1)), (wrap64 (x5_1 + 1)), z4_, z4_, H', ⟨z25_⟩, z9_⟩
    ·obtain rfl := si_ H
     have p194 : 0 ≤ (x5_1 : Int) := of_decide_eq_true z1_
     have q194 : x5_1 < (l0.length : Int) := of_decide_eq_true z1_
     obtain ⟨ad194, e194, hx194_0, hx194_1⟩ := at_T92 HR0.out x5_1 p194 q194
     cases e194
     replace p194 := eq_true p194
     replace q194 := eq_true q194
     have p195 : 0 ≤ (x5_1 : Int) := of_decide_eq_true z1_
     have q195 : x5_1 < (l0.length : Int) := of_decide_eq_true z1_
     obtain ⟨ad195, e195, hx195_0, hx195_1⟩ := at_T92 HR0.out x5_1 p195 q195
     obtain rfl : ad194 = ad195 := (by injection e195)
     replace p195 := eq_true p195
     replace q195 := eq_true q195
     go_wp2
     go_ret
     exact ⟨z4_, z9_⟩
   ·obtain rfl := si_ H
    have p194 : 0 ≤ (x5_1 : Int) := of_decide_eq_true z1_
    have q194 : x5_1 < (l0.length : Int) := of_decide_eq_true z1_
    obtain ⟨ad194, e194, hx194_0, hx194_1⟩ := at_T92 HR0.out x5_1 p194 q194
    cases e194
    replace p194 := eq_true p194
    replace q194 := eq_true q194
    go_wp2
    go_ret
    exact ⟨z4_, z9_⟩
  ·obtain rfl := si_ H
   go_wp2
   go_ret
   exact ⟨z4_, z9_⟩

/-! ### spec_l1In: function 97 -/
def spec_l1In.f (a0 : Int) (a1 : Int) (a2 : Int) : Option (Bool) := if a0 ≥ a1 then (some (decide (a0 ≤ a2))) else (some false)
set_option maxHeartbeats 8000000 in
set_option maxRecDepth 100000 in
theorem spec_l1In.calls (a0 : Int) (a1 : Int) (a2 : Int) (r : Bool) (w : World) (h : spec_l1In.f a0 a1 a2 = some r) :
  Calls Try.prog 97 #[.int .i64 a0, .int .i64 a1, .int .i64 a2] w fun e w' => e = .returned (.bool r) ∧ Drawn0 w w' := by
 have H := h; clear h
 unfold spec_l1In.f at H
 by_cases c4 : a0 ≥ a1
 ·rw [if_pos c4] at H
  have c4b0 : decide (a1 ≤ a0) = true := decide_eq_true c4
  clear c4
  obtain rfl := si_ H
  go_enter Try.func97, Try.ntmps97
  go_wp2
  go_ret
  exact ⟨z4_, z9_⟩
 ·rw [if_neg c4] at H
  have c4b0 : decide (a1 ≤ a0) = false := decide_eq_false c4
  clear c4
  obtain rfl := si_ H
  go_enter Try.func97, Try.ntmps97
  go_wp2
  go_ret
  exact ⟨z4_, z9_⟩

/-! ### spec_l1Value: function 121 -/
def spec_l1Value.f (a0 : Int) : Option (Bool) := (spec_l1In.f a0 (-1000000000) 1000000000).bind fun t196 => (some t196)
set_option maxHeartbeats 8000000 in
set_option maxRecDepth 100000 in
theorem spec_l1Value.calls (a0 : Int) (r : Bool) (w : World) (h : spec_l1Value.f a0 = some r) :
  Calls Try.prog 121 #[.int .i64 a0] w fun e w' => e = .returned (.bool r) ∧ Drawn0 w w' := by
 have H := h; clear h
 unfold spec_l1Value.f at H
 replace H := bi_ H; obtain ⟨t196, A2, H⟩ := H
 obtain rfl := si_ H
 go_enter Try.func121, Try.ntmps121
 go_wp2_with (first | ((with_reducible refine gate_callee (f := 97) rfl ?_); refine goesL_ (some 4) rfl rfl Try.func97 (by kernel_rfl) rfl #[.int .i64 a0, .int .i64 (-1000000000), .int .i64 1000000000] rfl z0_ ?_; (with_reducible refine (spec_l1In.calls a0 (-1000000000) 1000000000 t196 _ A2.out).mono ?_); rintro e w' ⟨rfl, ⟨nd, rfl⟩⟩; refine ⟨_, rfl, ?_⟩))
 go_ret
 exact ⟨z4_, z9_⟩

end Go.Proofs.Ytfnndcpaldkkoaa.PFnExactTreeRange
