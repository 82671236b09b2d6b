-- Written by a program of this session, which goes by the kit's print. Not trusted: Lean checks it.
import Derived.Test.YtfnndcpaldkkoaaPFnExactMachineSamex0
import Derived.Test.YtfnndcpaldkkoaaPFnExactMachineSamex1
namespace Go.Proofs.Ytfnndcpaldkkoaa.PFnExactMachineSame
open Go.RowKit Go.Proofs.YtfnndcpaldkkoaaW.PrintWords Go.Proofs.YtfnndcpaldkkoaaW.PrintLast Go.Proofs.YtfnndcpaldkkoaaW.PrintMore
attribute [local go_sem] max2_int min2_int max_two min_two max_three min_three max_four min_four   -- for this text's walks alone
set_option linter.unusedVariables false
set_option linter.unusedSimpArgs false

attribute [local go_sem high] eqA92
/-! ### spec_l4SameMap: function 87 -/
mutual
def spec_l4SameMap.l0 : Nat → List (S92) → List (S92) → Int → Option (Bool)
 | 0, _, _, _ => none
 | k + 1, x0, x1, x5 => if x5 < (x0.length : Int) then (spec_l4SameMap.j1 k x0 x1 x5 (decide (x5 < (x1.length : Int)))) else (spec_l4SameMap.j1 k x0 x1 x5 false)
def spec_l4SameMap.j1 : Nat → List (S92) → List (S92) → Int → Bool → Option (Bool)
 | 0, _, _, _, _ => none
 | k + 1, x0, x1, x5, x15 => if x15 = true then (if 0 ≤ x5 then (if x5 < (x0.length : Int) then (if x5 < (x1.length : Int) then (if (!(((rd_T92 x0 x5).f0) == ((rd_T92 x1 x5).f0)) || (!(((rd_T92 x0 x5).f1) == ((rd_T92 x1 x5).f1)))) = true then (some false) else (spec_l4SameMap.l0 k x0 x1 (wrap64 (x5 + 1)))) else (none)) else (none)) else (none)) else (some ((x0.length : Int) == (x1.length : Int)))
end
def spec_l4SameMap.f (k : Nat) (l0 : List (S92)) (l1 : List (S92)) : Option (Bool) := spec_l4SameMap.l0 k l0 l1 0
theorem spec_l4SameMap.mono_l : ∀ k, (∀ y0 y1 y2, LeO (spec_l4SameMap.l0 k y0 y1 y2) (spec_l4SameMap.l0 (k + 1) y0 y1 y2)) ∧ (∀ y0 y1 y2 y3, LeO (spec_l4SameMap.j1 k y0 y1 y2 y3) (spec_l4SameMap.j1 (k + 1) y0 y1 y2 y3))
 | 0 => ⟨fun _ _ _ r h => by simp [spec_l4SameMap.l0] at h, fun _ _ _ _ r h => by simp [spec_l4SameMap.j1] at h⟩
 | k + 1 => by
  obtain ⟨ih0, ih1⟩ := spec_l4SameMap.mono_l k
  refine ⟨?_, ?_⟩
  ·intro y0 y1 y2
   unfold spec_l4SameMap.l0
   exact zm_
  ·intro y0 y1 y2 y3
   unfold spec_l4SameMap.j1
   exact zm_
theorem spec_l4SameMap.mono : ∀ a0 a1 k, LeO (spec_l4SameMap.f k a0 a1) (spec_l4SameMap.f (k + 1) a0 a1) := by
 intro a0 a1 k
 obtain ⟨ih0, ih1⟩ := spec_l4SameMap.mono_l k
 unfold spec_l4SameMap.f
 exact zm_
set_option maxHeartbeats 8000000 in
set_option maxRecDepth 100000 in
theorem spec_l4SameMap.calls (k : Nat) (A0 : Option Addr) (c0 : Nat) (l0 : List (S92)) (A1 : Option Addr) (c1 : Nat) (l1 : List (S92)) (r : Bool) (w : World) (hr0 : Kd.C k92 w A0 l0.length l0) (hc0 : l0.length ≤ c0) (hr1 : Kd.C k92 w A1 l1.length l1) (hc1 : l1.length ≤ c1) (h : spec_l4SameMap.f k l0 l1 = some r) :
  Calls Try.prog 87 #[.slice A0 l0.length c0, .slice A1 l1.length c1] w fun e w' => e = .returned (.bool r) ∧ Drawn0 w w' := by
 have hu92 := Try.underlying92
 have HR0 := q_ hr0
 have HC0 := q_ hc0
 clear hr0 hc0
 have HR1 := q_ hr1
 have HC1 := q_ hc1
 clear hr1 hc1
 have H := h; clear h
 unfold spec_l4SameMap.f at H
 have H' := q_ H
 clear H
 go_enter Try.func87, Try.ntmps87
 go_wp2
 repeat (go_quiet (fail); try go_wp2)
 go_loopg [5] k (fun kq v5 w' => ∃ (x5_1 : Int), v5 = .int .i64 x5_1 ∧ Aside0 (spec_l4SameMap.l0 kq l0 l1 x5_1 = some r) ∧ Aside0 (kq ≤ k) ∧ Drawn0 w w')
 case atStart => exact ⟨(0), z4_, H', ⟨Nat.le_refl _⟩, z6_⟩
 case round =>
  clear H'
  try clear c1
  try clear p2
  obtain ⟨x5_1, rfl, HA, HK1, ⟨m1, rfl⟩⟩ := hrel
  obtain ⟨k1, rfl, H⟩ := rn_ (k := gk) HA (by rintro rfl; simp only [spec_l4SameMap.l0])
  clear HA
  simp only [spec_l4SameMap.l0] at H
  have HC3 := q_ H
  clear H
  go_upto_region 2 with (fail)
  repeat (go_quiet (fail); go_upto_region 2 with (fail))
  go_cut [15] (fun v15 wc => ∃ (kq : Nat) (x15_2 : Bool), v15 = .bool x15_2 ∧ Aside0 (spec_l4SameMap.j1 kq l0 l1 x5_1 x15_2 = some r) ∧ Aside0 (kq ≤ k1) ∧ Drawn0 w wc)
  case first =>
   have H := HC3.out
   clear HC3
   replace H := kd_ H; rcases H with ⟨c4b0, H⟩ | ⟨c4b0, H⟩
   ·(first | rw [c4b0] | rw [c4b1] | (simp only [i64_w, i32_w]; first | rw [c4b0] | rw [c4b1]) | rw [c4b2] | skip)
    have H' := q_ H
    clear H
    go_wp2
    repeat (go_quiet (fail); try go_wp2)
    go_meet
    case rel => exact ⟨_, (decide (x5_1 < (l1.length : Int))), z4_, H', ⟨z72_⟩, z6_⟩
   ·(first | rw [c4b0] | rw [c4b1] | (simp only [i64_w, i32_w]; first | rw [c4b0] | rw [c4b1]) | rw [c4b2] | skip)
    have H' := q_ H
    clear H
    go_wp2
    repeat (go_quiet (fail); try go_wp2)
    go_meet
    case rel => exact ⟨_, (false), z4_, H', ⟨z72_⟩, z6_⟩
  case rest =>
   clear HC3
   try clear c1
   try clear p2
   try clear c4
   try clear c4b0
   try clear c4b1
   try clear c4b2
   try clear p2
   obtain ⟨kq, x15_2, rfl, HA, HJ2, ⟨mc2, rfl⟩⟩ := hcut
   obtain ⟨kj2, rfl, H⟩ := rn_ (k := kq) HA (by rintro rfl; simp only [spec_l4SameMap.j1])
   clear HA
   simp only [spec_l4SameMap.j1] at H
   replace H := kb_ H; rcases H with ⟨rfl, H⟩ | ⟨rfl, H⟩
   ·replace H := kdn_ H; obtain ⟨c6b0, H⟩ := H
    replace H := kdn_ H; obtain ⟨c7b0, H⟩ := H
    replace H := kdn_ H; obtain ⟨c8b0, H⟩ := H
    by_cases c9 : (!(((rd_T92 l0 x5_1).f0) == ((rd_T92 l1 x5_1).f0)) || (!(((rd_T92 l0 x5_1).f1) == ((rd_T92 l1 x5_1).f1)))) = true
    ·rw [if_pos c9] at H
     have c9b0 : (!(((rd_T92 l0 x5_1).f0) == ((rd_T92 l1 x5_1).f0)) || (!(((rd_T92 l0 x5_1).f1) == ((rd_T92 l1 x5_1).f1)))) = true := c9
     clear c9
     obtain rfl := si_ H
     have p238 : 0 ≤ (x5_1 : Int) := of_decide_eq_true z2_
     have q238 : x5_1 < (l0.length : Int) := of_decide_eq_true z2_
     obtain ⟨ad238, e238, hx238_0, hx238_1⟩ := at_T92 HR0.out x5_1 p238 q238
     cases e238
     replace p238 := eq_true p238
     replace q238 := eq_true q238
     have p239 : 0 ≤ (x5_1 : Int) := of_decide_eq_true z2_
     have q239 : x5_1 < (l1.length : Int) := of_decide_eq_true z2_
     obtain ⟨ad239, e239, hx239_0, hx239_1⟩ := at_T92 HR1.out x5_1 p239 q239
     cases e239
     replace p239 := eq_true p239
     replace q239 := eq_true q239
     go_wp2
     repeat (go_quiet (fail); try go_wp2)
     go_ret
     exact ⟨z4_, z6_⟩
    ·rw [if_neg c9] at H
     have c9b0 : (!(((rd_T92 l0 x5_1).f0) == ((rd_T92 l1 x5_1).f0)) || (!(((rd_T92 l0 x5_1).f1) == ((rd_T92 l1 x5_1).f1)))) = false := z81_
     clear c9
     have H' := q_ H
     clear H
     have p238 : 0 ≤ (x5_1 : Int) := of_decide_eq_true z2_
     have q238 : x5_1 < (l0.length : Int) := of_decide_eq_true z2_
     obtain ⟨ad238, e238, hx238_0, hx238_1⟩ := at_T92 HR0.out x5_1 p238 q238
     cases e238
     replace p238 := eq_true p238
     replace q238 := eq_true q238
     have p239 : 0 ≤ (x5_1 : Int) := of_decide_eq_true z2_
     have q239 : x5_1 < (l1.length : Int) := of_decide_eq_true z2_
     obtain ⟨ad239, e239, hx239_0, hx239_1⟩ := at_T92 HR1.out x5_1 p239 q239
     cases e239
     replace p239 := eq_true p239
     replace q239 := eq_true q239
     go_wp2
     repeat (go_quiet (fail); try go_wp2)
     go_roundg kj2
     case measure => have := HK1.out; have := HJ2.out; omega
     case rel => exact ⟨(wrap64 (x5_1 + 1)), z4_, H', ⟨by have := HK1.out; have := HJ2.out; omega⟩, z6_⟩
   ·obtain rfl := si_ H
    go_wp2
    repeat (go_quiet (fail); try go_wp2)
    go_ret
    exact ⟨z4_, z6_⟩

end Go.Proofs.Ytfnndcpaldkkoaa.PFnExactMachineSame
