-- Written by a program of this session, which goes by the kit's print. Not trusted: Lean checks it.
import Derived.Test.YtomeiaphaimjoaaPFnNumBytesx0
import Derived.Test.YtomeiaphaimjoaaPFnNumBytesx1
namespace Go.Proofs.Ytomeiaphaimjoaa.PFnNumBytes
open Go.RowKit Go.Proofs.YtomeiaphaimjoaaW.PrintWords Go.Proofs.YtomeiaphaimjoaaW.PrintLast Go.Proofs.YtomeiaphaimjoaaW.PrintMore
attribute [local go_sem] max2_int min2_int max_two min_two max_three min_three max_four min_four   -- for this text's walks alone
set_option linter.unusedVariables false
set_option linter.unusedSimpArgs false

/-! ### impl_GetNum: function 34 -/
mutual
def impl_GetNum.l0 : Nat → List Int → Int → Int → Int → Option (Int × Int × Bool)
 | 0, _, _, _, _ => none
 | k + 1, x0, x1, x7, x8 => if x8 < 5 then (impl_GetNum.j1 k x0 x1 x7 x8 (decide ((wrap64 (x1 + x8)) < (x0.length : Int)))) else (impl_GetNum.j1 k x0 x1 x7 x8 false)
def impl_GetNum.j1 : Nat → List Int → Int → Int → Int → Bool → Option (Int × Int × Bool)
 | 0, _, _, _, _, _ => none
 | k + 1, x0, x1, x7, x8, x26 => if x26 = true then (if 0 ≤ (wrap64 (x1 + x8)) then (if (wrap64 (x1 + x8)) < (x0.length : Int) then (if 0 ≤ (wrap64 (7 * x8)) then (if (rd x0 (wrap64 (x1 + x8))) > 127 then (impl_GetNum.l0 k x0 x1 (wrap64 (x7 + (shl .i64 (wrap64 (Int.tmod (rd x0 (wrap64 (x1 + x8))) 128)) (wrap64 (7 * x8))))) (wrap64 (x8 + 1))) else (if (Int.tmod (wrap64 (x7 + (shl .i64 (wrap64 (Int.tmod (rd x0 (wrap64 (x1 + x8))) 128)) (wrap64 (7 * x8))))) 2) = 1 then (if (rd x0 (wrap64 (x1 + x8))) = 0 then (if x8 > 0 then (some (0, 0, false)) else ((impl_within.f (wrap64 (Int.tdiv (wrap64 (-(wrap64 ((wrap64 (x7 + (shl .i64 (wrap64 (Int.tmod (rd x0 (wrap64 (x1 + x8))) 128)) (wrap64 (7 * x8))))) + 1)))) 2)) (-2000000000) 2000000000).bind fun t136 => (if t136 = true then (some (wrap64 (Int.tdiv (wrap64 (-(wrap64 ((wrap64 (x7 + (shl .i64 (wrap64 (Int.tmod (rd x0 (wrap64 (x1 + x8))) 128)) (wrap64 (7 * x8))))) + 1)))) 2), wrap64 ((wrap64 (x1 + x8)) + 1), true)) else (some (0, 0, false))))) else ((impl_within.f (wrap64 (Int.tdiv (wrap64 (-(wrap64 ((wrap64 (x7 + (shl .i64 (wrap64 (Int.tmod (rd x0 (wrap64 (x1 + x8))) 128)) (wrap64 (7 * x8))))) + 1)))) 2)) (-2000000000) 2000000000).bind fun t137 => (if t137 = true then (some (wrap64 (Int.tdiv (wrap64 (-(wrap64 ((wrap64 (x7 + (shl .i64 (wrap64 (Int.tmod (rd x0 (wrap64 (x1 + x8))) 128)) (wrap64 (7 * x8))))) + 1)))) 2), wrap64 ((wrap64 (x1 + x8)) + 1), true)) else (some (0, 0, false))))) else (if (rd x0 (wrap64 (x1 + x8))) = 0 then (if x8 > 0 then (some (0, 0, false)) else ((impl_within.f (wrap64 (Int.tdiv (wrap64 (x7 + (shl .i64 (wrap64 (Int.tmod (rd x0 (wrap64 (x1 + x8))) 128)) (wrap64 (7 * x8))))) 2)) (-2000000000) 2000000000).bind fun t138 => (if t138 = true then (some (wrap64 (Int.tdiv (wrap64 (x7 + (shl .i64 (wrap64 (Int.tmod (rd x0 (wrap64 (x1 + x8))) 128)) (wrap64 (7 * x8))))) 2), wrap64 ((wrap64 (x1 + x8)) + 1), true)) else (some (0, 0, false))))) else ((impl_within.f (wrap64 (Int.tdiv (wrap64 (x7 + (shl .i64 (wrap64 (Int.tmod (rd x0 (wrap64 (x1 + x8))) 128)) (wrap64 (7 * x8))))) 2)) (-2000000000) 2000000000).bind fun t139 => (if t139 = true then (some (wrap64 (Int.tdiv (wrap64 (x7 + (shl .i64 (wrap64 (Int.tmod (rd x0 (wrap64 (x1 + x8))) 128)) (wrap64 (7 * x8))))) 2), wrap64 ((wrap64 (x1 + x8)) + 1), true)) else (some (0, 0, false))))))) else (none)) else (none)) else (none)) else (some (0, 0, false))
end
def impl_GetNum.f (k : Nat) (l0 : List Int) (a1 : Int) : Option (Int × Int × Bool) := (impl_within.f a1 0 (wrap64 ((l0.length : Int) - 1))).bind fun t134 => (if t134 = true then (impl_GetNum.l0 k l0 a1 0 0) else (some (0, 0, false)))
theorem impl_GetNum.mono_l : ∀ k, (∀ y0 y1 y2 y3, LeO (impl_GetNum.l0 k y0 y1 y2 y3) (impl_GetNum.l0 (k + 1) y0 y1 y2 y3)) ∧ (∀ y0 y1 y2 y3 y4, LeO (impl_GetNum.j1 k y0 y1 y2 y3 y4) (impl_GetNum.j1 (k + 1) y0 y1 y2 y3 y4))
 | 0 => ⟨fun _ _ _ _ r h => by simp [impl_GetNum.l0] at h, fun _ _ _ _ _ r h => by simp [impl_GetNum.j1] at h⟩
 | k + 1 => by
  obtain ⟨ih0, ih1⟩ := impl_GetNum.mono_l k
  refine ⟨?_, ?_⟩
  ·intro y0 y1 y2 y3
   unfold impl_GetNum.l0
   exact zm_
  ·intro y0 y1 y2 y3 y4
   unfold impl_GetNum.j1
   exact zm_
theorem impl_GetNum.mono : ∀ a0 a1 k, LeO (impl_GetNum.f k a0 a1) (impl_GetNum.f (k + 1) a0 a1) := by
 intro a0 a1 k
 obtain ⟨ih0, ih1⟩ := impl_GetNum.mono_l k
 unfold impl_GetNum.f
 exact zm_
set_option maxHeartbeats 8000000 in
set_option maxRecDepth 100000 in
theorem impl_GetNum.calls (k : Nat) (A0 : Option Addr) (c0 : Nat) (l0 : List Int) (a1 : Int) (r1 : Int) (r2 : Int) (r3 : Bool) (w : World) (hr0 : Kd.C (Kd.int .u8) w A0 l0.length l0) (hc0 : l0.length ≤ c0) (h : impl_GetNum.f k l0 a1 = some (r1, r2, r3)) :
  Calls Try.prog 34 #[.slice A0 l0.length c0, .int .i64 a1] w fun e w' => e = .returned (.tuple #[.int .i64 r1, .int .i64 r2, .bool r3]) ∧ Drawn0 w w' := by
 have HR0 := q_ hr0
 have HC0 := q_ hc0
 clear hr0 hc0
 have H := h; clear h
 unfold impl_GetNum.f at H
 replace H := bi_ H; obtain ⟨t134, A3, H⟩ := H
 have HC4 := q_ H
 clear H
 go_enter Try.func34, Try.ntmps34
 go_upto_if 16 with (first | ((with_reducible refine gate_callee (f := 58) rfl ?_); refine goesL_ (some 15) rfl rfl Try.func58 (by kernel_rfl) rfl #[.int .i64 a1, .int .i64 0, .int .i64 (wrap64 ((l0.length : Int) - 1))] rfl z1_ ?_; (with_reducible refine (impl_within.calls a1 0 (wrap64 ((l0.length : Int) - 1)) t134 _ A3.out).mono ?_); rintro e w' ⟨rfl, ⟨nd, rfl⟩⟩; refine ⟨_, rfl, ?_⟩))
 (try simp only [Act.put, List.setIfInBounds_toArray, List.set_cons_zero, List.set_cons_succ])
 have H := HC4.out
 clear HC4
 replace H := kb_ H; rcases H with ⟨rfl, H⟩ | ⟨rfl, H⟩
 ·have H' := q_ H
  clear H
  go_wp2
  go_loopg [7, 8] k (fun kq v7 v8 w' => ∃ (x7_1 : Int) (x8_1 : Int), v7 = .int .i64 x7_1 ∧ v8 = .int .i64 x8_1 ∧ Aside0 (impl_GetNum.l0 kq l0 a1 x7_1 x8_1 = some (r1, r2, r3)) ∧ Aside0 (kq ≤ k) ∧ Drawn0 w w')
  case atStart => exact ⟨(0), (0), z10_, z10_, H', ⟨Nat.le_refl _⟩, z12_⟩
  case round =>
   clear H'
   try clear p2
   try clear c3
   try clear c5
   obtain ⟨x7_1, x8_1, rfl, rfl, HA, HK1, ⟨m1, rfl⟩⟩ := hrel
   obtain ⟨k1, rfl, H⟩ := rn_ (k := gk) HA (by rintro rfl; simp only [impl_GetNum.l0])
   clear HA
   simp only [impl_GetNum.l0] at H
   have HC6 := q_ H
   clear H
   go_upto_region 5 with (fail)
   go_cut [26] (fun v26 wc => ∃ (kq : Nat) (x26_5 : Bool), v26 = .bool x26_5 ∧ Aside0 (impl_GetNum.j1 kq l0 a1 x7_1 x8_1 x26_5 = some (r1, r2, r3)) ∧ Aside0 (kq ≤ k1) ∧ Drawn0 w wc)
   case first =>
    have H := HC6.out
    clear HC6
    replace H := kd_ H; rcases H with ⟨c7b0, H⟩ | ⟨c7b0, H⟩
    ·(first | rw [c7b0] | rw [c7b1] | (simp only [i64_w, i32_w]; first | rw [c7b0] | rw [c7b1]) | rw [c7b2] | skip)
     have H' := q_ H
     clear H
     go_wp2
     go_meet
     case rel => exact ⟨_, (decide ((wrap64 (a1 + x8_1)) < (l0.length : Int))), z10_, H', ⟨by have := HK1.out; first | omega | exact Nat.le_refl _⟩, z12_⟩
    ·(first | rw [c7b0] | rw [c7b1] | (simp only [i64_w, i32_w]; first | rw [c7b0] | rw [c7b1]) | rw [c7b2] | skip)
     have H' := q_ H
     clear H
     go_wp2
     go_meet
     case rel => exact ⟨_, (false), z10_, H', ⟨by have := HK1.out; first | omega | exact Nat.le_refl _⟩, z12_⟩
   case rest =>
    clear HC6
    try clear p2
    try clear c3
    try clear c5
    try clear p6
    try clear c7
    try clear c7b0
    try clear c7b1
    try clear c7b2
    try clear p2
    obtain ⟨kq, x26_5, rfl, HA, HJ5, ⟨mc5, rfl⟩⟩ := hcut
    obtain ⟨kj5, rfl, H⟩ := rn_ (k := kq) HA (by rintro rfl; simp only [impl_GetNum.j1])
    clear HA
    simp only [impl_GetNum.j1] at H
    replace H := kb_ H; rcases H with ⟨rfl, H⟩ | ⟨rfl, H⟩
    ·obtain ⟨ji9, hji9⟩ : ∃ j_ : Int, (wrap64 (a1 + x8_1)) = j_ := ⟨_, rfl⟩
     replace H : (if 0 ≤ (ji9) then (if (ji9) < (l0.length : Int) then (if 0 ≤ (wrap64 (7 * x8_1)) then (if (rd l0 (ji9)) > 127 then (impl_GetNum.l0 kj5 l0 a1 (wrap64 (x7_1 + (shl .i64 (wrap64 (Int.tmod (rd l0 (ji9)) 128)) (wrap64 (7 * x8_1))))) (wrap64 (x8_1 + 1))) else (if (Int.tmod (wrap64 (x7_1 + (shl .i64 (wrap64 (Int.tmod (rd l0 (ji9)) 128)) (wrap64 (7 * x8_1))))) 2) = 1 then (if (rd l0 (ji9)) = 0 then (if x8_1 > 0 then (some (0, 0, false)) else ((impl_within.f (wrap64 (Int.tdiv (wrap64 (-(wrap64 ((wrap64 (x7_1 + (shl .i64 (wrap64 (Int.tmod (rd l0 (ji9)) 128)) (wrap64 (7 * x8_1))))) + 1)))) 2)) (-2000000000) 2000000000).bind fun t136 => (if t136 = true then (some (wrap64 (Int.tdiv (wrap64 (-(wrap64 ((wrap64 (x7_1 + (shl .i64 (wrap64 (Int.tmod (rd l0 (ji9)) 128)) (wrap64 (7 * x8_1))))) + 1)))) 2), wrap64 ((ji9) + 1), true)) else (some (0, 0, false))))) else ((impl_within.f (wrap64 (Int.tdiv (wrap64 (-(wrap64 ((wrap64 (x7_1 + (shl .i64 (wrap64 (Int.tmod (rd l0 (ji9)) 128)) (wrap64 (7 * x8_1))))) + 1)))) 2)) (-2000000000) 2000000000).bind fun t137 => (if t137 = true then (some (wrap64 (Int.tdiv (wrap64 (-(wrap64 ((wrap64 (x7_1 + (shl .i64 (wrap64 (Int.tmod (rd l0 (ji9)) 128)) (wrap64 (7 * x8_1))))) + 1)))) 2), wrap64 ((ji9) + 1), true)) else (some (0, 0, false))))) else (if (rd l0 (ji9)) = 0 then (if x8_1 > 0 then (some (0, 0, false)) else ((impl_within.f (wrap64 (Int.tdiv (wrap64 (x7_1 + (shl .i64 (wrap64 (Int.tmod (rd l0 (ji9)) 128)) (wrap64 (7 * x8_1))))) 2)) (-2000000000) 2000000000).bind fun t138 => (if t138 = true then (some (wrap64 (Int.tdiv (wrap64 (x7_1 + (shl .i64 (wrap64 (Int.tmod (rd l0 (ji9)) 128)) (wrap64 (7 * x8_1))))) 2), wrap64 ((ji9) + 1), true)) else (some (0, 0, false))))) else ((impl_within.f (wrap64 (Int.tdiv (wrap64 (x7_1 + (shl .i64 (wrap64 (Int.tmod (rd l0 (ji9)) 128)) (wrap64 (7 * x8_1))))) 2)) (-2000000000) 2000000000).bind fun t139 => (if t139 = true then (some (wrap64 (Int.tdiv (wrap64 (x7_1 + (shl .i64 (wrap64 (Int.tmod (rd l0 (ji9)) 128)) (wrap64 (7 * x8_1))))) 2), wrap64 ((ji9) + 1), true)) else (some (0, 0, false))))))) else (none)) else (none)) else (none)) = some (r1, r2, r3) := z35_
     have hji9w : (IntKind.i64.wrap (a1 + x8_1)) = ji9 := (i64_w _).trans hji9
     replace H := kdn_ H; obtain ⟨c10b0, H⟩ := H
     replace H := kdn_ H; obtain ⟨c11b0, H⟩ := H
     obtain ⟨ji12, hji12⟩ : ∃ j_ : Int, (wrap64 (7 * x8_1)) = j_ := ⟨_, rfl⟩
     replace H : (if 0 ≤ (ji12) then (if (rd l0 (ji9)) > 127 then (impl_GetNum.l0 kj5 l0 a1 (wrap64 (x7_1 + (shl .i64 (wrap64 (Int.tmod (rd l0 (ji9)) 128)) (ji12)))) (wrap64 (x8_1 + 1))) else (if (Int.tmod (wrap64 (x7_1 + (shl .i64 (wrap64 (Int.tmod (rd l0 (ji9)) 128)) (ji12)))) 2) = 1 then (if (rd l0 (ji9)) = 0 then (if x8_1 > 0 then (some (0, 0, false)) else ((impl_within.f (wrap64 (Int.tdiv (wrap64 (-(wrap64 ((wrap64 (x7_1 + (shl .i64 (wrap64 (Int.tmod (rd l0 (ji9)) 128)) (ji12)))) + 1)))) 2)) (-2000000000) 2000000000).bind fun t136 => (if t136 = true then (some (wrap64 (Int.tdiv (wrap64 (-(wrap64 ((wrap64 (x7_1 + (shl .i64 (wrap64 (Int.tmod (rd l0 (ji9)) 128)) (ji12)))) + 1)))) 2), wrap64 ((ji9) + 1), true)) else (some (0, 0, false))))) else ((impl_within.f (wrap64 (Int.tdiv (wrap64 (-(wrap64 ((wrap64 (x7_1 + (shl .i64 (wrap64 (Int.tmod (rd l0 (ji9)) 128)) (ji12)))) + 1)))) 2)) (-2000000000) 2000000000).bind fun t137 => (if t137 = true then (some (wrap64 (Int.tdiv (wrap64 (-(wrap64 ((wrap64 (x7_1 + (shl .i64 (wrap64 (Int.tmod (rd l0 (ji9)) 128)) (ji12)))) + 1)))) 2), wrap64 ((ji9) + 1), true)) else (some (0, 0, false))))) else (if (rd l0 (ji9)) = 0 then (if x8_1 > 0 then (some (0, 0, false)) else ((impl_within.f (wrap64 (Int.tdiv (wrap64 (x7_1 + (shl .i64 (wrap64 (Int.tmod (rd l0 (ji9)) 128)) (ji12)))) 2)) (-2000000000) 2000000000).bind fun t138 => (if t138 = true then (some (wrap64 (Int.tdiv (wrap64 (x7_1 + (shl .i64 (wrap64 (Int.tmod (rd l0 (ji9)) 128)) (ji12)))) 2), wrap64 ((ji9) + 1), true)) else (some (0, 0, false))))) else ((impl_within.f (wrap64 (Int.tdiv (wrap64 (x7_1 + (shl .i64 (wrap64 (Int.tmod (rd l0 (ji9)) 128)) (ji12)))) 2)) (-2000000000) 2000000000).bind fun t139 => (if t139 = true then (some (wrap64 (Int.tdiv (wrap64 (x7_1 + (shl .i64 (wrap64 (Int.tmod (rd l0 (ji9)) 128)) (ji12)))) 2), wrap64 ((ji9) + 1), true)) else (some (0, 0, false))))))) else (none)) = some (r1, r2, r3) := z33_
     have hji12w : (IntKind.i64.wrap (7 * x8_1)) = ji12 := (i64_w _).trans hji12
     replace H := ktn_ H; obtain ⟨c13b0, c13b1, H⟩ := H
     obtain ⟨ji14, hji14⟩ : ∃ j_ : Int, (shl .i64 (wrap64 (Int.tmod (rd l0 (ji9)) 128)) (ji12)) = j_ := ⟨_, rfl⟩
     replace H : (if (rd l0 (ji9)) > 127 then (impl_GetNum.l0 kj5 l0 a1 (wrap64 (x7_1 + (ji14))) (wrap64 (x8_1 + 1))) else (if (Int.tmod (wrap64 (x7_1 + (ji14))) 2) = 1 then (if (rd l0 (ji9)) = 0 then (if x8_1 > 0 then (some (0, 0, false)) else ((impl_within.f (wrap64 (Int.tdiv (wrap64 (-(wrap64 ((wrap64 (x7_1 + (ji14))) + 1)))) 2)) (-2000000000) 2000000000).bind fun t136 => (if t136 = true then (some (wrap64 (Int.tdiv (wrap64 (-(wrap64 ((wrap64 (x7_1 + (ji14))) + 1)))) 2), wrap64 ((ji9) + 1), true)) else (some (0, 0, false))))) else ((impl_within.f (wrap64 (Int.tdiv (wrap64 (-(wrap64 ((wrap64 (x7_1 + (ji14))) + 1)))) 2)) (-2000000000) 2000000000).bind fun t137 => (if t137 = true then (some (wrap64 (Int.tdiv (wrap64 (-(wrap64 ((wrap64 (x7_1 + (ji14))) + 1)))) 2), wrap64 ((ji9) + 1), true)) else (some (0, 0, false))))) else (if (rd l0 (ji9)) = 0 then (if x8_1 > 0 then (some (0, 0, false)) else ((impl_within.f (wrap64 (Int.tdiv (wrap64 (x7_1 + (ji14))) 2)) (-2000000000) 2000000000).bind fun t138 => (if t138 = true then (some (wrap64 (Int.tdiv (wrap64 (x7_1 + (ji14))) 2), wrap64 ((ji9) + 1), true)) else (some (0, 0, false))))) else ((impl_within.f (wrap64 (Int.tdiv (wrap64 (x7_1 + (ji14))) 2)) (-2000000000) 2000000000).bind fun t139 => (if t139 = true then (some (wrap64 (Int.tdiv (wrap64 (x7_1 + (ji14))) 2), wrap64 ((ji9) + 1), true)) else (some (0, 0, false))))))) = some (r1, r2, r3) := z34_
     have hji14_ : (IntKind.i64.wrap ((wrap64 (Int.tmod (rd l0 (ji9)) 128)) * 2 ^ min (ji12).toNat 64)) = ji14 := hji14
     have hji14z : (ji12) ≤ 64 → (IntKind.i64.wrap ((wrap64 (Int.tmod (rd l0 (ji9)) 128)) * 2 ^ (ji12).toNat)) = ji14 := shl_small hji14
     have hji14y : (wrap64 ((wrap64 (Int.tmod (rd l0 (ji9)) 128)) * 2 ^ min (ji12).toNat 64)) = ji14 := (i64_w _).symm.trans hji14_
     have hji14x : (ji12) ≤ 64 → (wrap64 ((wrap64 (Int.tmod (rd l0 (ji9)) 128)) * 2 ^ (ji12).toNat)) = ji14 := fun h_ => (i64_w _).symm.trans (hji14z h_)
     replace H := kg_ H; rcases H with ⟨c15b0, H⟩ | ⟨c15b0, H⟩
     ·have H' := q_ H
      clear H
      have p135 : 0 ≤ ((ji9) : Int) := of_decide_eq_true z5_
      have q135 : (ji9) < (l0.length : Int) := of_decide_eq_true z5_
      obtain ⟨ad135, e135, hx135_0⟩ := Kd.at_int HR0.out (ji9) p135 q135
      cases e135
      replace p135 := eq_true p135
      replace q135 := eq_true q135
      go_wp2
      go_roundg kj5
      case measure => have := HK1.out; have := HJ5.out; omega
      case rel => exact ⟨(wrap64 (x7_1 + (ji14))), (wrap64 (x8_1 + 1)), z32_, z10_, H', ⟨by have := HK1.out; have := HJ5.out; omega⟩, z12_⟩
     ·replace H := ke_ H; rcases H with ⟨c16b0, c16b1, H⟩ | ⟨c16, c16b0, c16b1, H⟩
      ·replace H := ke_ H; rcases H with ⟨c17b0, c17b1, H⟩ | ⟨c17, c17b0, c17b1, H⟩
       ·replace H := kg_ H; rcases H with ⟨c18b0, H⟩ | ⟨c18b0, H⟩
        ·simp only [Option.some.injEq, Prod.mk.injEq] at H
         obtain ⟨rfl, rfl, rfl⟩ := H
         have p135 : 0 ≤ ((ji9) : Int) := of_decide_eq_true z5_
         have q135 : (ji9) < (l0.length : Int) := of_decide_eq_true z5_
         obtain ⟨ad135, e135, hx135_0⟩ := Kd.at_int HR0.out (ji9) p135 q135
         cases e135
         replace p135 := eq_true p135
         replace q135 := eq_true q135
         go_wp2
         go_ret3
         exact ⟨z13_, z12_⟩
        ·replace H := bi_ H; obtain ⟨t136, A19, H⟩ := H
         have HC20 := q_ H
         clear H
         have p135 : 0 ≤ ((ji9) : Int) := of_decide_eq_true z5_
         have q135 : (ji9) < (l0.length : Int) := of_decide_eq_true z5_
         obtain ⟨ad135, e135, hx135_0⟩ := Kd.at_int HR0.out (ji9) p135 q135
         cases e135
         replace p135 := eq_true p135
         replace q135 := eq_true q135
         go_upto_if 64 with (first | (go_at_call 58; (with_reducible refine (impl_within.calls (wrap64 (Int.tdiv (wrap64 (-(wrap64 ((wrap64 (x7_1 + (ji14))) + 1)))) 2)) (-2000000000) 2000000000 t136 _ A19.out).mono ?_); rintro e w' ⟨rfl, ⟨nd, rfl⟩⟩))
         (try simp only [Act.put, List.setIfInBounds_toArray, List.set_cons_zero, List.set_cons_succ])
         have H := HC20.out
         clear HC20
         replace H := kb_ H; rcases H with ⟨rfl, H⟩ | ⟨rfl, H⟩
         ·simp only [Option.some.injEq, Prod.mk.injEq] at H
          obtain ⟨rfl, rfl, rfl⟩ := H
          go_wp2
          go_ret3
          exact ⟨z13_, z12_⟩
         ·simp only [Option.some.injEq, Prod.mk.injEq] at H
          obtain ⟨rfl, rfl, rfl⟩ := H
          go_wp2
          go_ret3
          exact ⟨z13_, z12_⟩
       ·replace H := bi_ H; obtain ⟨t137, A22, H⟩ := H
        have HC23 := q_ H
        clear H
        have p135 : 0 ≤ ((ji9) : Int) := of_decide_eq_true z5_
        have q135 : (ji9) < (l0.length : Int) := of_decide_eq_true z5_
        obtain ⟨ad135, e135, hx135_0⟩ := Kd.at_int HR0.out (ji9) p135 q135
        cases e135
        replace p135 := eq_true p135
        replace q135 := eq_true q135
        go_upto_if 64 with (first | (go_at_call 58; (with_reducible refine (impl_within.calls (wrap64 (Int.tdiv (wrap64 (-(wrap64 ((wrap64 (x7_1 + (ji14))) + 1)))) 2)) (-2000000000) 2000000000 t137 _ A22.out).mono ?_); rintro e w' ⟨rfl, ⟨nd, rfl⟩⟩))
        (try simp only [Act.put, List.setIfInBounds_toArray, List.set_cons_zero, List.set_cons_succ])
        have H := HC23.out
        clear HC23
        replace H := kb_ H; rcases H with ⟨rfl, H⟩ | ⟨rfl, H⟩
        ·simp only [Option.some.injEq, Prod.mk.injEq] at H
         obtain ⟨rfl, rfl, rfl⟩ := H
         go_wp2
         go_ret3
         exact ⟨z13_, z12_⟩
        ·simp only [Option.some.injEq, Prod.mk.injEq] at H
         obtain ⟨rfl, rfl, rfl⟩ := H
         go_wp2
         go_ret3
         exact ⟨z13_, z12_⟩
      ·replace H := ke_ H; rcases H with ⟨c25b0, c25b1, H⟩ | ⟨c25, c25b0, c25b1, H⟩
       ·replace H := kg_ H; rcases H with ⟨c26b0, H⟩ | ⟨c26b0, H⟩
        ·simp only [Option.some.injEq, Prod.mk.injEq] at H
         obtain ⟨rfl, rfl, rfl⟩ := H
         have p135 : 0 ≤ ((ji9) : Int) := of_decide_eq_true z5_
         have q135 : (ji9) < (l0.length : Int) := of_decide_eq_true z5_
         obtain ⟨ad135, e135, hx135_0⟩ := Kd.at_int HR0.out (ji9) p135 q135
         cases e135
         replace p135 := eq_true p135
         replace q135 := eq_true q135
         go_wp2
         go_ret3
         exact ⟨z13_, z12_⟩
        ·replace H := bi_ H; obtain ⟨t138, A27, H⟩ := H
         have HC28 := q_ H
         clear H
         have p135 : 0 ≤ ((ji9) : Int) := of_decide_eq_true z5_
         have q135 : (ji9) < (l0.length : Int) := of_decide_eq_true z5_
         obtain ⟨ad135, e135, hx135_0⟩ := Kd.at_int HR0.out (ji9) p135 q135
         cases e135
         replace p135 := eq_true p135
         replace q135 := eq_true q135
         go_upto_if 64 with (first | (go_at_call 58; (with_reducible refine (impl_within.calls (wrap64 (Int.tdiv (wrap64 (x7_1 + (ji14))) 2)) (-2000000000) 2000000000 t138 _ A27.out).mono ?_); rintro e w' ⟨rfl, ⟨nd, rfl⟩⟩))
         (try simp only [Act.put, List.setIfInBounds_toArray, List.set_cons_zero, List.set_cons_succ])
         have H := HC28.out
         clear HC28
         replace H := kb_ H; rcases H with ⟨rfl, H⟩ | ⟨rfl, H⟩
         ·simp only [Option.some.injEq, Prod.mk.injEq] at H
          obtain ⟨rfl, rfl, rfl⟩ := H
          go_wp2
          go_ret3
          exact ⟨z13_, z12_⟩
         ·simp only [Option.some.injEq, Prod.mk.injEq] at H
          obtain ⟨rfl, rfl, rfl⟩ := H
          go_wp2
          go_ret3
          exact ⟨z13_, z12_⟩
       ·replace H := bi_ H; obtain ⟨t139, A30, H⟩ := H
        have HC31 := q_ H
        clear H
        have p135 : 0 ≤ ((ji9) : Int) := of_decide_eq_true z5_
        have q135 : (ji9) < (l0.length : Int) := of_decide_eq_true z5_
        obtain ⟨ad135, e135, hx135_0⟩ := Kd.at_int HR0.out (ji9) p135 q135
        cases e135
        replace p135 := eq_true p135
        replace q135 := eq_true q135
        go_upto_if 64 with (first | (go_at_call 58; (with_reducible refine (impl_within.calls (wrap64 (Int.tdiv (wrap64 (x7_1 + (ji14))) 2)) (-2000000000) 2000000000 t139 _ A30.out).mono ?_); rintro e w' ⟨rfl, ⟨nd, rfl⟩⟩))
        (try simp only [Act.put, List.setIfInBounds_toArray, List.set_cons_zero, List.set_cons_succ])
        have H := HC31.out
        clear HC31
        replace H := kb_ H; rcases H with ⟨rfl, H⟩ | ⟨rfl, H⟩
        ·simp only [Option.some.injEq, Prod.mk.injEq] at H
         obtain ⟨rfl, rfl, rfl⟩ := H
         go_wp2
         go_ret3
         exact ⟨z13_, z12_⟩
        ·simp only [Option.some.injEq, Prod.mk.injEq] at H
         obtain ⟨rfl, rfl, rfl⟩ := H
         go_wp2
         go_ret3
         exact ⟨z13_, z12_⟩
    ·simp only [Option.some.injEq, Prod.mk.injEq] at H
     obtain ⟨rfl, rfl, rfl⟩ := H
     go_wp2
     go_ret3
     exact ⟨z10_, z12_⟩
 ·simp only [Option.some.injEq, Prod.mk.injEq] at H
  obtain ⟨rfl, rfl, rfl⟩ := H
  go_wp2
  go_ret3
  exact ⟨z10_, z12_⟩

/-! ### laws_big: function 42 -/
def laws_big.f (l0 : List Int) : Option (Bool) := some (decide ((l0.length : Int) > 1048576))
set_option maxHeartbeats 8000000 in
set_option maxRecDepth 100000 in
theorem laws_big.calls (A0 : Option Addr) (c0 : Nat) (l0 : List Int) (r : Bool) (w : World) (hr0 : Kd.C (Kd.int .u8) w A0 l0.length l0) (hc0 : l0.length ≤ c0) (h : laws_big.f l0 = some r) :
  Calls Try.prog 42 #[.slice A0 l0.length c0] w fun e w' => e = .returned (.bool r) ∧ Drawn0 w w' := by
 have HR0 := q_ hr0
 have HC0 := q_ hc0
 clear hr0 hc0
 have H := h; clear h
 unfold laws_big.f at H
 obtain rfl := si_ H
 go_enter Try.func42, Try.ntmps42
 go_wp2
 go_ret
 exact ⟨z10_, z12_⟩

/-- A state of type 102 at block g of W; what its slices lead to came in by w0. -/
def IsS102 (w0 W : World) (g : Nat) (f0 : List Int) (f1 : Int) (f2 : Int) : Prop := ∃ A0 c0, W.heap[g]? = some (.cells #[.slice A0 f0.length c0, .int .i64 f1, .int .i64 f2] 102 (0, 0)) ∧ w0.heap.size ≤ g ∧ Kd.C (Kd.int .u8) w0 A0 f0.length f0
theorem IsS102.grown {w0 W : World} {g : Nat} {f0 : List Int} {f1 : Int} {f2 : Int} {W1 : World} {row : Option Nat} (h : IsS102 w0 W g f0 f1 f2) (hw : W.grownBy W1 row) (hne : some g ≠ row) : IsS102 w0 W1 g f0 f1 f2 := by
 obtain ⟨A0, c0, hb, hg, hr0⟩ := h
 exact ⟨A0, c0, blk_grown hb hw hne, hg, hr0⟩
theorem IsS102.own_neN {w0 W : World} {g : Nat} {f0 : List Int} {f1 : Int} {f2 : Int} {α : Type} {d : Kd α} {e : Nat} {base : Nat} {ok : Nat → Prop} {v : Value} {xs : List α} (h : IsS102 w0 W g f0 f1 f2) (ho : Kd.N d e W base ok v xs) (ht : e ≠ 102) : some g ≠ v.ownBlock := by
 obtain ⟨A0, c0, hb, hg, hr0⟩ := h
 exact Kd.N_ne ho hb ht
theorem IsS102.fresh {w0 W : World} {g : Nat} {f0 : List Int} {f1 : Int} {f2 : Int} (h : IsS102 w0 W g f0 f1 f2) : ∀ k, W.heap.size ≤ k → k ≠ g := by
 obtain ⟨A0, c0, hb, hg, hr0⟩ := h
 exact Kd.freshB hb
theorem IsS102.kept {w0 W : World} {g : Nat} {f0 : List Int} {f1 : Int} {f2 : Int} {W1 : World} {S : Nat → Prop} (h : IsS102 w0 W g f0 f1 f2) (hk : Kept W W1 S) (hne : ¬ S g) : IsS102 w0 W1 g f0 f1 f2 := by
 obtain ⟨A0, c0, hb, hg, hr0⟩ := h
 exact ⟨A0, c0, blk_kept hb hk hne, hg, hr0⟩
theorem IsS102.below {w0 W : World} {g : Nat} {f0 : List Int} {f1 : Int} {f2 : Int} {W1 : World} (h : IsS102 w0 W g f0 f1 f2) (hw : Below W.heap.size W W1) : IsS102 w0 W1 g f0 f1 f2 := h.grown (grown_of_below hw none) (by simp)
theorem IsS102.alloc {w0 W : World} {g : Nat} {f0 : List Int} {f1 : Int} {f2 : Int} (h : IsS102 w0 W g f0 f1 f2) (o : Obj) : IsS102 w0 (W.alloc o) g f0 f1 f2 := h.below (below_alloc (Below.refl _ _) o)
theorem IsS102.drewN {w0 W : World} {g : Nat} {f0 : List Int} {f1 : Int} {f2 : Int} (h : IsS102 w0 W g f0 f1 f2) (m : Nat) : IsS102 w0 (W.drewN m) g f0 f1 f2 := h
theorem IsS102.drew {w0 W : World} {g : Nat} {f0 : List Int} {f1 : Int} {f2 : Int} (h : IsS102 w0 W g f0 f1 f2) : IsS102 w0 W.drew g f0 f1 f2 := h
theorem IsS102.at_ {w0 W : World} {g : Nat} {f0 : List Int} {f1 : Int} {f2 : Int} {w' : World} {m : Nat} (hq : W.drewN m = w') (h : IsS102 w0 W g f0 f1 f2) : IsS102 w0 w' g f0 f1 f2 := by subst hq; exact IsS102.drewN h m
theorem IsS102.apart {w0 W : World} {g : Nat} {f0 : List Int} {f1 : Int} {f2 : Int} {α : Type} {d : Kd α} {e : Nat} {base : Nat} {ok : Nat → Prop} {v : Value} {xs : List α} (h : IsS102 w0 W g f0 f1 f2) (ho : d.R e W base ok v xs) (ht : ∀ q, q ∈ e :: d.E → q ≠ 102) : d.R e W base (fun k => ok k ∧ k ≠ g) v xs := by
 obtain ⟨A0, c0, hb, hg, hr0⟩ := h
 exact Kd.R_types ho hb ht
theorem IsS102.own_ne {w0 W : World} {g : Nat} {f0 : List Int} {f1 : Int} {f2 : Int} {α : Type} {d : Kd α} {e : Nat} {base : Nat} {ok : Nat → Prop} {v : Value} {xs : List α} (h : IsS102 w0 W g f0 f1 f2) (ho : d.R e W base ok v xs) (ht : e ≠ 102) : some g ≠ v.ownBlock := by
 obtain ⟨A0, c0, hb, hg, hr0⟩ := h
 exact Kd.R_ne ho hb ht
theorem IsS102.apartQ {w0 W : World} {g : Nat} {f0 : List Int} {f1 : Int} {f2 : Int} {α : Type} {d : Kd α} {e : Nat} {base : Nat} {ok : Nat → Prop} {v : Value} {xs : List α} (h : IsS102 w0 W g f0 f1 f2) (ho : d.Q e W base ok v xs) (ht : ∀ q, q ∈ e :: d.E → q ≠ 102) : d.Q e W base (fun k => ok k ∧ k ≠ g) v xs := by
 obtain ⟨A0, c0, hb, hg, hr0⟩ := h
 exact Kd.Q_types ho hb ht
theorem IsS102.own_neQ {w0 W : World} {g : Nat} {f0 : List Int} {f1 : Int} {f2 : Int} {α : Type} {d : Kd α} {e : Nat} {base : Nat} {ok : Nat → Prop} {v : Value} {xs : List α} (h : IsS102 w0 W g f0 f1 f2) (ho : d.Q e W base ok v xs) (ht : e ≠ 102) : some g ≠ v.ownBlock := by
 obtain ⟨A0, c0, hb, hg, hr0⟩ := h
 exact Kd.Q_ne ho hb ht
theorem IsS102.apartS {w0 W : World} {g : Nat} {f0 : List Int} {f1 : Int} {f2 : Int} {α : Type} {d : Kd α} {e : Nat} {base : Nat} {ok : Nat → Prop} {v : Value} {xs : List α} (h : IsS102 w0 W g f0 f1 f2) (ho : d.S e W base ok v xs) (ht : ∀ q, q ∈ e :: d.E → q ≠ 102) : d.S e W base (fun k => ok k ∧ k ≠ g) v xs := by
 obtain ⟨A0, c0, hb, hg, hr0⟩ := h
 exact Kd.S_types ho hb ht
theorem IsS102.own_neS {w0 W : World} {g : Nat} {f0 : List Int} {f1 : Int} {f2 : Int} {α : Type} {d : Kd α} {e : Nat} {base : Nat} {ok : Nat → Prop} {v : Value} {xs : List α} (h : IsS102 w0 W g f0 f1 f2) (ho : d.S e W base ok v xs) (ht : e ≠ 102) : some g ≠ v.ownBlock := by
 obtain ⟨A0, c0, hb, hg, hr0⟩ := h
 exact Kd.S_ne ho hb ht
theorem IsS102.lt {w0 W : World} {g : Nat} {f0 : List Int} {f1 : Int} {f2 : Int} (h : IsS102 w0 W g f0 f1 f2) : g < W.heap.size := by
 obtain ⟨A0, c0, hb, hg, hr0⟩ := h
 exact blk_lt hb
theorem IsS102.ge {w0 W : World} {g : Nat} {f0 : List Int} {f1 : Int} {f2 : Int} (h : IsS102 w0 W g f0 f1 f2) : w0.heap.size ≤ g := by
 obtain ⟨A0, c0, hb, hg, hr0⟩ := h
 exact hg
theorem IsS102.ne_blk {w0 W : World} {g : Nat} {f0 : List Int} {f1 : Int} {f2 : Int} {a : Nat} {cs : Array Value} {t : TypeId} {fr : Nat × Nat} (h : IsS102 w0 W g f0 f1 f2) (hb2 : W.heap[a]? = some (.cells cs t fr)) (ht : t ≠ 102) : g ≠ a := by
 obtain ⟨A0, c0, hb, hg, hr0⟩ := h
 rintro rfl
 rw [hb] at hb2
 injection hb2 with hb2
 injection hb2 with _ ht2
 exact ht ht2.symm
theorem IsS102.far {w0 W : World} {g : Nat} {f0 : List Int} {f1 : Int} {f2 : Int} {p : Addr} (h : IsS102 w0 W g f0 f1 f2) (hne : g ≠ p.block) (u : Value) : IsS102 w0 (W.setCell p u) g f0 f1 f2 := by
 obtain ⟨A0, c0, hb, hg, hr0⟩ := h
 exact ⟨A0, c0, blk_far hb hne u, hg, hr0⟩
theorem cellS102_0 {W : World} {g : Nat} {A0 : Option Addr} {c0 : Nat} {f0 : List Int} {f1 : Int} {f2 : Int} (h : W.heap[g]? = some (.cells #[.slice A0 f0.length c0, .int .i64 f1, .int .i64 f2] 102 (0, 0))) : W.cell? ⟨g, 0, none⟩ = some (.slice A0 f0.length c0) := (blk_cell h 0).trans rfl
theorem cellS102_1 {W : World} {g : Nat} {A0 : Option Addr} {c0 : Nat} {f0 : List Int} {f1 : Int} {f2 : Int} (h : W.heap[g]? = some (.cells #[.slice A0 f0.length c0, .int .i64 f1, .int .i64 f2] 102 (0, 0))) : W.cell? ⟨g, 1, none⟩ = some (.int .i64 f1) := (blk_cell h 1).trans rfl
theorem IsS102.set_1 {w0 W : World} {g : Nat} {f0 : List Int} {f1 : Int} {f2 : Int} (h : IsS102 w0 W g f0 f1 f2) (x : Int) : IsS102 w0 (W.setCell ⟨g, 1, none⟩ (.int .i64 x)) g f0 x f2 := by
 obtain ⟨A0, c0, hb, hg, hr0⟩ := h
 exact ⟨A0, c0, by simpa using blk_set hb 1 (.int .i64 x), hg, hr0⟩
theorem cellS102_2 {W : World} {g : Nat} {A0 : Option Addr} {c0 : Nat} {f0 : List Int} {f1 : Int} {f2 : Int} (h : W.heap[g]? = some (.cells #[.slice A0 f0.length c0, .int .i64 f1, .int .i64 f2] 102 (0, 0))) : W.cell? ⟨g, 2, none⟩ = some (.int .i64 f2) := (blk_cell h 2).trans rfl
theorem IsS102.set_2 {w0 W : World} {g : Nat} {f0 : List Int} {f1 : Int} {f2 : Int} (h : IsS102 w0 W g f0 f1 f2) (x : Int) : IsS102 w0 (W.setCell ⟨g, 2, none⟩ (.int .i64 x)) g f0 f1 x := by
 obtain ⟨A0, c0, hb, hg, hr0⟩ := h
 exact ⟨A0, c0, by simpa using blk_set hb 2 (.int .i64 x), hg, hr0⟩
theorem IsS102.new (w0 W : World) (A0 : Option Addr) (c0 : Nat) (f0 : List Int) (f1 : Int) (f2 : Int) (hB : Below w0.heap.size w0 W) (hr0 : Kd.C (Kd.int .u8) w0 A0 f0.length f0) : IsS102 w0 (W.alloc (.cells #[.slice A0 f0.length c0, .int .i64 f1, .int .i64 f2] 102)) W.heap.size f0 f1 f2 := ⟨A0, c0, by simpa using heap_alloc_new W _, hB.size, hr0⟩

/-! ### spec_l1New: function 65 -/
def spec_l1New.l0 : Nat → List Int → Int → Int → Option (List Int × Int × Int)
 | 0, _, _, _ => none
 | k + 1, x0, x3, x4 => if x4 < (x0.length : Int) then (if x4 < 4000 then (if 0 ≤ x4 then (spec_l1New.l0 k x0 (Go.bits .and .i64 (wrap64 ((wrap64 ((wrap64 (x3 * 131)) + (wrap64 (rd x0 x4)))) + 7)) 1073741823) (wrap64 (x4 + 1))) else (none)) else (some (x0, 0, x3))) else (some (x0, 0, x3))
def spec_l1New.f (k : Nat) (l0 : List Int) : Option (List Int × Int × Int) := spec_l1New.l0 k l0 (wrap64 (18665 + (l0.length : Int))) 0
theorem spec_l1New.mono_l : ∀ k, (∀ y0 y1 y2, LeO (spec_l1New.l0 k y0 y1 y2) (spec_l1New.l0 (k + 1) y0 y1 y2))
 | 0 => fun _ _ _ r h => by simp [spec_l1New.l0] at h
 | k + 1 => by
  have ih0 := spec_l1New.mono_l k
  ·intro y0 y1 y2
   unfold spec_l1New.l0
   exact zm_
theorem spec_l1New.mono : ∀ a0 k, LeO (spec_l1New.f k a0) (spec_l1New.f (k + 1) a0) := by
 intro a0 k
 have ih0 := spec_l1New.mono_l k
 unfold spec_l1New.f
 exact zm_
set_option maxHeartbeats 8000000 in
set_option maxRecDepth 100000 in
theorem spec_l1New.calls (k : Nat) (A0 : Option Addr) (c0 : Nat) (l0 : List Int) (r1 : List Int) (r2 : Int) (r3 : Int) (w0 w : World) (hB : Below w0.heap.size w0 w) (hr0 : Kd.C (Kd.int .u8) w0 A0 l0.length l0) (hc0 : l0.length ≤ c0) (h : spec_l1New.f k l0 = some (r1, r2, r3)) :
  Calls Try.prog 65 #[.slice A0 l0.length c0] w fun e w' => ∃ g_ : Nat, e = .returned (.pointer (some ⟨g_, 0, none⟩)) ∧ IsS102 w0 w' g_ r1 r2 r3 ∧ Below w0.heap.size w0 w' ∧ Below w.heap.size w w' := by
 have hu102 := Try.underlying102
 have HR0 := q_ hr0
 have HC0 := q_ hc0
 clear hr0 hc0
 have HBW := q_ (Below.refl w.heap.size w)
 have HW0 := q_ hB.size
 have HB := q_ hB
 clear hB
 have H := h; clear h
 unfold spec_l1New.f at H
 have H' := q_ H
 clear H
 go_enter Try.func65, Try.ntmps65
 go_wp2
 go_loopg [3, 4] k (fun kq v3 v4 w' => ∃ (x3_1 : Int) (x4_1 : Int), v3 = .int .i64 x3_1 ∧ v4 = .int .i64 x4_1 ∧ Aside0 (spec_l1New.l0 kq l0 x3_1 x4_1 = some (r1, r2, r3)) ∧ Aside0 (kq ≤ k) ∧ Aside0 (Below w.heap.size w w') ∧ Aside0 (Below w0.heap.size w0 w'))
 case atStart => exact ⟨(wrap64 (18665 + (l0.length : Int))), (0), z10_, z10_, H', ⟨Nat.le_refl _⟩, ⟨z17_⟩, ⟨cb_⟩⟩
 case round =>
  clear H'
  obtain ⟨x3_1, x4_1, rfl, rfl, HA, HK1, HBW, HB⟩ := hrel
  obtain ⟨k1, rfl, H⟩ := rn_ (k := gk) HA (by rintro rfl; simp only [spec_l1New.l0])
  clear HA
  simp only [spec_l1New.l0] at H
  replace H := kd_ H; rcases H with ⟨c2b0, H⟩ | ⟨c2b0, H⟩
  ·replace H := kd_ H; rcases H with ⟨c3b0, H⟩ | ⟨c3b0, H⟩
   ·replace H := kdn_ H; obtain ⟨c4b0, H⟩ := H
    have H' := q_ H
    clear H
    have p140 : 0 ≤ (x4_1 : Int) := of_decide_eq_true z5_
    have q140 : x4_1 < (l0.length : Int) := of_decide_eq_true z5_
    obtain ⟨ad140, e140, hx140_0⟩ := Kd.at_int HR0.out x4_1 p140 q140
    cases e140
    replace hx140_0 := pw_cell_below HB.out hx140_0
    replace p140 := eq_true p140
    replace q140 := eq_true q140
    go_wp2
    go_roundg k1
    case measure => have := HK1.out; omega
    case rel => exact ⟨(Go.bits .and .i64 (wrap64 ((wrap64 ((wrap64 (x3_1 * 131)) + (wrap64 (rd l0 x4_1)))) + 7)) 1073741823), (wrap64 (x4_1 + 1)), z10_, z10_, H', ⟨by have := HK1.out; omega⟩, ⟨z17_⟩, ⟨cb_⟩⟩
   ·simp only [Option.some.injEq, Prod.mk.injEq] at H
    obtain ⟨rfl, rfl, rfl⟩ := H
    go_wp2_with (first | ((with_reducible refine gate_dst (N := 31) rfl ?_); refine box_event ?hg (N := 31) ?hd (cs := #[.slice A0 l0.length c0, .int .i64 0, .int .i64 x3_1]) (t := 102) ?hr ?_; (case hd => rfl); (case hg => rfl); (case hr => exact z45_); intro gb141 hg w5 hbox hb; replace HB := hb_ hb; have BK141 := q_ (hbox); have GW141 := q_ ((z38_ : w.heap.size ≤ gb141)); have GE141 := q_ ((Nat.le_trans HW0.out (z38_ : w.heap.size ≤ gb141) : w0.heap.size ≤ gb141)); replace HBW := q_ (below_step HBW.out hb); clear hb hbox hg))
    go_ret
    exact ⟨_, rfl, (show IsS102 w0 _ gb141 l0 0 x3_1 from ⟨_, _, by (with_reducible repeat (first | refine blk_drewN ?_ _ | refine blk_drew ?_ | refine blk_alloc ?_ _)); exact BK141.out, GE141.out, HR0.out⟩), cb_, by repeat (first | (with_reducible first | exact HBW.out | apply below_alloc | apply pw_below_drewN | apply below_drew1 | refine below_set ?_ GW141.out) | exact HBW.out)⟩
  ·simp only [Option.some.injEq, Prod.mk.injEq] at H
   obtain ⟨rfl, rfl, rfl⟩ := H
   go_wp2_with (first | ((with_reducible refine gate_dst (N := 31) rfl ?_); refine box_event ?hg (N := 31) ?hd (cs := #[.slice A0 l0.length c0, .int .i64 0, .int .i64 x3_1]) (t := 102) ?hr ?_; (case hd => rfl); (case hg => rfl); (case hr => exact z45_); intro gb142 hg w6 hbox hb; replace HB := hb_ hb; have BK142 := q_ (hbox); have GW142 := q_ ((z38_ : w.heap.size ≤ gb142)); have GE142 := q_ ((Nat.le_trans HW0.out (z38_ : w.heap.size ≤ gb142) : w0.heap.size ≤ gb142)); replace HBW := q_ (below_step HBW.out hb); clear hb hbox hg))
   go_ret
   exact ⟨_, rfl, (show IsS102 w0 _ gb142 l0 0 x3_1 from ⟨_, _, by (with_reducible repeat (first | refine blk_drewN ?_ _ | refine blk_drew ?_ | refine blk_alloc ?_ _)); exact BK142.out, GE142.out, HR0.out⟩), cb_, by repeat (first | (with_reducible first | exact HBW.out | apply below_alloc | apply pw_below_drewN | apply below_drew1 | refine below_set ?_ GW142.out) | exact HBW.out)⟩

/-! ### spec_l1Byte: function 68 -/
def spec_l1Byte.f (s0_0 : List Int) (s0_1 : Int) (s0_2 : Int) : Option (Int × Int × Int) := if s0_1 < (s0_0.length : Int) then (if 0 ≤ s0_1 then (some (Go.bits .and .i64 (wrap64 ((Go.bits .and .i64 (Go.bits .xor .i64 ((wrap64 ((wrap64 (s0_2 * 6364136223846793005)) + 1442695040888963407)) / 8589934592) ((wrap64 ((wrap64 (s0_2 * 6364136223846793005)) + 1442695040888963407)) / 35184372088832)) 255) + (wrap64 (rd s0_0 s0_1)))) 255, wrap64 (s0_1 + 1), wrap64 ((wrap64 (s0_2 * 6364136223846793005)) + 1442695040888963407))) else (none)) else (some (Go.bits .and .i64 (Go.bits .xor .i64 ((wrap64 ((wrap64 (s0_2 * 6364136223846793005)) + 1442695040888963407)) / 8589934592) ((wrap64 ((wrap64 (s0_2 * 6364136223846793005)) + 1442695040888963407)) / 35184372088832)) 255, s0_1, wrap64 ((wrap64 (s0_2 * 6364136223846793005)) + 1442695040888963407)))
set_option maxHeartbeats 8000000 in
set_option maxRecDepth 100000 in
theorem spec_l1Byte.calls (g : Nat) (s0_0 : List Int) (s0_1 : Int) (s0_2 : Int) (r1 : Int) (r2 : Int) (r3 : Int) (w0 w : World) (hI : IsS102 w0 w g s0_0 s0_1 s0_2) (hB : Below w0.heap.size w0 w) (h : spec_l1Byte.f s0_0 s0_1 s0_2 = some (r1, r2, r3)) :
  Calls Try.prog 68 #[.pointer (some ⟨g, 0, none⟩)] w fun e w' => e = .returned (.int .i64 r1) ∧ IsS102 w0 w' g s0_0 r2 r3 ∧ Below w0.heap.size w0 w' ∧ KeepBut w w' g none := by
 have HI0 := q_ hI
 have HK := q_ (KeepBut.refl w g none)
 have HL := q_ hB.size
 clear hI
 have HW0 := q_ hB.size
 have HB := q_ hB
 clear hB
 have H := h; clear h
 unfold spec_l1Byte.f at H
 replace H := kd_ H; rcases H with ⟨c2b0, H⟩ | ⟨c2b0, H⟩
 ·replace H := kdn_ H; obtain ⟨c3b0, H⟩ := H
  simp only [Option.some.injEq, Prod.mk.injEq] at H
  obtain ⟨rfl, rfl, rfl⟩ := H
  obtain ⟨ASz4_0, cSz4_0, HGz4, hgz4, HSz4_0⟩ := HI0.out
  have hcz4_0 := cellS102_0 HGz4
  have hcz4_1 := cellS102_1 HGz4
  have hcz4_2 := cellS102_2 HGz4
  have hfz4_1 := blk_frozen HGz4 1
  have hfz4_2 := blk_frozen HGz4 2
  clear HGz4 hgz4
  have p143 : 0 ≤ (s0_1 : Int) := of_decide_eq_true z5_
  have q143 : s0_1 < (s0_0.length : Int) := of_decide_eq_true z5_
  obtain ⟨ad143, e143, hx143_0⟩ := Kd.at_int HSz4_0 s0_1 p143 q143
  cases e143
  have hn143_0 : ad143.block ≠ g := Nat.ne_of_lt (Nat.lt_of_lt_of_le (by have := World.block_lt_of_cell? _ _ hx143_0; first | rwa [add_block] at this | exact this) (IsS102.ge HI0.out))
  replace hx143_0 := pw_cell_below HB.out hx143_0
  replace hx143_0 := (cell_far (p := ⟨g, 2, none⟩) (by first | (rw [add_block]; exact hn143_0) | (show (Addr.add _ _).block ≠ _; rw [add_block]; exact hn143_0) | exact hn143_0) (.int .i64 (wrap64 ((wrap64 (s0_2 * 6364136223846793005)) + 1442695040888963407)))).trans hx143_0
  (try have hy143_0 := fun (n_ : Nat) => (show (((w.drewN n_).setCell ⟨g, 2, none⟩ (.int .i64 (wrap64 ((wrap64 (s0_2 * 6364136223846793005)) + 1442695040888963407))))).cell? _ = some _ from hx143_0))
  clear hn143_0
  replace p143 := eq_true p143
  replace q143 := eq_true q143
  go_enter Try.func68, Try.ntmps68
  go_wp2
  repeat (go_quiet (fail); try go_wp2)
  go_ret
  exact ⟨z4_, z14_, z15_, z9_⟩
 ·simp only [Option.some.injEq, Prod.mk.injEq] at H
  obtain ⟨rfl, rfl, rfl⟩ := H
  obtain ⟨ASz5_0, cSz5_0, HGz5, hgz5, HSz5_0⟩ := HI0.out
  have hcz5_0 := cellS102_0 HGz5
  have hcz5_1 := cellS102_1 HGz5
  have hcz5_2 := cellS102_2 HGz5
  have hfz5_1 := blk_frozen HGz5 1
  have hfz5_2 := blk_frozen HGz5 2
  clear HGz5 hgz5
  go_enter Try.func68, Try.ntmps68
  go_wp2
  repeat (go_quiet (fail); try go_wp2)
  go_ret
  exact ⟨z4_, z14_, z15_, z9_⟩

/-! ### spec_l1Below: function 67 -/
def spec_l1Below.f (s0_0 : List Int) (s0_1 : Int) (s0_2 : Int) (a1 : Int) : Option (Int × Int × Int) := if a1 ≤ 0 then (some (0, s0_1, s0_2)) else (if a1 ≤ 256 then ((spec_l1Byte.f s0_0 s0_1 s0_2).bind fun bt144 => (if a1 = 0 then (none) else (some (Int.tmod bt144.1 a1, bt144.2.1, bt144.2.2)))) else ((spec_l1Byte.f s0_0 s0_1 s0_2).bind fun bt147 => ((spec_l1Byte.f s0_0 bt147.2.1 bt147.2.2).bind fun bt150 => ((spec_l1Byte.f s0_0 bt150.2.1 bt150.2.2).bind fun bt153 => ((spec_l1Byte.f s0_0 bt153.2.1 bt153.2.2).bind fun bt156 => (if a1 = 0 then (none) else (some (Int.tmod (wrap64 ((wrap64 ((wrap64 ((wrap64 (bt147.1 * 16777216)) + (wrap64 (bt150.1 * 65536)))) + (wrap64 (bt153.1 * 256)))) + bt156.1)) a1, bt156.2.1, bt156.2.2))))))))
set_option maxHeartbeats 8000000 in
set_option maxRecDepth 100000 in
theorem spec_l1Below.calls (g : Nat) (s0_0 : List Int) (s0_1 : Int) (s0_2 : Int) (a1 : Int) (r1 : Int) (r2 : Int) (r3 : Int) (w0 w : World) (hI : IsS102 w0 w g s0_0 s0_1 s0_2) (hB : Below w0.heap.size w0 w) (h : spec_l1Below.f s0_0 s0_1 s0_2 a1 = some (r1, r2, r3)) :
  Calls Try.prog 67 #[.pointer (some ⟨g, 0, none⟩), .int .i64 a1] w fun e w' => e = .returned (.int .i64 r1) ∧ IsS102 w0 w' g s0_0 r2 r3 ∧ Below w0.heap.size w0 w' ∧ KeepBut w w' g none := by
 have HI0 := q_ hI
 have HK := q_ (KeepBut.refl w g none)
 have HL := q_ hB.size
 clear hI
 have HW0 := q_ hB.size
 have HB := q_ hB
 clear hB
 have H := h; clear h
 unfold spec_l1Below.f at H
 replace H := kd_ H; rcases H with ⟨c3b0, H⟩ | ⟨c3b0, H⟩
 ·simp only [Option.some.injEq, Prod.mk.injEq] at H
  obtain ⟨rfl, rfl, rfl⟩ := H
  go_enter Try.func67, Try.ntmps67
  go_wp2
  go_ret
  exact ⟨z4_, z14_, z15_, z9_⟩
 ·replace H := kd_ H; rcases H with ⟨c4b0, H⟩ | ⟨c4b0, H⟩
  ·replace H := bi_ H; obtain ⟨⟨t144, t145, t146⟩, A5, H⟩ := H
   (try dsimp only at H)
   by_cases c6 : a1 = 0
   ·rw [if_pos c6] at H
    exact absurd H (by simp)
   ·rw [if_neg c6] at H
    have c6b0 : (a1 == 0) = false := beq_eq_false_iff_ne.mpr c6
    have c6b1 : (a1 != 0) = true := bne_iff_ne.mpr c6
    simp only [Option.some.injEq, Prod.mk.injEq] at H
    obtain ⟨rfl, rfl, rfl⟩ := H
    go_enter Try.func67, Try.ntmps67
    go_wp2_with (first | ((with_reducible refine gate_callee (f := 68) rfl ?_); refine goesL_ (some 14) rfl rfl Try.func68 (by kernel_rfl) rfl #[.pointer (some ⟨g, 0, none⟩)] rfl z1_ ?_; (with_reducible refine (spec_l1Byte.calls g s0_0 s0_1 s0_2 t144 t145 t146 w0 _ ?side1 ?side2 A5.out).mono ?_); (case side1 => exact z41_); (case side2 => exact z42_); rintro e w7 ⟨rfl, hi, hb, hk⟩; refine ⟨_, rfl, ?_⟩; replace HK := q_ (KeepBut.trans z9_ hk (.inl rfl)); replace HB := q_ (hb); replace HI0 := q_ (hi); (try clear hb); (try clear hb2); (try clear hk); (try clear hi)))
    go_ret
    exact ⟨z4_, z14_, z15_, z9_⟩
  ·replace H := bi_ H; obtain ⟨⟨t147, t148, t149⟩, A8, H⟩ := H
   (try dsimp only at H)
   replace H := bi_ H; obtain ⟨⟨t150, t151, t152⟩, A9, H⟩ := H
   (try dsimp only at H)
   replace H := bi_ H; obtain ⟨⟨t153, t154, t155⟩, A10, H⟩ := H
   (try dsimp only at H)
   replace H := bi_ H; obtain ⟨⟨t156, t157, t158⟩, A11, H⟩ := H
   (try dsimp only at H)
   by_cases c12 : a1 = 0
   ·rw [if_pos c12] at H
    exact absurd H (by simp)
   ·rw [if_neg c12] at H
    have c12b0 : (a1 == 0) = false := beq_eq_false_iff_ne.mpr c12
    have c12b1 : (a1 != 0) = true := bne_iff_ne.mpr c12
    simp only [Option.some.injEq, Prod.mk.injEq] at H
    obtain ⟨rfl, rfl, rfl⟩ := H
    go_enter Try.func67, Try.ntmps67
    go_wp2_with (first | ((with_reducible refine gate_callee (f := 68) rfl ?_); refine goesL_ (some 18) rfl rfl Try.func68 (by kernel_rfl) rfl #[.pointer (some ⟨g, 0, none⟩)] rfl z1_ ?_; (with_reducible refine (spec_l1Byte.calls g s0_0 s0_1 s0_2 t147 t148 t149 w0 _ ?side1 ?side2 A8.out).mono ?_); (case side1 => exact z41_); (case side2 => exact z42_); rintro e w13 ⟨rfl, hi, hb, hk⟩; refine ⟨_, rfl, ?_⟩; replace HK := q_ (KeepBut.trans z9_ hk (.inl rfl)); replace HB := q_ (hb); replace HI0 := q_ (hi); (try clear hb); (try clear hb2); (try clear hk); (try clear hi)) | ((with_reducible refine gate_callee (f := 68) rfl ?_); refine goesL_ (some 20) rfl rfl Try.func68 (by kernel_rfl) rfl #[.pointer (some ⟨g, 0, none⟩)] rfl z1_ ?_; (with_reducible refine (spec_l1Byte.calls g s0_0 t148 t149 t150 t151 t152 w0 _ ?side1 ?side2 A9.out).mono ?_); (case side1 => exact z41_); (case side2 => exact z42_); rintro e w14 ⟨rfl, hi, hb, hk⟩; refine ⟨_, rfl, ?_⟩; replace HK := q_ (KeepBut.trans z9_ hk (.inl rfl)); replace HB := q_ (hb); replace HI0 := q_ (hi); (try clear hb); (try clear hb2); (try clear hk); (try clear hi)) | ((with_reducible refine gate_callee (f := 68) rfl ?_); refine goesL_ (some 22) rfl rfl Try.func68 (by kernel_rfl) rfl #[.pointer (some ⟨g, 0, none⟩)] rfl z1_ ?_; (with_reducible refine (spec_l1Byte.calls g s0_0 t151 t152 t153 t154 t155 w0 _ ?side1 ?side2 A10.out).mono ?_); (case side1 => exact z41_); (case side2 => exact z42_); rintro e w15 ⟨rfl, hi, hb, hk⟩; refine ⟨_, rfl, ?_⟩; replace HK := q_ (KeepBut.trans z9_ hk (.inl rfl)); replace HB := q_ (hb); replace HI0 := q_ (hi); (try clear hb); (try clear hb2); (try clear hk); (try clear hi)) | ((with_reducible refine gate_callee (f := 68) rfl ?_); refine goesL_ (some 24) rfl rfl Try.func68 (by kernel_rfl) rfl #[.pointer (some ⟨g, 0, none⟩)] rfl z1_ ?_; (with_reducible refine (spec_l1Byte.calls g s0_0 t154 t155 t156 t157 t158 w0 _ ?side1 ?side2 A11.out).mono ?_); (case side1 => exact z41_); (case side2 => exact z42_); rintro e w16 ⟨rfl, hi, hb, hk⟩; refine ⟨_, rfl, ?_⟩; replace HK := q_ (KeepBut.trans z9_ hk (.inl rfl)); replace HB := q_ (hb); replace HI0 := q_ (hi); (try clear hb); (try clear hb2); (try clear hk); (try clear hi)))
    go_ret
    exact ⟨z4_, z14_, z15_, z9_⟩

/-! ### spec_l1PickInt: function 66 -/
def spec_l1PickInt.f (s0_0 : List Int) (s0_1 : Int) (s0_2 : Int) (l1 : List Int) : Option (Int × Int × Int) := (spec_l1Below.f s0_0 s0_1 s0_2 (l1.length : Int)).bind fun bt159 => (if 0 ≤ bt159.1 then (if bt159.1 < (l1.length : Int) then (some (rd l1 bt159.1, bt159.2.1, bt159.2.2)) else (none)) else (none))
set_option maxHeartbeats 8000000 in
set_option maxRecDepth 100000 in
theorem spec_l1PickInt.calls (g : Nat) (s0_0 : List Int) (s0_1 : Int) (s0_2 : Int) (A1 : Option Addr) (c1 : Nat) (l1 : List Int) (r1 : Int) (r2 : Int) (r3 : Int) (w0 w : World) (hI : IsS102 w0 w g s0_0 s0_1 s0_2) (hB : Below w0.heap.size w0 w) (hr1 : Kd.C (Kd.int .i64) w A1 l1.length l1) (hc1 : l1.length ≤ c1) (hf1 : ∀ ad, A1 = some ad → 0 < l1.length → ad.block ≠ g) (h : spec_l1PickInt.f s0_0 s0_1 s0_2 l1 = some (r1, r2, r3)) :
  Calls Try.prog 66 #[.pointer (some ⟨g, 0, none⟩), .slice A1 l1.length c1] w fun e w' => e = .returned (.int .i64 r1) ∧ IsS102 w0 w' g s0_0 r2 r3 ∧ Below w0.heap.size w0 w' ∧ KeepBut w w' g none := by
 have HR1 := q_ hr1
 have HC1 := q_ hc1
 clear hr1 hc1
 have HI0 := q_ hI
 have HK := q_ (KeepBut.refl w g none)
 have HL := q_ hB.size
 clear hI
 have HW0 := q_ hB.size
 have HB := q_ hB
 clear hB
 have H := h; clear h
 unfold spec_l1PickInt.f at H
 replace H := bi_ H; obtain ⟨⟨t159, t160, t161⟩, A3, H⟩ := H
 (try dsimp only at H)
 replace H := kdn_ H; obtain ⟨c4b0, H⟩ := H
 replace H := kdn_ H; obtain ⟨c5b0, H⟩ := H
 simp only [Option.some.injEq, Prod.mk.injEq] at H
 obtain ⟨rfl, rfl, rfl⟩ := H
 go_enter Try.func66, Try.ntmps66
 go_wp2_with (first | ((with_reducible refine gate_callee (f := 67) rfl ?_); refine goesL_ (some 9) rfl rfl Try.func67 (by kernel_rfl) rfl #[.pointer (some ⟨g, 0, none⟩), .int .i64 (l1.length : Int)] rfl z1_ ?_; (with_reducible refine (spec_l1Below.calls g s0_0 s0_1 s0_2 (l1.length : Int) t159 t160 t161 w0 _ ?side1 ?side2 A3.out).mono ?_); (case side1 => exact z41_); (case side2 => exact z42_); rintro e w6 ⟨rfl, hi, hb, hk⟩; refine ⟨_, rfl, ?_⟩; replace HK := q_ (KeepBut.trans z9_ hk (.inl rfl)); replace HB := q_ (hb); replace HI0 := q_ (hi); (try clear hb); (try clear hb2); (try clear hk); (try clear hi); have p162 : 0 ≤ (t159 : Int) := of_decide_eq_true z5_; have q162 : t159 < (l1.length : Int) := of_decide_eq_true z5_; obtain ⟨ad162, e162, hx162_0⟩ := Kd.at_int HR1.out t159 p162 q162; cases e162; replace hx162_0 := keep_cell HK.out hx162_0 (by first | (rw [add_block]; exact hf1 _ rfl (by omega)) | exact hf1 _ rfl (by omega) | exact hf1 ad162 rfl (by omega)); replace p162 := eq_true p162; replace q162 := eq_true q162))
 go_ret
 exact ⟨z4_, z14_, z15_, z9_⟩

/-! ### spec_DrawPutNum: function 43 -/
def spec_DrawPutNum.f (k : Nat) (l0 : List Int) : Option (Int) := (spec_l1New.f k l0).bind fun bt163 => ((spec_l1Below.f bt163.1 bt163.2.1 bt163.2.2 9999).bind fun bt167 => ((spec_l1PickInt.f bt163.1 bt167.2.1 bt167.2.2 (([0, 1, (-1), 63, 64, (-64), (-65), 150, 2000000000, 2000000001, (-2000000000), (-2000000001), bt167.1] : List Int))).bind fun bt173 => (some bt173.1)))
theorem spec_DrawPutNum.mono : ∀ a0 k, LeO (spec_DrawPutNum.f k a0) (spec_DrawPutNum.f (k + 1) a0) := by
 intro a0 k
 unfold spec_DrawPutNum.f
 have m0 := @spec_l1New.mono
 exact zm_
set_option maxHeartbeats 8000000 in
set_option maxRecDepth 100000 in
theorem spec_DrawPutNum.calls (k : Nat) (A0 : Option Addr) (c0 : Nat) (l0 : List Int) (r : Int) (w : World) (hr0 : Kd.C (Kd.int .u8) w A0 l0.length l0) (hc0 : l0.length ≤ c0) (h : spec_DrawPutNum.f k l0 = some r) :
  Calls Try.prog 43 #[.slice A0 l0.length c0] w fun e w' => e = .returned (.int .i64 r) ∧ Below w.heap.size w w' := by
 have HR0 := q_ hr0
 have HC0 := q_ hc0
 clear hr0 hc0
 have HB := q_ (Below.refl w.heap.size w)
 have H := h; clear h
 unfold spec_DrawPutNum.f at H
 replace H := bi_ H; obtain ⟨⟨t163, t164, t165⟩, A2, H⟩ := H
 (try dsimp only at H)
 replace H := bi_ H; obtain ⟨⟨t167, t168, t169⟩, A3, H⟩ := H
 (try dsimp only at H)
 obtain ⟨y170, hy_⟩ : ∃ y_ : List Int, y_ = (([0, 1, (-1), 63, 64, (-64), (-65), 150, 2000000000, 2000000001, (-2000000000), (-2000000001), t167] : List Int)) := ⟨_, rfl⟩
 replace H : ((spec_l1PickInt.f t163 t168 t169 y170).bind fun bt173 => (some bt173.1)) = some r := z2_
 have Ny170 := q_ hy_
 clear hy_
 replace H := bi_ H; obtain ⟨⟨t173, t174, t175⟩, A4, H⟩ := H
 (try dsimp only at H)
 obtain rfl := si_ H
 go_enter Try.func43, Try.ntmps43
 go_wp2_with (first | ((with_reducible refine gate_callee (f := 65) rfl ?_); refine goesL_ (some 5) rfl rfl Try.func65 (by kernel_rfl) rfl #[.slice A0 l0.length c0] rfl z1_ ?_; (with_reducible refine (spec_l1New.calls k _ _ l0 t163 t164 t165 w _ ?side1 ?side2 ?side3 A2.out).mono ?_); (case side1 => exact z48_); (case side2 => exact HR0.out); (case side3 => exact HC0.out); rintro e w5 ⟨g166, rfl, hi, hb, hb2⟩; refine ⟨_, rfl, ?_⟩; replace HB := q_ (hb); have HI166 := q_ (hi); (try clear hb); (try clear hb2); (try clear hk); (try clear hi)) | ((with_reducible refine gate_callee (f := 67) rfl ?_); refine goesL_ (some 8) rfl rfl Try.func67 (by kernel_rfl) rfl #[.pointer (some ⟨g166, 0, none⟩), .int .i64 9999] rfl z1_ ?_; (with_reducible refine (spec_l1Below.calls g166 t163 t164 t165 9999 t167 t168 t169 w _ ?side1 ?side2 A3.out).mono ?_); (case side1 => exact z46_); (case side2 => exact z47_); rintro e w6 ⟨rfl, hi, hb, hk⟩; refine ⟨_, rfl, ?_⟩; replace HB := q_ (hb); replace HI166 := q_ (hi); (try clear hb); (try clear hb2); (try clear hk); (try clear hi)) | ((with_reducible refine gate_dst (N := 9) rfl ?_); refine Kd.R_lit (Kd.int .i64) _ 3 ?hg (N := 9) ?hd (xs := ([0, 1, (-1), 63, 64, (-64), (-65), 150, 2000000000, 2000000001, (-2000000000), (-2000000001), t167] : List Int)) (inner := [.int .i64 0, .int .i64 1, .int .i64 (-1), .int .i64 63, .int .i64 64, .int .i64 (-64), .int .i64 (-65), .int .i64 150, .int .i64 2000000000, .int .i64 2000000001, .int .i64 (-2000000000), .int .i64 (-2000000001), .int .i64 t167]) (ok := fun _ => True) (okp := fun _ => True) ?hr ?hp (fun _ hk => hk) trivial (Below.refl _ _) (Nat.le_refl _) (by simp) ?_; (case hd => rfl); (case hg => rfl); (case hr => exact z45_); (case hp => exact (Reps.one (show Kd.M (Kd.int .i64) _ _ _ 0 [.int .i64 0] from rfl) (Reps.one (show Kd.M (Kd.int .i64) _ _ _ 1 [.int .i64 1] from rfl) (Reps.one (show Kd.M (Kd.int .i64) _ _ _ (-1) [.int .i64 (-1)] from rfl) (Reps.one (show Kd.M (Kd.int .i64) _ _ _ 63 [.int .i64 63] from rfl) (Reps.one (show Kd.M (Kd.int .i64) _ _ _ 64 [.int .i64 64] from rfl) (Reps.one (show Kd.M (Kd.int .i64) _ _ _ (-64) [.int .i64 (-64)] from rfl) (Reps.one (show Kd.M (Kd.int .i64) _ _ _ (-65) [.int .i64 (-65)] from rfl) (Reps.one (show Kd.M (Kd.int .i64) _ _ _ 150 [.int .i64 150] from rfl) (Reps.one (show Kd.M (Kd.int .i64) _ _ _ 2000000000 [.int .i64 2000000000] from rfl) (Reps.one (show Kd.M (Kd.int .i64) _ _ _ 2000000001 [.int .i64 2000000001] from rfl) (Reps.one (show Kd.M (Kd.int .i64) _ _ _ (-2000000000) [.int .i64 (-2000000000)] from rfl) (Reps.one (show Kd.M (Kd.int .i64) _ _ _ (-2000000001) [.int .i64 (-2000000001)] from rfl) (Reps.one (show Kd.M (Kd.int .i64) _ _ _ t167 [.int .i64 t167] from rfl) (Reps.none _ _))))))))))))))); intro v171 w7 ho8 hb hg_ hnew_; clear hg_ hnew_; (first | rw [← Ny170.out] at ho8 | (simp only [Int.reduceToNat] at ho8; rw [← Ny170.out] at ho8)); have HO172 := q_ (Kd.R_lower ho8 (below_size z19_)); replace HB := q_ (below_step z19_ hb); replace HI166 := q_ (IsS102.below z25_ hb); clear hb ho8; obtain ⟨Ao9, co9, eo9⟩ := Kd.R_slice HO172.out; subst eo9) | ((with_reducible refine gate_callee (f := 66) rfl ?_); refine goesL_ (some 10) rfl rfl Try.func66 (by kernel_rfl) rfl #[.pointer (some ⟨g166, 0, none⟩), .slice Ao9 y170.length co9] rfl z1_ ?_; (with_reducible refine (spec_l1PickInt.calls g166 t163 t168 t169 _ _ y170 t173 t174 t175 w _ ?side1 ?side2 ?side3 ?side4 ?side5 A4.out).mono ?_); (case side1 => exact z46_); (case side2 => exact z47_); (case side3 => repeat (first | exact (Kd.R_reads' HO172.out).2.2 | (with_reducible refine Kd.C_alloc ?_ _) | (with_reducible refine Kd.C_drewN ?_ _) | (with_reducible refine Kd.C_drew ?_))); (case side4 => exact (Kd.R_reads' HO172.out).2.1); (case side5 => exact far_slice (IsS102.own_ne HI166.out HO172.out (by decide))); rintro e w10 ⟨rfl, hi, hb, hk⟩; refine ⟨_, rfl, ?_⟩; replace HO172 := q_ (Kd.R_mono (Kd.R_keep (IsS102.apart (show IsS102 w _ g166 t163 t168 t169 from z25_) (by (with_reducible repeat (first | apply Kd.R_alloc | apply Kd.R_drewN | apply Kd.R_drew)); exact HO172.out) (by decide)) hk (fun _ h => h.2)) (fun _ h => h.1)); replace HB := q_ (hb); replace HI166 := q_ (hi); (try clear hb); (try clear hb2); (try clear hk); (try clear hi)))
 go_ret
 exact ⟨z4_, z19_⟩

end Go.Proofs.Ytomeiaphaimjoaa.PFnNumBytes
