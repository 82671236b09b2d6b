-- Written by a program of this session, which goes by the kit's print. Not trusted: Lean checks it.
import Derived.Test.YtomeiaphaimjoaaPFnNumBytesx0
import Derived.Test.YtomeiaphaimjoaaPFnNumBytesx1
namespace Go.Proofs.Ytomeiaphaimjoaa.PFnNumBytes
open Go.RowKit Go.Proofs.YtomeiaphaimjoaaW.PrintWords Go.Proofs.YtomeiaphaimjoaaW.PrintLast Go.Proofs.YtomeiaphaimjoaaW.PrintMore
attribute [local go_sem] max2_int min2_int max_two min_two max_three min_three max_four min_four   -- for this text's walks alone
set_option linter.unusedVariables false
set_option linter.unusedSimpArgs false

/-! ### spec_GetNum: function 32 -/
mutual
def spec_GetNum.j0 : Nat → List Int → Int → Bool → Option (Int × Int × Bool)
 | 0, _, _, _ => none
 | k + 1, x0, x1, x18 => if x18 = true then (some (0, 0, false)) else (spec_GetNum.l0 k x0 x1 0 0)
def spec_GetNum.l0 : Nat → List Int → Int → Int → Int → Option (Int × Int × Bool)
 | 0, _, _, _, _ => none
 | k + 1, x0, x1, x7, x8 => if x8 < 5 then (spec_GetNum.j2 k x0 x1 x7 x8 (decide ((wrap64 (x1 + x8)) < (x0.length : Int)))) else (spec_GetNum.j2 k x0 x1 x7 x8 false)
def spec_GetNum.j2 : Nat → List Int → Int → Int → Int → Bool → Option (Int × Int × Bool)
 | 0, _, _, _, _, _ => none
 | k + 1, x0, x1, x7, x8, x28 => if x28 = true then (if 0 ≤ (wrap64 (x1 + x8)) then (if (wrap64 (x1 + x8)) < (x0.length : Int) then (if 0 ≤ (wrap64 (7 * x8)) then (if (wrap64 (rd x0 (wrap64 (x1 + x8)))) ≥ 128 then (spec_GetNum.l0 k x0 x1 (Go.bits .or .i64 x7 (shl .i64 (Int.tmod (wrap64 (rd x0 (wrap64 (x1 + x8)))) 128) (wrap64 (7 * x8)))) (wrap64 (x8 + 1))) else (if (Int.tmod (Go.bits .or .i64 x7 (shl .i64 (Int.tmod (wrap64 (rd x0 (wrap64 (x1 + x8)))) 128) (wrap64 (7 * x8)))) 2) = 1 then (if (wrap64 (rd x0 (wrap64 (x1 + x8)))) = 0 then (if x8 > 0 then (some (0, 0, false)) else ((spec_PutNum.f k (wrap64 ((wrap64 (-(wrap64 (Int.tdiv (Go.bits .or .i64 x7 (shl .i64 (Int.tmod (wrap64 (rd x0 (wrap64 (x1 + x8)))) 128) (wrap64 (7 * x8)))) 2)))) - 1))).bind fun t122 => (if (t122.length : Int) = 0 then (some (0, 0, false)) else (some (wrap64 ((wrap64 (-(wrap64 (Int.tdiv (Go.bits .or .i64 x7 (shl .i64 (Int.tmod (wrap64 (rd x0 (wrap64 (x1 + x8)))) 128) (wrap64 (7 * x8)))) 2)))) - 1), wrap64 ((wrap64 (x1 + x8)) + 1), true))))) else ((spec_PutNum.f k (wrap64 ((wrap64 (-(wrap64 (Int.tdiv (Go.bits .or .i64 x7 (shl .i64 (Int.tmod (wrap64 (rd x0 (wrap64 (x1 + x8)))) 128) (wrap64 (7 * x8)))) 2)))) - 1))).bind fun t125 => (if (t125.length : Int) = 0 then (some (0, 0, false)) else (some (wrap64 ((wrap64 (-(wrap64 (Int.tdiv (Go.bits .or .i64 x7 (shl .i64 (Int.tmod (wrap64 (rd x0 (wrap64 (x1 + x8)))) 128) (wrap64 (7 * x8)))) 2)))) - 1), wrap64 ((wrap64 (x1 + x8)) + 1), true))))) else (if (wrap64 (rd x0 (wrap64 (x1 + x8)))) = 0 then (if x8 > 0 then (some (0, 0, false)) else ((spec_PutNum.f k (wrap64 (Int.tdiv (Go.bits .or .i64 x7 (shl .i64 (Int.tmod (wrap64 (rd x0 (wrap64 (x1 + x8)))) 128) (wrap64 (7 * x8)))) 2))).bind fun t128 => (if (t128.length : Int) = 0 then (some (0, 0, false)) else (some (wrap64 (Int.tdiv (Go.bits .or .i64 x7 (shl .i64 (Int.tmod (wrap64 (rd x0 (wrap64 (x1 + x8)))) 128) (wrap64 (7 * x8)))) 2), wrap64 ((wrap64 (x1 + x8)) + 1), true))))) else ((spec_PutNum.f k (wrap64 (Int.tdiv (Go.bits .or .i64 x7 (shl .i64 (Int.tmod (wrap64 (rd x0 (wrap64 (x1 + x8)))) 128) (wrap64 (7 * x8)))) 2))).bind fun t131 => (if (t131.length : Int) = 0 then (some (0, 0, false)) else (some (wrap64 (Int.tdiv (Go.bits .or .i64 x7 (shl .i64 (Int.tmod (wrap64 (rd x0 (wrap64 (x1 + x8)))) 128) (wrap64 (7 * x8)))) 2), wrap64 ((wrap64 (x1 + x8)) + 1), true))))))) else (none)) else (none)) else (none)) else (some (0, 0, false))
end
def spec_GetNum.f (k : Nat) (l0 : List Int) (a1 : Int) : Option (Int × Int × Bool) := if a1 < 0 then (spec_GetNum.j0 k l0 a1 true) else (spec_GetNum.j0 k l0 a1 (decide (a1 ≥ (l0.length : Int))))
theorem spec_GetNum.mono_l : ∀ k, (∀ y0 y1 y2, LeO (spec_GetNum.j0 k y0 y1 y2) (spec_GetNum.j0 (k + 1) y0 y1 y2)) ∧ (∀ y0 y1 y2 y3, LeO (spec_GetNum.l0 k y0 y1 y2 y3) (spec_GetNum.l0 (k + 1) y0 y1 y2 y3)) ∧ (∀ y0 y1 y2 y3 y4, LeO (spec_GetNum.j2 k y0 y1 y2 y3 y4) (spec_GetNum.j2 (k + 1) y0 y1 y2 y3 y4))
 | 0 => ⟨fun _ _ _ r h => by simp [spec_GetNum.j0] at h, fun _ _ _ _ r h => by simp [spec_GetNum.l0] at h, fun _ _ _ _ _ r h => by simp [spec_GetNum.j2] at h⟩
 | k + 1 => by
  obtain ⟨ih0, ih1, ih2⟩ := spec_GetNum.mono_l k
  refine ⟨?_, ?_, ?_⟩
  ·intro y0 y1 y2
   unfold spec_GetNum.j0
   have m0 := @spec_PutNum.mono
   exact zm_
  ·intro y0 y1 y2 y3
   unfold spec_GetNum.l0
   have m0 := @spec_PutNum.mono
   exact zm_
  ·intro y0 y1 y2 y3 y4
   unfold spec_GetNum.j2
   have m0 := @spec_PutNum.mono
   exact zm_
theorem spec_GetNum.mono : ∀ a0 a1 k, LeO (spec_GetNum.f k a0 a1) (spec_GetNum.f (k + 1) a0 a1) := by
 intro a0 a1 k
 obtain ⟨ih0, ih1, ih2⟩ := spec_GetNum.mono_l k
 unfold spec_GetNum.f
 have m0 := @spec_PutNum.mono
 exact zm_
set_option maxHeartbeats 8000000 in
set_option maxRecDepth 100000 in
theorem spec_GetNum.calls (k : Nat) (A0 : Option Addr) (c0 : Nat) (l0 : List Int) (a1 : Int) (r1 : Int) (r2 : Int) (r3 : Bool) (w : World) (hr0 : Kd.C (Kd.int .u8) w A0 l0.length l0) (hc0 : l0.length ≤ c0) (h : spec_GetNum.f k l0 a1 = some (r1, r2, r3)) :
  Calls Try.prog 32 #[.slice A0 l0.length c0, .int .i64 a1] w fun e w' => e = .returned (.tuple #[.int .i64 r1, .int .i64 r2, .bool r3]) ∧ Below w.heap.size w w' := by
 have HR0 := q_ hr0
 have HC0 := q_ hc0
 clear hr0 hc0
 have HB := q_ (Below.refl w.heap.size w)
 have H := h; clear h
 unfold spec_GetNum.f at H
 have HC3 := q_ H
 clear H
 go_enter Try.func32, Try.ntmps32
 go_upto_region 1 with (fail)
 go_cut [18] (fun v18 wc => ∃ (kq : Nat) (x18_2 : Bool), v18 = .bool x18_2 ∧ Aside0 (spec_GetNum.j0 kq l0 a1 x18_2 = some (r1, r2, r3)) ∧ Aside0 (kq ≤ k) ∧ Aside0 (Below w.heap.size w wc))
 case first =>
  have H := HC3.out
  clear HC3
  replace H := kd_ H; rcases H with ⟨c4b0, H⟩ | ⟨c4b0, H⟩
  ·(first | rw [c4b0] | rw [c4b1] | (simp only [i64_w, i32_w]; first | rw [c4b0] | rw [c4b1]) | rw [c4b2] | skip)
   have H' := q_ H
   clear H
   go_wp2
   go_meet
   case rel => exact ⟨_, (true), z10_, H', ⟨z24_⟩, ⟨cb_⟩⟩
  ·(first | rw [c4b0] | rw [c4b1] | (simp only [i64_w, i32_w]; first | rw [c4b0] | rw [c4b1]) | rw [c4b2] | skip)
   have H' := q_ H
   clear H
   go_wp2
   go_meet
   case rel => exact ⟨_, (decide (a1 ≥ (l0.length : Int))), z10_, H', ⟨z24_⟩, ⟨cb_⟩⟩
 case rest =>
  clear HC3
  try clear p2
  try clear c3
  try clear c4
  try clear c4b0
  try clear c4b1
  try clear c4b2
  obtain ⟨kq, x18_2, rfl, HA, HJ2, HB⟩ := hcut
  obtain ⟨kj2, rfl, H⟩ := rn_ (k := kq) HA (by rintro rfl; simp only [spec_GetNum.j0])
  clear HA
  simp only [spec_GetNum.j0] at H
  replace H := kb_ H; rcases H with ⟨rfl, H⟩ | ⟨rfl, H⟩
  ·simp only [Option.some.injEq, Prod.mk.injEq] at H
   obtain ⟨rfl, rfl, rfl⟩ := H
   go_wp2
   go_ret3
   exact ⟨z4_, cb_⟩
  ·have H' := q_ H
   clear H
   go_wp2
   go_loopg [7, 8] kj2 (fun kq v7 v8 w' => ∃ (x7_2 : Int) (x8_2 : Int), v7 = .int .i64 x7_2 ∧ v8 = .int .i64 x8_2 ∧ Aside0 (spec_GetNum.l0 kq l0 a1 x7_2 x8_2 = some (r1, r2, r3)) ∧ Aside0 (kq ≤ kj2) ∧ Aside0 (Below w.heap.size w w'))
   case atStart => exact ⟨(0), (0), z10_, z10_, H', ⟨Nat.le_refl _⟩, ⟨cb_⟩⟩
   case round =>
    clear H'
    try clear p2
    try clear c3
    try clear c4
    try clear c4b0
    try clear c4b1
    try clear c4b2
    try clear c5
    try clear p2
    obtain ⟨x7_2, x8_2, rfl, rfl, HA, HK2, HB⟩ := hrel
    obtain ⟨k2, rfl, H⟩ := rn_ (k := gk) HA (by rintro rfl; simp only [spec_GetNum.l0])
    clear HA
    simp only [spec_GetNum.l0] at H
    have HC6 := q_ H
    clear H
    go_upto_region 5 with (fail)
    go_cut [28] (fun v28 wc => ∃ (kq : Nat) (x28_5 : Bool), v28 = .bool x28_5 ∧ Aside0 (spec_GetNum.j2 kq l0 a1 x7_2 x8_2 x28_5 = some (r1, r2, r3)) ∧ Aside0 (kq ≤ k2) ∧ Aside0 (Below w.heap.size w wc))
    case first =>
     have H := HC6.out
     clear HC6
     replace H := kd_ H; rcases H with ⟨c7b0, H⟩ | ⟨c7b0, H⟩
     ·(first | rw [c7b0] | rw [c7b1] | (simp only [i64_w, i32_w]; first | rw [c7b0] | rw [c7b1]) | rw [c7b2] | skip)
      have H' := q_ H
      clear H
      go_wp2
      go_meet
      case rel => exact ⟨_, (decide ((wrap64 (a1 + x8_2)) < (l0.length : Int))), z10_, H', ⟨z36_⟩, ⟨cb_⟩⟩
     ·(first | rw [c7b0] | rw [c7b1] | (simp only [i64_w, i32_w]; first | rw [c7b0] | rw [c7b1]) | rw [c7b2] | skip)
      have H' := q_ H
      clear H
      go_wp2
      go_meet
      case rel => exact ⟨_, (false), z10_, H', ⟨z36_⟩, ⟨cb_⟩⟩
    case rest =>
     clear HC6
     try clear p2
     try clear c3
     try clear c4
     try clear c4b0
     try clear c4b1
     try clear c4b2
     try clear c5
     try clear p6
     try clear c7
     try clear c7b0
     try clear c7b1
     try clear c7b2
     try clear p2
     obtain ⟨kq, x28_5, rfl, HA, HJ5, HB⟩ := hcut
     obtain ⟨kj5, rfl, H⟩ := rn_ (k := kq) HA (by rintro rfl; simp only [spec_GetNum.j2])
     clear HA
     simp only [spec_GetNum.j2] at H
     replace H := kb_ H; rcases H with ⟨rfl, H⟩ | ⟨rfl, H⟩
     ·obtain ⟨ji9, hji9⟩ : ∃ j_ : Int, (wrap64 (a1 + x8_2)) = j_ := ⟨_, rfl⟩
      replace H : (if 0 ≤ (ji9) then (if (ji9) < (l0.length : Int) then (if 0 ≤ (wrap64 (7 * x8_2)) then (if (wrap64 (rd l0 (ji9))) ≥ 128 then (spec_GetNum.l0 kj5 l0 a1 (Go.bits .or .i64 x7_2 (shl .i64 (Int.tmod (wrap64 (rd l0 (ji9))) 128) (wrap64 (7 * x8_2)))) (wrap64 (x8_2 + 1))) else (if (Int.tmod (Go.bits .or .i64 x7_2 (shl .i64 (Int.tmod (wrap64 (rd l0 (ji9))) 128) (wrap64 (7 * x8_2)))) 2) = 1 then (if (wrap64 (rd l0 (ji9))) = 0 then (if x8_2 > 0 then (some (0, 0, false)) else ((spec_PutNum.f kj5 (wrap64 ((wrap64 (-(wrap64 (Int.tdiv (Go.bits .or .i64 x7_2 (shl .i64 (Int.tmod (wrap64 (rd l0 (ji9))) 128) (wrap64 (7 * x8_2)))) 2)))) - 1))).bind fun t122 => (if (t122.length : Int) = 0 then (some (0, 0, false)) else (some (wrap64 ((wrap64 (-(wrap64 (Int.tdiv (Go.bits .or .i64 x7_2 (shl .i64 (Int.tmod (wrap64 (rd l0 (ji9))) 128) (wrap64 (7 * x8_2)))) 2)))) - 1), wrap64 ((ji9) + 1), true))))) else ((spec_PutNum.f kj5 (wrap64 ((wrap64 (-(wrap64 (Int.tdiv (Go.bits .or .i64 x7_2 (shl .i64 (Int.tmod (wrap64 (rd l0 (ji9))) 128) (wrap64 (7 * x8_2)))) 2)))) - 1))).bind fun t125 => (if (t125.length : Int) = 0 then (some (0, 0, false)) else (some (wrap64 ((wrap64 (-(wrap64 (Int.tdiv (Go.bits .or .i64 x7_2 (shl .i64 (Int.tmod (wrap64 (rd l0 (ji9))) 128) (wrap64 (7 * x8_2)))) 2)))) - 1), wrap64 ((ji9) + 1), true))))) else (if (wrap64 (rd l0 (ji9))) = 0 then (if x8_2 > 0 then (some (0, 0, false)) else ((spec_PutNum.f kj5 (wrap64 (Int.tdiv (Go.bits .or .i64 x7_2 (shl .i64 (Int.tmod (wrap64 (rd l0 (ji9))) 128) (wrap64 (7 * x8_2)))) 2))).bind fun t128 => (if (t128.length : Int) = 0 then (some (0, 0, false)) else (some (wrap64 (Int.tdiv (Go.bits .or .i64 x7_2 (shl .i64 (Int.tmod (wrap64 (rd l0 (ji9))) 128) (wrap64 (7 * x8_2)))) 2), wrap64 ((ji9) + 1), true))))) else ((spec_PutNum.f kj5 (wrap64 (Int.tdiv (Go.bits .or .i64 x7_2 (shl .i64 (Int.tmod (wrap64 (rd l0 (ji9))) 128) (wrap64 (7 * x8_2)))) 2))).bind fun t131 => (if (t131.length : Int) = 0 then (some (0, 0, false)) else (some (wrap64 (Int.tdiv (Go.bits .or .i64 x7_2 (shl .i64 (Int.tmod (wrap64 (rd l0 (ji9))) 128) (wrap64 (7 * x8_2)))) 2), wrap64 ((ji9) + 1), true))))))) else (none)) else (none)) else (none)) = some (r1, r2, r3) := z35_
      have hji9w : (IntKind.i64.wrap (a1 + x8_2)) = ji9 := (i64_w _).trans hji9
      replace H := kdn_ H; obtain ⟨c10b0, H⟩ := H
      replace H := kdn_ H; obtain ⟨c11b0, H⟩ := H
      obtain ⟨ji12, hji12⟩ : ∃ j_ : Int, (wrap64 (7 * x8_2)) = j_ := ⟨_, rfl⟩
      replace H : (if 0 ≤ (ji12) then (if (wrap64 (rd l0 (ji9))) ≥ 128 then (spec_GetNum.l0 kj5 l0 a1 (Go.bits .or .i64 x7_2 (shl .i64 (Int.tmod (wrap64 (rd l0 (ji9))) 128) (ji12))) (wrap64 (x8_2 + 1))) else (if (Int.tmod (Go.bits .or .i64 x7_2 (shl .i64 (Int.tmod (wrap64 (rd l0 (ji9))) 128) (ji12))) 2) = 1 then (if (wrap64 (rd l0 (ji9))) = 0 then (if x8_2 > 0 then (some (0, 0, false)) else ((spec_PutNum.f kj5 (wrap64 ((wrap64 (-(wrap64 (Int.tdiv (Go.bits .or .i64 x7_2 (shl .i64 (Int.tmod (wrap64 (rd l0 (ji9))) 128) (ji12))) 2)))) - 1))).bind fun t122 => (if (t122.length : Int) = 0 then (some (0, 0, false)) else (some (wrap64 ((wrap64 (-(wrap64 (Int.tdiv (Go.bits .or .i64 x7_2 (shl .i64 (Int.tmod (wrap64 (rd l0 (ji9))) 128) (ji12))) 2)))) - 1), wrap64 ((ji9) + 1), true))))) else ((spec_PutNum.f kj5 (wrap64 ((wrap64 (-(wrap64 (Int.tdiv (Go.bits .or .i64 x7_2 (shl .i64 (Int.tmod (wrap64 (rd l0 (ji9))) 128) (ji12))) 2)))) - 1))).bind fun t125 => (if (t125.length : Int) = 0 then (some (0, 0, false)) else (some (wrap64 ((wrap64 (-(wrap64 (Int.tdiv (Go.bits .or .i64 x7_2 (shl .i64 (Int.tmod (wrap64 (rd l0 (ji9))) 128) (ji12))) 2)))) - 1), wrap64 ((ji9) + 1), true))))) else (if (wrap64 (rd l0 (ji9))) = 0 then (if x8_2 > 0 then (some (0, 0, false)) else ((spec_PutNum.f kj5 (wrap64 (Int.tdiv (Go.bits .or .i64 x7_2 (shl .i64 (Int.tmod (wrap64 (rd l0 (ji9))) 128) (ji12))) 2))).bind fun t128 => (if (t128.length : Int) = 0 then (some (0, 0, false)) else (some (wrap64 (Int.tdiv (Go.bits .or .i64 x7_2 (shl .i64 (Int.tmod (wrap64 (rd l0 (ji9))) 128) (ji12))) 2), wrap64 ((ji9) + 1), true))))) else ((spec_PutNum.f kj5 (wrap64 (Int.tdiv (Go.bits .or .i64 x7_2 (shl .i64 (Int.tmod (wrap64 (rd l0 (ji9))) 128) (ji12))) 2))).bind fun t131 => (if (t131.length : Int) = 0 then (some (0, 0, false)) else (some (wrap64 (Int.tdiv (Go.bits .or .i64 x7_2 (shl .i64 (Int.tmod (wrap64 (rd l0 (ji9))) 128) (ji12))) 2), wrap64 ((ji9) + 1), true))))))) else (none)) = some (r1, r2, r3) := z33_
      have hji12w : (IntKind.i64.wrap (7 * x8_2)) = ji12 := (i64_w _).trans hji12
      replace H := ktn_ H; obtain ⟨c13b0, c13b1, H⟩ := H
      obtain ⟨ji14, hji14⟩ : ∃ j_ : Int, (shl .i64 (Int.tmod (wrap64 (rd l0 (ji9))) 128) (ji12)) = j_ := ⟨_, rfl⟩
      replace H : (if (wrap64 (rd l0 (ji9))) ≥ 128 then (spec_GetNum.l0 kj5 l0 a1 (Go.bits .or .i64 x7_2 (ji14)) (wrap64 (x8_2 + 1))) else (if (Int.tmod (Go.bits .or .i64 x7_2 (ji14)) 2) = 1 then (if (wrap64 (rd l0 (ji9))) = 0 then (if x8_2 > 0 then (some (0, 0, false)) else ((spec_PutNum.f kj5 (wrap64 ((wrap64 (-(wrap64 (Int.tdiv (Go.bits .or .i64 x7_2 (ji14)) 2)))) - 1))).bind fun t122 => (if (t122.length : Int) = 0 then (some (0, 0, false)) else (some (wrap64 ((wrap64 (-(wrap64 (Int.tdiv (Go.bits .or .i64 x7_2 (ji14)) 2)))) - 1), wrap64 ((ji9) + 1), true))))) else ((spec_PutNum.f kj5 (wrap64 ((wrap64 (-(wrap64 (Int.tdiv (Go.bits .or .i64 x7_2 (ji14)) 2)))) - 1))).bind fun t125 => (if (t125.length : Int) = 0 then (some (0, 0, false)) else (some (wrap64 ((wrap64 (-(wrap64 (Int.tdiv (Go.bits .or .i64 x7_2 (ji14)) 2)))) - 1), wrap64 ((ji9) + 1), true))))) else (if (wrap64 (rd l0 (ji9))) = 0 then (if x8_2 > 0 then (some (0, 0, false)) else ((spec_PutNum.f kj5 (wrap64 (Int.tdiv (Go.bits .or .i64 x7_2 (ji14)) 2))).bind fun t128 => (if (t128.length : Int) = 0 then (some (0, 0, false)) else (some (wrap64 (Int.tdiv (Go.bits .or .i64 x7_2 (ji14)) 2), wrap64 ((ji9) + 1), true))))) else ((spec_PutNum.f kj5 (wrap64 (Int.tdiv (Go.bits .or .i64 x7_2 (ji14)) 2))).bind fun t131 => (if (t131.length : Int) = 0 then (some (0, 0, false)) else (some (wrap64 (Int.tdiv (Go.bits .or .i64 x7_2 (ji14)) 2), wrap64 ((ji9) + 1), true))))))) = some (r1, r2, r3) := z34_
      have hji14_ : (IntKind.i64.wrap ((Int.tmod (wrap64 (rd l0 (ji9))) 128) * 2 ^ min (ji12).toNat 64)) = ji14 := hji14
      have hji14z : (ji12) ≤ 64 → (IntKind.i64.wrap ((Int.tmod (wrap64 (rd l0 (ji9))) 128) * 2 ^ (ji12).toNat)) = ji14 := shl_small hji14
      have hji14y : (wrap64 ((Int.tmod (wrap64 (rd l0 (ji9))) 128) * 2 ^ min (ji12).toNat 64)) = ji14 := (i64_w _).symm.trans hji14_
      have hji14x : (ji12) ≤ 64 → (wrap64 ((Int.tmod (wrap64 (rd l0 (ji9))) 128) * 2 ^ (ji12).toNat)) = ji14 := fun h_ => (i64_w _).symm.trans (hji14z h_)
      by_cases c15 : (wrap64 (rd l0 (ji9))) ≥ 128
      ·rw [if_pos c15] at H
       have c15b0 : decide (128 ≤ (wrap64 (rd l0 (ji9)))) = true := decide_eq_true c15
       clear c15
       have H' := q_ H
       clear H
       have p121 : 0 ≤ ((ji9) : Int) := of_decide_eq_true z5_
       have q121 : (ji9) < (l0.length : Int) := of_decide_eq_true z5_
       obtain ⟨ad121, e121, hx121_0⟩ := Kd.at_int HR0.out (ji9) p121 q121
       cases e121
       replace hx121_0 := up_ HB hx121_0
       replace p121 := eq_true p121
       replace q121 := eq_true q121
       go_wp2
       go_roundg kj5
       case measure => have := HJ2.out; have := HK2.out; have := HJ5.out; omega
       case rel => exact ⟨(Go.bits .or .i64 x7_2 (ji14)), (wrap64 (x8_2 + 1)), z32_, z10_, H', ⟨by have := HJ2.out; have := HK2.out; have := HJ5.out; omega⟩, ⟨cb_⟩⟩
      ·rw [if_neg c15] at H
       have c15b0 : decide (128 ≤ (wrap64 (rd l0 (ji9)))) = false := decide_eq_false c15
       clear c15
       replace H := ke_ H; rcases H with ⟨c16b0, c16b1, H⟩ | ⟨c16, c16b0, c16b1, H⟩
       ·replace H := ke_ H; rcases H with ⟨c17b0, c17b1, H⟩ | ⟨c17, c17b0, c17b1, H⟩
        ·replace H := kg_ H; rcases H with ⟨c18b0, H⟩ | ⟨c18b0, H⟩
         ·simp only [Option.some.injEq, Prod.mk.injEq] at H
          obtain ⟨rfl, rfl, rfl⟩ := H
          have p121 : 0 ≤ ((ji9) : Int) := of_decide_eq_true z5_
          have q121 : (ji9) < (l0.length : Int) := of_decide_eq_true z5_
          obtain ⟨ad121, e121, hx121_0⟩ := Kd.at_int HR0.out (ji9) p121 q121
          cases e121
          replace hx121_0 := up_ HB hx121_0
          replace p121 := eq_true p121
          replace q121 := eq_true q121
          go_wp2
          go_ret3
          exact ⟨z6_, cb_⟩
         ·replace H := bi_ H; obtain ⟨t122, A19, H⟩ := H
          have HC20 := q_ H
          clear H
          have p121 : 0 ≤ ((ji9) : Int) := of_decide_eq_true z5_
          have q121 : (ji9) < (l0.length : Int) := of_decide_eq_true z5_
          obtain ⟨ad121, e121, hx121_0⟩ := Kd.at_int HR0.out (ji9) p121 q121
          cases e121
          replace hx121_0 := up_ HB hx121_0
          replace p121 := eq_true p121
          replace q121 := eq_true q121
          go_upto_if 67 with (first | (go_at_call 20; (with_reducible refine (spec_PutNum.calls kj5 (wrap64 ((wrap64 (-(wrap64 (Int.tdiv (Go.bits .or .i64 x7_2 (ji14)) 2)))) - 1)) t122 _ A19.out).mono ?_); rintro e w21 ⟨v123, rfl, ho0, hb⟩; have HO124 := q_ (Kd.R_lower ho0 (below_size cb_)); replace HB := hb_ hb; (try clear hb); (try clear hb2); (try clear hk); (try clear hi); (try clear ho0); obtain ⟨Ao22, co22, eo22⟩ := Kd.R_slice HO124.out; subst eo22))
          (try simp only [Act.put, List.setIfInBounds_toArray, List.set_cons_zero, List.set_cons_succ])
          have H := HC20.out
          clear HC20
          by_cases c23 : (t122.length : Int) = 0
          ·rw [if_pos c23] at H
           have c23b0 : ((t122.length : Int) == 0) = true := beq_iff_eq.mpr c23
           have c23b1 : ((t122.length : Int) != 0) = false := bne_eq_false_iff_eq.mpr c23
           clear c23
           (first | rw [c23b0] | rw [c23b1] | (simp only [i64_w, i32_w]; first | rw [c23b0] | rw [c23b1]) | rw [c23b2] | skip)
           simp only [Option.some.injEq, Prod.mk.injEq] at H
           obtain ⟨rfl, rfl, rfl⟩ := H
           go_wp2
           go_ret3
           exact ⟨z6_, cb_⟩
          ·rw [if_neg c23] at H
           have c23b0 : ((t122.length : Int) == 0) = false := beq_eq_false_iff_ne.mpr c23
           have c23b1 : ((t122.length : Int) != 0) = true := bne_iff_ne.mpr c23
           have c23b2 : ¬ (t122 = []) := fun h_ => c23 (by rw [h_]; rfl)
           (first | rw [c23b0] | rw [c23b1] | (simp only [i64_w, i32_w]; first | rw [c23b0] | rw [c23b1]) | rw [c23b2] | skip)
           simp only [Option.some.injEq, Prod.mk.injEq] at H
           obtain ⟨rfl, rfl, rfl⟩ := H
           go_wp2
           go_ret3
           exact ⟨z6_, cb_⟩
        ·replace H := bi_ H; obtain ⟨t125, A24, H⟩ := H
         have HC25 := q_ H
         clear H
         have p121 : 0 ≤ ((ji9) : Int) := of_decide_eq_true z5_
         have q121 : (ji9) < (l0.length : Int) := of_decide_eq_true z5_
         obtain ⟨ad121, e121, hx121_0⟩ := Kd.at_int HR0.out (ji9) p121 q121
         cases e121
         replace hx121_0 := up_ HB hx121_0
         replace p121 := eq_true p121
         replace q121 := eq_true q121
         go_upto_if 67 with (first | (go_at_call 20; (with_reducible refine (spec_PutNum.calls kj5 (wrap64 ((wrap64 (-(wrap64 (Int.tdiv (Go.bits .or .i64 x7_2 (ji14)) 2)))) - 1)) t125 _ A24.out).mono ?_); rintro e w26 ⟨v126, rfl, ho0, hb⟩; have HO127 := q_ (Kd.R_lower ho0 (below_size cb_)); replace HB := hb_ hb; (try clear hb); (try clear hb2); (try clear hk); (try clear hi); (try clear ho0); obtain ⟨Ao27, co27, eo27⟩ := Kd.R_slice HO127.out; subst eo27))
         (try simp only [Act.put, List.setIfInBounds_toArray, List.set_cons_zero, List.set_cons_succ])
         have H := HC25.out
         clear HC25
         by_cases c28 : (t125.length : Int) = 0
         ·rw [if_pos c28] at H
          have c28b0 : ((t125.length : Int) == 0) = true := beq_iff_eq.mpr c28
          have c28b1 : ((t125.length : Int) != 0) = false := bne_eq_false_iff_eq.mpr c28
          clear c28
          (first | rw [c28b0] | rw [c28b1] | (simp only [i64_w, i32_w]; first | rw [c28b0] | rw [c28b1]) | rw [c28b2] | skip)
          simp only [Option.some.injEq, Prod.mk.injEq] at H
          obtain ⟨rfl, rfl, rfl⟩ := H
          go_wp2
          go_ret3
          exact ⟨z6_, cb_⟩
         ·rw [if_neg c28] at H
          have c28b0 : ((t125.length : Int) == 0) = false := beq_eq_false_iff_ne.mpr c28
          have c28b1 : ((t125.length : Int) != 0) = true := bne_iff_ne.mpr c28
          have c28b2 : ¬ (t125 = []) := fun h_ => c28 (by rw [h_]; rfl)
          (first | rw [c28b0] | rw [c28b1] | (simp only [i64_w, i32_w]; first | rw [c28b0] | rw [c28b1]) | rw [c28b2] | skip)
          simp only [Option.some.injEq, Prod.mk.injEq] at H
          obtain ⟨rfl, rfl, rfl⟩ := H
          go_wp2
          go_ret3
          exact ⟨z6_, cb_⟩
       ·replace H := ke_ H; rcases H with ⟨c29b0, c29b1, H⟩ | ⟨c29, c29b0, c29b1, H⟩
        ·replace H := kg_ H; rcases H with ⟨c30b0, H⟩ | ⟨c30b0, H⟩
         ·simp only [Option.some.injEq, Prod.mk.injEq] at H
          obtain ⟨rfl, rfl, rfl⟩ := H
          have p121 : 0 ≤ ((ji9) : Int) := of_decide_eq_true z5_
          have q121 : (ji9) < (l0.length : Int) := of_decide_eq_true z5_
          obtain ⟨ad121, e121, hx121_0⟩ := Kd.at_int HR0.out (ji9) p121 q121
          cases e121
          replace hx121_0 := up_ HB hx121_0
          replace p121 := eq_true p121
          replace q121 := eq_true q121
          go_wp2
          go_ret3
          exact ⟨z6_, cb_⟩
         ·replace H := bi_ H; obtain ⟨t128, A31, H⟩ := H
          have HC32 := q_ H
          clear H
          have p121 : 0 ≤ ((ji9) : Int) := of_decide_eq_true z5_
          have q121 : (ji9) < (l0.length : Int) := of_decide_eq_true z5_
          obtain ⟨ad121, e121, hx121_0⟩ := Kd.at_int HR0.out (ji9) p121 q121
          cases e121
          replace hx121_0 := up_ HB hx121_0
          replace p121 := eq_true p121
          replace q121 := eq_true q121
          go_upto_if 67 with (first | (go_at_call 20; (with_reducible refine (spec_PutNum.calls kj5 (wrap64 (Int.tdiv (Go.bits .or .i64 x7_2 (ji14)) 2)) t128 _ A31.out).mono ?_); rintro e w33 ⟨v129, rfl, ho0, hb⟩; have HO130 := q_ (Kd.R_lower ho0 (below_size cb_)); replace HB := hb_ hb; (try clear hb); (try clear hb2); (try clear hk); (try clear hi); (try clear ho0); obtain ⟨Ao34, co34, eo34⟩ := Kd.R_slice HO130.out; subst eo34))
          (try simp only [Act.put, List.setIfInBounds_toArray, List.set_cons_zero, List.set_cons_succ])
          have H := HC32.out
          clear HC32
          by_cases c35 : (t128.length : Int) = 0
          ·rw [if_pos c35] at H
           have c35b0 : ((t128.length : Int) == 0) = true := beq_iff_eq.mpr c35
           have c35b1 : ((t128.length : Int) != 0) = false := bne_eq_false_iff_eq.mpr c35
           clear c35
           (first | rw [c35b0] | rw [c35b1] | (simp only [i64_w, i32_w]; first | rw [c35b0] | rw [c35b1]) | rw [c35b2] | skip)
           simp only [Option.some.injEq, Prod.mk.injEq] at H
           obtain ⟨rfl, rfl, rfl⟩ := H
           go_wp2
           go_ret3
           exact ⟨z6_, cb_⟩
          ·rw [if_neg c35] at H
           have c35b0 : ((t128.length : Int) == 0) = false := beq_eq_false_iff_ne.mpr c35
           have c35b1 : ((t128.length : Int) != 0) = true := bne_iff_ne.mpr c35
           have c35b2 : ¬ (t128 = []) := fun h_ => c35 (by rw [h_]; rfl)
           (first | rw [c35b0] | rw [c35b1] | (simp only [i64_w, i32_w]; first | rw [c35b0] | rw [c35b1]) | rw [c35b2] | skip)
           simp only [Option.some.injEq, Prod.mk.injEq] at H
           obtain ⟨rfl, rfl, rfl⟩ := H
           go_wp2
           go_ret3
           exact ⟨z6_, cb_⟩
        ·replace H := bi_ H; obtain ⟨t131, A36, H⟩ := H
         have HC37 := q_ H
         clear H
         have p121 : 0 ≤ ((ji9) : Int) := of_decide_eq_true z5_
         have q121 : (ji9) < (l0.length : Int) := of_decide_eq_true z5_
         obtain ⟨ad121, e121, hx121_0⟩ := Kd.at_int HR0.out (ji9) p121 q121
         cases e121
         replace hx121_0 := up_ HB hx121_0
         replace p121 := eq_true p121
         replace q121 := eq_true q121
         go_upto_if 67 with (first | (go_at_call 20; (with_reducible refine (spec_PutNum.calls kj5 (wrap64 (Int.tdiv (Go.bits .or .i64 x7_2 (ji14)) 2)) t131 _ A36.out).mono ?_); rintro e w38 ⟨v132, rfl, ho0, hb⟩; have HO133 := q_ (Kd.R_lower ho0 (below_size cb_)); replace HB := hb_ hb; (try clear hb); (try clear hb2); (try clear hk); (try clear hi); (try clear ho0); obtain ⟨Ao39, co39, eo39⟩ := Kd.R_slice HO133.out; subst eo39))
         (try simp only [Act.put, List.setIfInBounds_toArray, List.set_cons_zero, List.set_cons_succ])
         have H := HC37.out
         clear HC37
         by_cases c40 : (t131.length : Int) = 0
         ·rw [if_pos c40] at H
          have c40b0 : ((t131.length : Int) == 0) = true := beq_iff_eq.mpr c40
          have c40b1 : ((t131.length : Int) != 0) = false := bne_eq_false_iff_eq.mpr c40
          clear c40
          (first | rw [c40b0] | rw [c40b1] | (simp only [i64_w, i32_w]; first | rw [c40b0] | rw [c40b1]) | rw [c40b2] | skip)
          simp only [Option.some.injEq, Prod.mk.injEq] at H
          obtain ⟨rfl, rfl, rfl⟩ := H
          go_wp2
          go_ret3
          exact ⟨z6_, cb_⟩
         ·rw [if_neg c40] at H
          have c40b0 : ((t131.length : Int) == 0) = false := beq_eq_false_iff_ne.mpr c40
          have c40b1 : ((t131.length : Int) != 0) = true := bne_iff_ne.mpr c40
          have c40b2 : ¬ (t131 = []) := fun h_ => c40 (by rw [h_]; rfl)
          (first | rw [c40b0] | rw [c40b1] | (simp only [i64_w, i32_w]; first | rw [c40b0] | rw [c40b1]) | rw [c40b2] | skip)
          simp only [Option.some.injEq, Prod.mk.injEq] at H
          obtain ⟨rfl, rfl, rfl⟩ := H
          go_wp2
          go_ret3
          exact ⟨z6_, cb_⟩
     ·simp only [Option.some.injEq, Prod.mk.injEq] at H
      obtain ⟨rfl, rfl, rfl⟩ := H
      go_wp2
      go_ret3
      exact ⟨z4_, cb_⟩

end Go.Proofs.Ytomeiaphaimjoaa.PFnNumBytes
