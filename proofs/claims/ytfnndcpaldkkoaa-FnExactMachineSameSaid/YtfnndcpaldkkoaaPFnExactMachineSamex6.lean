-- Written by a program of this session, which goes by the kit's print. Not trusted: Lean checks it.
import Derived.Test.YtfnndcpaldkkoaaPFnExactMachineSamex0
import Derived.Test.YtfnndcpaldkkoaaPFnExactMachineSamex3
import Derived.Test.YtfnndcpaldkkoaaPFnExactMachineSamex5
namespace Go.Proofs.Ytfnndcpaldkkoaa.PFnExactMachineSame
open Go.RowKit Go.Proofs.YtfnndcpaldkkoaaW.PrintWords Go.Proofs.YtfnndcpaldkkoaaW.PrintLast Go.Proofs.YtfnndcpaldkkoaaW.PrintMore
attribute [local go_sem] max2_int min2_int max_two min_two max_three min_three max_four min_four   -- for this text's walks alone
set_option linter.unusedVariables false
set_option linter.unusedSimpArgs false

/-! ### spec_l2Depth: function 59 -/
mutual
def spec_l2Depth.j0 : Nat → Int → Int → Int → Int → Bool → Bool → List (S92) → List Int → List (S34) → List (S72) → Option (Int)
 | 0, _, _, _, _, _, _, _, _, _, _ => none
 | k + 1, x1, x2, x3, x9, x49, x127000, x127001, x127002, x127003, x127004 => if x49 = true then (some 0) else (spec_l2Depth.l0 k x1 x2 x3 x9 0 x127000 x127001 x127002 x127003 x127004)
def spec_l2Depth.l0 : Nat → Int → Int → Int → Int → Int → Bool → List (S92) → List Int → List (S34) → List (S72) → Option (Int)
 | 0, _, _, _, _, _, _, _, _, _, _ => none
 | k + 1, x1, x2, x3, x9, x10, x127000, x127001, x127002, x127003, x127004 => if x10 < (x127004.length : Int) then (if 0 ≤ x10 then ((spec_MsgOk.f ((rd_T72 x127004 x10).f0) ((rd_T72 x127004 x10).f1) ((rd_T72 x127004 x10).f2)).bind fun t130 => (if t130 = true then (if ((rd_T72 x127004 x10).f0) = 4 then (some 0) else ((spec_l1In.f ((rd_T72 x127004 x10).f1) x1 (wrap64 (x2 - 1))).bind fun t133 => (if t133 = true then (spec_l2Depth.l0 k x1 x2 x3 x9 (wrap64 (x10 + 1)) x127000 x127001 x127002 x127003 x127004) else (some 0)))) else (some 0))) else (none)) else (spec_l2Depth.l1 k x2 x3 x9 0 x1 0 x127000 x127001 x127002 x127003 x127004)
def spec_l2Depth.l1 : Nat → Int → Int → Int → Int → Int → Int → Bool → List (S92) → List Int → List (S34) → List (S72) → Option (Int)
 | 0, _, _, _, _, _, _, _, _, _, _, _ => none
 | k + 1, x2, x3, x9, x11, x12, x13, x127000, x127001, x127002, x127003, x127004 => if x13 < x9 then (if x13 < (wrap64 (x9 - 1)) then (if 0 ≤ x13 then (if x13 < (x127002.length : Int) then ((spec_l1In.f (rd x127002 x13) (wrap64 (x12 + 1)) (wrap64 (x2 - 1))).bind fun t135 => (if t135 = true then (if x13 < (x127003.length : Int) then ((spec_l2Depth.f k ((rd_T34 x127003 x13).f0) ((rd_T34 x127003 x13).f1) ((rd_T34 x127003 x13).f2) ((rd_T34 x127003 x13).f3) ((rd_T34 x127003 x13).f4) x12 (rd x127002 x13) (wrap64 (x3 - 1))).bind fun t137 => (if t137 = 0 then (some 0) else (if x13 > 0 then (if t137 = x11 then (spec_l2Depth.l1 k x2 x3 x9 t137 (rd x127002 x13) (wrap64 (x13 + 1)) x127000 x127001 x127002 x127003 x127004) else (some 0)) else (spec_l2Depth.l1 k x2 x3 x9 t137 (rd x127002 x13) (wrap64 (x13 + 1)) x127000 x127001 x127002 x127003 x127004)))) else (none)) else (some 0))) else (none)) else (none)) else (if 0 ≤ x13 then (if x13 < (x127003.length : Int) then ((spec_l2Depth.f k ((rd_T34 x127003 x13).f0) ((rd_T34 x127003 x13).f1) ((rd_T34 x127003 x13).f2) ((rd_T34 x127003 x13).f3) ((rd_T34 x127003 x13).f4) x12 x2 (wrap64 (x3 - 1))).bind fun t139 => (if t139 = 0 then (some 0) else (if x13 > 0 then (if t139 = x11 then (spec_l2Depth.l1 k x2 x3 x9 t139 x2 (wrap64 (x13 + 1)) x127000 x127001 x127002 x127003 x127004) else (some 0)) else (spec_l2Depth.l1 k x2 x3 x9 t139 x2 (wrap64 (x13 + 1)) x127000 x127001 x127002 x127003 x127004)))) else (none)) else (none))) else (some (wrap64 (x11 + 1)))
def spec_l2Depth.f : Nat → Bool → List (S92) → List Int → List (S34) → List (S72) → Int → Int → Int → Option (Int)
 | 0, _, _, _, _, _, _, _, _ => none
 | k + 1, a0_0, l0_1, l0_2, l0_3, l0_4, a1, a2, a3 => if a3 = 0 then (some 0) else (if a0_0 = true then ((spec_l2Leaf.f k a0_0 l0_1 l0_2 l0_3 l0_4 a1 a2).bind fun t127 => (some t127)) else (if (l0_1.length : Int) > 0 then (spec_l2Depth.j0 k a1 a2 a3 (l0_3.length : Int) true a0_0 l0_1 l0_2 l0_3 l0_4) else ((spec_l1In.f (l0_3.length : Int) 2 4).bind fun t128 => (if t128 = true then (if (l0_2.length : Int) = (wrap64 ((l0_3.length : Int) - 1)) then (spec_l2Depth.j0 k a1 a2 a3 (l0_3.length : Int) (decide ((l0_4.length : Int) > 6)) a0_0 l0_1 l0_2 l0_3 l0_4) else (spec_l2Depth.j0 k a1 a2 a3 (l0_3.length : Int) true a0_0 l0_1 l0_2 l0_3 l0_4)) else (spec_l2Depth.j0 k a1 a2 a3 (l0_3.length : Int) true a0_0 l0_1 l0_2 l0_3 l0_4)))))
end
theorem spec_l2Depth.mono_l : ∀ k, (∀ y0 y1 y2 y3 y4 y5 y6 y7, LeO (spec_l2Depth.f k y0 y1 y2 y3 y4 y5 y6 y7) (spec_l2Depth.f (k + 1) y0 y1 y2 y3 y4 y5 y6 y7)) ∧ (∀ y0 y1 y2 y3 y4 y5 y6 y7 y8 y9, LeO (spec_l2Depth.j0 k y0 y1 y2 y3 y4 y5 y6 y7 y8 y9) (spec_l2Depth.j0 (k + 1) y0 y1 y2 y3 y4 y5 y6 y7 y8 y9)) ∧ (∀ y0 y1 y2 y3 y4 y5 y6 y7 y8 y9, LeO (spec_l2Depth.l0 k y0 y1 y2 y3 y4 y5 y6 y7 y8 y9) (spec_l2Depth.l0 (k + 1) y0 y1 y2 y3 y4 y5 y6 y7 y8 y9)) ∧ (∀ y0 y1 y2 y3 y4 y5 y6 y7 y8 y9 y10, LeO (spec_l2Depth.l1 k y0 y1 y2 y3 y4 y5 y6 y7 y8 y9 y10) (spec_l2Depth.l1 (k + 1) y0 y1 y2 y3 y4 y5 y6 y7 y8 y9 y10))
 | 0 => ⟨fun _ _ _ _ _ _ _ _ r h => by simp [spec_l2Depth.f] at h, fun _ _ _ _ _ _ _ _ _ _ r h => by simp [spec_l2Depth.j0] at h, fun _ _ _ _ _ _ _ _ _ _ r h => by simp [spec_l2Depth.l0] at h, fun _ _ _ _ _ _ _ _ _ _ _ r h => by simp [spec_l2Depth.l1] at h⟩
 | k + 1 => by
  obtain ⟨ih0, ih1, ih2, ih3⟩ := spec_l2Depth.mono_l k
  refine ⟨?_, ?_, ?_, ?_⟩
  ·intro y0 y1 y2 y3 y4 y5 y6 y7
   unfold spec_l2Depth.f
   have m0 := @spec_l2Leaf.mono
   exact zm_
  ·intro y0 y1 y2 y3 y4 y5 y6 y7 y8 y9
   unfold spec_l2Depth.j0
   have m0 := @spec_l2Leaf.mono
   exact zm_
  ·intro y0 y1 y2 y3 y4 y5 y6 y7 y8 y9
   unfold spec_l2Depth.l0
   have m0 := @spec_l2Leaf.mono
   exact zm_
  ·intro y0 y1 y2 y3 y4 y5 y6 y7 y8 y9 y10
   unfold spec_l2Depth.l1
   have m0 := @spec_l2Leaf.mono
   exact zm_
theorem spec_l2Depth.mono : ∀ a0 a1 a2 a3 a4 a5 a6 a7 k, LeO (spec_l2Depth.f k a0 a1 a2 a3 a4 a5 a6 a7) (spec_l2Depth.f (k + 1) a0 a1 a2 a3 a4 a5 a6 a7) := by
 intro a0 a1 a2 a3 a4 a5 a6 a7 k
 obtain ⟨ih0, ih1, ih2, ih3⟩ := spec_l2Depth.mono_l k
 exact ih0 a0 a1 a2 a3 a4 a5 a6 a7
set_option maxHeartbeats 8000000 in
set_option maxRecDepth 100000 in
theorem spec_l2Depth.calls (k : Nat) : ∀ (a0_0 : Bool) (A0_1 : Option Addr) (c0_1 : Nat) (l0_1 : List (S92)) (A0_2 : Option Addr) (c0_2 : Nat) (l0_2 : List Int) (A0_3 : Option Addr) (c0_3 : Nat) (l0_3 : List (S34)) (A0_4 : Option Addr) (c0_4 : Nat) (l0_4 : List (S72)) (a1 : Int) (a2 : Int) (a3 : Int) (r : Int) (w : World) (hr0_1 : Kd.C k92 w A0_1 l0_1.length l0_1) (hc0_1 : l0_1.length ≤ c0_1) (hr0_2 : Kd.C (Kd.int .i64) w A0_2 l0_2.length l0_2) (hc0_2 : l0_2.length ≤ c0_2) (hr0_3 : Kd.C k34 w A0_3 l0_3.length l0_3) (hc0_3 : l0_3.length ≤ c0_3) (hr0_4 : Kd.C k72 w A0_4 l0_4.length l0_4) (hc0_4 : l0_4.length ≤ c0_4) (h : spec_l2Depth.f k a0_0 l0_1 l0_2 l0_3 l0_4 a1 a2 a3 = some r),
  Calls Try.prog 59 #[.agg #[.bool a0_0, .slice A0_1 l0_1.length c0_1, .slice A0_2 l0_2.length c0_2, .slice A0_3 l0_3.length c0_3, .slice A0_4 l0_4.length c0_4], .int .i64 a1, .int .i64 a2, .int .i64 a3] w fun e w' => e = .returned (.int .i64 r) ∧ Below w.heap.size w w' := by
 induction k using Nat.strongRecOn with
 | _ k ih =>
 intro a0_0 A0_1 c0_1 l0_1 A0_2 c0_2 l0_2 A0_3 c0_3 l0_3 A0_4 c0_4 l0_4 a1 a2 a3 r w hr0_1 hc0_1 hr0_2 hc0_2 hr0_3 hc0_3 hr0_4 hc0_4 h
 cases k with
 | zero => exact absurd h (by simp [spec_l2Depth.f])
 | succ k =>
 simp only [spec_l2Depth.f] at h
 have hu34 := Try.underlying34
 have hu72 := Try.underlying72
 have HR0_1 := q_ hr0_1
 have HC0_1 := q_ hc0_1
 clear hr0_1 hc0_1
 have HR0_2 := q_ hr0_2
 have HC0_2 := q_ hc0_2
 clear hr0_2 hc0_2
 have HR0_3 := q_ hr0_3
 have HC0_3 := q_ hc0_3
 clear hr0_3 hc0_3
 have HR0_4 := q_ hr0_4
 have HC0_4 := q_ hc0_4
 clear hr0_4 hc0_4
 have HB := q_ (Below.refl w.heap.size w)
 have H := h; clear h
 have HC5 := q_ H
 clear H
 go_enter Try.func59, Try.ntmps59
 go_upto_if 17 with (first | ((with_reducible refine gate_dst (N := 4) rfl ?_); (try (refine gate_guard (by rfl) ?_; dsimp only)); refine box_event ?hg (N := 4) ?hd (cs := #[.bool a0_0, .slice A0_1 l0_1.length c0_1, .slice A0_2 l0_2.length c0_2, .slice A0_3 l0_3.length c0_3, .slice A0_4 l0_4.length c0_4]) (t := 34) ?hr ?_; (case hd => rfl); (case hg => rfl); (case hr => exact z92_); intro gb126 hg w6 hbox hb; have BK126 := q_ (hbox); have GW126 := ge_ hg; have GE126 := ge_ hg; replace HB := hb_ hb; clear hb hbox hg))
 (try simp only [Act.put, List.setIfInBounds_toArray, List.set_cons_zero, List.set_cons_succ])
 have H := HC5.out
 clear HC5
 replace H := ke_ H; rcases H with ⟨c7b0, c7b1, H⟩ | ⟨c7, c7b0, c7b1, H⟩
 ·(first | rw [c7b0] | rw [c7b1] | (simp only [i64_w, i32_w]; first | rw [c7b0] | rw [c7b1]) | rw [c7b2] | skip)
  obtain rfl := si_ H
  go_wp2
  go_ret
  exact ⟨z1_, cb_⟩
 ·(first | rw [c7b0] | rw [c7b1] | (simp only [i64_w, i32_w]; first | rw [c7b0] | rw [c7b1]) | rw [c7b2] | skip)
  have HC8 := q_ H
  clear H
  obtain ⟨hz_, hz_, hz_, hz_, hz_, hz_, hz_, hz_, hz_, hz_⟩ := cs5_ BK126.out
  go_upto_if 19 with (fail)
  have H := HC8.out
  clear HC8
  replace H := kb_ H; rcases H with ⟨rfl, H⟩ | ⟨rfl, H⟩
  ·replace H := bi_ H; obtain ⟨t127, A11, H⟩ := H
   obtain rfl := si_ H
   obtain ⟨hz_, hz_, hz_, hz_, hz_, hz_, hz_, hz_, hz_, hz_⟩ := cs5_ BK126.out
   go_wp2_with (first | ((with_reducible refine gate_callee (f := 96) rfl ?_); refine goesL_ (some 23) rfl rfl Try.func96 (by kernel_rfl) rfl #[.agg #[.bool true, .slice A0_1 l0_1.length c0_1, .slice A0_2 l0_2.length c0_2, .slice A0_3 l0_3.length c0_3, .slice A0_4 l0_4.length c0_4], .int .i64 a1, .int .i64 a2] rfl z0_ ?_; (with_reducible refine (spec_l2Leaf.calls k true _ _ l0_1 _ _ l0_2 _ _ l0_3 _ _ l0_4 a1 a2 t127 _ ?side1 ?side2 ?side3 ?side4 ?side5 ?side6 ?side7 ?side8 A11.out).mono ?_); (case side1 => exact z90_); (case side2 => exact z115_); (case side3 => exact z93_); (case side4 => exact z121_); (case side5 => exact z94_); (case side6 => exact z122_); (case side7 => exact z91_); (case side8 => exact z119_); rintro e w13 ⟨rfl, hb⟩; refine ⟨_, rfl, ?_⟩; replace HB := hb_ hb; (try clear hb); (try clear hb2); (try clear hk); (try clear hi)))
   go_ret
   exact ⟨z1_, cb_⟩
  ·have HC14 := q_ H
   clear H
   obtain ⟨hz_, hz_, hz_, hz_, hz_, hz_, hz_, hz_, hz_, hz_⟩ := cs5_ BK126.out
   go_upto_region 6 with (fail)
   go_cut [49] (fun v49 wc => ∃ (kq : Nat) (x49_13 : Bool), v49 = .bool x49_13 ∧ Aside0 (spec_l2Depth.j0 kq a1 a2 a3 (l0_3.length : Int) x49_13 false l0_1 l0_2 l0_3 l0_4 = some r) ∧ Aside0 (kq ≤ k) ∧ Aside0 (wc.heap[gb126]? = some (.cells #[.bool false, (.slice A0_1 l0_1.length c0_1), (.slice A0_2 l0_2.length c0_2), (.slice A0_3 l0_3.length c0_3), (.slice A0_4 l0_4.length c0_4)] 34 (0, 0))) ∧ Aside0 (Below w.heap.size w wc))
   case first =>
    have H := HC14.out
    clear HC14
    replace H := kg_ H; rcases H with ⟨c16b0, H⟩ | ⟨c16b0, H⟩
    ·have c16b1 : decide (0 < l0_1.length) = true := decide_eq_true (by have := of_decide_eq_true c16b0; omega)
     (first | rw [c16b0] | rw [c16b1] | (simp only [i64_w, i32_w]; first | rw [c16b0] | rw [c16b1]) | rw [c16b2] | skip)
     have H' := q_ H
     clear H
     obtain ⟨hz_, hz_, hz_, hz_, hz_, hz_, hz_, hz_, hz_, hz_⟩ := cs5_ BK126.out
     go_wp2
     go_meet
     case rel => exact ⟨_, (true), z4_, H', ⟨z43_⟩, ⟨z20_⟩, ⟨cb_⟩⟩
    ·have c16b1 : decide (0 < l0_1.length) = false := decide_eq_false (by have := of_decide_eq_false c16b0; omega)
     (first | rw [c16b0] | rw [c16b1] | (simp only [i64_w, i32_w]; first | rw [c16b0] | rw [c16b1]) | rw [c16b2] | skip)
     replace H := bi_ H; obtain ⟨t128, A18, H⟩ := H
     replace H := kb_ H; rcases H with ⟨rfl, H⟩ | ⟨rfl, H⟩
     ·replace H := ke_ H; rcases H with ⟨c20b0, c20b1, H⟩ | ⟨c20, c20b0, c20b1, H⟩
      ·have H' := q_ H
       clear H
       obtain ⟨hz_, hz_, hz_, hz_, hz_, hz_, hz_, hz_, hz_, hz_⟩ := cs5_ BK126.out
       go_wp2_with (first | (go_at_call 97; (with_reducible refine (spec_l1In.calls (l0_3.length : Int) 2 4 true _ A18.out).mono ?_); rintro e w' ⟨rfl, ⟨nd, rfl⟩⟩))
       go_meet
       case rel => exact ⟨_, (decide ((l0_4.length : Int) > 6)), z4_, H', ⟨z43_⟩, ⟨z20_⟩, ⟨cb_⟩⟩
      ·have H' := q_ H
       clear H
       obtain ⟨hz_, hz_, hz_, hz_, hz_, hz_, hz_, hz_, hz_, hz_⟩ := cs5_ BK126.out
       go_wp2_with (first | (go_at_call 97; (with_reducible refine (spec_l1In.calls (l0_3.length : Int) 2 4 true _ A18.out).mono ?_); rintro e w' ⟨rfl, ⟨nd, rfl⟩⟩))
       go_meet
       case rel => exact ⟨_, (true), z4_, H', ⟨z43_⟩, ⟨z20_⟩, ⟨cb_⟩⟩
     ·have H' := q_ H
      clear H
      obtain ⟨hz_, hz_, hz_, hz_, hz_, hz_, hz_, hz_, hz_, hz_⟩ := cs5_ BK126.out
      go_wp2_with (first | (go_at_call 97; (with_reducible refine (spec_l1In.calls (l0_3.length : Int) 2 4 false _ A18.out).mono ?_); rintro e w' ⟨rfl, ⟨nd, rfl⟩⟩))
      go_meet
      case rel => exact ⟨_, (true), z4_, H', ⟨z43_⟩, ⟨z20_⟩, ⟨cb_⟩⟩
   case rest =>
    clear HC14
    try clear c1
    try clear c2
    try clear p2
    try clear c5
    try clear p6
    try clear c7
    try clear c7b0
    try clear c7b1
    try clear c7b2
    try clear c9
    try clear c10
    try clear c16
    try clear c16b0
    try clear c16b1
    try clear c16b2
    try clear c19
    try clear c20
    try clear c20b0
    try clear c20b1
    repeat clear hz_
    obtain ⟨kq, x49_13, rfl, HA, HJ13, BK126, HB⟩ := hcut
    obtain ⟨kj13, rfl, H⟩ := rn_ (k := kq) HA (by rintro rfl; simp only [spec_l2Depth.j0])
    clear HA
    simp only [spec_l2Depth.j0] at H
    replace H := kb_ H; rcases H with ⟨rfl, H⟩ | ⟨rfl, H⟩
    ·obtain rfl := si_ H
     go_wp2
     go_ret
     exact ⟨z1_, cb_⟩
    ·have H' := q_ H
     clear H
     go_wp2
     go_loopg [10] kj13 (fun kq v10 w' => ∃ (x10_2 : Int), v10 = .int .i64 x10_2 ∧ Aside0 (spec_l2Depth.l0 kq a1 a2 a3 (l0_3.length : Int) x10_2 false l0_1 l0_2 l0_3 l0_4 = some r) ∧ Aside0 (kq ≤ kj13) ∧ Aside0 (w'.heap[gb126]? = some (.cells #[.bool false, (.slice A0_1 l0_1.length c0_1), (.slice A0_2 l0_2.length c0_2), (.slice A0_3 l0_3.length c0_3), (.slice A0_4 l0_4.length c0_4)] 34 (0, 0))) ∧ Aside0 (Below w.heap.size w w'))
     case atStart => exact ⟨(0), z4_, H', ⟨Nat.le_refl _⟩, ⟨z20_⟩, ⟨cb_⟩⟩
     case round =>
      clear H'
      try clear c1
      try clear c2
      try clear p2
      try clear c5
      try clear p6
      try clear c7
      try clear c7b0
      try clear c7b1
      try clear c7b2
      try clear c9
      try clear c10
      try clear c16
      try clear c16b0
      try clear c16b1
      try clear c16b2
      try clear c19
      try clear c20
      try clear c20b0
      try clear c20b1
      try clear c24
      repeat clear hz_
      try clear p2
      try clear p6
      obtain ⟨x10_2, rfl, HA, HK2, BK126, HB⟩ := hrel
      obtain ⟨k2, rfl, H⟩ := rn_ (k := gk) HA (by rintro rfl; simp only [spec_l2Depth.l0])
      clear HA
      simp only [spec_l2Depth.l0] at H
      have HC25 := q_ H
      clear H
      obtain ⟨hz_, hz_, hz_, hz_, hz_, hz_, hz_, hz_, hz_, hz_⟩ := cs5_ BK126.out
      go_upto_if 54 with (fail)
      have H := HC25.out
      clear HC25
      replace H := kd_ H; rcases H with ⟨c27b0, H⟩ | ⟨c27b0, H⟩
      ·(first | rw [c27b0] | rw [c27b1] | (simp only [i64_w, i32_w]; first | rw [c27b0] | rw [c27b1]) | rw [c27b2] | skip)
       replace H := kdn_ H; obtain ⟨c28b0, H⟩ := H
       replace H := bi_ H; obtain ⟨t130, A29, H⟩ := H
       replace H := kb_ H; rcases H with ⟨rfl, H⟩ | ⟨rfl, H⟩
       ·replace H := ke_ H; rcases H with ⟨c31b0, c31b1, H⟩ | ⟨c31, c31b0, c31b1, H⟩
        ·obtain rfl := si_ H
         obtain ⟨hz_, hz_, hz_, hz_, hz_, hz_, hz_, hz_, hz_, hz_⟩ := cs5_ BK126.out
         have p129 : 0 ≤ (x10_2 : Int) := of_decide_eq_true z2_
         have q129 : x10_2 < (l0_4.length : Int) := of_decide_eq_true z2_
         obtain ⟨ad129, e129, hx129_0, hx129_1, hx129_2⟩ := at_T72 HR0_4.out x10_2 p129 q129
         cases e129
         replace hx129_0 := up_ HB hx129_0
         replace hx129_1 := up_ HB hx129_1
         replace hx129_2 := up_ HB hx129_2
         replace p129 := eq_true p129
         replace q129 := eq_true q129
         go_wp2_with (first | ((with_reducible refine gate_callee (f := 98) rfl ?_); refine goesL_ (some 62) rfl rfl Try.func98 (by kernel_rfl) rfl #[.agg #[.int .i64 ((rd_T72 l0_4 x10_2).f0), .int .i64 ((rd_T72 l0_4 x10_2).f1), .int .i64 ((rd_T72 l0_4 x10_2).f2)]] rfl z0_ ?_; (with_reducible refine (spec_MsgOk.calls ((rd_T72 l0_4 x10_2).f0) ((rd_T72 l0_4 x10_2).f1) ((rd_T72 l0_4 x10_2).f2) true _ A29.out).mono ?_); rintro e w33 ⟨rfl, hb⟩; refine ⟨_, rfl, ?_⟩; replace BK126 := rb_ BK126 hb; replace HB := hb_ hb; (try clear hb); (try clear hb2); (try clear hk); (try clear hi); obtain ⟨hz_, hz_, hz_, hz_, hz_, hz_, hz_, hz_, hz_, hz_⟩ := cs5_ BK126.out; have p131 : 0 ≤ (x10_2 : Int) := of_decide_eq_true z2_; have q131 : x10_2 < (l0_4.length : Int) := of_decide_eq_true z2_; obtain ⟨ad131, e131, hx131_0, hx131_1, hx131_2⟩ := at_T72 HR0_4.out x10_2 p131 q131; obtain rfl : ad129 = ad131 := (by injection e131); replace hx131_0 := up_ HB hx131_0; replace hx131_1 := up_ HB hx131_1; replace hx131_2 := up_ HB hx131_2; replace p131 := eq_true p131; replace q131 := eq_true q131))
         go_ret
         exact ⟨z1_, cb_⟩
        ·replace H := bi_ H; obtain ⟨t133, A35, H⟩ := H
         have HC36 := q_ H
         clear H
         obtain ⟨hz_, hz_, hz_, hz_, hz_, hz_, hz_, hz_, hz_, hz_⟩ := cs5_ BK126.out
         have p129 : 0 ≤ (x10_2 : Int) := of_decide_eq_true z2_
         have q129 : x10_2 < (l0_4.length : Int) := of_decide_eq_true z2_
         obtain ⟨ad129, e129, hx129_0, hx129_1, hx129_2⟩ := at_T72 HR0_4.out x10_2 p129 q129
         cases e129
         replace hx129_0 := up_ HB hx129_0
         replace hx129_1 := up_ HB hx129_1
         replace hx129_2 := up_ HB hx129_2
         replace p129 := eq_true p129
         replace q129 := eq_true q129
         go_upto_if 85 with (first | ((with_reducible refine gate_callee (f := 98) rfl ?_); refine goesL_ (some 62) rfl rfl Try.func98 (by kernel_rfl) rfl #[.agg #[.int .i64 ((rd_T72 l0_4 x10_2).f0), .int .i64 ((rd_T72 l0_4 x10_2).f1), .int .i64 ((rd_T72 l0_4 x10_2).f2)]] rfl z0_ ?_; (with_reducible refine (spec_MsgOk.calls ((rd_T72 l0_4 x10_2).f0) ((rd_T72 l0_4 x10_2).f1) ((rd_T72 l0_4 x10_2).f2) true _ A29.out).mono ?_); rintro e w38 ⟨rfl, hb⟩; refine ⟨_, rfl, ?_⟩; replace BK126 := rb_ BK126 hb; replace HB := hb_ hb; (try clear hb); (try clear hb2); (try clear hk); (try clear hi); obtain ⟨hz_, hz_, hz_, hz_, hz_, hz_, hz_, hz_, hz_, hz_⟩ := cs5_ BK126.out; have p131 : 0 ≤ (x10_2 : Int) := of_decide_eq_true z2_; have q131 : x10_2 < (l0_4.length : Int) := of_decide_eq_true z2_; obtain ⟨ad131, e131, hx131_0, hx131_1, hx131_2⟩ := at_T72 HR0_4.out x10_2 p131 q131; obtain rfl : ad129 = ad131 := (by injection e131); replace hx131_0 := up_ HB hx131_0; replace hx131_1 := up_ HB hx131_1; replace hx131_2 := up_ HB hx131_2; replace p131 := eq_true p131; replace q131 := eq_true q131; have p132 : 0 ≤ (x10_2 : Int) := of_decide_eq_true z2_; have q132 : x10_2 < (l0_4.length : Int) := of_decide_eq_true z2_; obtain ⟨ad132, e132, hx132_0, hx132_1, hx132_2⟩ := at_T72 HR0_4.out x10_2 p132 q132; obtain rfl : ad129 = ad132 := (by injection e132); replace hx132_0 := up_ HB hx132_0; replace hx132_1 := up_ HB hx132_1; replace hx132_2 := up_ HB hx132_2; replace p132 := eq_true p132; replace q132 := eq_true q132) | (go_at_call 97; (with_reducible refine (spec_l1In.calls ((rd_T72 l0_4 x10_2).f1) a1 (wrap64 (a2 - 1)) t133 _ A35.out).mono ?_); rintro e w' ⟨rfl, ⟨nd, rfl⟩⟩))
         (try simp only [Act.put, List.setIfInBounds_toArray, List.set_cons_zero, List.set_cons_succ])
         have H := HC36.out
         clear HC36
         replace H := kb_ H; rcases H with ⟨rfl, H⟩ | ⟨rfl, H⟩
         ·have H' := q_ H
          clear H
          go_wp2
          go_roundg k2
          case measure => have := HJ13.out; have := HK2.out; omega
          case rel => exact ⟨(wrap64 (x10_2 + 1)), z4_, H', ⟨by have := HJ13.out; have := HK2.out; omega⟩, ⟨z20_⟩, ⟨cb_⟩⟩
         ·obtain rfl := si_ H
          go_wp2
          go_ret
          exact ⟨z1_, cb_⟩
       ·obtain rfl := si_ H
        obtain ⟨hz_, hz_, hz_, hz_, hz_, hz_, hz_, hz_, hz_, hz_⟩ := cs5_ BK126.out
        have p129 : 0 ≤ (x10_2 : Int) := of_decide_eq_true z2_
        have q129 : x10_2 < (l0_4.length : Int) := of_decide_eq_true z2_
        obtain ⟨ad129, e129, hx129_0, hx129_1, hx129_2⟩ := at_T72 HR0_4.out x10_2 p129 q129
        cases e129
        replace hx129_0 := up_ HB hx129_0
        replace hx129_1 := up_ HB hx129_1
        replace hx129_2 := up_ HB hx129_2
        replace p129 := eq_true p129
        replace q129 := eq_true q129
        go_wp2_with (first | ((with_reducible refine gate_callee (f := 98) rfl ?_); refine goesL_ (some 62) rfl rfl Try.func98 (by kernel_rfl) rfl #[.agg #[.int .i64 ((rd_T72 l0_4 x10_2).f0), .int .i64 ((rd_T72 l0_4 x10_2).f1), .int .i64 ((rd_T72 l0_4 x10_2).f2)]] rfl z0_ ?_; (with_reducible refine (spec_MsgOk.calls ((rd_T72 l0_4 x10_2).f0) ((rd_T72 l0_4 x10_2).f1) ((rd_T72 l0_4 x10_2).f2) false _ A29.out).mono ?_); rintro e w42 ⟨rfl, hb⟩; refine ⟨_, rfl, ?_⟩; replace HB := hb_ hb; (try clear hb); (try clear hb2); (try clear hk); (try clear hi)))
        go_ret
        exact ⟨z1_, cb_⟩
      ·(first | rw [c27b0] | rw [c27b1] | (simp only [i64_w, i32_w]; first | rw [c27b0] | rw [c27b1]) | rw [c27b2] | skip)
       have H' := q_ H
       clear H
       go_wp2
       go_loopg [11, 12, 13] k2 (fun kq v11 v12 v13 w' => ∃ (x11_3 : Int) (x12_3 : Int) (x13_3 : Int), v11 = .int .i64 x11_3 ∧ v12 = .int .i64 x12_3 ∧ v13 = .int .i64 x13_3 ∧ Aside0 (spec_l2Depth.l1 kq a2 a3 (l0_3.length : Int) x11_3 x12_3 x13_3 false l0_1 l0_2 l0_3 l0_4 = some r) ∧ Aside0 (kq ≤ k2) ∧ Aside0 (w'.heap[gb126]? = some (.cells #[.bool false, (.slice A0_1 l0_1.length c0_1), (.slice A0_2 l0_2.length c0_2), (.slice A0_3 l0_3.length c0_3), (.slice A0_4 l0_4.length c0_4)] 34 (0, 0))) ∧ Aside0 (Below w.heap.size w w'))
       case atStart => exact ⟨(0), (a1), (0), z4_, z4_, z4_, H', ⟨Nat.le_refl _⟩, ⟨z20_⟩, ⟨cb_⟩⟩
       case round =>
        clear H'
        try clear c1
        try clear p1
        try clear q1
        try clear hx1
        try clear c2
        try clear p2
        try clear c3
        try clear c4
        try clear c5
        try clear p6
        try clear c7
        try clear c7b0
        try clear c7b1
        try clear c7b2
        try clear c9
        try clear c10
        try clear p12
        try clear q12
        try clear hx12
        try clear p13
        try clear q13
        try clear hx13
        try clear c16
        try clear c16b0
        try clear c16b1
        try clear c16b2
        try clear c19
        try clear c20
        try clear c20b0
        try clear c20b1
        try clear c24
        try clear c27
        try clear c27b0
        try clear c27b1
        try clear c27b2
        try clear c28
        try clear c28b0
        try clear c30
        try clear c31
        try clear c31b0
        try clear c31b1
        try clear c40
        repeat clear hz_
        try clear hx129_0
        try clear hx129_1
        try clear hx129_2
        try clear hx131_0
        try clear hx131_1
        try clear hx131_2
        try clear hx132_0
        try clear hx132_1
        try clear hx132_2
        try clear p129
        try clear p131
        try clear p132
        try clear p2
        try clear p6
        try clear q129
        try clear q131
        try clear q132
        obtain ⟨x11_3, x12_3, x13_3, rfl, rfl, rfl, HA, HK3, BK126, HB⟩ := hrel
        obtain ⟨k3, rfl, H⟩ := rn_ (k := gk) HA (by rintro rfl; simp only [spec_l2Depth.l1])
        clear HA
        simp only [spec_l2Depth.l1] at H
        replace H := kd_ H; rcases H with ⟨c43b0, H⟩ | ⟨c43b0, H⟩
        ·replace H := kd_ H; rcases H with ⟨c44b0, H⟩ | ⟨c44b0, H⟩
         ·replace H := kdn_ H; obtain ⟨c45b0, H⟩ := H
          replace H := kdn_ H; obtain ⟨c46b0, H⟩ := H
          replace H := bi_ H; obtain ⟨t135, A47, H⟩ := H
          have HC48 := q_ H
          clear H
          obtain ⟨hz_, hz_, hz_, hz_, hz_, hz_, hz_, hz_, hz_, hz_⟩ := cs5_ BK126.out
          have p134 : 0 ≤ (x13_3 : Int) := of_decide_eq_true z2_
          have q134 : x13_3 < (l0_2.length : Int) := of_decide_eq_true z2_
          obtain ⟨ad134, e134, hx134_0⟩ := Kd.at_int HR0_2.out x13_3 p134 q134
          cases e134
          replace hx134_0 := up_ HB hx134_0
          replace p134 := eq_true p134
          replace q134 := eq_true q134
          go_upto_if 108 with (first | ((with_reducible refine gate_callee (f := 97) rfl ?_); refine goesL_ (some 107) rfl rfl Try.func97 (by kernel_rfl) rfl #[.int .i64 (rd l0_2 x13_3), .int .i64 (wrap64 (x12_3 + 1)), .int .i64 (wrap64 (a2 - 1))] rfl z0_ ?_; (with_reducible refine (spec_l1In.calls (rd l0_2 x13_3) (wrap64 (x12_3 + 1)) (wrap64 (a2 - 1)) t135 _ A47.out).mono ?_); rintro e w' ⟨rfl, ⟨nd, rfl⟩⟩; refine ⟨_, rfl, ?_⟩))
          (try simp only [Act.put, List.setIfInBounds_toArray, List.set_cons_zero, List.set_cons_succ])
          have H := HC48.out
          clear HC48
          replace H := kb_ H; rcases H with ⟨rfl, H⟩ | ⟨rfl, H⟩
          ·replace H := kdn_ H; obtain ⟨c51b0, H⟩ := H
           (first | rw [c51b0] | rw [c51b1] | (simp only [i64_w, i32_w]; first | rw [c51b0] | rw [c51b1]) | rw [c51b2] | skip)
           replace H := bi_ H; obtain ⟨t137, A52, H⟩ := H
           replace H := ke_ H; rcases H with ⟨c53b0, c53b1, H⟩ | ⟨c53, c53b0, c53b1, H⟩
           ·obtain rfl := si_ H
            obtain ⟨hz_, hz_, hz_, hz_, hz_, hz_, hz_, hz_, hz_, hz_⟩ := cs5_ BK126.out
            have p136 : 0 ≤ (x13_3 : Int) := of_decide_eq_true z2_
            have q136 : x13_3 < (l0_3.length : Int) := of_decide_eq_true z2_
            obtain ⟨ad136, A136_1, c136_1, A136_2, c136_2, A136_3, c136_3, A136_4, c136_4, e136, hx136_0, hx136_1, hx136_2, hx136_3, hx136_4, hl136_1, hi136_1, hl136_2, hi136_2, hl136_3, hi136_3, hl136_4, hi136_4⟩ := at_T34 HR0_3.out x13_3 p136 q136
            cases e136
            replace hx136_0 := up_ HB hx136_0
            replace hx136_1 := up_ HB hx136_1
            replace hx136_2 := up_ HB hx136_2
            replace hx136_3 := up_ HB hx136_3
            replace hx136_4 := up_ HB hx136_4
            have HR136_1 := q_ hi136_1
            have HC136_1 := q_ hl136_1
            clear hi136_1 hl136_1
            have HR136_2 := q_ hi136_2
            have HC136_2 := q_ hl136_2
            clear hi136_2 hl136_2
            have HR136_3 := q_ hi136_3
            have HC136_3 := q_ hl136_3
            clear hi136_3 hl136_3
            have HR136_4 := q_ hi136_4
            have HC136_4 := q_ hl136_4
            clear hi136_4 hl136_4
            replace p136 := eq_true p136
            replace q136 := eq_true q136
            go_wp2_with (first | ((with_reducible refine gate_callee (f := 59) rfl ?_); refine goesL_ (some 118) rfl rfl Try.func59 (by kernel_rfl) rfl #[.agg #[.bool ((rd_T34 l0_3 x13_3).f0), .slice A136_1 ((rd_T34 l0_3 x13_3).f1).length c136_1, .slice A136_2 ((rd_T34 l0_3 x13_3).f2).length c136_2, .slice A136_3 ((rd_T34 l0_3 x13_3).f3).length c136_3, .slice A136_4 ((rd_T34 l0_3 x13_3).f4).length c136_4], .int .i64 x12_3, .int .i64 (rd l0_2 x13_3), .int .i64 (wrap64 (a3 - 1))] rfl z0_ ?_; (with_reducible refine (ih k3 z47_ ((rd_T34 l0_3 x13_3).f0) _ _ ((rd_T34 l0_3 x13_3).f1) _ _ ((rd_T34 l0_3 x13_3).f2) _ _ ((rd_T34 l0_3 x13_3).f3) _ _ ((rd_T34 l0_3 x13_3).f4) x12_3 (rd l0_2 x13_3) (wrap64 (a3 - 1)) t137 _ ?side1 ?side2 ?side3 ?side4 ?side5 ?side6 ?side7 ?side8 A52.out).mono ?_); (case side1 => exact z110_); (case side2 => exact HC136_1.out); (case side3 => exact z111_); (case side4 => exact HC136_2.out); (case side5 => exact z112_); (case side6 => exact HC136_3.out); (case side7 => exact z113_); (case side8 => exact HC136_4.out); rintro e w55 ⟨rfl, hb⟩; refine ⟨_, rfl, ?_⟩; replace HB := hb_ hb; (try clear hb); (try clear hb2); (try clear hk); (try clear hi)))
            go_ret
            exact ⟨z1_, cb_⟩
           ·replace H := kg_ H; rcases H with ⟨c56b0, H⟩ | ⟨c56b0, H⟩
            ·have HC57 := q_ H
             clear H
             obtain ⟨hz_, hz_, hz_, hz_, hz_, hz_, hz_, hz_, hz_, hz_⟩ := cs5_ BK126.out
             have p136 : 0 ≤ (x13_3 : Int) := of_decide_eq_true z2_
             have q136 : x13_3 < (l0_3.length : Int) := of_decide_eq_true z2_
             obtain ⟨ad136, A136_1, c136_1, A136_2, c136_2, A136_3, c136_3, A136_4, c136_4, e136, hx136_0, hx136_1, hx136_2, hx136_3, hx136_4, hl136_1, hi136_1, hl136_2, hi136_2, hl136_3, hi136_3, hl136_4, hi136_4⟩ := at_T34 HR0_3.out x13_3 p136 q136
             cases e136
             replace hx136_0 := up_ HB hx136_0
             replace hx136_1 := up_ HB hx136_1
             replace hx136_2 := up_ HB hx136_2
             replace hx136_3 := up_ HB hx136_3
             replace hx136_4 := up_ HB hx136_4
             have HR136_1 := q_ hi136_1
             have HC136_1 := q_ hl136_1
             clear hi136_1 hl136_1
             have HR136_2 := q_ hi136_2
             have HC136_2 := q_ hl136_2
             clear hi136_2 hl136_2
             have HR136_3 := q_ hi136_3
             have HC136_3 := q_ hl136_3
             clear hi136_3 hl136_3
             have HR136_4 := q_ hi136_4
             have HC136_4 := q_ hl136_4
             clear hi136_4 hl136_4
             replace p136 := eq_true p136
             replace q136 := eq_true q136
             go_upto_if 129 with (first | ((with_reducible refine gate_callee (f := 59) rfl ?_); refine goesL_ (some 118) rfl rfl Try.func59 (by kernel_rfl) rfl #[.agg #[.bool ((rd_T34 l0_3 x13_3).f0), .slice A136_1 ((rd_T34 l0_3 x13_3).f1).length c136_1, .slice A136_2 ((rd_T34 l0_3 x13_3).f2).length c136_2, .slice A136_3 ((rd_T34 l0_3 x13_3).f3).length c136_3, .slice A136_4 ((rd_T34 l0_3 x13_3).f4).length c136_4], .int .i64 x12_3, .int .i64 (rd l0_2 x13_3), .int .i64 (wrap64 (a3 - 1))] rfl z0_ ?_; (with_reducible refine (ih k3 z47_ ((rd_T34 l0_3 x13_3).f0) _ _ ((rd_T34 l0_3 x13_3).f1) _ _ ((rd_T34 l0_3 x13_3).f2) _ _ ((rd_T34 l0_3 x13_3).f3) _ _ ((rd_T34 l0_3 x13_3).f4) x12_3 (rd l0_2 x13_3) (wrap64 (a3 - 1)) t137 _ ?side1 ?side2 ?side3 ?side4 ?side5 ?side6 ?side7 ?side8 A52.out).mono ?_); (case side1 => exact z110_); (case side2 => exact HC136_1.out); (case side3 => exact z111_); (case side4 => exact HC136_2.out); (case side5 => exact z112_); (case side6 => exact HC136_3.out); (case side7 => exact z113_); (case side8 => exact HC136_4.out); rintro e w59 ⟨rfl, hb⟩; refine ⟨_, rfl, ?_⟩; replace BK126 := rb_ BK126 hb; replace HB := hb_ hb; (try clear hb); (try clear hb2); (try clear hk); (try clear hi)))
             (try simp only [Act.put, List.setIfInBounds_toArray, List.set_cons_zero, List.set_cons_succ])
             have H := HC57.out
             clear HC57
             replace H := ke_ H; rcases H with ⟨c60b0, c60b1, H⟩ | ⟨c60, c60b0, c60b1, H⟩
             ·(first | rw [c60b0] | rw [c60b1] | (simp only [i64_w, i32_w]; first | rw [c60b0] | rw [c60b1]) | rw [c60b2] | skip)
              have H' := q_ H
              clear H
              go_wp2
              go_roundg k3
              case measure => have := HJ13.out; have := HK2.out; have := HK3.out; omega
              case rel => exact ⟨(t137), (rd l0_2 x13_3), (wrap64 (x13_3 + 1)), z4_, z4_, z4_, H', ⟨z47_⟩, ⟨z20_⟩, ⟨cb_⟩⟩
             ·(first | rw [c60b0] | rw [c60b1] | (simp only [i64_w, i32_w]; first | rw [c60b0] | rw [c60b1]) | rw [c60b2] | skip)
              obtain rfl := si_ H
              go_wp2
              go_ret
              exact ⟨z1_, cb_⟩
            ·have H' := q_ H
             clear H
             obtain ⟨hz_, hz_, hz_, hz_, hz_, hz_, hz_, hz_, hz_, hz_⟩ := cs5_ BK126.out
             have p136 : 0 ≤ (x13_3 : Int) := of_decide_eq_true z2_
             have q136 : x13_3 < (l0_3.length : Int) := of_decide_eq_true z2_
             obtain ⟨ad136, A136_1, c136_1, A136_2, c136_2, A136_3, c136_3, A136_4, c136_4, e136, hx136_0, hx136_1, hx136_2, hx136_3, hx136_4, hl136_1, hi136_1, hl136_2, hi136_2, hl136_3, hi136_3, hl136_4, hi136_4⟩ := at_T34 HR0_3.out x13_3 p136 q136
             cases e136
             replace hx136_0 := up_ HB hx136_0
             replace hx136_1 := up_ HB hx136_1
             replace hx136_2 := up_ HB hx136_2
             replace hx136_3 := up_ HB hx136_3
             replace hx136_4 := up_ HB hx136_4
             have HR136_1 := q_ hi136_1
             have HC136_1 := q_ hl136_1
             clear hi136_1 hl136_1
             have HR136_2 := q_ hi136_2
             have HC136_2 := q_ hl136_2
             clear hi136_2 hl136_2
             have HR136_3 := q_ hi136_3
             have HC136_3 := q_ hl136_3
             clear hi136_3 hl136_3
             have HR136_4 := q_ hi136_4
             have HC136_4 := q_ hl136_4
             clear hi136_4 hl136_4
             replace p136 := eq_true p136
             replace q136 := eq_true q136
             go_wp2_with (first | ((with_reducible refine gate_callee (f := 59) rfl ?_); refine goesL_ (some 118) rfl rfl Try.func59 (by kernel_rfl) rfl #[.agg #[.bool ((rd_T34 l0_3 x13_3).f0), .slice A136_1 ((rd_T34 l0_3 x13_3).f1).length c136_1, .slice A136_2 ((rd_T34 l0_3 x13_3).f2).length c136_2, .slice A136_3 ((rd_T34 l0_3 x13_3).f3).length c136_3, .slice A136_4 ((rd_T34 l0_3 x13_3).f4).length c136_4], .int .i64 x12_3, .int .i64 (rd l0_2 x13_3), .int .i64 (wrap64 (a3 - 1))] rfl z0_ ?_; (with_reducible refine (ih k3 z47_ ((rd_T34 l0_3 x13_3).f0) _ _ ((rd_T34 l0_3 x13_3).f1) _ _ ((rd_T34 l0_3 x13_3).f2) _ _ ((rd_T34 l0_3 x13_3).f3) _ _ ((rd_T34 l0_3 x13_3).f4) x12_3 (rd l0_2 x13_3) (wrap64 (a3 - 1)) t137 _ ?side1 ?side2 ?side3 ?side4 ?side5 ?side6 ?side7 ?side8 A52.out).mono ?_); (case side1 => exact z110_); (case side2 => exact HC136_1.out); (case side3 => exact z111_); (case side4 => exact HC136_2.out); (case side5 => exact z112_); (case side6 => exact HC136_3.out); (case side7 => exact z113_); (case side8 => exact HC136_4.out); rintro e w62 ⟨rfl, hb⟩; refine ⟨_, rfl, ?_⟩; replace BK126 := rb_ BK126 hb; replace HB := hb_ hb; (try clear hb); (try clear hb2); (try clear hk); (try clear hi)))
             go_roundg k3
             case measure => have := HJ13.out; have := HK2.out; have := HK3.out; omega
             case rel => exact ⟨(t137), (rd l0_2 x13_3), (wrap64 (x13_3 + 1)), z4_, z4_, z4_, H', ⟨z47_⟩, ⟨z20_⟩, ⟨cb_⟩⟩
          ·obtain rfl := si_ H
           go_wp2
           go_ret
           exact ⟨z1_, cb_⟩
         ·replace H := kdn_ H; obtain ⟨c63b0, H⟩ := H
          replace H := kdn_ H; obtain ⟨c64b0, H⟩ := H
          replace H := bi_ H; obtain ⟨t139, A65, H⟩ := H
          replace H := ke_ H; rcases H with ⟨c66b0, c66b1, H⟩ | ⟨c66, c66b0, c66b1, H⟩
          ·obtain rfl := si_ H
           obtain ⟨hz_, hz_, hz_, hz_, hz_, hz_, hz_, hz_, hz_, hz_⟩ := cs5_ BK126.out
           have p138 : 0 ≤ (x13_3 : Int) := of_decide_eq_true z2_
           have q138 : x13_3 < (l0_3.length : Int) := of_decide_eq_true z2_
           obtain ⟨ad138, A138_1, c138_1, A138_2, c138_2, A138_3, c138_3, A138_4, c138_4, e138, hx138_0, hx138_1, hx138_2, hx138_3, hx138_4, hl138_1, hi138_1, hl138_2, hi138_2, hl138_3, hi138_3, hl138_4, hi138_4⟩ := at_T34 HR0_3.out x13_3 p138 q138
           cases e138
           replace hx138_0 := up_ HB hx138_0
           replace hx138_1 := up_ HB hx138_1
           replace hx138_2 := up_ HB hx138_2
           replace hx138_3 := up_ HB hx138_3
           replace hx138_4 := up_ HB hx138_4
           have HR138_1 := q_ hi138_1
           have HC138_1 := q_ hl138_1
           clear hi138_1 hl138_1
           have HR138_2 := q_ hi138_2
           have HC138_2 := q_ hl138_2
           clear hi138_2 hl138_2
           have HR138_3 := q_ hi138_3
           have HC138_3 := q_ hl138_3
           clear hi138_3 hl138_3
           have HR138_4 := q_ hi138_4
           have HC138_4 := q_ hl138_4
           clear hi138_4 hl138_4
           replace p138 := eq_true p138
           replace q138 := eq_true q138
           go_wp2_with (first | ((with_reducible refine gate_callee (f := 59) rfl ?_); refine goesL_ (some 118) rfl rfl Try.func59 (by kernel_rfl) rfl #[.agg #[.bool ((rd_T34 l0_3 x13_3).f0), .slice A138_1 ((rd_T34 l0_3 x13_3).f1).length c138_1, .slice A138_2 ((rd_T34 l0_3 x13_3).f2).length c138_2, .slice A138_3 ((rd_T34 l0_3 x13_3).f3).length c138_3, .slice A138_4 ((rd_T34 l0_3 x13_3).f4).length c138_4], .int .i64 x12_3, .int .i64 a2, .int .i64 (wrap64 (a3 - 1))] rfl z0_ ?_; (with_reducible refine (ih k3 z47_ ((rd_T34 l0_3 x13_3).f0) _ _ ((rd_T34 l0_3 x13_3).f1) _ _ ((rd_T34 l0_3 x13_3).f2) _ _ ((rd_T34 l0_3 x13_3).f3) _ _ ((rd_T34 l0_3 x13_3).f4) x12_3 a2 (wrap64 (a3 - 1)) t139 _ ?side1 ?side2 ?side3 ?side4 ?side5 ?side6 ?side7 ?side8 A65.out).mono ?_); (case side1 => exact z102_); (case side2 => exact HC138_1.out); (case side3 => exact z103_); (case side4 => exact HC138_2.out); (case side5 => exact z104_); (case side6 => exact HC138_3.out); (case side7 => exact z105_); (case side8 => exact HC138_4.out); rintro e w68 ⟨rfl, hb⟩; refine ⟨_, rfl, ?_⟩; replace HB := hb_ hb; (try clear hb); (try clear hb2); (try clear hk); (try clear hi)))
           go_ret
           exact ⟨z1_, cb_⟩
          ·replace H := kg_ H; rcases H with ⟨c69b0, H⟩ | ⟨c69b0, H⟩
           ·have HC70 := q_ H
            clear H
            obtain ⟨hz_, hz_, hz_, hz_, hz_, hz_, hz_, hz_, hz_, hz_⟩ := cs5_ BK126.out
            have p138 : 0 ≤ (x13_3 : Int) := of_decide_eq_true z2_
            have q138 : x13_3 < (l0_3.length : Int) := of_decide_eq_true z2_
            obtain ⟨ad138, A138_1, c138_1, A138_2, c138_2, A138_3, c138_3, A138_4, c138_4, e138, hx138_0, hx138_1, hx138_2, hx138_3, hx138_4, hl138_1, hi138_1, hl138_2, hi138_2, hl138_3, hi138_3, hl138_4, hi138_4⟩ := at_T34 HR0_3.out x13_3 p138 q138
            cases e138
            replace hx138_0 := up_ HB hx138_0
            replace hx138_1 := up_ HB hx138_1
            replace hx138_2 := up_ HB hx138_2
            replace hx138_3 := up_ HB hx138_3
            replace hx138_4 := up_ HB hx138_4
            have HR138_1 := q_ hi138_1
            have HC138_1 := q_ hl138_1
            clear hi138_1 hl138_1
            have HR138_2 := q_ hi138_2
            have HC138_2 := q_ hl138_2
            clear hi138_2 hl138_2
            have HR138_3 := q_ hi138_3
            have HC138_3 := q_ hl138_3
            clear hi138_3 hl138_3
            have HR138_4 := q_ hi138_4
            have HC138_4 := q_ hl138_4
            clear hi138_4 hl138_4
            replace p138 := eq_true p138
            replace q138 := eq_true q138
            go_upto_if 129 with (first | ((with_reducible refine gate_callee (f := 59) rfl ?_); refine goesL_ (some 118) rfl rfl Try.func59 (by kernel_rfl) rfl #[.agg #[.bool ((rd_T34 l0_3 x13_3).f0), .slice A138_1 ((rd_T34 l0_3 x13_3).f1).length c138_1, .slice A138_2 ((rd_T34 l0_3 x13_3).f2).length c138_2, .slice A138_3 ((rd_T34 l0_3 x13_3).f3).length c138_3, .slice A138_4 ((rd_T34 l0_3 x13_3).f4).length c138_4], .int .i64 x12_3, .int .i64 a2, .int .i64 (wrap64 (a3 - 1))] rfl z0_ ?_; (with_reducible refine (ih k3 z47_ ((rd_T34 l0_3 x13_3).f0) _ _ ((rd_T34 l0_3 x13_3).f1) _ _ ((rd_T34 l0_3 x13_3).f2) _ _ ((rd_T34 l0_3 x13_3).f3) _ _ ((rd_T34 l0_3 x13_3).f4) x12_3 a2 (wrap64 (a3 - 1)) t139 _ ?side1 ?side2 ?side3 ?side4 ?side5 ?side6 ?side7 ?side8 A65.out).mono ?_); (case side1 => exact z102_); (case side2 => exact HC138_1.out); (case side3 => exact z103_); (case side4 => exact HC138_2.out); (case side5 => exact z104_); (case side6 => exact HC138_3.out); (case side7 => exact z105_); (case side8 => exact HC138_4.out); rintro e w72 ⟨rfl, hb⟩; refine ⟨_, rfl, ?_⟩; replace BK126 := rb_ BK126 hb; replace HB := hb_ hb; (try clear hb); (try clear hb2); (try clear hk); (try clear hi)))
            (try simp only [Act.put, List.setIfInBounds_toArray, List.set_cons_zero, List.set_cons_succ])
            have H := HC70.out
            clear HC70
            replace H := ke_ H; rcases H with ⟨c73b0, c73b1, H⟩ | ⟨c73, c73b0, c73b1, H⟩
            ·(first | rw [c73b0] | rw [c73b1] | (simp only [i64_w, i32_w]; first | rw [c73b0] | rw [c73b1]) | rw [c73b2] | skip)
             have H' := q_ H
             clear H
             go_wp2
             go_roundg k3
             case measure => have := HJ13.out; have := HK2.out; have := HK3.out; omega
             case rel => exact ⟨(t139), (a2), (wrap64 (x13_3 + 1)), z4_, z4_, z4_, H', ⟨z47_⟩, ⟨z20_⟩, ⟨cb_⟩⟩
            ·(first | rw [c73b0] | rw [c73b1] | (simp only [i64_w, i32_w]; first | rw [c73b0] | rw [c73b1]) | rw [c73b2] | skip)
             obtain rfl := si_ H
             go_wp2
             go_ret
             exact ⟨z1_, cb_⟩
           ·have H' := q_ H
            clear H
            obtain ⟨hz_, hz_, hz_, hz_, hz_, hz_, hz_, hz_, hz_, hz_⟩ := cs5_ BK126.out
            have p138 : 0 ≤ (x13_3 : Int) := of_decide_eq_true z2_
            have q138 : x13_3 < (l0_3.length : Int) := of_decide_eq_true z2_
            obtain ⟨ad138, A138_1, c138_1, A138_2, c138_2, A138_3, c138_3, A138_4, c138_4, e138, hx138_0, hx138_1, hx138_2, hx138_3, hx138_4, hl138_1, hi138_1, hl138_2, hi138_2, hl138_3, hi138_3, hl138_4, hi138_4⟩ := at_T34 HR0_3.out x13_3 p138 q138
            cases e138
            replace hx138_0 := up_ HB hx138_0
            replace hx138_1 := up_ HB hx138_1
            replace hx138_2 := up_ HB hx138_2
            replace hx138_3 := up_ HB hx138_3
            replace hx138_4 := up_ HB hx138_4
            have HR138_1 := q_ hi138_1
            have HC138_1 := q_ hl138_1
            clear hi138_1 hl138_1
            have HR138_2 := q_ hi138_2
            have HC138_2 := q_ hl138_2
            clear hi138_2 hl138_2
            have HR138_3 := q_ hi138_3
            have HC138_3 := q_ hl138_3
            clear hi138_3 hl138_3
            have HR138_4 := q_ hi138_4
            have HC138_4 := q_ hl138_4
            clear hi138_4 hl138_4
            replace p138 := eq_true p138
            replace q138 := eq_true q138
            go_wp2_with (first | ((with_reducible refine gate_callee (f := 59) rfl ?_); refine goesL_ (some 118) rfl rfl Try.func59 (by kernel_rfl) rfl #[.agg #[.bool ((rd_T34 l0_3 x13_3).f0), .slice A138_1 ((rd_T34 l0_3 x13_3).f1).length c138_1, .slice A138_2 ((rd_T34 l0_3 x13_3).f2).length c138_2, .slice A138_3 ((rd_T34 l0_3 x13_3).f3).length c138_3, .slice A138_4 ((rd_T34 l0_3 x13_3).f4).length c138_4], .int .i64 x12_3, .int .i64 a2, .int .i64 (wrap64 (a3 - 1))] rfl z0_ ?_; (with_reducible refine (ih k3 z47_ ((rd_T34 l0_3 x13_3).f0) _ _ ((rd_T34 l0_3 x13_3).f1) _ _ ((rd_T34 l0_3 x13_3).f2) _ _ ((rd_T34 l0_3 x13_3).f3) _ _ ((rd_T34 l0_3 x13_3).f4) x12_3 a2 (wrap64 (a3 - 1)) t139 _ ?side1 ?side2 ?side3 ?side4 ?side5 ?side6 ?side7 ?side8 A65.out).mono ?_); (case side1 => exact z102_); (case side2 => exact HC138_1.out); (case side3 => exact z103_); (case side4 => exact HC138_2.out); (case side5 => exact z104_); (case side6 => exact HC138_3.out); (case side7 => exact z105_); (case side8 => exact HC138_4.out); rintro e w75 ⟨rfl, hb⟩; refine ⟨_, rfl, ?_⟩; replace BK126 := rb_ BK126 hb; replace HB := hb_ hb; (try clear hb); (try clear hb2); (try clear hk); (try clear hi)))
            go_roundg k3
            case measure => have := HJ13.out; have := HK2.out; have := HK3.out; omega
            case rel => exact ⟨(t139), (a2), (wrap64 (x13_3 + 1)), z4_, z4_, z4_, H', ⟨z47_⟩, ⟨z20_⟩, ⟨cb_⟩⟩
        ·obtain rfl := si_ H
         go_wp2
         go_ret
         exact ⟨z1_, cb_⟩

end Go.Proofs.Ytfnndcpaldkkoaa.PFnExactMachineSame
