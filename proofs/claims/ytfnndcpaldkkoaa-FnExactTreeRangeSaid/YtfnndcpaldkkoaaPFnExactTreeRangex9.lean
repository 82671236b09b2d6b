-- Written by a program of this session, which goes by the kit's print. Not trusted: Lean checks it.
import Derived.Test.YtfnndcpaldkkoaaPFnExactTreeRangex0
import Derived.Test.YtfnndcpaldkkoaaPFnExactTreeRangex6
import Derived.Test.YtfnndcpaldkkoaaPFnExactTreeRangex8
namespace Go.Proofs.Ytfnndcpaldkkoaa.PFnExactTreeRange
open Go.RowKit Go.Proofs.YtfnndcpaldkkoaaW.PrintWords Go.Proofs.YtfnndcpaldkkoaaW.PrintLast Go.Proofs.YtfnndcpaldkkoaaW.PrintMore
attribute [local go_sem] Instr.field asAgg max2_int min2_int max_two min_two max_three min_three max_four min_four   -- for this text's walks alone
set_option linter.unusedVariables false
set_option linter.unusedSimpArgs false

/-! ### spec_l2Depth: function 59 -/
mutual
def spec_l2Depth.j0 : Nat → Int → Int → Int → Int → Bool → Bool → List (S92) → List Int → List (S34) → List (S72) → Option (Int)
 | 0, _, _, _, _, _, _, _, _, _, _ => none
 | k + 1, x1, x2, x3, x9, x49, x212000, x212001, x212002, x212003, x212004 => if x49 = true then (some 0) else (spec_l2Depth.l0 k x1 x2 x3 x9 0 x212000 x212001 x212002 x212003 x212004)
def spec_l2Depth.l0 : Nat → Int → Int → Int → Int → Int → Bool → List (S92) → List Int → List (S34) → List (S72) → Option (Int)
 | 0, _, _, _, _, _, _, _, _, _, _ => none
 | k + 1, x1, x2, x3, x9, x10, x212000, x212001, x212002, x212003, x212004 => if x10 < (x212004.length : Int) then (if 0 ≤ x10 then ((spec_MsgOk.f ((rd_T72 x212004 x10).f0) ((rd_T72 x212004 x10).f1) ((rd_T72 x212004 x10).f2)).bind fun t215 => (if t215 = true then (if ((rd_T72 x212004 x10).f0) = 4 then (some 0) else ((spec_l1In.f ((rd_T72 x212004 x10).f1) x1 (wrap64 (x2 - 1))).bind fun t218 => (if t218 = true then (spec_l2Depth.l0 k x1 x2 x3 x9 (wrap64 (x10 + 1)) x212000 x212001 x212002 x212003 x212004) else (some 0)))) else (some 0))) else (none)) else (spec_l2Depth.l1 k x2 x3 x9 0 x1 0 x212000 x212001 x212002 x212003 x212004)
def spec_l2Depth.l1 : Nat → Int → Int → Int → Int → Int → Int → Bool → List (S92) → List Int → List (S34) → List (S72) → Option (Int)
 | 0, _, _, _, _, _, _, _, _, _, _, _ => none
 | k + 1, x2, x3, x9, x11, x12, x13, x212000, x212001, x212002, x212003, x212004 => if x13 < x9 then (if x13 < (wrap64 (x9 - 1)) then (if 0 ≤ x13 then (if x13 < (x212002.length : Int) then ((spec_l1In.f (rd x212002 x13) (wrap64 (x12 + 1)) (wrap64 (x2 - 1))).bind fun t220 => (if t220 = true then (if x13 < (x212003.length : Int) then ((spec_l2Depth.f k ((rd_T34 x212003 x13).f0) ((rd_T34 x212003 x13).f1) ((rd_T34 x212003 x13).f2) ((rd_T34 x212003 x13).f3) ((rd_T34 x212003 x13).f4) x12 (rd x212002 x13) (wrap64 (x3 - 1))).bind fun t222 => (if t222 = 0 then (some 0) else (if x13 > 0 then (if t222 = x11 then (spec_l2Depth.l1 k x2 x3 x9 t222 (rd x212002 x13) (wrap64 (x13 + 1)) x212000 x212001 x212002 x212003 x212004) else (some 0)) else (spec_l2Depth.l1 k x2 x3 x9 t222 (rd x212002 x13) (wrap64 (x13 + 1)) x212000 x212001 x212002 x212003 x212004)))) else (none)) else (some 0))) else (none)) else (none)) else (if 0 ≤ x13 then (if x13 < (x212003.length : Int) then ((spec_l2Depth.f k ((rd_T34 x212003 x13).f0) ((rd_T34 x212003 x13).f1) ((rd_T34 x212003 x13).f2) ((rd_T34 x212003 x13).f3) ((rd_T34 x212003 x13).f4) x12 x2 (wrap64 (x3 - 1))).bind fun t224 => (if t224 = 0 then (some 0) else (if x13 > 0 then (if t224 = x11 then (spec_l2Depth.l1 k x2 x3 x9 t224 x2 (wrap64 (x13 + 1)) x212000 x212001 x212002 x212003 x212004) else (some 0)) else (spec_l2Depth.l1 k x2 x3 x9 t224 x2 (wrap64 (x13 + 1)) x212000 x212001 x212002 x212003 x212004)))) else (none)) else (none))) else (some (wrap64 (x11 + 1)))
def spec_l2Depth.f : Nat → Bool → List (S92) → List Int → List (S34) → List (S72) → Int → Int → Int → Option (Int)
 | 0, _, _, _, _, _, _, _, _ => none
 | k + 1, a0_0, l0_1, l0_2, l0_3, l0_4, a1, a2, a3 => if a3 = 0 then (some 0) else (if a0_0 = true then ((spec_l2Leaf.f k a0_0 l0_1 l0_2 l0_3 l0_4 a1 a2).bind fun t212 => (some t212)) else (if (l0_1.length : Int) > 0 then (spec_l2Depth.j0 k a1 a2 a3 (l0_3.length : Int) true a0_0 l0_1 l0_2 l0_3 l0_4) else ((spec_l1In.f (l0_3.length : Int) 2 4).bind fun t213 => (if t213 = true then (if (l0_2.length : Int) = (wrap64 ((l0_3.length : Int) - 1)) then (spec_l2Depth.j0 k a1 a2 a3 (l0_3.length : Int) (decide ((l0_4.length : Int) > 6)) a0_0 l0_1 l0_2 l0_3 l0_4) else (spec_l2Depth.j0 k a1 a2 a3 (l0_3.length : Int) true a0_0 l0_1 l0_2 l0_3 l0_4)) else (spec_l2Depth.j0 k a1 a2 a3 (l0_3.length : Int) true a0_0 l0_1 l0_2 l0_3 l0_4)))))
end
theorem spec_l2Depth.mono_l : ∀ k, (∀ y0 y1 y2 y3 y4 y5 y6 y7, LeO (spec_l2Depth.f k y0 y1 y2 y3 y4 y5 y6 y7) (spec_l2Depth.f (k + 1) y0 y1 y2 y3 y4 y5 y6 y7)) ∧ (∀ y0 y1 y2 y3 y4 y5 y6 y7 y8 y9, LeO (spec_l2Depth.j0 k y0 y1 y2 y3 y4 y5 y6 y7 y8 y9) (spec_l2Depth.j0 (k + 1) y0 y1 y2 y3 y4 y5 y6 y7 y8 y9)) ∧ (∀ y0 y1 y2 y3 y4 y5 y6 y7 y8 y9, LeO (spec_l2Depth.l0 k y0 y1 y2 y3 y4 y5 y6 y7 y8 y9) (spec_l2Depth.l0 (k + 1) y0 y1 y2 y3 y4 y5 y6 y7 y8 y9)) ∧ (∀ y0 y1 y2 y3 y4 y5 y6 y7 y8 y9 y10, LeO (spec_l2Depth.l1 k y0 y1 y2 y3 y4 y5 y6 y7 y8 y9 y10) (spec_l2Depth.l1 (k + 1) y0 y1 y2 y3 y4 y5 y6 y7 y8 y9 y10))
 | 0 => ⟨fun _ _ _ _ _ _ _ _ r h => by simp [spec_l2Depth.f] at h, fun _ _ _ _ _ _ _ _ _ _ r h => by simp [spec_l2Depth.j0] at h, fun _ _ _ _ _ _ _ _ _ _ r h => by simp [spec_l2Depth.l0] at h, fun _ _ _ _ _ _ _ _ _ _ _ r h => by simp [spec_l2Depth.l1] at h⟩
 | k + 1 => by
  obtain ⟨ih0, ih1, ih2, ih3⟩ := spec_l2Depth.mono_l k
  refine ⟨?_, ?_, ?_, ?_⟩
  ·intro y0 y1 y2 y3 y4 y5 y6 y7
   unfold spec_l2Depth.f
   have m0 := @spec_l2Leaf.mono
   exact zm_
  ·intro y0 y1 y2 y3 y4 y5 y6 y7 y8 y9
   unfold spec_l2Depth.j0
   have m0 := @spec_l2Leaf.mono
   exact zm_
  ·intro y0 y1 y2 y3 y4 y5 y6 y7 y8 y9
   unfold spec_l2Depth.l0
   have m0 := @spec_l2Leaf.mono
   exact zm_
  ·intro y0 y1 y2 y3 y4 y5 y6 y7 y8 y9 y10
   unfold spec_l2Depth.l1
   have m0 := @spec_l2Leaf.mono
   exact zm_
theorem spec_l2Depth.mono : ∀ a0 a1 a2 a3 a4 a5 a6 a7 k, LeO (spec_l2Depth.f k a0 a1 a2 a3 a4 a5 a6 a7) (spec_l2Depth.f (k + 1) a0 a1 a2 a3 a4 a5 a6 a7) := by
 intro a0 a1 a2 a3 a4 a5 a6 a7 k
 obtain ⟨ih0, ih1, ih2, ih3⟩ := spec_l2Depth.mono_l k
 exact ih0 a0 a1 a2 a3 a4 a5 a6 a7
set_option maxHeartbeats 8000000 in
set_option maxRecDepth 100000 in
theorem spec_l2Depth.calls (k : Nat) : ∀ (a0_0 : Bool) (A0_1 : Option Addr) (c0_1 : Nat) (l0_1 : List (S92)) (A0_2 : Option Addr) (c0_2 : Nat) (l0_2 : List Int) (A0_3 : Option Addr) (c0_3 : Nat) (l0_3 : List (S34)) (A0_4 : Option Addr) (c0_4 : Nat) (l0_4 : List (S72)) (a1 : Int) (a2 : Int) (a3 : Int) (r : Int) (w : World) (hr0_1 : Kd.C k92 w A0_1 l0_1.length l0_1) (hc0_1 : l0_1.length ≤ c0_1) (hr0_2 : Kd.C (Kd.int .i64) w A0_2 l0_2.length l0_2) (hc0_2 : l0_2.length ≤ c0_2) (hr0_3 : Kd.C k34 w A0_3 l0_3.length l0_3) (hc0_3 : l0_3.length ≤ c0_3) (hr0_4 : Kd.C k72 w A0_4 l0_4.length l0_4) (hc0_4 : l0_4.length ≤ c0_4) (h : spec_l2Depth.f k a0_0 l0_1 l0_2 l0_3 l0_4 a1 a2 a3 = some r),
  Calls Try.prog 59 #[.agg #[.bool a0_0, .slice A0_1 l0_1.length c0_1, .slice A0_2 l0_2.length c0_2, .slice A0_3 l0_3.length c0_3, .slice A0_4 l0_4.length c0_4], .int .i64 a1, .int .i64 a2, .int .i64 a3] w fun e w' => e = .returned (.int .i64 r) ∧ Below w.heap.size w w' := by
 induction k using Nat.strongRecOn with
 | _ k ih =>
 intro a0_0 A0_1 c0_1 l0_1 A0_2 c0_2 l0_2 A0_3 c0_3 l0_3 A0_4 c0_4 l0_4 a1 a2 a3 r w hr0_1 hc0_1 hr0_2 hc0_2 hr0_3 hc0_3 hr0_4 hc0_4 h
 cases k with
 | zero => exact absurd h (by simp [spec_l2Depth.f])
 | succ k =>
 simp only [spec_l2Depth.f] at h
 have hu34 := Try.underlying34
 have hu72 := Try.underlying72
 have HR0_1 := q_ hr0_1
 have HC0_1 := q_ hc0_1
 clear hr0_1 hc0_1
 have HR0_2 := q_ hr0_2
 have HC0_2 := q_ hc0_2
 clear hr0_2 hc0_2
 have HR0_3 := q_ hr0_3
 have HC0_3 := q_ hc0_3
 clear hr0_3 hc0_3
 have HR0_4 := q_ hr0_4
 have HC0_4 := q_ hc0_4
 clear hr0_4 hc0_4
 have HB := q_ (Below.refl w.heap.size w)
 have H := h; clear h
 have HC5 := q_ H
 clear H
 go_enter Try.func59, Try.ntmps59
 go_upto_if 17 with (first | ((with_reducible refine gate_dst (N := 4) rfl ?_); (try (refine gate_guard (by rfl) ?_; dsimp only)); refine box_event ?hg (N := 4) ?hd (cs := #[.bool a0_0, .slice A0_1 l0_1.length c0_1, .slice A0_2 l0_2.length c0_2, .slice A0_3 l0_3.length c0_3, .slice A0_4 l0_4.length c0_4]) (t := 34) ?hr ?_; (case hd => rfl); (case hg => rfl); (case hr => exact z95_); intro gb211 hg w6 hbox hb; have BK211 := q_ (hbox); have GW211 := ge_ hg; have GE211 := ge_ hg; replace HB := hb_ hb; clear hb hbox hg))
 (try simp only [Act.put, List.setIfInBounds_toArray, List.set_cons_zero, List.set_cons_succ])
 have H := HC5.out
 clear HC5
 replace H := ke_ H; rcases H with ⟨c7b0, c7b1, H⟩ | ⟨c7, c7b0, c7b1, H⟩
 ·(first | rw [c7b0] | rw [c7b1] | (simp only [i64_w, i32_w]; first | rw [c7b0] | rw [c7b1]) | rw [c7b2] | skip)
  obtain rfl := si_ H
  go_wp2
  go_ret
  exact ⟨z2_, cb_⟩
 ·(first | rw [c7b0] | rw [c7b1] | (simp only [i64_w, i32_w]; first | rw [c7b0] | rw [c7b1]) | rw [c7b2] | skip)
  have HC8 := q_ H
  clear H
  obtain ⟨hz_, hz_, hz_, hz_, hz_, hz_, hz_, hz_, hz_, hz_⟩ := cs5_ BK211.out
  go_upto_if 19 with (fail)
  have H := HC8.out
  clear HC8
  replace H := kb_ H; rcases H with ⟨rfl, H⟩ | ⟨rfl, H⟩
  ·replace H := bi_ H; obtain ⟨t212, A11, H⟩ := H
   obtain rfl := si_ H
   obtain ⟨hz_, hz_, hz_, hz_, hz_, hz_, hz_, hz_, hz_, hz_⟩ := cs5_ BK211.out
   go_wp2_with (first | ((with_reducible refine gate_callee (f := 96) rfl ?_); refine goesL_ (some 23) rfl rfl Try.func96 (by kernel_rfl) rfl #[.agg #[.bool true, .slice A0_1 l0_1.length c0_1, .slice A0_2 l0_2.length c0_2, .slice A0_3 l0_3.length c0_3, .slice A0_4 l0_4.length c0_4], .int .i64 a1, .int .i64 a2] rfl z0_ ?_; (with_reducible refine (spec_l2Leaf.calls k true _ _ l0_1 _ _ l0_2 _ _ l0_3 _ _ l0_4 a1 a2 t212 _ ?side1 ?side2 ?side3 ?side4 ?side5 ?side6 ?side7 ?side8 A11.out).mono ?_); (case side1 => exact z94_); (case side2 => exact z117_); (case side3 => exact z97_); (case side4 => exact HC0_2.out); (case side5 => exact z98_); (case side6 => exact HC0_3.out); (case side7 => exact z96_); (case side8 => exact z122_); rintro e w13 ⟨rfl, hb⟩; refine ⟨_, rfl, ?_⟩; replace HB := hb_ hb; (try clear hb); (try clear hb2); (try clear hk); (try clear hi)))
   go_ret
   exact ⟨z2_, cb_⟩
  ·have HC14 := q_ H
   clear H
   obtain ⟨hz_, hz_, hz_, hz_, hz_, hz_, hz_, hz_, hz_, hz_⟩ := cs5_ BK211.out
   go_upto_region 6 with (fail)
   go_cut [49] (fun v49 wc => ∃ (kq : Nat) (x49_13 : Bool), v49 = .bool x49_13 ∧ Aside0 (spec_l2Depth.j0 kq a1 a2 a3 (l0_3.length : Int) x49_13 false l0_1 l0_2 l0_3 l0_4 = some r) ∧ Aside0 (kq ≤ k) ∧ Aside0 (wc.heap[gb211]? = some (.cells #[.bool false, (.slice A0_1 l0_1.length c0_1), (.slice A0_2 l0_2.length c0_2), (.slice A0_3 l0_3.length c0_3), (.slice A0_4 l0_4.length c0_4)] 34 (0, 0))) ∧ Aside0 (Below w.heap.size w wc))
   case first =>
    have H := HC14.out
    clear HC14
    replace H := kg_ H; rcases H with ⟨c16b0, H⟩ | ⟨c16b0, H⟩
    ·have c16b1 : decide (0 < l0_1.length) = true := decide_eq_true (by have := of_decide_eq_true c16b0; omega)
     (first | rw [c16b0] | rw [c16b1] | (simp only [i64_w, i32_w]; first | rw [c16b0] | rw [c16b1]) | rw [c16b2] | skip)
     have H' := q_ H
     clear H
     obtain ⟨hz_, hz_, hz_, hz_, hz_, hz_, hz_, hz_, hz_, hz_⟩ := cs5_ BK211.out
     go_wp2
     go_meet
     case rel => exact ⟨_, (true), z4_, H', ⟨z34_⟩, ⟨z15_⟩, ⟨cb_⟩⟩
    ·have c16b1 : decide (0 < l0_1.length) = false := decide_eq_false (by have := of_decide_eq_false c16b0; omega)
     (first | rw [c16b0] | rw [c16b1] | (simp only [i64_w, i32_w]; first | rw [c16b0] | rw [c16b1]) | rw [c16b2] | skip)
     replace H := bi_ H; obtain ⟨t213, A18, H⟩ := H
     replace H := kb_ H; rcases H with ⟨rfl, H⟩ | ⟨rfl, H⟩
     ·replace H := ke_ H; rcases H with ⟨c20b0, c20b1, H⟩ | ⟨c20, c20b0, c20b1, H⟩
      ·have H' := q_ H
       clear H
       obtain ⟨hz_, hz_, hz_, hz_, hz_, hz_, hz_, hz_, hz_, hz_⟩ := cs5_ BK211.out
       go_wp2_with (first | (go_at_call 97; (with_reducible refine (spec_l1In.calls (l0_3.length : Int) 2 4 true _ A18.out).mono ?_); rintro e w' ⟨rfl, ⟨nd, rfl⟩⟩))
       go_meet
       case rel => exact ⟨_, (decide ((l0_4.length : Int) > 6)), z4_, H', ⟨z34_⟩, ⟨z15_⟩, ⟨cb_⟩⟩
      ·have H' := q_ H
       clear H
       obtain ⟨hz_, hz_, hz_, hz_, hz_, hz_, hz_, hz_, hz_, hz_⟩ := cs5_ BK211.out
       go_wp2_with (first | (go_at_call 97; (with_reducible refine (spec_l1In.calls (l0_3.length : Int) 2 4 true _ A18.out).mono ?_); rintro e w' ⟨rfl, ⟨nd, rfl⟩⟩))
       go_meet
       case rel => exact ⟨_, (true), z4_, H', ⟨z34_⟩, ⟨z15_⟩, ⟨cb_⟩⟩
     ·have H' := q_ H
      clear H
      obtain ⟨hz_, hz_, hz_, hz_, hz_, hz_, hz_, hz_, hz_, hz_⟩ := cs5_ BK211.out
      go_wp2_with (first | (go_at_call 97; (with_reducible refine (spec_l1In.calls (l0_3.length : Int) 2 4 false _ A18.out).mono ?_); rintro e w' ⟨rfl, ⟨nd, rfl⟩⟩))
      go_meet
      case rel => exact ⟨_, (true), z4_, H', ⟨z34_⟩, ⟨z15_⟩, ⟨cb_⟩⟩
   case rest =>
    clear HC14
    try clear c1
    try clear c2
    try clear p2
    try clear c5
    try clear p6
    try clear c7
    try clear c7b0
    try clear c7b1
    try clear c7b2
    try clear c9
    try clear c10
    try clear c16
    try clear c16b0
    try clear c16b1
    try clear c16b2
    try clear c19
    try clear c20
    try clear c20b0
    try clear c20b1
    repeat clear hz_
    obtain ⟨kq, x49_13, rfl, HA, HJ13, BK211, HB⟩ := hcut
    obtain ⟨kj13, rfl, H⟩ := rn_ (k := kq) HA (by rintro rfl; simp only [spec_l2Depth.j0])
    clear HA
    simp only [spec_l2Depth.j0] at H
    replace H := kb_ H; rcases H with ⟨rfl, H⟩ | ⟨rfl, H⟩
    ·obtain rfl := si_ H
     go_wp2
     go_ret
     exact ⟨z2_, cb_⟩
    ·have H' := q_ H
     clear H
     go_wp2
     go_loopg [10] kj13 (fun kq v10 w' => ∃ (x10_2 : Int), v10 = .int .i64 x10_2 ∧ Aside0 (spec_l2Depth.l0 kq a1 a2 a3 (l0_3.length : Int) x10_2 false l0_1 l0_2 l0_3 l0_4 = some r) ∧ Aside0 (kq ≤ kj13) ∧ Aside0 (w'.heap[gb211]? = some (.cells #[.bool false, (.slice A0_1 l0_1.length c0_1), (.slice A0_2 l0_2.length c0_2), (.slice A0_3 l0_3.length c0_3), (.slice A0_4 l0_4.length c0_4)] 34 (0, 0))) ∧ Aside0 (Below w.heap.size w w'))
     case atStart => exact ⟨(0), z4_, H', ⟨Nat.le_refl _⟩, ⟨z15_⟩, ⟨cb_⟩⟩
     case round =>
      clear H'
      try clear c1
      try clear c2
      try clear p2
      try clear c5
      try clear p6
      try clear c7
      try clear c7b0
      try clear c7b1
      try clear c7b2
      try clear c9
      try clear c10
      try clear c16
      try clear c16b0
      try clear c16b1
      try clear c16b2
      try clear c19
      try clear c20
      try clear c20b0
      try clear c20b1
      try clear c24
      repeat clear hz_
      try clear p2
      try clear p6
      obtain ⟨x10_2, rfl, HA, HK2, BK211, HB⟩ := hrel
      obtain ⟨k2, rfl, H⟩ := rn_ (k := gk) HA (by rintro rfl; simp only [spec_l2Depth.l0])
      clear HA
      simp only [spec_l2Depth.l0] at H
      have HC25 := q_ H
      clear H
      obtain ⟨hz_, hz_, hz_, hz_, hz_, hz_, hz_, hz_, hz_, hz_⟩ := cs5_ BK211.out
      go_upto_if 54 with (fail)
      have H := HC25.out
      clear HC25
      replace H := kd_ H; rcases H with ⟨c27b0, H⟩ | ⟨c27b0, H⟩
      ·(first | rw [c27b0] | rw [c27b1] | (simp only [i64_w, i32_w]; first | rw [c27b0] | rw [c27b1]) | rw [c27b2] | skip)
       replace H := kdn_ H; obtain ⟨c28b0, H⟩ := H
       replace H := bi_ H; obtain ⟨t215, A29, H⟩ := H
       replace H := kb_ H; rcases H with ⟨rfl, H⟩ | ⟨rfl, H⟩
       ·replace H := ke_ H; rcases H with ⟨c31b0, c31b1, H⟩ | ⟨c31, c31b0, c31b1, H⟩
        ·obtain rfl := si_ H
         obtain ⟨hz_, hz_, hz_, hz_, hz_, hz_, hz_, hz_, hz_, hz_⟩ := cs5_ BK211.out
         have p214 : 0 ≤ (x10_2 : Int) := of_decide_eq_true z1_
         have q214 : x10_2 < (l0_4.length : Int) := of_decide_eq_true z1_
         obtain ⟨ad214, e214, hx214_0, hx214_1, hx214_2⟩ := at_T72 HR0_4.out x10_2 p214 q214
         cases e214
         replace hx214_0 := up_ HB hx214_0
         replace hx214_1 := up_ HB hx214_1
         replace hx214_2 := up_ HB hx214_2
         replace p214 := eq_true p214
         replace q214 := eq_true q214
         go_wp2_with (first | ((with_reducible refine gate_callee (f := 98) rfl ?_); refine goesL_ (some 62) rfl rfl Try.func98 (by kernel_rfl) rfl #[.agg #[.int .i64 ((rd_T72 l0_4 x10_2).f0), .int .i64 ((rd_T72 l0_4 x10_2).f1), .int .i64 ((rd_T72 l0_4 x10_2).f2)]] rfl z0_ ?_; (with_reducible refine (spec_MsgOk.calls ((rd_T72 l0_4 x10_2).f0) ((rd_T72 l0_4 x10_2).f1) ((rd_T72 l0_4 x10_2).f2) true _ A29.out).mono ?_); rintro e w33 ⟨rfl, hb⟩; refine ⟨_, rfl, ?_⟩; replace BK211 := rb_ BK211 hb; replace HB := hb_ hb; (try clear hb); (try clear hb2); (try clear hk); (try clear hi); obtain ⟨hz_, hz_, hz_, hz_, hz_, hz_, hz_, hz_, hz_, hz_⟩ := cs5_ BK211.out; have p216 : 0 ≤ (x10_2 : Int) := of_decide_eq_true z1_; have q216 : x10_2 < (l0_4.length : Int) := of_decide_eq_true z1_; obtain ⟨ad216, e216, hx216_0, hx216_1, hx216_2⟩ := at_T72 HR0_4.out x10_2 p216 q216; obtain rfl : ad214 = ad216 := (by injection e216); replace hx216_0 := up_ HB hx216_0; replace hx216_1 := up_ HB hx216_1; replace hx216_2 := up_ HB hx216_2; replace p216 := eq_true p216; replace q216 := eq_true q216))
         go_ret
         exact ⟨z2_, cb_⟩
        ·replace H := bi_ H; obtain ⟨t218, A35, H⟩ := H
         have HC36 := q_ H
         clear H
         obtain ⟨hz_, hz_, hz_, hz_, hz_, hz_, hz_, hz_, hz_, hz_⟩ := cs5_ BK211.out
         have p214 : 0 ≤ (x10_2 : Int) := of_decide_eq_true z1_
         have q214 : x10_2 < (l0_4.length : Int) := of_decide_eq_true z1_
         obtain ⟨ad214, e214, hx214_0, hx214_1, hx214_2⟩ := at_T72 HR0_4.out x10_2 p214 q214
         cases e214
         replace hx214_0 := up_ HB hx214_0
         replace hx214_1 := up_ HB hx214_1
         replace hx214_2 := up_ HB hx214_2
         replace p214 := eq_true p214
         replace q214 := eq_true q214
         go_upto_if 85 with (first | ((with_reducible refine gate_callee (f := 98) rfl ?_); refine goesL_ (some 62) rfl rfl Try.func98 (by kernel_rfl) rfl #[.agg #[.int .i64 ((rd_T72 l0_4 x10_2).f0), .int .i64 ((rd_T72 l0_4 x10_2).f1), .int .i64 ((rd_T72 l0_4 x10_2).f2)]] rfl z0_ ?_; (with_reducible refine (spec_MsgOk.calls ((rd_T72 l0_4 x10_2).f0) ((rd_T72 l0_4 x10_2).f1) ((rd_T72 l0_4 x10_2).f2) true _ A29.out).mono ?_); rintro e w38 ⟨rfl, hb⟩; refine ⟨_, rfl, ?_⟩; replace BK211 := rb_ BK211 hb; replace HB := hb_ hb; (try clear hb); (try clear hb2); (try clear hk); (try clear hi); obtain ⟨hz_, hz_, hz_, hz_, hz_, hz_, hz_, hz_, hz_, hz_⟩ := cs5_ BK211.out; have p216 : 0 ≤ (x10_2 : Int) := of_decide_eq_true z1_; have q216 : x10_2 < (l0_4.length : Int) := of_decide_eq_true z1_; obtain ⟨ad216, e216, hx216_0, hx216_1, hx216_2⟩ := at_T72 HR0_4.out x10_2 p216 q216; obtain rfl : ad214 = ad216 := (by injection e216); replace hx216_0 := up_ HB hx216_0; replace hx216_1 := up_ HB hx216_1; replace hx216_2 := up_ HB hx216_2; replace p216 := eq_true p216; replace q216 := eq_true q216; have p217 : 0 ≤ (x10_2 : Int) := of_decide_eq_true z1_; have q217 : x10_2 < (l0_4.length : Int) := of_decide_eq_true z1_; obtain ⟨ad217, e217, hx217_0, hx217_1, hx217_2⟩ := at_T72 HR0_4.out x10_2 p217 q217; obtain rfl : ad214 = ad217 := (by injection e217); replace hx217_0 := up_ HB hx217_0; replace hx217_1 := up_ HB hx217_1; replace hx217_2 := up_ HB hx217_2; replace p217 := eq_true p217; replace q217 := eq_true q217) | (go_at_call 97; (with_reducible refine (spec_l1In.calls ((rd_T72 l0_4 x10_2).f1) a1 (wrap64 (a2 - 1)) t218 _ A35.out).mono ?_); rintro e w' ⟨rfl, ⟨nd, rfl⟩⟩))
         (try simp only [Act.put, List.setIfInBounds_toArray, List.set_cons_zero, List.set_cons_succ])
         have H := HC36.out
         clear HC36
         replace H := kb_ H; rcases H with ⟨rfl, H⟩ | ⟨rfl, H⟩
         ·have H' := q_ H
          clear H
          go_wp2
          go_roundg k2
          case measure => have := HJ13.out; have := HK2.out; omega
          case rel => exact ⟨(wrap64 (x10_2 + 1)), z4_, H', ⟨by have := HJ13.out; have := HK2.out; omega⟩, ⟨z15_⟩, ⟨cb_⟩⟩
         ·obtain rfl := si_ H
          go_wp2
          go_ret
          exact ⟨z2_, cb_⟩
       ·obtain rfl := si_ H
        obtain ⟨hz_, hz_, hz_, hz_, hz_, hz_, hz_, hz_, hz_, hz_⟩ := cs5_ BK211.out
        have p214 : 0 ≤ (x10_2 : Int) := of_decide_eq_true z1_
        have q214 : x10_2 < (l0_4.length : Int) := of_decide_eq_true z1_
        obtain ⟨ad214, e214, hx214_0, hx214_1, hx214_2⟩ := at_T72 HR0_4.out x10_2 p214 q214
        cases e214
        replace hx214_0 := up_ HB hx214_0
        replace hx214_1 := up_ HB hx214_1
        replace hx214_2 := up_ HB hx214_2
        replace p214 := eq_true p214
        replace q214 := eq_true q214
        go_wp2_with (first | ((with_reducible refine gate_callee (f := 98) rfl ?_); refine goesL_ (some 62) rfl rfl Try.func98 (by kernel_rfl) rfl #[.agg #[.int .i64 ((rd_T72 l0_4 x10_2).f0), .int .i64 ((rd_T72 l0_4 x10_2).f1), .int .i64 ((rd_T72 l0_4 x10_2).f2)]] rfl z0_ ?_; (with_reducible refine (spec_MsgOk.calls ((rd_T72 l0_4 x10_2).f0) ((rd_T72 l0_4 x10_2).f1) ((rd_T72 l0_4 x10_2).f2) false _ A29.out).mono ?_); rintro e w42 ⟨rfl, hb⟩; refine ⟨_, rfl, ?_⟩; replace HB := hb_ hb; (try clear hb); (try clear hb2); (try clear hk); (try clear hi)))
        go_ret
        exact ⟨z2_, cb_⟩
      ·(first | rw [c27b0] | rw [c27b1] | (simp only [i64_w, i32_w]; first | rw [c27b0] | rw [c27b1]) | rw [c27b2] | skip)
       have H' := q_ H
       clear H
       go_wp2
       go_loopg [11, 12, 13] k2 (fun kq v11 v12 v13 w' => ∃ (x11_3 : Int) (x12_3 : Int) (x13_3 : Int), v11 = .int .i64 x11_3 ∧ v12 = .int .i64 x12_3 ∧ v13 = .int .i64 x13_3 ∧ Aside0 (spec_l2Depth.l1 kq a2 a3 (l0_3.length : Int) x11_3 x12_3 x13_3 false l0_1 l0_2 l0_3 l0_4 = some r) ∧ Aside0 (kq ≤ k2) ∧ Aside0 (w'.heap[gb211]? = some (.cells #[.bool false, (.slice A0_1 l0_1.length c0_1), (.slice A0_2 l0_2.length c0_2), (.slice A0_3 l0_3.length c0_3), (.slice A0_4 l0_4.length c0_4)] 34 (0, 0))) ∧ Aside0 (Below w.heap.size w w'))
       case atStart => exact ⟨(0), (a1), (0), z4_, z4_, z4_, H', ⟨Nat.le_refl _⟩, ⟨z15_⟩, ⟨cb_⟩⟩
       case round =>
        clear H'
        try clear c1
        try clear c2
        try clear p2
        try clear q2
        try clear hx2
        try clear c3
        try clear c4
        try clear c5
        try clear p6
        try clear c7
        try clear c7b0
        try clear c7b1
        try clear c7b2
        try clear c9
        try clear c10
        try clear c16
        try clear c16b0
        try clear c16b1
        try clear c16b2
        try clear c19
        try clear c20
        try clear c20b0
        try clear c20b1
        try clear p21
        try clear q21
        try clear hx21
        try clear c24
        try clear c27
        try clear c27b0
        try clear c27b1
        try clear c27b2
        try clear c28
        try clear c28b0
        try clear c30
        try clear c31
        try clear c31b0
        try clear c31b1
        try clear c40
        repeat clear hz_
        try clear hx214_0
        try clear hx214_1
        try clear hx214_2
        try clear hx216_0
        try clear hx216_1
        try clear hx216_2
        try clear hx217_0
        try clear hx217_1
        try clear hx217_2
        try clear p2
        try clear p214
        try clear p216
        try clear p217
        try clear p6
        try clear q214
        try clear q216
        try clear q217
        obtain ⟨x11_3, x12_3, x13_3, rfl, rfl, rfl, HA, HK3, BK211, HB⟩ := hrel
        obtain ⟨k3, rfl, H⟩ := rn_ (k := gk) HA (by rintro rfl; simp only [spec_l2Depth.l1])
        clear HA
        simp only [spec_l2Depth.l1] at H
        replace H := kd_ H; rcases H with ⟨c43b0, H⟩ | ⟨c43b0, H⟩
        ·replace H := kd_ H; rcases H with ⟨c44b0, H⟩ | ⟨c44b0, H⟩
         ·replace H := kdn_ H; obtain ⟨c45b0, H⟩ := H
          replace H := kdn_ H; obtain ⟨c46b0, H⟩ := H
          replace H := bi_ H; obtain ⟨t220, A47, H⟩ := H
          have HC48 := q_ H
          clear H
          obtain ⟨hz_, hz_, hz_, hz_, hz_, hz_, hz_, hz_, hz_, hz_⟩ := cs5_ BK211.out
          have p219 : 0 ≤ (x13_3 : Int) := of_decide_eq_true z1_
          have q219 : x13_3 < (l0_2.length : Int) := of_decide_eq_true z1_
          obtain ⟨ad219, e219, hx219_0⟩ := Kd.at_int HR0_2.out x13_3 p219 q219
          cases e219
          replace hx219_0 := up_ HB hx219_0
          replace p219 := eq_true p219
          replace q219 := eq_true q219
          go_upto_if 108 with (first | ((with_reducible refine gate_callee (f := 97) rfl ?_); refine goesL_ (some 107) rfl rfl Try.func97 (by kernel_rfl) rfl #[.int .i64 (rd l0_2 x13_3), .int .i64 (wrap64 (x12_3 + 1)), .int .i64 (wrap64 (a2 - 1))] rfl z0_ ?_; (with_reducible refine (spec_l1In.calls (rd l0_2 x13_3) (wrap64 (x12_3 + 1)) (wrap64 (a2 - 1)) t220 _ A47.out).mono ?_); rintro e w' ⟨rfl, ⟨nd, rfl⟩⟩; refine ⟨_, rfl, ?_⟩))
          (try simp only [Act.put, List.setIfInBounds_toArray, List.set_cons_zero, List.set_cons_succ])
          have H := HC48.out
          clear HC48
          replace H := kb_ H; rcases H with ⟨rfl, H⟩ | ⟨rfl, H⟩
          ·replace H := kdn_ H; obtain ⟨c51b0, H⟩ := H
           (first | rw [c51b0] | rw [c51b1] | (simp only [i64_w, i32_w]; first | rw [c51b0] | rw [c51b1]) | rw [c51b2] | skip)
           replace H := bi_ H; obtain ⟨t222, A52, H⟩ := H
           replace H := ke_ H; rcases H with ⟨c53b0, c53b1, H⟩ | ⟨c53, c53b0, c53b1, H⟩
           ·obtain rfl := si_ H
            obtain ⟨hz_, hz_, hz_, hz_, hz_, hz_, hz_, hz_, hz_, hz_⟩ := cs5_ BK211.out
            have p221 : 0 ≤ (x13_3 : Int) := of_decide_eq_true z1_
            have q221 : x13_3 < (l0_3.length : Int) := of_decide_eq_true z1_
            obtain ⟨ad221, A221_1, c221_1, A221_2, c221_2, A221_3, c221_3, A221_4, c221_4, e221, hx221_0, hx221_1, hx221_2, hx221_3, hx221_4, hl221_1, hi221_1, hl221_2, hi221_2, hl221_3, hi221_3, hl221_4, hi221_4⟩ := at_T34 HR0_3.out x13_3 p221 q221
            cases e221
            replace hx221_0 := up_ HB hx221_0
            replace hx221_1 := up_ HB hx221_1
            replace hx221_2 := up_ HB hx221_2
            replace hx221_3 := up_ HB hx221_3
            replace hx221_4 := up_ HB hx221_4
            have HR221_1 := q_ hi221_1
            have HC221_1 := q_ hl221_1
            clear hi221_1 hl221_1
            have HR221_2 := q_ hi221_2
            have HC221_2 := q_ hl221_2
            clear hi221_2 hl221_2
            have HR221_3 := q_ hi221_3
            have HC221_3 := q_ hl221_3
            clear hi221_3 hl221_3
            have HR221_4 := q_ hi221_4
            have HC221_4 := q_ hl221_4
            clear hi221_4 hl221_4
            replace p221 := eq_true p221
            replace q221 := eq_true q221
            go_wp2_with (first | ((with_reducible refine gate_callee (f := 59) rfl ?_); refine goesL_ (some 118) rfl rfl Try.func59 (by kernel_rfl) rfl #[.agg #[.bool ((rd_T34 l0_3 x13_3).f0), .slice A221_1 ((rd_T34 l0_3 x13_3).f1).length c221_1, .slice A221_2 ((rd_T34 l0_3 x13_3).f2).length c221_2, .slice A221_3 ((rd_T34 l0_3 x13_3).f3).length c221_3, .slice A221_4 ((rd_T34 l0_3 x13_3).f4).length c221_4], .int .i64 x12_3, .int .i64 (rd l0_2 x13_3), .int .i64 (wrap64 (a3 - 1))] rfl z0_ ?_; (with_reducible refine (ih k3 z44_ ((rd_T34 l0_3 x13_3).f0) _ _ ((rd_T34 l0_3 x13_3).f1) _ _ ((rd_T34 l0_3 x13_3).f2) _ _ ((rd_T34 l0_3 x13_3).f3) _ _ ((rd_T34 l0_3 x13_3).f4) x12_3 (rd l0_2 x13_3) (wrap64 (a3 - 1)) t222 _ ?side1 ?side2 ?side3 ?side4 ?side5 ?side6 ?side7 ?side8 A52.out).mono ?_); (case side1 => exact z108_); (case side2 => exact HC221_1.out); (case side3 => exact z109_); (case side4 => exact HC221_2.out); (case side5 => exact z110_); (case side6 => exact HC221_3.out); (case side7 => exact z111_); (case side8 => exact HC221_4.out); rintro e w55 ⟨rfl, hb⟩; refine ⟨_, rfl, ?_⟩; replace HB := hb_ hb; (try clear hb); (try clear hb2); (try clear hk); (try clear hi)))
            go_ret
            exact ⟨z2_, cb_⟩
           ·replace H := kg_ H; rcases H with ⟨c56b0, H⟩ | ⟨c56b0, H⟩
            ·have HC57 := q_ H
             clear H
             obtain ⟨hz_, hz_, hz_, hz_, hz_, hz_, hz_, hz_, hz_, hz_⟩ := cs5_ BK211.out
             have p221 : 0 ≤ (x13_3 : Int) := of_decide_eq_true z1_
             have q221 : x13_3 < (l0_3.length : Int) := of_decide_eq_true z1_
             obtain ⟨ad221, A221_1, c221_1, A221_2, c221_2, A221_3, c221_3, A221_4, c221_4, e221, hx221_0, hx221_1, hx221_2, hx221_3, hx221_4, hl221_1, hi221_1, hl221_2, hi221_2, hl221_3, hi221_3, hl221_4, hi221_4⟩ := at_T34 HR0_3.out x13_3 p221 q221
             cases e221
             replace hx221_0 := up_ HB hx221_0
             replace hx221_1 := up_ HB hx221_1
             replace hx221_2 := up_ HB hx221_2
             replace hx221_3 := up_ HB hx221_3
             replace hx221_4 := up_ HB hx221_4
             have HR221_1 := q_ hi221_1
             have HC221_1 := q_ hl221_1
             clear hi221_1 hl221_1
             have HR221_2 := q_ hi221_2
             have HC221_2 := q_ hl221_2
             clear hi221_2 hl221_2
             have HR221_3 := q_ hi221_3
             have HC221_3 := q_ hl221_3
             clear hi221_3 hl221_3
             have HR221_4 := q_ hi221_4
             have HC221_4 := q_ hl221_4
             clear hi221_4 hl221_4
             replace p221 := eq_true p221
             replace q221 := eq_true q221
             go_upto_if 129 with (first | ((with_reducible refine gate_callee (f := 59) rfl ?_); refine goesL_ (some 118) rfl rfl Try.func59 (by kernel_rfl) rfl #[.agg #[.bool ((rd_T34 l0_3 x13_3).f0), .slice A221_1 ((rd_T34 l0_3 x13_3).f1).length c221_1, .slice A221_2 ((rd_T34 l0_3 x13_3).f2).length c221_2, .slice A221_3 ((rd_T34 l0_3 x13_3).f3).length c221_3, .slice A221_4 ((rd_T34 l0_3 x13_3).f4).length c221_4], .int .i64 x12_3, .int .i64 (rd l0_2 x13_3), .int .i64 (wrap64 (a3 - 1))] rfl z0_ ?_; (with_reducible refine (ih k3 z44_ ((rd_T34 l0_3 x13_3).f0) _ _ ((rd_T34 l0_3 x13_3).f1) _ _ ((rd_T34 l0_3 x13_3).f2) _ _ ((rd_T34 l0_3 x13_3).f3) _ _ ((rd_T34 l0_3 x13_3).f4) x12_3 (rd l0_2 x13_3) (wrap64 (a3 - 1)) t222 _ ?side1 ?side2 ?side3 ?side4 ?side5 ?side6 ?side7 ?side8 A52.out).mono ?_); (case side1 => exact z108_); (case side2 => exact HC221_1.out); (case side3 => exact z109_); (case side4 => exact HC221_2.out); (case side5 => exact z110_); (case side6 => exact HC221_3.out); (case side7 => exact z111_); (case side8 => exact HC221_4.out); rintro e w59 ⟨rfl, hb⟩; refine ⟨_, rfl, ?_⟩; replace BK211 := rb_ BK211 hb; replace HB := hb_ hb; (try clear hb); (try clear hb2); (try clear hk); (try clear hi)))
             (try simp only [Act.put, List.setIfInBounds_toArray, List.set_cons_zero, List.set_cons_succ])
             have H := HC57.out
             clear HC57
             replace H := ke_ H; rcases H with ⟨c60b0, c60b1, H⟩ | ⟨c60, c60b0, c60b1, H⟩
             ·(first | rw [c60b0] | rw [c60b1] | (simp only [i64_w, i32_w]; first | rw [c60b0] | rw [c60b1]) | rw [c60b2] | skip)
              have H' := q_ H
              clear H
              go_wp2
              go_roundg k3
              case measure => have := HJ13.out; have := HK2.out; have := HK3.out; omega
              case rel => exact ⟨(t222), (rd l0_2 x13_3), (wrap64 (x13_3 + 1)), z4_, z4_, z4_, H', ⟨z44_⟩, ⟨z15_⟩, ⟨cb_⟩⟩
             ·(first | rw [c60b0] | rw [c60b1] | (simp only [i64_w, i32_w]; first | rw [c60b0] | rw [c60b1]) | rw [c60b2] | skip)
              obtain rfl := si_ H
              go_wp2
              go_ret
              exact ⟨z2_, cb_⟩
            ·have H' := q_ H
             clear H
             obtain ⟨hz_, hz_, hz_, hz_, hz_, hz_, hz_, hz_, hz_, hz_⟩ := cs5_ BK211.out
             have p221 : 0 ≤ (x13_3 : Int) := of_decide_eq_true z1_
             have q221 : x13_3 < (l0_3.length : Int) := of_decide_eq_true z1_
             obtain ⟨ad221, A221_1, c221_1, A221_2, c221_2, A221_3, c221_3, A221_4, c221_4, e221, hx221_0, hx221_1, hx221_2, hx221_3, hx221_4, hl221_1, hi221_1, hl221_2, hi221_2, hl221_3, hi221_3, hl221_4, hi221_4⟩ := at_T34 HR0_3.out x13_3 p221 q221
             cases e221
             replace hx221_0 := up_ HB hx221_0
             replace hx221_1 := up_ HB hx221_1
             replace hx221_2 := up_ HB hx221_2
             replace hx221_3 := up_ HB hx221_3
             replace hx221_4 := up_ HB hx221_4
             have HR221_1 := q_ hi221_1
             have HC221_1 := q_ hl221_1
             clear hi221_1 hl221_1
             have HR221_2 := q_ hi221_2
             have HC221_2 := q_ hl221_2
             clear hi221_2 hl221_2
             have HR221_3 := q_ hi221_3
             have HC221_3 := q_ hl221_3
             clear hi221_3 hl221_3
             have HR221_4 := q_ hi221_4
             have HC221_4 := q_ hl221_4
             clear hi221_4 hl221_4
             replace p221 := eq_true p221
             replace q221 := eq_true q221
             go_wp2_with (first | ((with_reducible refine gate_callee (f := 59) rfl ?_); refine goesL_ (some 118) rfl rfl Try.func59 (by kernel_rfl) rfl #[.agg #[.bool ((rd_T34 l0_3 x13_3).f0), .slice A221_1 ((rd_T34 l0_3 x13_3).f1).length c221_1, .slice A221_2 ((rd_T34 l0_3 x13_3).f2).length c221_2, .slice A221_3 ((rd_T34 l0_3 x13_3).f3).length c221_3, .slice A221_4 ((rd_T34 l0_3 x13_3).f4).length c221_4], .int .i64 x12_3, .int .i64 (rd l0_2 x13_3), .int .i64 (wrap64 (a3 - 1))] rfl z0_ ?_; (with_reducible refine (ih k3 z44_ ((rd_T34 l0_3 x13_3).f0) _ _ ((rd_T34 l0_3 x13_3).f1) _ _ ((rd_T34 l0_3 x13_3).f2) _ _ ((rd_T34 l0_3 x13_3).f3) _ _ ((rd_T34 l0_3 x13_3).f4) x12_3 (rd l0_2 x13_3) (wrap64 (a3 - 1)) t222 _ ?side1 ?side2 ?side3 ?side4 ?side5 ?side6 ?side7 ?side8 A52.out).mono ?_); (case side1 => exact z108_); (case side2 => exact HC221_1.out); (case side3 => exact z109_); (case side4 => exact HC221_2.out); (case side5 => exact z110_); (case side6 => exact HC221_3.out); (case side7 => exact z111_); (case side8 => exact HC221_4.out); rintro e w62 ⟨rfl, hb⟩; refine ⟨_, rfl, ?_⟩; replace BK211 := rb_ BK211 hb; replace HB := hb_ hb; (try clear hb); (try clear hb2); (try clear hk); (try clear hi)))
             go_roundg k3
             case measure => have := HJ13.out; have := HK2.out; have := HK3.out; omega
             case rel => exact ⟨(t222), (rd l0_2 x13_3), (wrap64 (x13_3 + 1)), z4_, z4_, z4_, H', ⟨z44_⟩, ⟨z15_⟩, ⟨cb_⟩⟩
          ·obtain rfl := si_ H
           go_wp2
           go_ret
           exact ⟨z2_, cb_⟩
         ·replace H := kdn_ H; obtain ⟨c63b0, H⟩ := H
          replace H := kdn_ H; obtain ⟨c64b0, H⟩ := H
          replace H := bi_ H; obtain ⟨t224, A65, H⟩ := H
          replace H := ke_ H; rcases H with ⟨c66b0, c66b1, H⟩ | ⟨c66, c66b0, c66b1, H⟩
          ·obtain rfl := si_ H
           obtain ⟨hz_, hz_, hz_, hz_, hz_, hz_, hz_, hz_, hz_, hz_⟩ := cs5_ BK211.out
           have p223 : 0 ≤ (x13_3 : Int) := of_decide_eq_true z1_
           have q223 : x13_3 < (l0_3.length : Int) := of_decide_eq_true z1_
           obtain ⟨ad223, A223_1, c223_1, A223_2, c223_2, A223_3, c223_3, A223_4, c223_4, e223, hx223_0, hx223_1, hx223_2, hx223_3, hx223_4, hl223_1, hi223_1, hl223_2, hi223_2, hl223_3, hi223_3, hl223_4, hi223_4⟩ := at_T34 HR0_3.out x13_3 p223 q223
           cases e223
           replace hx223_0 := up_ HB hx223_0
           replace hx223_1 := up_ HB hx223_1
           replace hx223_2 := up_ HB hx223_2
           replace hx223_3 := up_ HB hx223_3
           replace hx223_4 := up_ HB hx223_4
           have HR223_1 := q_ hi223_1
           have HC223_1 := q_ hl223_1
           clear hi223_1 hl223_1
           have HR223_2 := q_ hi223_2
           have HC223_2 := q_ hl223_2
           clear hi223_2 hl223_2
           have HR223_3 := q_ hi223_3
           have HC223_3 := q_ hl223_3
           clear hi223_3 hl223_3
           have HR223_4 := q_ hi223_4
           have HC223_4 := q_ hl223_4
           clear hi223_4 hl223_4
           replace p223 := eq_true p223
           replace q223 := eq_true q223
           go_wp2_with (first | ((with_reducible refine gate_callee (f := 59) rfl ?_); refine goesL_ (some 118) rfl rfl Try.func59 (by kernel_rfl) rfl #[.agg #[.bool ((rd_T34 l0_3 x13_3).f0), .slice A223_1 ((rd_T34 l0_3 x13_3).f1).length c223_1, .slice A223_2 ((rd_T34 l0_3 x13_3).f2).length c223_2, .slice A223_3 ((rd_T34 l0_3 x13_3).f3).length c223_3, .slice A223_4 ((rd_T34 l0_3 x13_3).f4).length c223_4], .int .i64 x12_3, .int .i64 a2, .int .i64 (wrap64 (a3 - 1))] rfl z0_ ?_; (with_reducible refine (ih k3 z44_ ((rd_T34 l0_3 x13_3).f0) _ _ ((rd_T34 l0_3 x13_3).f1) _ _ ((rd_T34 l0_3 x13_3).f2) _ _ ((rd_T34 l0_3 x13_3).f3) _ _ ((rd_T34 l0_3 x13_3).f4) x12_3 a2 (wrap64 (a3 - 1)) t224 _ ?side1 ?side2 ?side3 ?side4 ?side5 ?side6 ?side7 ?side8 A65.out).mono ?_); (case side1 => exact z100_); (case side2 => exact HC223_1.out); (case side3 => exact z101_); (case side4 => exact HC223_2.out); (case side5 => exact z102_); (case side6 => exact HC223_3.out); (case side7 => exact z103_); (case side8 => exact HC223_4.out); rintro e w68 ⟨rfl, hb⟩; refine ⟨_, rfl, ?_⟩; replace HB := hb_ hb; (try clear hb); (try clear hb2); (try clear hk); (try clear hi)))
           go_ret
           exact ⟨z2_, cb_⟩
          ·replace H := kg_ H; rcases H with ⟨c69b0, H⟩ | ⟨c69b0, H⟩
           ·have HC70 := q_ H
            clear H
            obtain ⟨hz_, hz_, hz_, hz_, hz_, hz_, hz_, hz_, hz_, hz_⟩ := cs5_ BK211.out
            have p223 : 0 ≤ (x13_3 : Int) := of_decide_eq_true z1_
            have q223 : x13_3 < (l0_3.length : Int) := of_decide_eq_true z1_
            obtain ⟨ad223, A223_1, c223_1, A223_2, c223_2, A223_3, c223_3, A223_4, c223_4, e223, hx223_0, hx223_1, hx223_2, hx223_3, hx223_4, hl223_1, hi223_1, hl223_2, hi223_2, hl223_3, hi223_3, hl223_4, hi223_4⟩ := at_T34 HR0_3.out x13_3 p223 q223
            cases e223
            replace hx223_0 := up_ HB hx223_0
            replace hx223_1 := up_ HB hx223_1
            replace hx223_2 := up_ HB hx223_2
            replace hx223_3 := up_ HB hx223_3
            replace hx223_4 := up_ HB hx223_4
            have HR223_1 := q_ hi223_1
            have HC223_1 := q_ hl223_1
            clear hi223_1 hl223_1
            have HR223_2 := q_ hi223_2
            have HC223_2 := q_ hl223_2
            clear hi223_2 hl223_2
            have HR223_3 := q_ hi223_3
            have HC223_3 := q_ hl223_3
            clear hi223_3 hl223_3
            have HR223_4 := q_ hi223_4
            have HC223_4 := q_ hl223_4
            clear hi223_4 hl223_4
            replace p223 := eq_true p223
            replace q223 := eq_true q223
            go_upto_if 129 with (first | ((with_reducible refine gate_callee (f := 59) rfl ?_); refine goesL_ (some 118) rfl rfl Try.func59 (by kernel_rfl) rfl #[.agg #[.bool ((rd_T34 l0_3 x13_3).f0), .slice A223_1 ((rd_T34 l0_3 x13_3).f1).length c223_1, .slice A223_2 ((rd_T34 l0_3 x13_3).f2).length c223_2, .slice A223_3 ((rd_T34 l0_3 x13_3).f3).length c223_3, .slice A223_4 ((rd_T34 l0_3 x13_3).f4).length c223_4], .int .i64 x12_3, .int .i64 a2, .int .i64 (wrap64 (a3 - 1))] rfl z0_ ?_; (with_reducible refine (ih k3 z44_ ((rd_T34 l0_3 x13_3).f0) _ _ ((rd_T34 l0_3 x13_3).f1) _ _ ((rd_T34 l0_3 x13_3).f2) _ _ ((rd_T34 l0_3 x13_3).f3) _ _ ((rd_T34 l0_3 x13_3).f4) x12_3 a2 (wrap64 (a3 - 1)) t224 _ ?side1 ?side2 ?side3 ?side4 ?side5 ?side6 ?side7 ?side8 A65.out).mono ?_); (case side1 => exact z100_); (case side2 => exact HC223_1.out); (case side3 => exact z101_); (case side4 => exact HC223_2.out); (case side5 => exact z102_); (case side6 => exact HC223_3.out); (case side7 => exact z103_); (case side8 => exact HC223_4.out); rintro e w72 ⟨rfl, hb⟩; refine ⟨_, rfl, ?_⟩; replace BK211 := rb_ BK211 hb; replace HB := hb_ hb; (try clear hb); (try clear hb2); (try clear hk); (try clear hi)))
            (try simp only [Act.put, List.setIfInBounds_toArray, List.set_cons_zero, List.set_cons_succ])
            have H := HC70.out
            clear HC70
            replace H := ke_ H; rcases H with ⟨c73b0, c73b1, H⟩ | ⟨c73, c73b0, c73b1, H⟩
            ·(first | rw [c73b0] | rw [c73b1] | (simp only [i64_w, i32_w]; first | rw [c73b0] | rw [c73b1]) | rw [c73b2] | skip)
             have H' := q_ H
             clear H
             go_wp2
             go_roundg k3
             case measure => have := HJ13.out; have := HK2.out; have := HK3.out; omega
             case rel => exact ⟨(t224), (a2), (wrap64 (x13_3 + 1)), z4_, z4_, z4_, H', ⟨z44_⟩, ⟨z15_⟩, ⟨cb_⟩⟩
            ·(first | rw [c73b0] | rw [c73b1] | (simp only [i64_w, i32_w]; first | rw [c73b0] | rw [c73b1]) | rw [c73b2] | skip)
             obtain rfl := si_ H
             go_wp2
             go_ret
             exact ⟨z2_, cb_⟩
           ·have H' := q_ H
            clear H
            obtain ⟨hz_, hz_, hz_, hz_, hz_, hz_, hz_, hz_, hz_, hz_⟩ := cs5_ BK211.out
            have p223 : 0 ≤ (x13_3 : Int) := of_decide_eq_true z1_
            have q223 : x13_3 < (l0_3.length : Int) := of_decide_eq_true z1_
            obtain ⟨ad223, A223_1, c223_1, A223_2, c223_2, A223_3, c223_3, A223_4, c223_4, e223, hx223_0, hx223_1, hx223_2, hx223_3, hx223_4, hl223_1, hi223_1, hl223_2, hi223_2, hl223_3, hi223_3, hl223_4, hi223_4⟩ := at_T34 HR0_3.out x13_3 p223 q223
            cases e223
            replace hx223_0 := up_ HB hx223_0
            replace hx223_1 := up_ HB hx223_1
            replace hx223_2 := up_ HB hx223_2
            replace hx223_3 := up_ HB hx223_3
            replace hx223_4 := up_ HB hx223_4
            have HR223_1 := q_ hi223_1
            have HC223_1 := q_ hl223_1
            clear hi223_1 hl223_1
            have HR223_2 := q_ hi223_2
            have HC223_2 := q_ hl223_2
            clear hi223_2 hl223_2
            have HR223_3 := q_ hi223_3
            have HC223_3 := q_ hl223_3
            clear hi223_3 hl223_3
            have HR223_4 := q_ hi223_4
            have HC223_4 := q_ hl223_4
            clear hi223_4 hl223_4
            replace p223 := eq_true p223
            replace q223 := eq_true q223
            go_wp2_with (first | ((with_reducible refine gate_callee (f := 59) rfl ?_); refine goesL_ (some 118) rfl rfl Try.func59 (by kernel_rfl) rfl #[.agg #[.bool ((rd_T34 l0_3 x13_3).f0), .slice A223_1 ((rd_T34 l0_3 x13_3).f1).length c223_1, .slice A223_2 ((rd_T34 l0_3 x13_3).f2).length c223_2, .slice A223_3 ((rd_T34 l0_3 x13_3).f3).length c223_3, .slice A223_4 ((rd_T34 l0_3 x13_3).f4).length c223_4], .int .i64 x12_3, .int .i64 a2, .int .i64 (wrap64 (a3 - 1))] rfl z0_ ?_; (with_reducible refine (ih k3 z44_ ((rd_T34 l0_3 x13_3).f0) _ _ ((rd_T34 l0_3 x13_3).f1) _ _ ((rd_T34 l0_3 x13_3).f2) _ _ ((rd_T34 l0_3 x13_3).f3) _ _ ((rd_T34 l0_3 x13_3).f4) x12_3 a2 (wrap64 (a3 - 1)) t224 _ ?side1 ?side2 ?side3 ?side4 ?side5 ?side6 ?side7 ?side8 A65.out).mono ?_); (case side1 => exact z100_); (case side2 => exact HC223_1.out); (case side3 => exact z101_); (case side4 => exact HC223_2.out); (case side5 => exact z102_); (case side6 => exact HC223_3.out); (case side7 => exact z103_); (case side8 => exact HC223_4.out); rintro e w75 ⟨rfl, hb⟩; refine ⟨_, rfl, ?_⟩; replace BK211 := rb_ BK211 hb; replace HB := hb_ hb; (try clear hb); (try clear hb2); (try clear hk); (try clear hi)))
            go_roundg k3
            case measure => have := HJ13.out; have := HK2.out; have := HK3.out; omega
            case rel => exact ⟨(t224), (a2), (wrap64 (x13_3 + 1)), z4_, z4_, z4_, H', ⟨z44_⟩, ⟨z15_⟩, ⟨cb_⟩⟩
        ·obtain rfl := si_ H
         go_wp2
         go_ret
         exact ⟨z2_, cb_⟩

end Go.Proofs.Ytfnndcpaldkkoaa.PFnExactTreeRange
