-- Written by a program of this session, which goes by the kit's print. Not trusted: Lean checks it.
import Derived.Test.YtfnndcpaldkkoaaPFnExactTreeRangex0
import Derived.Test.YtfnndcpaldkkoaaPFnExactTreeRangex6
import Derived.Test.YtfnndcpaldkkoaaPFnExactTreeRangex7
namespace Go.Proofs.Ytfnndcpaldkkoaa.PFnExactTreeRange
open Go.RowKit Go.Proofs.YtfnndcpaldkkoaaW.PrintWords Go.Proofs.YtfnndcpaldkkoaaW.PrintLast Go.Proofs.YtfnndcpaldkkoaaW.PrintMore
attribute [local go_sem] Instr.field asAgg max2_int min2_int max_two min_two max_three min_three max_four min_four   -- for this text's walks alone
set_option linter.unusedVariables false
set_option linter.unusedSimpArgs false

/-! ### spec_l2Leaf: function 96 -/
mutual
def spec_l2Leaf.j0 : Nat → Int → Int → Bool → Bool → List (S92) → List Int → List (S34) → List (S72) → Option (Int)
 | 0, _, _, _, _, _, _, _, _ => none
 | k + 1, x1, x2, x31, x204000, x204001, x204002, x204003, x204004 => if x31 = true then (some 0) else (spec_l2Leaf.l0 k x1 x2 0 x204000 x204001 x204002 x204003 x204004)
def spec_l2Leaf.l0 : Nat → Int → Int → Int → Bool → List (S92) → List Int → List (S34) → List (S72) → Option (Int)
 | 0, _, _, _, _, _, _, _, _ => none
 | k + 1, x1, x2, x7, x204000, x204001, x204002, x204003, x204004 => if x7 < (x204001.length : Int) then (if 0 ≤ x7 then ((spec_l1In.f ((rd_T92 x204001 x7).f0) x1 (wrap64 (x2 - 1))).bind fun t206 => (if t206 = true then (spec_l2Leaf.l0 k x1 x2 (wrap64 (x7 + 1)) x204000 x204001 x204002 x204003 x204004) else (some 0))) else (none)) else (some 1)
end
def spec_l2Leaf.f (k : Nat) (a0_0 : Bool) (l0_1 : List (S92)) (l0_2 : List Int) (l0_3 : List (S34)) (l0_4 : List (S72)) (a1 : Int) (a2 : Int) : Option (Int) := (spec_MapOk.f k l0_1).bind fun t204 => (if t204 = true then (if (l0_1.length : Int) > 4 then (spec_l2Leaf.j0 k a1 a2 true a0_0 l0_1 l0_2 l0_3 l0_4) else (spec_l2Leaf.j0 k a1 a2 (decide ((wrap64 ((wrap64 ((l0_2.length : Int) + (l0_3.length : Int))) + (l0_4.length : Int))) > 0)) a0_0 l0_1 l0_2 l0_3 l0_4)) else (spec_l2Leaf.j0 k a1 a2 true a0_0 l0_1 l0_2 l0_3 l0_4))
theorem spec_l2Leaf.mono_l : ∀ k, (∀ y0 y1 y2 y3 y4 y5 y6 y7, LeO (spec_l2Leaf.j0 k y0 y1 y2 y3 y4 y5 y6 y7) (spec_l2Leaf.j0 (k + 1) y0 y1 y2 y3 y4 y5 y6 y7)) ∧ (∀ y0 y1 y2 y3 y4 y5 y6 y7, LeO (spec_l2Leaf.l0 k y0 y1 y2 y3 y4 y5 y6 y7) (spec_l2Leaf.l0 (k + 1) y0 y1 y2 y3 y4 y5 y6 y7))
 | 0 => ⟨fun _ _ _ _ _ _ _ _ r h => by simp [spec_l2Leaf.j0] at h, fun _ _ _ _ _ _ _ _ r h => by simp [spec_l2Leaf.l0] at h⟩
 | k + 1 => by
  obtain ⟨ih0, ih1⟩ := spec_l2Leaf.mono_l k
  refine ⟨?_, ?_⟩
  ·intro y0 y1 y2 y3 y4 y5 y6 y7
   unfold spec_l2Leaf.j0
   have m0 := @spec_MapOk.mono
   exact zm_
  ·intro y0 y1 y2 y3 y4 y5 y6 y7
   unfold spec_l2Leaf.l0
   have m0 := @spec_MapOk.mono
   exact zm_
theorem spec_l2Leaf.mono : ∀ a0 a1 a2 a3 a4 a5 a6 k, LeO (spec_l2Leaf.f k a0 a1 a2 a3 a4 a5 a6) (spec_l2Leaf.f (k + 1) a0 a1 a2 a3 a4 a5 a6) := by
 intro a0 a1 a2 a3 a4 a5 a6 k
 obtain ⟨ih0, ih1⟩ := spec_l2Leaf.mono_l k
 unfold spec_l2Leaf.f
 have m0 := @spec_MapOk.mono
 exact zm_
set_option maxHeartbeats 8000000 in
set_option maxRecDepth 100000 in
theorem spec_l2Leaf.calls (k : Nat) (a0_0 : Bool) (A0_1 : Option Addr) (c0_1 : Nat) (l0_1 : List (S92)) (A0_2 : Option Addr) (c0_2 : Nat) (l0_2 : List Int) (A0_3 : Option Addr) (c0_3 : Nat) (l0_3 : List (S34)) (A0_4 : Option Addr) (c0_4 : Nat) (l0_4 : List (S72)) (a1 : Int) (a2 : Int) (r : Int) (w : World) (hr0_1 : Kd.C k92 w A0_1 l0_1.length l0_1) (hc0_1 : l0_1.length ≤ c0_1) (hr0_2 : Kd.C (Kd.int .i64) w A0_2 l0_2.length l0_2) (hc0_2 : l0_2.length ≤ c0_2) (hr0_3 : Kd.C k34 w A0_3 l0_3.length l0_3) (hc0_3 : l0_3.length ≤ c0_3) (hr0_4 : Kd.C k72 w A0_4 l0_4.length l0_4) (hc0_4 : l0_4.length ≤ c0_4) (h : spec_l2Leaf.f k a0_0 l0_1 l0_2 l0_3 l0_4 a1 a2 = some r) :
  Calls Try.prog 96 #[.agg #[.bool a0_0, .slice A0_1 l0_1.length c0_1, .slice A0_2 l0_2.length c0_2, .slice A0_3 l0_3.length c0_3, .slice A0_4 l0_4.length c0_4], .int .i64 a1, .int .i64 a2] w fun e w' => e = .returned (.int .i64 r) ∧ Below w.heap.size w w' := by
 have hu34 := Try.underlying34
 have HR0_1 := q_ hr0_1
 have HC0_1 := q_ hc0_1
 clear hr0_1 hc0_1
 have HR0_2 := q_ hr0_2
 have HC0_2 := q_ hc0_2
 clear hr0_2 hc0_2
 have HR0_3 := q_ hr0_3
 have HC0_3 := q_ hc0_3
 clear hr0_3 hc0_3
 have HR0_4 := q_ hr0_4
 have HC0_4 := q_ hc0_4
 clear hr0_4 hc0_4
 have HB := q_ (Below.refl w.heap.size w)
 have H := h; clear h
 unfold spec_l2Leaf.f at H
 have HC4 := q_ H
 clear H
 go_enter Try.func96, Try.ntmps96
 go_upto_region 1 with (first | ((with_reducible refine gate_dst (N := 3) rfl ?_); (try (refine gate_guard (by rfl) ?_; dsimp only)); refine box_event ?hg (N := 3) ?hd (cs := #[.bool a0_0, .slice A0_1 l0_1.length c0_1, .slice A0_2 l0_2.length c0_2, .slice A0_3 l0_3.length c0_3, .slice A0_4 l0_4.length c0_4]) (t := 34) ?hr ?_; (case hd => rfl); (case hg => rfl); (case hr => exact z95_); intro gb203 hg w5 hbox hb; have BK203 := q_ (hbox); have GW203 := ge_ hg; have GE203 := ge_ hg; replace HB := hb_ hb; clear hb hbox hg))
 (try simp only [Act.put, List.setIfInBounds_toArray, List.set_cons_zero, List.set_cons_succ])
 go_cut [31] (fun v31 wc => ∃ (kq : Nat) (x31_3 : Bool), v31 = .bool x31_3 ∧ Aside0 (spec_l2Leaf.j0 kq a1 a2 x31_3 a0_0 l0_1 l0_2 l0_3 l0_4 = some r) ∧ Aside0 (kq ≤ k) ∧ Aside0 (wc.heap[gb203]? = some (.cells #[.bool a0_0, (.slice A0_1 l0_1.length c0_1), (.slice A0_2 l0_2.length c0_2), (.slice A0_3 l0_3.length c0_3), (.slice A0_4 l0_4.length c0_4)] 34 (0, 0))) ∧ Aside0 (Below w.heap.size w wc))
 case first =>
  have H := HC4.out
  clear HC4
  replace H := bi_ H; obtain ⟨t204, A6, H⟩ := H
  replace H := kb_ H; rcases H with ⟨rfl, H⟩ | ⟨rfl, H⟩
  ·replace H := kg_ H; rcases H with ⟨c8b0, H⟩ | ⟨c8b0, H⟩
   ·have c8b1 : decide (4 < l0_1.length) = true := decide_eq_true (by have := of_decide_eq_true c8b0; omega)
    (first | rw [c8b0] | rw [c8b1] | (simp only [i64_w, i32_w]; first | rw [c8b0] | rw [c8b1]) | rw [c8b2] | skip)
    have H' := q_ H
    clear H
    obtain ⟨hz_, hz_, hz_, hz_, hz_, hz_, hz_, hz_, hz_, hz_⟩ := cs5_ BK203.out
    go_wp2_with (first | ((with_reducible refine gate_callee (f := 120) rfl ?_); refine goesL_ (some 10) rfl rfl Try.func120 (by kernel_rfl) rfl #[.slice A0_1 l0_1.length c0_1] rfl z0_ ?_; (with_reducible refine (spec_MapOk.calls k _ _ l0_1 true _ ?side1 ?side2 A6.out).mono ?_); (case side1 => exact z94_); (case side2 => exact z117_); rintro e w10 ⟨rfl, hb⟩; refine ⟨_, rfl, ?_⟩; replace BK203 := rb_ BK203 hb; replace HB := hb_ hb; (try clear hb); (try clear hb2); (try clear hk); (try clear hi); obtain ⟨hz_, hz_, hz_, hz_, hz_, hz_, hz_, hz_, hz_, hz_⟩ := cs5_ BK203.out))
    go_meet
    case rel => exact ⟨_, (true), z4_, H', ⟨z34_⟩, ⟨z43_⟩, ⟨cb_⟩⟩
   ·have c8b1 : decide (4 < l0_1.length) = false := decide_eq_false (by have := of_decide_eq_false c8b0; omega)
    (first | rw [c8b0] | rw [c8b1] | (simp only [i64_w, i32_w]; first | rw [c8b0] | rw [c8b1]) | rw [c8b2] | skip)
    have H' := q_ H
    clear H
    obtain ⟨hz_, hz_, hz_, hz_, hz_, hz_, hz_, hz_, hz_, hz_⟩ := cs5_ BK203.out
    go_wp2_with (first | ((with_reducible refine gate_callee (f := 120) rfl ?_); refine goesL_ (some 10) rfl rfl Try.func120 (by kernel_rfl) rfl #[.slice A0_1 l0_1.length c0_1] rfl z0_ ?_; (with_reducible refine (spec_MapOk.calls k _ _ l0_1 true _ ?side1 ?side2 A6.out).mono ?_); (case side1 => exact z94_); (case side2 => exact z117_); rintro e w13 ⟨rfl, hb⟩; refine ⟨_, rfl, ?_⟩; replace BK203 := rb_ BK203 hb; replace HB := hb_ hb; (try clear hb); (try clear hb2); (try clear hk); (try clear hi); obtain ⟨hz_, hz_, hz_, hz_, hz_, hz_, hz_, hz_, hz_, hz_⟩ := cs5_ BK203.out))
    go_meet
    case rel => exact ⟨_, (decide ((wrap64 ((wrap64 ((l0_2.length : Int) + (l0_3.length : Int))) + (l0_4.length : Int))) > 0)), z4_, H', ⟨z34_⟩, ⟨z43_⟩, ⟨cb_⟩⟩
  ·have H' := q_ H
   clear H
   obtain ⟨hz_, hz_, hz_, hz_, hz_, hz_, hz_, hz_, hz_, hz_⟩ := cs5_ BK203.out
   go_wp2_with (first | ((with_reducible refine gate_callee (f := 120) rfl ?_); refine goesL_ (some 10) rfl rfl Try.func120 (by kernel_rfl) rfl #[.slice A0_1 l0_1.length c0_1] rfl z0_ ?_; (with_reducible refine (spec_MapOk.calls k _ _ l0_1 false _ ?side1 ?side2 A6.out).mono ?_); (case side1 => exact z94_); (case side2 => exact z117_); rintro e w16 ⟨rfl, hb⟩; refine ⟨_, rfl, ?_⟩; replace BK203 := rb_ BK203 hb; replace HB := hb_ hb; (try clear hb); (try clear hb2); (try clear hk); (try clear hi)))
   go_meet
   case rel => exact ⟨_, (true), z4_, H', ⟨z34_⟩, ⟨z43_⟩, ⟨cb_⟩⟩
 case rest =>
  clear HC4
  try clear c1
  try clear p2
  try clear p6
  try clear c7
  try clear c8
  try clear c8b0
  try clear c8b1
  try clear c8b2
  try clear c9
  try clear c12
  repeat clear hz_
  obtain ⟨kq, x31_3, rfl, HA, HJ3, BK203, HB⟩ := hcut
  obtain ⟨kj3, rfl, H⟩ := rn_ (k := kq) HA (by rintro rfl; simp only [spec_l2Leaf.j0])
  clear HA
  simp only [spec_l2Leaf.j0] at H
  replace H := kb_ H; rcases H with ⟨rfl, H⟩ | ⟨rfl, H⟩
  ·obtain rfl := si_ H
   go_wp2
   go_ret
   exact ⟨z2_, cb_⟩
  ·have H' := q_ H
   clear H
   go_wp2
   go_loopg [7] kj3 (fun kq v7 w' => ∃ (x7_2 : Int), v7 = .int .i64 x7_2 ∧ Aside0 (spec_l2Leaf.l0 kq a1 a2 x7_2 a0_0 l0_1 l0_2 l0_3 l0_4 = some r) ∧ Aside0 (kq ≤ kj3) ∧ Aside0 (w'.heap[gb203]? = some (.cells #[.bool a0_0, (.slice A0_1 l0_1.length c0_1), (.slice A0_2 l0_2.length c0_2), (.slice A0_3 l0_3.length c0_3), (.slice A0_4 l0_4.length c0_4)] 34 (0, 0))) ∧ Aside0 (Below w.heap.size w w'))
   case atStart => exact ⟨(0), z4_, H', ⟨Nat.le_refl _⟩, ⟨z43_⟩, ⟨cb_⟩⟩
   case round =>
    clear H'
    try clear c1
    try clear p2
    try clear p6
    try clear c7
    try clear c8
    try clear c8b0
    try clear c8b1
    try clear c8b2
    try clear c9
    try clear c12
    try clear c17
    repeat clear hz_
    try clear p2
    try clear p6
    obtain ⟨x7_2, rfl, HA, HK2, BK203, HB⟩ := hrel
    obtain ⟨k2, rfl, H⟩ := rn_ (k := gk) HA (by rintro rfl; simp only [spec_l2Leaf.l0])
    clear HA
    simp only [spec_l2Leaf.l0] at H
    have HC18 := q_ H
    clear H
    obtain ⟨hz_, hz_, hz_, hz_, hz_, hz_, hz_, hz_, hz_, hz_⟩ := cs5_ BK203.out
    go_upto_if 36 with (fail)
    have H := HC18.out
    clear HC18
    replace H := kd_ H; rcases H with ⟨c20b0, H⟩ | ⟨c20b0, H⟩
    ·(first | rw [c20b0] | rw [c20b1] | (simp only [i64_w, i32_w]; first | rw [c20b0] | rw [c20b1]) | rw [c20b2] | skip)
     replace H := kdn_ H; obtain ⟨c21b0, H⟩ := H
     replace H := bi_ H; obtain ⟨t206, A22, H⟩ := H
     have HC23 := q_ H
     clear H
     obtain ⟨hz_, hz_, hz_, hz_, hz_, hz_, hz_, hz_, hz_, hz_⟩ := cs5_ BK203.out
     have p205 : 0 ≤ (x7_2 : Int) := of_decide_eq_true z1_
     have q205 : x7_2 < (l0_1.length : Int) := of_decide_eq_true z1_
     obtain ⟨ad205, e205, hx205_0, hx205_1⟩ := at_T92 HR0_1.out x7_2 p205 q205
     cases e205
     replace hx205_0 := up_ HB hx205_0
     replace hx205_1 := up_ HB hx205_1
     replace p205 := eq_true p205
     replace q205 := eq_true q205
     go_upto_if 49 with (first | ((with_reducible refine gate_callee (f := 97) rfl ?_); refine goesL_ (some 48) rfl rfl Try.func97 (by kernel_rfl) rfl #[.int .i64 ((rd_T92 l0_1 x7_2).f0), .int .i64 a1, .int .i64 (wrap64 (a2 - 1))] rfl z0_ ?_; (with_reducible refine (spec_l1In.calls ((rd_T92 l0_1 x7_2).f0) a1 (wrap64 (a2 - 1)) t206 _ A22.out).mono ?_); rintro e w' ⟨rfl, ⟨nd, rfl⟩⟩; refine ⟨_, rfl, ?_⟩))
     (try simp only [Act.put, List.setIfInBounds_toArray, List.set_cons_zero, List.set_cons_succ])
     have H := HC23.out
     clear HC23
     replace H := kb_ H; rcases H with ⟨rfl, H⟩ | ⟨rfl, H⟩
     ·have H' := q_ H
      clear H
      go_wp2
      go_roundg k2
      case measure => have := HJ3.out; have := HK2.out; omega
      case rel => exact ⟨(wrap64 (x7_2 + 1)), z4_, H', ⟨by have := HJ3.out; have := HK2.out; omega⟩, ⟨z43_⟩, ⟨cb_⟩⟩
     ·obtain rfl := si_ H
      go_wp2
      go_ret
      exact ⟨z2_, cb_⟩
    ·(first | rw [c20b0] | rw [c20b1] | (simp only [i64_w, i32_w]; first | rw [c20b0] | rw [c20b1]) | rw [c20b2] | skip)
     obtain rfl := si_ H
     go_wp2
     go_ret
     exact ⟨z2_, cb_⟩

/-! ### spec_MsgOk: function 98 -/
def spec_MsgOk.f (a0_0 : Int) (a0_1 : Int) (a0_2 : Int) : Option (Bool) := (spec_l1In.f a0_0 1 4).bind fun t208 => (if t208 = true then ((spec_l1In.f a0_1 0 999).bind fun t209 => (if t209 = true then ((spec_l1Value.f a0_2).bind fun t210 => (if t210 = true then (if a0_2 = 0 then (some true) else (if a0_0 = 1 then (some true) else (some (a0_0 == 3)))) else (some false))) else (some false))) else (some false))
set_option maxHeartbeats 8000000 in
set_option maxRecDepth 100000 in
theorem spec_MsgOk.calls (a0_0 : Int) (a0_1 : Int) (a0_2 : Int) (r : Bool) (w : World) (h : spec_MsgOk.f a0_0 a0_1 a0_2 = some r) :
  Calls Try.prog 98 #[.agg #[.int .i64 a0_0, .int .i64 a0_1, .int .i64 a0_2]] w fun e w' => e = .returned (.bool r) ∧ Below w.heap.size w w' := by
 have hu72 := Try.underlying72
 have HB := q_ (Below.refl w.heap.size w)
 have H := h; clear h
 unfold spec_MsgOk.f at H
 replace H := bi_ H; obtain ⟨t208, A2, H⟩ := H
 replace H := kb_ H; rcases H with ⟨rfl, H⟩ | ⟨rfl, H⟩
 ·replace H := bi_ H; obtain ⟨t209, A4, H⟩ := H
  replace H := kb_ H; rcases H with ⟨rfl, H⟩ | ⟨rfl, H⟩
  ·replace H := bi_ H; obtain ⟨t210, A6, H⟩ := H
   have HC7 := q_ H
   clear H
   go_enter Try.func98, Try.ntmps98
   go_upto_if 18 with (first | ((with_reducible refine gate_dst (N := 1) rfl ?_); refine box_event ?hg (N := 1) ?hd (cs := #[.int .i64 a0_0, .int .i64 a0_1, .int .i64 a0_2]) (t := 72) ?hr ?_; (case hd => rfl); (case hg => rfl); (case hr => exact z95_); intro gb207 hg w8 hbox hb; have BK207 := q_ (hbox); have GW207 := ge_ hg; have GE207 := ge_ hg; replace HB := hb_ hb; clear hb hbox hg; obtain ⟨hz_, hz_, hz_, hz_, hz_, hz_⟩ := cs3_ BK207.out) | ((with_reducible refine gate_callee (f := 97) rfl ?_); refine goesL_ (some 5) rfl rfl Try.func97 (by kernel_rfl) rfl #[.int .i64 a0_0, .int .i64 1, .int .i64 4] rfl z0_ ?_; (with_reducible refine (spec_l1In.calls a0_0 1 4 true _ A2.out).mono ?_); rintro e w' ⟨rfl, ⟨nd, rfl⟩⟩; refine ⟨_, rfl, ?_⟩) | (go_at_call 97; (with_reducible refine (spec_l1In.calls a0_1 0 999 true _ A4.out).mono ?_); rintro e w' ⟨rfl, ⟨nd, rfl⟩⟩) | (go_at_call 121; (with_reducible refine (spec_l1Value.calls a0_2 t210 _ A6.out).mono ?_); rintro e w' ⟨rfl, ⟨nd, rfl⟩⟩))
   (try simp only [Act.put, List.setIfInBounds_toArray, List.set_cons_zero, List.set_cons_succ])
   have H := HC7.out
   clear HC7
   replace H := kb_ H; rcases H with ⟨rfl, H⟩ | ⟨rfl, H⟩
   ·replace H := ke_ H; rcases H with ⟨c11b0, c11b1, H⟩ | ⟨c11, c11b0, c11b1, H⟩
    ·(first | rw [c11b0] | rw [c11b1] | (simp only [i64_w, i32_w]; first | rw [c11b0] | rw [c11b1]) | rw [c11b2] | skip)
     obtain rfl := si_ H
     obtain ⟨hz_, hz_, hz_, hz_, hz_, hz_⟩ := cs3_ BK207.out
     go_wp2
     go_ret
     exact ⟨z2_, cb_⟩
    ·(first | rw [c11b0] | rw [c11b1] | (simp only [i64_w, i32_w]; first | rw [c11b0] | rw [c11b1]) | rw [c11b2] | skip)
     replace H := ke_ H; rcases H with ⟨c13b0, c13b1, H⟩ | ⟨c13, c13b0, c13b1, H⟩
     ·obtain rfl := si_ H
      obtain ⟨hz_, hz_, hz_, hz_, hz_, hz_⟩ := cs3_ BK207.out
      go_wp2
      go_ret
      exact ⟨z2_, cb_⟩
     ·obtain rfl := si_ H
      obtain ⟨hz_, hz_, hz_, hz_, hz_, hz_⟩ := cs3_ BK207.out
      go_wp2
      go_ret
      exact ⟨z2_, cb_⟩
   ·obtain rfl := si_ H
    go_wp2
    go_ret
    exact ⟨z2_, cb_⟩
  ·obtain rfl := si_ H
   go_enter Try.func98, Try.ntmps98
   go_wp2_with (first | ((with_reducible refine gate_dst (N := 1) rfl ?_); refine box_event ?hg (N := 1) ?hd (cs := #[.int .i64 a0_0, .int .i64 a0_1, .int .i64 a0_2]) (t := 72) ?hr ?_; (case hd => rfl); (case hg => rfl); (case hr => exact z95_); intro gb207 hg w16 hbox hb; have BK207 := q_ (hbox); have GW207 := ge_ hg; have GE207 := ge_ hg; replace HB := hb_ hb; clear hb hbox hg; obtain ⟨hz_, hz_, hz_, hz_, hz_, hz_⟩ := cs3_ BK207.out) | ((with_reducible refine gate_callee (f := 97) rfl ?_); refine goesL_ (some 5) rfl rfl Try.func97 (by kernel_rfl) rfl #[.int .i64 a0_0, .int .i64 1, .int .i64 4] rfl z0_ ?_; (with_reducible refine (spec_l1In.calls a0_0 1 4 true _ A2.out).mono ?_); rintro e w' ⟨rfl, ⟨nd, rfl⟩⟩; refine ⟨_, rfl, ?_⟩) | (go_at_call 97; (with_reducible refine (spec_l1In.calls a0_1 0 999 false _ A4.out).mono ?_); rintro e w' ⟨rfl, ⟨nd, rfl⟩⟩))
   go_ret
   exact ⟨z2_, cb_⟩
 ·obtain rfl := si_ H
  go_enter Try.func98, Try.ntmps98
  go_wp2_with (first | ((with_reducible refine gate_dst (N := 1) rfl ?_); refine box_event ?hg (N := 1) ?hd (cs := #[.int .i64 a0_0, .int .i64 a0_1, .int .i64 a0_2]) (t := 72) ?hr ?_; (case hd => rfl); (case hg => rfl); (case hr => exact z95_); intro gb207 hg w18 hbox hb; have BK207 := q_ (hbox); have GW207 := ge_ hg; have GE207 := ge_ hg; replace HB := hb_ hb; clear hb hbox hg; obtain ⟨hz_, hz_, hz_, hz_, hz_, hz_⟩ := cs3_ BK207.out) | ((with_reducible refine gate_callee (f := 97) rfl ?_); refine goesL_ (some 5) rfl rfl Try.func97 (by kernel_rfl) rfl #[.int .i64 a0_0, .int .i64 1, .int .i64 4] rfl z0_ ?_; (with_reducible refine (spec_l1In.calls a0_0 1 4 false _ A2.out).mono ?_); rintro e w' ⟨rfl, ⟨nd, rfl⟩⟩; refine ⟨_, rfl, ?_⟩))
  go_ret
  exact ⟨z2_, cb_⟩

end Go.Proofs.Ytfnndcpaldkkoaa.PFnExactTreeRange
