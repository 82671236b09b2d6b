-- Written by a program of this session, which goes by the kit's print. Not trusted: Lean checks it.
import Derived.Test.YtfnndcpaldkkoaaPFnExactTreeRangex0
import Derived.Test.YtfnndcpaldkkoaaPFnExactTreeRangex12
namespace Go.Proofs.Ytfnndcpaldkkoaa.PFnExactTreeRange
open Go.RowKit Go.Proofs.YtfnndcpaldkkoaaW.PrintWords Go.Proofs.YtfnndcpaldkkoaaW.PrintLast Go.Proofs.YtfnndcpaldkkoaaW.PrintMore
attribute [local go_sem] Instr.field asAgg max2_int min2_int max_two min_two max_three min_three max_four min_four   -- for this text's walks alone
set_option linter.unusedVariables false
set_option linter.unusedSimpArgs false

/-! ### impl_MsgOk: function 105 -/
def impl_MsgOk.j0 : Nat → Int → Bool → Int → Int → Int → Option (Bool)
 | 0, _, _, _, _, _ => none
 | k + 1, x8, x9, x354000, x354001, x354002 => if x9 = true then ((impl_isNum.f x354002).bind fun t355 => (some t355)) else (if x8 = 2 then (some (x354002 == 0)) else (if x8 = 4 then (some (x354002 == 0)) else (some false)))
def impl_MsgOk.f (k : Nat) (a0_0 : Int) (a0_1 : Int) (a0_2 : Int) : Option (Bool) := (impl_isKey.f a0_1).bind fun t354 => (if t354 = true then (if a0_0 = 1 then (impl_MsgOk.j0 k a0_0 (a0_0 == 1) a0_0 a0_1 a0_2) else (impl_MsgOk.j0 k a0_0 (a0_0 == 3) a0_0 a0_1 a0_2)) else (some false))
theorem impl_MsgOk.mono_l : ∀ k, (∀ y0 y1 y2 y3 y4, LeO (impl_MsgOk.j0 k y0 y1 y2 y3 y4) (impl_MsgOk.j0 (k + 1) y0 y1 y2 y3 y4))
 | 0 => fun _ _ _ _ _ r h => by simp [impl_MsgOk.j0] at h
 | k + 1 => by
  have ih0 := impl_MsgOk.mono_l k
  ·intro y0 y1 y2 y3 y4
   unfold impl_MsgOk.j0
   exact zm_
theorem impl_MsgOk.mono : ∀ a0 a1 a2 k, LeO (impl_MsgOk.f k a0 a1 a2) (impl_MsgOk.f (k + 1) a0 a1 a2) := by
 intro a0 a1 a2 k
 have ih0 := impl_MsgOk.mono_l k
 unfold impl_MsgOk.f
 exact zm_
set_option maxHeartbeats 8000000 in
set_option maxRecDepth 100000 in
theorem impl_MsgOk.calls (k : Nat) (a0_0 : Int) (a0_1 : Int) (a0_2 : Int) (r : Bool) (w : World) (h : impl_MsgOk.f k a0_0 a0_1 a0_2 = some r) :
  Calls Try.prog 105 #[.agg #[.int .i64 a0_0, .int .i64 a0_1, .int .i64 a0_2]] w fun e w' => e = .returned (.bool r) ∧ Below w.heap.size w w' := by
 have hu72 := Try.underlying72
 have HB := q_ (Below.refl w.heap.size w)
 have H := h; clear h
 unfold impl_MsgOk.f at H
 replace H := bi_ H; obtain ⟨t354, A2, H⟩ := H
 have HC3 := q_ H
 clear H
 go_enter Try.func105, Try.ntmps105
 go_upto_if 6 with (first | ((with_reducible refine gate_dst (N := 1) rfl ?_); refine box_event ?hg (N := 1) ?hd (cs := #[.int .i64 a0_0, .int .i64 a0_1, .int .i64 a0_2]) (t := 72) ?hr ?_; (case hd => rfl); (case hg => rfl); (case hr => exact z95_); intro gb353 hg w4 hbox hb; have BK353 := q_ (hbox); have GW353 := ge_ hg; have GE353 := ge_ hg; replace HB := hb_ hb; clear hb hbox hg; obtain ⟨hz_, hz_, hz_, hz_, hz_, hz_⟩ := cs3_ BK353.out) | ((with_reducible refine gate_callee (f := 93) rfl ?_); refine goesL_ (some 5) rfl rfl Try.func93 (by kernel_rfl) rfl #[.int .i64 a0_1] rfl z0_ ?_; (with_reducible refine (impl_isKey.calls a0_1 t354 _ A2.out).mono ?_); rintro e w' ⟨rfl, ⟨nd, rfl⟩⟩; refine ⟨_, rfl, ?_⟩))
 (try simp only [Act.put, List.setIfInBounds_toArray, List.set_cons_zero, List.set_cons_succ])
 have H := HC3.out
 clear HC3
 replace H := kb_ H; rcases H with ⟨rfl, H⟩ | ⟨rfl, H⟩
 ·have HC7 := q_ H
  clear H
  obtain ⟨hz_, hz_, hz_, hz_, hz_, hz_⟩ := cs3_ BK353.out
  go_upto_if 9 with (fail)
  go_cut [9] (fun v9 wc => ∃ (kq : Nat) (x9_6 : Bool), v9 = .bool x9_6 ∧ Aside0 (impl_MsgOk.j0 kq a0_0 x9_6 a0_0 a0_1 a0_2 = some r) ∧ Aside0 (kq ≤ k) ∧ Aside0 (wc.heap[gb353]? = some (.cells #[.int .i64 a0_0, .int .i64 a0_1, .int .i64 a0_2] 72 (0, 0))) ∧ Aside0 (Below w.heap.size w wc))
  case first =>
   have H := HC7.out
   clear HC7
   replace H := ke_ H; rcases H with ⟨c9b0, c9b1, H⟩ | ⟨c9, c9b0, c9b1, H⟩
   ·(first | rw [c9b0] | rw [c9b1] | (simp only [i64_w, i32_w]; first | rw [c9b0] | rw [c9b1]) | rw [c9b2] | skip)
    have H' := q_ H
    clear H
    go_wp2
    go_meet
    case rel => exact ⟨_, ((a0_0 == 1)), z4_, H', ⟨z34_⟩, ⟨z67_⟩, ⟨cb_⟩⟩
   ·(first | rw [c9b0] | rw [c9b1] | (simp only [i64_w, i32_w]; first | rw [c9b0] | rw [c9b1]) | rw [c9b2] | skip)
    have H' := q_ H
    clear H
    go_wp2
    go_meet
    case rel => exact ⟨_, ((a0_0 == 3)), z4_, H', ⟨z34_⟩, ⟨z67_⟩, ⟨cb_⟩⟩
  case rest =>
   clear HC7
   try clear c1
   try clear p2
   try clear c6
   try clear c9
   try clear c9b0
   try clear c9b1
   try clear c9b2
   repeat clear hz_
   obtain ⟨kq, x9_6, rfl, HA, HJ6, BK353, HB⟩ := hcut
   obtain ⟨kj6, rfl, H⟩ := rn_ (k := kq) HA (by rintro rfl; simp only [impl_MsgOk.j0])
   clear HA
   simp only [impl_MsgOk.j0] at H
   replace H := kb_ H; rcases H with ⟨rfl, H⟩ | ⟨rfl, H⟩
   ·replace H := bi_ H; obtain ⟨t355, A11, H⟩ := H
    obtain rfl := si_ H
    obtain ⟨hz_, hz_, hz_, hz_, hz_, hz_⟩ := cs3_ BK353.out
    go_wp2_with (first | ((with_reducible refine gate_callee (f := 94) rfl ?_); refine goesL_ (some 14) rfl rfl Try.func94 (by kernel_rfl) rfl #[.int .i64 a0_2] rfl z0_ ?_; (with_reducible refine (impl_isNum.calls a0_2 t355 _ A11.out).mono ?_); rintro e w' ⟨rfl, ⟨nd, rfl⟩⟩; refine ⟨_, rfl, ?_⟩))
    go_ret
    exact ⟨z2_, cb_⟩
   ·replace H := ke_ H; rcases H with ⟨c13b0, c13b1, H⟩ | ⟨c13, c13b0, c13b1, H⟩
    ·obtain rfl := si_ H
     obtain ⟨hz_, hz_, hz_, hz_, hz_, hz_⟩ := cs3_ BK353.out
     go_wp2
     go_ret
     exact ⟨z2_, cb_⟩
    ·replace H := ke_ H; rcases H with ⟨c15b0, c15b1, H⟩ | ⟨c15, c15b0, c15b1, H⟩
     ·obtain rfl := si_ H
      obtain ⟨hz_, hz_, hz_, hz_, hz_, hz_⟩ := cs3_ BK353.out
      go_wp2
      go_ret
      exact ⟨z2_, cb_⟩
     ·obtain rfl := si_ H
      go_wp2
      go_ret
      exact ⟨z2_, cb_⟩
 ·obtain rfl := si_ H
  go_wp2
  go_ret
  exact ⟨z2_, cb_⟩

/-! ### impl_depthOf_f1: function 104 -/
def impl_depthOf_f1.f (k : Nat) (a0_0 : Int) (a0_1 : Int) (a0_2 : Int) (a28_0 : Int) (a36_0 : Int) : Option (Bool) := (impl_MsgOk.f k a0_0 a0_1 a0_2).bind fun t357 => (if t357 = true then (if a0_0 = 4 then (some true) else ((impl_within.f a0_1 a28_0 (wrap64 (a36_0 - 1))).bind fun t358 => (some (!t358)))) else (some true))
theorem impl_depthOf_f1.mono : ∀ a0 a1 a2 a3 a4 k, LeO (impl_depthOf_f1.f k a0 a1 a2 a3 a4) (impl_depthOf_f1.f (k + 1) a0 a1 a2 a3 a4) := by
 intro a0 a1 a2 a3 a4 k
 unfold impl_depthOf_f1.f
 have m0 := @impl_MsgOk.mono
 exact zm_
set_option maxHeartbeats 8000000 in
set_option maxRecDepth 100000 in
theorem impl_depthOf_f1.calls (k : Nat) (a0_0 : Int) (a0_1 : Int) (a0_2 : Int) (gc28 : Nat) (a28_0 : Int) (gc36 : Nat) (a36_0 : Int) (r : Bool) (w : World) (hb28 : w.heap[gc28]? = some (.cells #[.int .i64 a28_0] 3 (0, 0))) (hb36 : w.heap[gc36]? = some (.cells #[.int .i64 a36_0] 3 (0, 0))) (h : impl_depthOf_f1.f k a0_0 a0_1 a0_2 a28_0 a36_0 = some r) :
  Calls Try.prog 104 #[.agg #[.int .i64 a0_0, .int .i64 a0_1, .int .i64 a0_2], .pointer (some ⟨gc28, 0, none⟩), .pointer (some ⟨gc36, 0, none⟩)] w fun e w' => e = .returned (.bool r) ∧ Below w.heap.size w w' := by
 have hu72 := Try.underlying72
 have BK28 := q_ hb28
 clear hb28
 have BK36 := q_ hb36
 clear hb36
 have HB := q_ (Below.refl w.heap.size w)
 have H := h; clear h
 unfold impl_depthOf_f1.f at H
 replace H := bi_ H; obtain ⟨t357, A4, H⟩ := H
 replace H := kb_ H; rcases H with ⟨rfl, H⟩ | ⟨rfl, H⟩
 ·replace H := ke_ H; rcases H with ⟨c6b0, c6b1, H⟩ | ⟨c6, c6b0, c6b1, H⟩
  ·obtain rfl := si_ H
   go_enter Try.func104, Try.ntmps104
   go_wp2_with (first | ((with_reducible refine gate_dst (N := 3) rfl ?_); refine box_event ?hg (N := 3) ?hd (cs := #[.int .i64 a0_0, .int .i64 a0_1, .int .i64 a0_2]) (t := 72) ?hr ?_; (case hd => rfl); (case hg => rfl); (case hr => exact z95_); intro gb356 hg w7 hbox hb; have BK356 := q_ (hbox); have GW356 := ge_ hg; have GE356 := ge_ hg; replace HB := hb_ hb; clear hb hbox hg; obtain ⟨hz_, hz_, hz_, hz_, hz_, hz_⟩ := cs3_ BK356.out) | ((with_reducible refine gate_callee (f := 105) rfl ?_); refine goesL_ (some 6) rfl rfl Try.func105 (by kernel_rfl) rfl #[.agg #[.int .i64 a0_0, .int .i64 a0_1, .int .i64 a0_2]] rfl z0_ ?_; (with_reducible refine (impl_MsgOk.calls k a0_0 a0_1 a0_2 true _ A4.out).mono ?_); rintro e w9 ⟨rfl, hb⟩; refine ⟨_, rfl, ?_⟩; replace BK356 := rb_ BK356 hb; replace HB := hb_ hb; (try clear hb); (try clear hb2); (try clear hk); (try clear hi); obtain ⟨hz_, hz_, hz_, hz_, hz_, hz_⟩ := cs3_ BK356.out))
   go_ret
   exact ⟨z2_, cb_⟩
  ·replace H := bi_ H; obtain ⟨t358, A11, H⟩ := H
   obtain rfl := si_ H
   go_enter Try.func104, Try.ntmps104
   go_wp2_with (first | ((with_reducible refine gate_dst (N := 3) rfl ?_); refine box_event ?hg (N := 3) ?hd (cs := #[.int .i64 a0_0, .int .i64 a0_1, .int .i64 a0_2]) (t := 72) ?hr ?_; (case hd => rfl); (case hg => rfl); (case hr => exact z95_); intro gb356 hg w12 hbox hb; have BK356 := q_ (hbox); have GW356 := ge_ hg; have GE356 := ge_ hg; replace HB := hb_ hb; have NB28_356 := nl_ hg BK28; have NB356_28 := nr_ hg BK28; replace BK28 := rb_ BK28 hb; have NB36_356 := nl_ hg BK36; have NB356_36 := nr_ hg BK36; replace BK36 := rb_ BK36 hb; clear hb hbox hg; have hnb13 := NB356_28.out; have hnc13 := NB28_356.out; have hnb14 := NB356_36.out; have hnc14 := NB36_356.out; obtain ⟨hz_, hz_, hz_, hz_, hz_, hz_⟩ := cs3_ BK356.out) | ((with_reducible refine gate_callee (f := 105) rfl ?_); refine goesL_ (some 6) rfl rfl Try.func105 (by kernel_rfl) rfl #[.agg #[.int .i64 a0_0, .int .i64 a0_1, .int .i64 a0_2]] rfl z0_ ?_; (with_reducible refine (impl_MsgOk.calls k a0_0 a0_1 a0_2 true _ A4.out).mono ?_); rintro e w16 ⟨rfl, hb⟩; refine ⟨_, rfl, ?_⟩; replace BK28 := rb_ BK28 hb; replace BK36 := rb_ BK36 hb; replace BK356 := rb_ BK356 hb; replace HB := hb_ hb; (try clear hb); (try clear hb2); (try clear hk); (try clear hi); obtain ⟨hz_, hz_, hz_, hz_, hz_, hz_⟩ := cs3_ BK356.out; have hcz18_0 : w16.cell? ⟨gc28, 0, none⟩ = some (.int .i64 a28_0) := (blk_cell BK28.out 0).trans rfl; have hfz18_0 := blk_frozen BK28.out 0; have hcz19_0 : w16.cell? ⟨gc36, 0, none⟩ = some (.int .i64 a36_0) := (blk_cell BK36.out 0).trans rfl; have hfz19_0 := blk_frozen BK36.out 0) | (go_at_call 102; (with_reducible refine (impl_within.calls a0_1 a28_0 (wrap64 (a36_0 - 1)) t358 _ A11.out).mono ?_); rintro e w' ⟨rfl, ⟨nd, rfl⟩⟩))
   go_ret
   exact ⟨z2_, cb_⟩
 ·obtain rfl := si_ H
  go_enter Try.func104, Try.ntmps104
  go_wp2_with (first | ((with_reducible refine gate_dst (N := 3) rfl ?_); refine box_event ?hg (N := 3) ?hd (cs := #[.int .i64 a0_0, .int .i64 a0_1, .int .i64 a0_2]) (t := 72) ?hr ?_; (case hd => rfl); (case hg => rfl); (case hr => exact z95_); intro gb356 hg w20 hbox hb; have BK356 := q_ (hbox); have GW356 := ge_ hg; have GE356 := ge_ hg; replace HB := hb_ hb; clear hb hbox hg; obtain ⟨hz_, hz_, hz_, hz_, hz_, hz_⟩ := cs3_ BK356.out) | ((with_reducible refine gate_callee (f := 105) rfl ?_); refine goesL_ (some 6) rfl rfl Try.func105 (by kernel_rfl) rfl #[.agg #[.int .i64 a0_0, .int .i64 a0_1, .int .i64 a0_2]] rfl z0_ ?_; (with_reducible refine (impl_MsgOk.calls k a0_0 a0_1 a0_2 false _ A4.out).mono ?_); rintro e w22 ⟨rfl, hb⟩; refine ⟨_, rfl, ?_⟩; replace HB := hb_ hb; (try clear hb); (try clear hb2); (try clear hk); (try clear hi)))
  go_ret
  exact ⟨z2_, cb_⟩

/-! ### slices_IndexFunc_Msg_104: function 124 -/
def slices_IndexFunc_Msg_104.l0 : Nat → List (S72) → Int → Int → Int → Int → Option (Int)
 | 0, _, _, _, _, _ => none
 | k + 1, x0, x7, x8, x29000, x30000 => if x8 < x7 then (if 0 ≤ x8 then (if x8 < (x0.length : Int) then ((impl_depthOf_f1.f k ((rd_T72 x0 x8).f0) ((rd_T72 x0 x8).f1) ((rd_T72 x0 x8).f2) x29000 x30000).bind fun t360 => (if t360 = true then (some x8) else (slices_IndexFunc_Msg_104.l0 k x0 x7 (wrap64 (x8 + 1)) x29000 x30000))) else (none)) else (none)) else (some (-1))
def slices_IndexFunc_Msg_104.f (k : Nat) (l0 : List (S72)) (a28_0 : Int) (a29_0 : Int) : Option (Int) := slices_IndexFunc_Msg_104.l0 k l0 (l0.length : Int) 0 a28_0 a29_0
theorem slices_IndexFunc_Msg_104.mono_l : ∀ k, (∀ y0 y1 y2 y3 y4, LeO (slices_IndexFunc_Msg_104.l0 k y0 y1 y2 y3 y4) (slices_IndexFunc_Msg_104.l0 (k + 1) y0 y1 y2 y3 y4))
 | 0 => fun _ _ _ _ _ r h => by simp [slices_IndexFunc_Msg_104.l0] at h
 | k + 1 => by
  have ih0 := slices_IndexFunc_Msg_104.mono_l k
  ·intro y0 y1 y2 y3 y4
   unfold slices_IndexFunc_Msg_104.l0
   have m0 := @impl_depthOf_f1.mono
   exact zm_
theorem slices_IndexFunc_Msg_104.mono : ∀ a0 a1 a2 k, LeO (slices_IndexFunc_Msg_104.f k a0 a1 a2) (slices_IndexFunc_Msg_104.f (k + 1) a0 a1 a2) := by
 intro a0 a1 a2 k
 have ih0 := slices_IndexFunc_Msg_104.mono_l k
 unfold slices_IndexFunc_Msg_104.f
 have m0 := @impl_depthOf_f1.mono
 exact zm_
set_option maxHeartbeats 8000000 in
set_option maxRecDepth 100000 in
theorem slices_IndexFunc_Msg_104.calls (k : Nat) (A0 : Option Addr) (c0 : Nat) (l0 : List (S72)) (gc28 : Nat) (gc29 : Nat) (a28_0 : Int) (a29_0 : Int) (r : Int) (w : World) (hr0 : Kd.C k72 w A0 l0.length l0) (hc0 : l0.length ≤ c0) (hb28 : w.heap[gc28]? = some (.cells #[.int .i64 a28_0] 3 (0, 0))) (hb29 : w.heap[gc29]? = some (.cells #[.int .i64 a29_0] 3 (0, 0))) (h : slices_IndexFunc_Msg_104.f k l0 a28_0 a29_0 = some r) :
  Calls Try.prog 124 #[.slice A0 l0.length c0, .func (.func 104) #[] #[.pointer (some ⟨gc28, 0, none⟩), .pointer (some ⟨gc29, 0, none⟩)]] w fun e w' => e = .returned (.int .i64 r) ∧ Below w.heap.size w w' := by
 have hu72 := Try.underlying72
 have HR0 := q_ hr0
 have HC0 := q_ hc0
 clear hr0 hc0
 have BK28 := q_ hb28
 clear hb28
 have BK29 := q_ hb29
 clear hb29
 have HB := q_ (Below.refl w.heap.size w)
 have H := h; clear h
 unfold slices_IndexFunc_Msg_104.f at H
 have H' := q_ H
 clear H
 go_enter Try.func124, Try.ntmps124
 go_wp2
 go_loopg [8] k (fun kq v8 w' => ∃ (x8_1 : Int), v8 = .int .i64 x8_1 ∧ Aside0 (slices_IndexFunc_Msg_104.l0 kq l0 (l0.length : Int) x8_1 a28_0 a29_0 = some r) ∧ Aside0 (kq ≤ k) ∧ Aside0 (w'.heap[gc28]? = some (.cells #[.int .i64 a28_0] 3 (0, 0))) ∧ Aside0 (w'.heap[gc29]? = some (.cells #[.int .i64 a29_0] 3 (0, 0))) ∧ Aside0 (Below w.heap.size w w'))
 case atStart => exact ⟨(0), z4_, H', ⟨Nat.le_refl _⟩, ⟨z52_⟩, ⟨z53_⟩, ⟨cb_⟩⟩
 case round =>
  clear H'
  try clear c1
  try clear c2
  try clear p2
  obtain ⟨x8_1, rfl, HA, HK1, BK28, BK29, HB⟩ := hrel
  obtain ⟨k1, rfl, H⟩ := rn_ (k := gk) HA (by rintro rfl; simp only [slices_IndexFunc_Msg_104.l0])
  clear HA
  simp only [slices_IndexFunc_Msg_104.l0] at H
  replace H := kd_ H; rcases H with ⟨c3b0, H⟩ | ⟨c3b0, H⟩
  ·replace H := kdn_ H; obtain ⟨c4b0, H⟩ := H
   replace H := kdn_ H; obtain ⟨c5b0, H⟩ := H
   replace H := bi_ H; obtain ⟨t360, A6, H⟩ := H
   have HC7 := q_ H
   clear H
   have p359 : 0 ≤ (x8_1 : Int) := of_decide_eq_true z1_
   have q359 : x8_1 < (l0.length : Int) := of_decide_eq_true z1_
   obtain ⟨ad359, e359, hx359_0, hx359_1, hx359_2⟩ := at_T72 HR0.out x8_1 p359 q359
   cases e359
   replace hx359_0 := up_ HB hx359_0
   replace hx359_1 := up_ HB hx359_1
   replace hx359_2 := up_ HB hx359_2
   replace p359 := eq_true p359
   replace q359 := eq_true q359
   go_upto_if 16 with (first | (go_at_call 104; refine calls_of_args (args' := #[.agg #[.int .i64 ((rd_T72 l0 x8_1).f0), .int .i64 ((rd_T72 l0 x8_1).f1), .int .i64 ((rd_T72 l0 x8_1).f2)], .pointer (some ⟨gc28, 0, none⟩), .pointer (some ⟨gc29, 0, none⟩)]) (by first | rfl | rfl) ?_; (with_reducible refine (impl_depthOf_f1.calls k1 ((rd_T72 l0 x8_1).f0) ((rd_T72 l0 x8_1).f1) ((rd_T72 l0 x8_1).f2) gc28 a28_0 gc29 a29_0 t360 _ ?side1 ?side2 A6.out).mono ?_); (case side1 => exact z114_); (case side2 => exact z115_); rintro e w8 ⟨rfl, hb⟩; replace BK28 := rb_ BK28 hb; replace BK29 := rb_ BK29 hb; replace HB := hb_ hb; (try clear hb); (try clear hb2); (try clear hk); (try clear hi)))
   (try simp only [Act.put, List.setIfInBounds_toArray, List.set_cons_zero, List.set_cons_succ])
   have H := HC7.out
   clear HC7
   replace H := kb_ H; rcases H with ⟨rfl, H⟩ | ⟨rfl, H⟩
   ·obtain rfl := si_ H
    go_wp2
    go_ret
    exact ⟨z2_, cb_⟩
   ·have H' := q_ H
    clear H
    go_wp2
    go_roundg k1
    case measure => have := HK1.out; omega
    case rel => exact ⟨(wrap64 (x8_1 + 1)), z4_, H', ⟨z25_⟩, ⟨z52_⟩, ⟨z53_⟩, ⟨cb_⟩⟩
  ·obtain rfl := si_ H
   go_wp2
   go_ret
   exact ⟨z2_, cb_⟩

/-! ### slices_ContainsFunc_Msg_104: function 103 -/
def slices_ContainsFunc_Msg_104.f (k : Nat) (l0 : List (S72)) (a28_0 : Int) (a29_0 : Int) : Option (Bool) := (slices_IndexFunc_Msg_104.f k l0 a28_0 a29_0).bind fun t361 => (some (decide (t361 ≥ 0)))
theorem slices_ContainsFunc_Msg_104.mono : ∀ a0 a1 a2 k, LeO (slices_ContainsFunc_Msg_104.f k a0 a1 a2) (slices_ContainsFunc_Msg_104.f (k + 1) a0 a1 a2) := by
 intro a0 a1 a2 k
 unfold slices_ContainsFunc_Msg_104.f
 have m0 := @slices_IndexFunc_Msg_104.mono
 exact zm_
set_option maxHeartbeats 8000000 in
set_option maxRecDepth 100000 in
theorem slices_ContainsFunc_Msg_104.calls (k : Nat) (A0 : Option Addr) (c0 : Nat) (l0 : List (S72)) (gc28 : Nat) (gc29 : Nat) (a28_0 : Int) (a29_0 : Int) (r : Bool) (w : World) (hr0 : Kd.C k72 w A0 l0.length l0) (hc0 : l0.length ≤ c0) (hb28 : w.heap[gc28]? = some (.cells #[.int .i64 a28_0] 3 (0, 0))) (hb29 : w.heap[gc29]? = some (.cells #[.int .i64 a29_0] 3 (0, 0))) (h : slices_ContainsFunc_Msg_104.f k l0 a28_0 a29_0 = some r) :
  Calls Try.prog 103 #[.slice A0 l0.length c0, .func (.func 104) #[] #[.pointer (some ⟨gc28, 0, none⟩), .pointer (some ⟨gc29, 0, none⟩)]] w fun e w' => e = .returned (.bool r) ∧ Below w.heap.size w w' := by
 have HR0 := q_ hr0
 have HC0 := q_ hc0
 clear hr0 hc0
 have BK28 := q_ hb28
 clear hb28
 have BK29 := q_ hb29
 clear hb29
 have HB := q_ (Below.refl w.heap.size w)
 have H := h; clear h
 unfold slices_ContainsFunc_Msg_104.f at H
 replace H := bi_ H; obtain ⟨t361, A3, H⟩ := H
 obtain rfl := si_ H
 go_enter Try.func103, Try.ntmps103
 go_wp2_with (first | ((with_reducible refine gate_callee (f := 124) rfl ?_); refine goesL_ (some 7) rfl rfl Try.func124 (by kernel_rfl) rfl #[.slice A0 l0.length c0, .func (.func 104) #[] #[.pointer (some ⟨gc28, 0, none⟩), .pointer (some ⟨gc29, 0, none⟩)]] rfl z0_ ?_; (with_reducible refine (slices_IndexFunc_Msg_104.calls k _ _ l0 gc28 gc29 a28_0 a29_0 t361 _ ?side1 ?side2 ?side3 ?side4 A3.out).mono ?_); (case side1 => exact z116_); (case side2 => exact HC0.out); (case side3 => exact z114_); (case side4 => exact z115_); rintro e w4 ⟨rfl, hb⟩; refine ⟨_, rfl, ?_⟩; replace BK28 := rb_ BK28 hb; replace BK29 := rb_ BK29 hb; replace HB := hb_ hb; (try clear hb); (try clear hb2); (try clear hk); (try clear hi)))
 go_ret
 exact ⟨z2_, cb_⟩

end Go.Proofs.Ytfnndcpaldkkoaa.PFnExactTreeRange
