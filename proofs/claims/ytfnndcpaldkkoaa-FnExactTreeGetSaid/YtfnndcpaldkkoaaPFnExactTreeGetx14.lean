-- Written by a program of this session, which goes by the kit's print. Not trusted: Lean checks it.
import Derived.Test.YtfnndcpaldkkoaaPFnExactTreeGetx0
import Derived.Test.YtfnndcpaldkkoaaPFnExactTreeGetx13
namespace Go.Proofs.Ytfnndcpaldkkoaa.PFnExactTreeGet
open Go.RowKit Go.Proofs.YtfnndcpaldkkoaaW.PrintWords Go.Proofs.YtfnndcpaldkkoaaW.PrintLast Go.Proofs.YtfnndcpaldkkoaaW.PrintMore
attribute [local go_sem] max2_int min2_int max_two min_two max_three min_three max_four min_four   -- for this text's walks alone
set_option linter.unusedVariables false
set_option linter.unusedSimpArgs false

/-! ### impl_TreeDepth: function 18 -/
def impl_TreeDepth.f (k : Nat) (a0_0 : Bool) (l0_1 : List (S92)) (l0_2 : List Int) (l0_3 : List (S34)) (l0_4 : List (S72)) : Option (Int) := (impl_depthOf.f k a0_0 l0_1 l0_2 l0_3 l0_4 0 1000 7).bind fun t376 => (some t376)
theorem impl_TreeDepth.mono : ∀ a0 a1 a2 a3 a4 k, LeO (impl_TreeDepth.f k a0 a1 a2 a3 a4) (impl_TreeDepth.f (k + 1) a0 a1 a2 a3 a4) := by
 intro a0 a1 a2 a3 a4 k
 unfold impl_TreeDepth.f
 have m0 := @impl_depthOf.mono
 exact zm_
set_option maxHeartbeats 8000000 in
set_option maxRecDepth 100000 in
theorem impl_TreeDepth.calls (k : Nat) (a0_0 : Bool) (A0_1 : Option Addr) (c0_1 : Nat) (l0_1 : List (S92)) (A0_2 : Option Addr) (c0_2 : Nat) (l0_2 : List Int) (A0_3 : Option Addr) (c0_3 : Nat) (l0_3 : List (S34)) (A0_4 : Option Addr) (c0_4 : Nat) (l0_4 : List (S72)) (r : Int) (w : World) (hr0_1 : Kd.C k92 w A0_1 l0_1.length l0_1) (hc0_1 : l0_1.length ≤ c0_1) (hr0_2 : Kd.C (Kd.int .i64) w A0_2 l0_2.length l0_2) (hc0_2 : l0_2.length ≤ c0_2) (hr0_3 : Kd.C k34 w A0_3 l0_3.length l0_3) (hc0_3 : l0_3.length ≤ c0_3) (hr0_4 : Kd.C k72 w A0_4 l0_4.length l0_4) (hc0_4 : l0_4.length ≤ c0_4) (h : impl_TreeDepth.f k a0_0 l0_1 l0_2 l0_3 l0_4 = some r) :
  Calls Try.prog 18 #[.agg #[.bool a0_0, .slice A0_1 l0_1.length c0_1, .slice A0_2 l0_2.length c0_2, .slice A0_3 l0_3.length c0_3, .slice A0_4 l0_4.length c0_4]] w fun e w' => e = .returned (.int .i64 r) ∧ Below w.heap.size w w' := by
 have hu34 := Try.underlying34
 have HR0_1 := q_ hr0_1
 have HC0_1 := q_ hc0_1
 clear hr0_1 hc0_1
 have HR0_2 := q_ hr0_2
 have HC0_2 := q_ hc0_2
 clear hr0_2 hc0_2
 have HR0_3 := q_ hr0_3
 have HC0_3 := q_ hc0_3
 clear hr0_3 hc0_3
 have HR0_4 := q_ hr0_4
 have HC0_4 := q_ hc0_4
 clear hr0_4 hc0_4
 have HB := q_ (Below.refl w.heap.size w)
 have H := h; clear h
 unfold impl_TreeDepth.f at H
 replace H := bi_ H; obtain ⟨t376, A2, H⟩ := H
 obtain rfl := si_ H
 go_enter Try.func18, Try.ntmps18
 go_wp2_with (first | ((with_reducible refine gate_dst (N := 1) rfl ?_); refine box_event ?hg (N := 1) ?hd (cs := #[.bool a0_0, .slice A0_1 l0_1.length c0_1, .slice A0_2 l0_2.length c0_2, .slice A0_3 l0_3.length c0_3, .slice A0_4 l0_4.length c0_4]) (t := 34) ?hr ?_; (case hd => rfl); (case hg => rfl); (case hr => exact z104_); intro gb375 hg w3 hbox hb; have BK375 := q_ (hbox); have GW375 := ge_ hg; have GE375 := ge_ hg; replace HB := hb_ hb; clear hb hbox hg; obtain ⟨hz_, hz_, hz_, hz_, hz_, hz_, hz_, hz_, hz_, hz_⟩ := cs5_ BK375.out) | ((with_reducible refine gate_callee (f := 64) rfl ?_); refine goesL_ (some 4) rfl rfl Try.func64 (by kernel_rfl) rfl #[.agg #[.bool a0_0, .slice A0_1 l0_1.length c0_1, .slice A0_2 l0_2.length c0_2, .slice A0_3 l0_3.length c0_3, .slice A0_4 l0_4.length c0_4], .int .i64 0, .int .i64 1000, .int .i64 7] rfl z0_ ?_; (with_reducible refine (impl_depthOf.calls k a0_0 _ _ l0_1 _ _ l0_2 _ _ l0_3 _ _ l0_4 0 1000 7 t376 _ ?side1 ?side2 ?side3 ?side4 ?side5 ?side6 ?side7 ?side8 A2.out).mono ?_); (case side1 => exact z103_); (case side2 => exact z126_); (case side3 => exact z106_); (case side4 => exact HC0_2.out); (case side5 => exact z107_); (case side6 => exact HC0_3.out); (case side7 => exact z105_); (case side8 => exact HC0_4.out); rintro e w5 ⟨rfl, hb⟩; refine ⟨_, rfl, ?_⟩; replace HB := hb_ hb; (try clear hb); (try clear hb2); (try clear hk); (try clear hi)))
 go_ret
 exact ⟨z1_, cb_⟩

/-! ### impl_TreeOk: function 21 -/
def impl_TreeOk.f (k : Nat) (a0_0 : Bool) (l0_1 : List (S92)) (l0_2 : List Int) (l0_3 : List (S34)) (l0_4 : List (S72)) : Option (Bool) := (impl_TreeDepth.f k a0_0 l0_1 l0_2 l0_3 l0_4).bind fun t378 => (some (decide (t378 > 0)))
theorem impl_TreeOk.mono : ∀ a0 a1 a2 a3 a4 k, LeO (impl_TreeOk.f k a0 a1 a2 a3 a4) (impl_TreeOk.f (k + 1) a0 a1 a2 a3 a4) := by
 intro a0 a1 a2 a3 a4 k
 unfold impl_TreeOk.f
 have m0 := @impl_TreeDepth.mono
 exact zm_
set_option maxHeartbeats 8000000 in
set_option maxRecDepth 100000 in
theorem impl_TreeOk.calls (k : Nat) (a0_0 : Bool) (A0_1 : Option Addr) (c0_1 : Nat) (l0_1 : List (S92)) (A0_2 : Option Addr) (c0_2 : Nat) (l0_2 : List Int) (A0_3 : Option Addr) (c0_3 : Nat) (l0_3 : List (S34)) (A0_4 : Option Addr) (c0_4 : Nat) (l0_4 : List (S72)) (r : Bool) (w : World) (hr0_1 : Kd.C k92 w A0_1 l0_1.length l0_1) (hc0_1 : l0_1.length ≤ c0_1) (hr0_2 : Kd.C (Kd.int .i64) w A0_2 l0_2.length l0_2) (hc0_2 : l0_2.length ≤ c0_2) (hr0_3 : Kd.C k34 w A0_3 l0_3.length l0_3) (hc0_3 : l0_3.length ≤ c0_3) (hr0_4 : Kd.C k72 w A0_4 l0_4.length l0_4) (hc0_4 : l0_4.length ≤ c0_4) (h : impl_TreeOk.f k a0_0 l0_1 l0_2 l0_3 l0_4 = some r) :
  Calls Try.prog 21 #[.agg #[.bool a0_0, .slice A0_1 l0_1.length c0_1, .slice A0_2 l0_2.length c0_2, .slice A0_3 l0_3.length c0_3, .slice A0_4 l0_4.length c0_4]] w fun e w' => e = .returned (.bool r) ∧ Below w.heap.size w w' := by
 have hu34 := Try.underlying34
 have HR0_1 := q_ hr0_1
 have HC0_1 := q_ hc0_1
 clear hr0_1 hc0_1
 have HR0_2 := q_ hr0_2
 have HC0_2 := q_ hc0_2
 clear hr0_2 hc0_2
 have HR0_3 := q_ hr0_3
 have HC0_3 := q_ hc0_3
 clear hr0_3 hc0_3
 have HR0_4 := q_ hr0_4
 have HC0_4 := q_ hc0_4
 clear hr0_4 hc0_4
 have HB := q_ (Below.refl w.heap.size w)
 have H := h; clear h
 unfold impl_TreeOk.f at H
 replace H := bi_ H; obtain ⟨t378, A2, H⟩ := H
 obtain rfl := si_ H
 go_enter Try.func21, Try.ntmps21
 go_wp2_with (first | ((with_reducible refine gate_dst (N := 1) rfl ?_); refine box_event ?hg (N := 1) ?hd (cs := #[.bool a0_0, .slice A0_1 l0_1.length c0_1, .slice A0_2 l0_2.length c0_2, .slice A0_3 l0_3.length c0_3, .slice A0_4 l0_4.length c0_4]) (t := 34) ?hr ?_; (case hd => rfl); (case hg => rfl); (case hr => exact z104_); intro gb377 hg w3 hbox hb; have BK377 := q_ (hbox); have GW377 := ge_ hg; have GE377 := ge_ hg; replace HB := hb_ hb; clear hb hbox hg; obtain ⟨hz_, hz_, hz_, hz_, hz_, hz_, hz_, hz_, hz_, hz_⟩ := cs5_ BK377.out) | ((with_reducible refine gate_callee (f := 18) rfl ?_); refine goesL_ (some 4) rfl rfl Try.func18 (by kernel_rfl) rfl #[.agg #[.bool a0_0, .slice A0_1 l0_1.length c0_1, .slice A0_2 l0_2.length c0_2, .slice A0_3 l0_3.length c0_3, .slice A0_4 l0_4.length c0_4]] rfl z0_ ?_; (with_reducible refine (impl_TreeDepth.calls k a0_0 _ _ l0_1 _ _ l0_2 _ _ l0_3 _ _ l0_4 t378 _ ?side1 ?side2 ?side3 ?side4 ?side5 ?side6 ?side7 ?side8 A2.out).mono ?_); (case side1 => exact z103_); (case side2 => exact z126_); (case side3 => exact z106_); (case side4 => exact HC0_2.out); (case side5 => exact z107_); (case side6 => exact HC0_3.out); (case side7 => exact z105_); (case side8 => exact HC0_4.out); rintro e w5 ⟨rfl, hb⟩; refine ⟨_, rfl, ?_⟩; replace HB := hb_ hb; (try clear hb); (try clear hb2); (try clear hk); (try clear hi)))
 go_ret
 exact ⟨z1_, cb_⟩

/-! ### impl_pairAt_f1: function 119 -/
def impl_pairAt_f1.f (a0_0 : Int) (a0_1 : Int) (a28_0 : Int) : Option (Bool) := some (a0_0 == a28_0)
set_option maxHeartbeats 8000000 in
set_option maxRecDepth 100000 in
theorem impl_pairAt_f1.calls (a0_0 : Int) (a0_1 : Int) (gc28 : Nat) (a28_0 : Int) (r : Bool) (w : World) (hb28 : w.heap[gc28]? = some (.cells #[.int .i64 a28_0] 3 (0, 0))) (h : impl_pairAt_f1.f a0_0 a0_1 a28_0 = some r) :
  Calls Try.prog 119 #[.agg #[.int .i64 a0_0, .int .i64 a0_1], .pointer (some ⟨gc28, 0, none⟩)] w fun e w' => e = .returned (.bool r) ∧ Below w.heap.size w w' := by
 have hu92 := Try.underlying92
 have BK28 := q_ hb28
 clear hb28
 have HB := q_ (Below.refl w.heap.size w)
 have H := h; clear h
 unfold impl_pairAt_f1.f at H
 obtain rfl := si_ H
 go_enter Try.func119, Try.ntmps119
 go_wp2_with (first | ((with_reducible refine gate_dst (N := 2) rfl ?_); refine box_event ?hg (N := 2) ?hd (cs := #[.int .i64 a0_0, .int .i64 a0_1]) (t := 92) ?hr ?_; (case hd => rfl); (case hg => rfl); (case hr => exact z104_); intro gb379 hg w3 hbox hb; have BK379 := q_ (hbox); have GW379 := ge_ hg; have GE379 := ge_ hg; replace HB := hb_ hb; have NB28_379 := nl_ hg BK28; have NB379_28 := nr_ hg BK28; replace BK28 := rb_ BK28 hb; clear hb hbox hg; have hnb4 := NB379_28.out; have hnc4 := NB28_379.out; obtain ⟨hz_, hz_, hz_, hz_⟩ := cs2_ BK379.out; have hcz6_0 : w3.cell? ⟨gc28, 0, none⟩ = some (.int .i64 a28_0) := (blk_cell BK28.out 0).trans rfl; have hfz6_0 := blk_frozen BK28.out 0))
 go_ret
 exact ⟨z1_, cb_⟩

/-! ### slices_IndexFunc_Pair_119: function 118 -/
def slices_IndexFunc_Pair_119.l0 : Nat → List (S92) → Int → Int → Int → Option (Int)
 | 0, _, _, _, _ => none
 | k + 1, x0, x7, x8, x29000 => if x8 < x7 then (if 0 ≤ x8 then (if x8 < (x0.length : Int) then ((impl_pairAt_f1.f ((rd_T92 x0 x8).f0) ((rd_T92 x0 x8).f1) x29000).bind fun t381 => (if t381 = true then (some x8) else (slices_IndexFunc_Pair_119.l0 k x0 x7 (wrap64 (x8 + 1)) x29000))) else (none)) else (none)) else (some (-1))
def slices_IndexFunc_Pair_119.f (k : Nat) (l0 : List (S92)) (a28_0 : Int) : Option (Int) := slices_IndexFunc_Pair_119.l0 k l0 (l0.length : Int) 0 a28_0
theorem slices_IndexFunc_Pair_119.mono_l : ∀ k, (∀ y0 y1 y2 y3, LeO (slices_IndexFunc_Pair_119.l0 k y0 y1 y2 y3) (slices_IndexFunc_Pair_119.l0 (k + 1) y0 y1 y2 y3))
 | 0 => fun _ _ _ _ r h => by simp [slices_IndexFunc_Pair_119.l0] at h
 | k + 1 => by
  have ih0 := slices_IndexFunc_Pair_119.mono_l k
  ·intro y0 y1 y2 y3
   unfold slices_IndexFunc_Pair_119.l0
   exact zm_
theorem slices_IndexFunc_Pair_119.mono : ∀ a0 a1 k, LeO (slices_IndexFunc_Pair_119.f k a0 a1) (slices_IndexFunc_Pair_119.f (k + 1) a0 a1) := by
 intro a0 a1 k
 have ih0 := slices_IndexFunc_Pair_119.mono_l k
 unfold slices_IndexFunc_Pair_119.f
 exact zm_
set_option maxHeartbeats 8000000 in
set_option maxRecDepth 100000 in
theorem slices_IndexFunc_Pair_119.calls (k : Nat) (A0 : Option Addr) (c0 : Nat) (l0 : List (S92)) (gc28 : Nat) (a28_0 : Int) (r : Int) (w : World) (hr0 : Kd.C k92 w A0 l0.length l0) (hc0 : l0.length ≤ c0) (hb28 : w.heap[gc28]? = some (.cells #[.int .i64 a28_0] 3 (0, 0))) (h : slices_IndexFunc_Pair_119.f k l0 a28_0 = some r) :
  Calls Try.prog 118 #[.slice A0 l0.length c0, .func (.func 119) #[] #[.pointer (some ⟨gc28, 0, none⟩)]] w fun e w' => e = .returned (.int .i64 r) ∧ Below w.heap.size w w' := by
 have hu92 := Try.underlying92
 have HR0 := q_ hr0
 have HC0 := q_ hc0
 clear hr0 hc0
 have BK28 := q_ hb28
 clear hb28
 have HB := q_ (Below.refl w.heap.size w)
 have H := h; clear h
 unfold slices_IndexFunc_Pair_119.f at H
 have H' := q_ H
 clear H
 go_enter Try.func118, Try.ntmps118
 go_wp2
 go_loopg [8] k (fun kq v8 w' => ∃ (x8_1 : Int), v8 = .int .i64 x8_1 ∧ Aside0 (slices_IndexFunc_Pair_119.l0 kq l0 (l0.length : Int) x8_1 a28_0 = some r) ∧ Aside0 (kq ≤ k) ∧ Aside0 (w'.heap[gc28]? = some (.cells #[.int .i64 a28_0] 3 (0, 0))) ∧ Aside0 (Below w.heap.size w w'))
 case atStart => exact ⟨(0), z4_, H', ⟨Nat.le_refl _⟩, ⟨z44_⟩, ⟨cb_⟩⟩
 case round =>
  clear H'
  try clear c1
  try clear c2
  try clear p2
  obtain ⟨x8_1, rfl, HA, HK1, BK28, HB⟩ := hrel
  obtain ⟨k1, rfl, H⟩ := rn_ (k := gk) HA (by rintro rfl; simp only [slices_IndexFunc_Pair_119.l0])
  clear HA
  simp only [slices_IndexFunc_Pair_119.l0] at H
  replace H := kd_ H; rcases H with ⟨c3b0, H⟩ | ⟨c3b0, H⟩
  ·replace H := kdn_ H; obtain ⟨c4b0, H⟩ := H
   replace H := kdn_ H; obtain ⟨c5b0, H⟩ := H
   replace H := bi_ H; obtain ⟨t381, A6, H⟩ := H
   have HC7 := q_ H
   clear H
   have p380 : 0 ≤ (x8_1 : Int) := of_decide_eq_true z2_
   have q380 : x8_1 < (l0.length : Int) := of_decide_eq_true z2_
   obtain ⟨ad380, e380, hx380_0, hx380_1⟩ := at_T92 HR0.out x8_1 p380 q380
   cases e380
   replace hx380_0 := up_ HB hx380_0
   replace hx380_1 := up_ HB hx380_1
   replace p380 := eq_true p380
   replace q380 := eq_true q380
   go_upto_if 16 with (first | (go_at_call 119; refine calls_of_args (args' := #[.agg #[.int .i64 ((rd_T92 l0 x8_1).f0), .int .i64 ((rd_T92 l0 x8_1).f1)], .pointer (some ⟨gc28, 0, none⟩)]) z99_ ?_; (with_reducible refine (impl_pairAt_f1.calls ((rd_T92 l0 x8_1).f0) ((rd_T92 l0 x8_1).f1) gc28 a28_0 t381 _ ?side1 A6.out).mono ?_); (case side1 => exact z110_); rintro e w8 ⟨rfl, hb⟩; replace BK28 := rb_ BK28 hb; replace HB := hb_ hb; (try clear hb); (try clear hb2); (try clear hk); (try clear hi)))
   (try simp only [Act.put, List.setIfInBounds_toArray, List.set_cons_zero, List.set_cons_succ])
   have H := HC7.out
   clear HC7
   replace H := kb_ H; rcases H with ⟨rfl, H⟩ | ⟨rfl, H⟩
   ·obtain rfl := si_ H
    go_wp2
    go_ret
    exact ⟨z1_, cb_⟩
   ·have H' := q_ H
    clear H
    go_wp2
    go_roundg k1
    case measure => have := HK1.out; omega
    case rel => exact ⟨(wrap64 (x8_1 + 1)), z4_, H', ⟨z29_⟩, ⟨z44_⟩, ⟨cb_⟩⟩
  ·obtain rfl := si_ H
   go_wp2
   go_ret
   exact ⟨z1_, cb_⟩

/-! ### impl_pairAt: function 95 -/
def impl_pairAt.f (k : Nat) (l0 : List (S92)) (a1 : Int) : Option (Int) := (slices_IndexFunc_Pair_119.f k l0 a1).bind fun t383 => (some t383)
theorem impl_pairAt.mono : ∀ a0 a1 k, LeO (impl_pairAt.f k a0 a1) (impl_pairAt.f (k + 1) a0 a1) := by
 intro a0 a1 k
 unfold impl_pairAt.f
 have m0 := @slices_IndexFunc_Pair_119.mono
 exact zm_
set_option maxHeartbeats 8000000 in
set_option maxRecDepth 100000 in
theorem impl_pairAt.calls (k : Nat) (A0 : Option Addr) (c0 : Nat) (l0 : List (S92)) (a1 : Int) (r : Int) (w : World) (hr0 : Kd.C k92 w A0 l0.length l0) (hc0 : l0.length ≤ c0) (h : impl_pairAt.f k l0 a1 = some r) :
  Calls Try.prog 95 #[.slice A0 l0.length c0, .int .i64 a1] w fun e w' => e = .returned (.int .i64 r) ∧ Below w.heap.size w w' := by
 have HR0 := q_ hr0
 have HC0 := q_ hc0
 clear hr0 hc0
 have HB := q_ (Below.refl w.heap.size w)
 have H := h; clear h
 unfold impl_pairAt.f at H
 replace H := bi_ H; obtain ⟨t383, A3, H⟩ := H
 obtain rfl := si_ H
 go_enter Try.func95, Try.ntmps95
 go_wp2_with (first | ((with_reducible refine gate_dst (N := 3) rfl ?_); refine box_event ?hg (N := 3) ?hd (cs := #[.int .i64 a1]) (t := 3) ?hr ?_; (case hd => rfl); (case hg => rfl); (case hr => exact z104_); intro gb382 hg w4 hbox hb; have BK382 := q_ (hbox); have GW382 := ge_ hg; have GE382 := ge_ hg; replace HB := hb_ hb; clear hb hbox hg) | ((with_reducible refine gate_callee (f := 118) rfl ?_); refine goesL_ (some 7) rfl rfl Try.func118 (by kernel_rfl) rfl #[.slice A0 l0.length c0, .func (.func 119) #[] #[.pointer (some ⟨gb382, 0, none⟩)]] rfl z0_ ?_; (with_reducible refine (slices_IndexFunc_Pair_119.calls k _ _ l0 gb382 a1 t383 _ ?side1 ?side2 ?side3 A3.out).mono ?_); (case side1 => exact z108_); (case side2 => exact HC0.out); (case side3 => (with_reducible repeat (first | refine blk_drewN ?_ _ | refine blk_drew ?_ | refine blk_alloc ?_ _)); exact BK382.out); rintro e w5 ⟨rfl, hb⟩; refine ⟨_, rfl, ?_⟩; replace BK382 := rb_ BK382 hb; replace HB := hb_ hb; (try clear hb); (try clear hb2); (try clear hk); (try clear hi)))
 go_ret
 exact ⟨z1_, cb_⟩

/-! ### impl_MapGet: function 54 -/
def impl_MapGet.f (k : Nat) (l0 : List (S92)) (a1 : Int) : Option (Int × Bool) := (impl_pairAt.f k l0 a1).bind fun t384 => (if t384 < 0 then (some (0, false)) else (if 0 ≤ t384 then (if t384 < (l0.length : Int) then (some ((rd_T92 l0 t384).f1, true)) else (none)) else (none)))
theorem impl_MapGet.mono : ∀ a0 a1 k, LeO (impl_MapGet.f k a0 a1) (impl_MapGet.f (k + 1) a0 a1) := by
 intro a0 a1 k
 unfold impl_MapGet.f
 have m0 := @impl_pairAt.mono
 exact zm_
set_option maxHeartbeats 8000000 in
set_option maxRecDepth 100000 in
theorem impl_MapGet.calls (k : Nat) (A0 : Option Addr) (c0 : Nat) (l0 : List (S92)) (a1 : Int) (r1 : Int) (r2 : Bool) (w : World) (hr0 : Kd.C k92 w A0 l0.length l0) (hc0 : l0.length ≤ c0) (h : impl_MapGet.f k l0 a1 = some (r1, r2)) :
  Calls Try.prog 54 #[.slice A0 l0.length c0, .int .i64 a1] w fun e w' => e = .returned (.tuple #[.int .i64 r1, .bool r2]) ∧ Below w.heap.size w w' := by
 have HR0 := q_ hr0
 have HC0 := q_ hc0
 clear hr0 hc0
 have HB := q_ (Below.refl w.heap.size w)
 have H := h; clear h
 unfold impl_MapGet.f at H
 replace H := bi_ H; obtain ⟨t384, A3, H⟩ := H
 have HC4 := q_ H
 clear H
 go_enter Try.func54, Try.ntmps54
 go_upto_if 11 with (first | ((with_reducible refine gate_callee (f := 95) rfl ?_); refine goesL_ (some 9) rfl rfl Try.func95 (by kernel_rfl) rfl #[.slice A0 l0.length c0, .int .i64 a1] rfl z0_ ?_; (with_reducible refine (impl_pairAt.calls k _ _ l0 a1 t384 _ ?side1 ?side2 A3.out).mono ?_); (case side1 => exact z109_); (case side2 => exact HC0.out); rintro e w5 ⟨rfl, hb⟩; refine ⟨_, rfl, ?_⟩; replace HB := hb_ hb; (try clear hb); (try clear hb2); (try clear hk); (try clear hi)))
 (try simp only [Act.put, List.setIfInBounds_toArray, List.set_cons_zero, List.set_cons_succ])
 have H := HC4.out
 clear HC4
 replace H := kd_ H; rcases H with ⟨c6b0, H⟩ | ⟨c6b0, H⟩
 ·(first | rw [c6b0] | rw [c6b1] | (simp only [i64_w, i32_w]; first | rw [c6b0] | rw [c6b1]) | rw [c6b2] | skip)
  obtain ⟨rfl, rfl⟩ := s2_ H
  go_wp2
  go_ret2
  exact ⟨z1_, cb_⟩
 ·(first | rw [c6b0] | rw [c6b1] | (simp only [i64_w, i32_w]; first | rw [c6b0] | rw [c6b1]) | rw [c6b2] | skip)
  replace H := kdn_ H; obtain ⟨c7b0, H⟩ := H
  replace H := kdn_ H; obtain ⟨c8b0, H⟩ := H
  obtain ⟨rfl, rfl⟩ := s2_ H
  have p385 : 0 ≤ (t384 : Int) := of_decide_eq_true z2_
  have q385 : t384 < (l0.length : Int) := of_decide_eq_true z2_
  obtain ⟨ad385, e385, hx385_0, hx385_1⟩ := at_T92 HR0.out t384 p385 q385
  cases e385
  replace hx385_0 := up_ HB hx385_0
  replace hx385_1 := up_ HB hx385_1
  replace p385 := eq_true p385
  replace q385 := eq_true q385
  go_wp2
  go_ret2
  exact ⟨z1_, cb_⟩

/-! ### impl_kidOf: function 68 -/
def impl_kidOf.l0 : Nat → Int → Int → List Int → Int → Int → Option (Int)
 | 0, _, _, _, _, _ => none
 | k + 1, x1, x5, x8, x9, x10 => if x10 < x9 then (if 0 ≤ x10 then (if x10 < (x8.length : Int) then (if (rd x8 x10) ≤ x1 then (impl_kidOf.l0 k x1 (wrap64 (x5 + 1)) x8 x9 (wrap64 (x10 + 1))) else (impl_kidOf.l0 k x1 x5 x8 x9 (wrap64 (x10 + 1)))) else (none)) else (none)) else (some x5)
def impl_kidOf.f (k : Nat) (l0 : List Int) (a1 : Int) : Option (Int) := impl_kidOf.l0 k a1 0 l0 (l0.length : Int) 0
theorem impl_kidOf.mono_l : ∀ k, (∀ y0 y1 y2 y3 y4, LeO (impl_kidOf.l0 k y0 y1 y2 y3 y4) (impl_kidOf.l0 (k + 1) y0 y1 y2 y3 y4))
 | 0 => fun _ _ _ _ _ r h => by simp [impl_kidOf.l0] at h
 | k + 1 => by
  have ih0 := impl_kidOf.mono_l k
  ·intro y0 y1 y2 y3 y4
   unfold impl_kidOf.l0
   exact zm_
theorem impl_kidOf.mono : ∀ a0 a1 k, LeO (impl_kidOf.f k a0 a1) (impl_kidOf.f (k + 1) a0 a1) := by
 intro a0 a1 k
 have ih0 := impl_kidOf.mono_l k
 unfold impl_kidOf.f
 exact zm_
set_option maxHeartbeats 8000000 in
set_option maxRecDepth 100000 in
theorem impl_kidOf.calls (k : Nat) (A0 : Option Addr) (c0 : Nat) (l0 : List Int) (a1 : Int) (r : Int) (w : World) (hr0 : Kd.C (Kd.int .i64) w A0 l0.length l0) (hc0 : l0.length ≤ c0) (h : impl_kidOf.f k l0 a1 = some r) :
  Calls Try.prog 68 #[.slice A0 l0.length c0, .int .i64 a1] w fun e w' => e = .returned (.int .i64 r) ∧ Drawn0 w w' := by
 have HR0 := q_ hr0
 have HC0 := q_ hc0
 clear hr0 hc0
 have H := h; clear h
 unfold impl_kidOf.f at H
 have H' := q_ H
 clear H
 go_enter Try.func68, Try.ntmps68
 go_wp2
 go_loopg [5, 10] k (fun kq v5 v10 w' => ∃ (x5_1 : Int) (x10_1 : Int), v5 = .int .i64 x5_1 ∧ v10 = .int .i64 x10_1 ∧ Aside0 (impl_kidOf.l0 kq a1 x5_1 l0 (l0.length : Int) x10_1 = some r) ∧ Aside0 (kq ≤ k) ∧ Drawn0 w w')
 case atStart => exact ⟨(0), (0), z4_, z4_, H', ⟨Nat.le_refl _⟩, z7_⟩
 case round =>
  clear H'
  try clear p2
  obtain ⟨x5_1, x10_1, rfl, rfl, HA, HK1, ⟨m1, rfl⟩⟩ := hrel
  obtain ⟨k1, rfl, H⟩ := rn_ (k := gk) HA (by rintro rfl; simp only [impl_kidOf.l0])
  clear HA
  simp only [impl_kidOf.l0] at H
  replace H := kd_ H; rcases H with ⟨c3b0, H⟩ | ⟨c3b0, H⟩
  ·replace H := kdn_ H; obtain ⟨c4b0, H⟩ := H
   replace H := kdn_ H; obtain ⟨c5b0, H⟩ := H
   replace H := kd_ H; rcases H with ⟨c6b0, H⟩ | ⟨c6b0, H⟩
   ·have H' := q_ H
    clear H
    have p386 : 0 ≤ (x10_1 : Int) := of_decide_eq_true z2_
    have q386 : x10_1 < (l0.length : Int) := of_decide_eq_true z2_
    obtain ⟨ad386, e386, hx386_0⟩ := Kd.at_int HR0.out x10_1 p386 q386
    cases e386
    replace p386 := eq_true p386
    replace q386 := eq_true q386
    go_wp2
    go_roundg k1
    case measure => have := HK1.out; omega
    case rel => exact ⟨(wrap64 (x5_1 + 1)), (wrap64 (x10_1 + 1)), z4_, z4_, H', ⟨z29_⟩, z7_⟩
   ·have H' := q_ H
    clear H
    have p386 : 0 ≤ (x10_1 : Int) := of_decide_eq_true z2_
    have q386 : x10_1 < (l0.length : Int) := of_decide_eq_true z2_
    obtain ⟨ad386, e386, hx386_0⟩ := Kd.at_int HR0.out x10_1 p386 q386
    cases e386
    replace p386 := eq_true p386
    replace q386 := eq_true q386
    go_wp2
    go_roundg k1
    case measure => have := HK1.out; omega
    case rel => exact ⟨(x5_1), (wrap64 (x10_1 + 1)), z4_, z4_, H', ⟨z29_⟩, z7_⟩
  ·obtain rfl := si_ H
   go_wp2
   go_ret
   exact ⟨z4_, z7_⟩

/-! ### impl_pending: function 72 -/
mutual
def impl_pending.l0 : Nat → Int → List (S72) → List (S72) → Int → Int → Option ((List (S72)))
 | 0, _, _, _, _, _ => none
 | k + 1, x1, x5, x23, x24, x25 => if x25 < x24 then (if 0 ≤ x25 then (if x25 < (x23.length : Int) then (if ((rd_T72 x23 x25).f1) = x1 then (if x5.length < 5864062014805 then (impl_pending.l0 k x1 (x5 ++ [(⟨(rd_T72 x23 x25).f0, (rd_T72 x23 x25).f1, (rd_T72 x23 x25).f2⟩ : S72)]) x23 x24 (wrap64 (x25 + 1))) else (none)) else (impl_pending.l0 k x1 x5 x23 x24 (wrap64 (x25 + 1)))) else (none)) else (none)) else (some x5)
def impl_pending.f : Nat → Bool → List (S92) → List Int → List (S34) → List (S72) → Int → Option ((List (S72)))
 | 0, _, _, _, _, _, _ => none
 | k + 1, a0_0, l0_1, l0_2, l0_3, l0_4, a1 => if a0_0 = true then (some (([] : List (S72)))) else ((impl_kidOf.f k l0_2 a1).bind fun t391 => (if 0 ≤ t391 then (if t391 < (l0_3.length : Int) then ((impl_pending.f k ((rd_T34 l0_3 t391).f0) ((rd_T34 l0_3 t391).f1) ((rd_T34 l0_3 t391).f2) ((rd_T34 l0_3 t391).f3) ((rd_T34 l0_3 t391).f4) a1).bind fun t393 => (impl_pending.l0 k a1 t393 l0_4 (l0_4.length : Int) 0)) else (none)) else (none)))
end
theorem impl_pending.mono_l : ∀ k, (∀ y0 y1 y2 y3 y4 y5, LeO (impl_pending.f k y0 y1 y2 y3 y4 y5) (impl_pending.f (k + 1) y0 y1 y2 y3 y4 y5)) ∧ (∀ y0 y1 y2 y3 y4, LeO (impl_pending.l0 k y0 y1 y2 y3 y4) (impl_pending.l0 (k + 1) y0 y1 y2 y3 y4))
 | 0 => ⟨fun _ _ _ _ _ _ r h => by simp [impl_pending.f] at h, fun _ _ _ _ _ r h => by simp [impl_pending.l0] at h⟩
 | k + 1 => by
  obtain ⟨ih0, ih1⟩ := impl_pending.mono_l k
  refine ⟨?_, ?_⟩
  ·intro y0 y1 y2 y3 y4 y5
   unfold impl_pending.f
   have m0 := @impl_kidOf.mono
   exact zm_
  ·intro y0 y1 y2 y3 y4
   unfold impl_pending.l0
   have m0 := @impl_kidOf.mono
   exact zm_
theorem impl_pending.mono : ∀ a0 a1 a2 a3 a4 a5 k, LeO (impl_pending.f k a0 a1 a2 a3 a4 a5) (impl_pending.f (k + 1) a0 a1 a2 a3 a4 a5) := by
 intro a0 a1 a2 a3 a4 a5 k
 obtain ⟨ih0, ih1⟩ := impl_pending.mono_l k
 exact ih0 a0 a1 a2 a3 a4 a5
def impl_pending.T4 : Bool × List (List Nat × List Nat) := (true, [([], []), ([0], [0]), ([], []), ([2], [2]), ([], []), ([3, 4], [3, 4]), ([1, 5], [1, 5]), ([6], [6]), ([], []), ([7, 8, 5], [7, 8]), ([9, 9, 0, 1, 2, 3, 4, 5, 6, 7, 8, 9], [9])])
def impl_pending.B4 : List Nat := [0, 1, 0, 4, 0, 28, 63, 127, 0, 511, 1023]
theorem impl_pending.tab4 : rtab .any (opsOf Try.f72 4) = impl_pending.T4 := by kernel_rfl
theorem impl_pending.bits4 : waitsOk impl_pending.T4.2 impl_pending.B4 = true := by kernel_rfl
set_option maxHeartbeats 8000000 in
set_option maxRecDepth 100000 in
theorem impl_pending.calls (k : Nat) : ∀ (a0_0 : Bool) (A0_1 : Option Addr) (c0_1 : Nat) (l0_1 : List (S92)) (A0_2 : Option Addr) (c0_2 : Nat) (l0_2 : List Int) (A0_3 : Option Addr) (c0_3 : Nat) (l0_3 : List (S34)) (A0_4 : Option Addr) (c0_4 : Nat) (l0_4 : List (S72)) (a1 : Int) (r : List (S72)) (w : World) (hr0_1 : Kd.C k92 w A0_1 l0_1.length l0_1) (hc0_1 : l0_1.length ≤ c0_1) (hr0_2 : Kd.C (Kd.int .i64) w A0_2 l0_2.length l0_2) (hc0_2 : l0_2.length ≤ c0_2) (hr0_3 : Kd.C k34 w A0_3 l0_3.length l0_3) (hc0_3 : l0_3.length ≤ c0_3) (hr0_4 : Kd.C k72 w A0_4 l0_4.length l0_4) (hc0_4 : l0_4.length ≤ c0_4) (h : impl_pending.f k a0_0 l0_1 l0_2 l0_3 l0_4 a1 = some r),
  Calls Try.prog 72 #[.agg #[.bool a0_0, .slice A0_1 l0_1.length c0_1, .slice A0_2 l0_2.length c0_2, .slice A0_3 l0_3.length c0_3, .slice A0_4 l0_4.length c0_4], .int .i64 a1] w fun e w' => ∃ v0_ : Value, e = .returned (v0_) ∧ Kd.R k72 72 w' w.heap.size (fun _ => True) v0_ r ∧ Below w.heap.size w w' := by
 induction k using Nat.strongRecOn with
 | _ k ih =>
 intro a0_0 A0_1 c0_1 l0_1 A0_2 c0_2 l0_2 A0_3 c0_3 l0_3 A0_4 c0_4 l0_4 a1 r w hr0_1 hc0_1 hr0_2 hc0_2 hr0_3 hc0_3 hr0_4 hc0_4 h
 cases k with
 | zero => exact absurd h (by simp [impl_pending.f])
 | succ k =>
 simp only [impl_pending.f] at h
 have hu34 := Try.underlying34
 have hu72 := Try.underlying72
 have HR0_1 := q_ hr0_1
 have HC0_1 := q_ hc0_1
 clear hr0_1 hc0_1
 have HR0_2 := q_ hr0_2
 have HC0_2 := q_ hc0_2
 clear hr0_2 hc0_2
 have HR0_3 := q_ hr0_3
 have HC0_3 := q_ hc0_3
 clear hr0_3 hc0_3
 have HR0_4 := q_ hr0_4
 have HC0_4 := q_ hc0_4
 clear hr0_4 hc0_4
 have HB := q_ (Below.refl w.heap.size w)
 have H := h; clear h
 obtain ⟨y388, hy_⟩ : ∃ y_ : List (S72), y_ = (([] : List (S72))) := ⟨_, rfl⟩
 replace H : (if a0_0 = true then (some y388) else ((impl_kidOf.f k l0_2 a1).bind fun t391 => (if 0 ≤ t391 then (if t391 < (l0_3.length : Int) then ((impl_pending.f k ((rd_T34 l0_3 t391).f0) ((rd_T34 l0_3 t391).f1) ((rd_T34 l0_3 t391).f2) ((rd_T34 l0_3 t391).f3) ((rd_T34 l0_3 t391).f4) a1).bind fun t393 => (impl_pending.l0 k a1 t393 l0_4 (l0_4.length : Int) 0)) else (none)) else (none)))) = some r := z3_
 have Ny388 := q_ hy_
 clear hy_
 have HC3 := q_ H
 clear H
 go_enter Try.func72, Try.ntmps72
 go_upto_if 10 with (first | ((with_reducible refine gate_dst (N := 2) rfl ?_); refine box_event ?hg (N := 2) ?hd (cs := #[.bool a0_0, .slice A0_1 l0_1.length c0_1, .slice A0_2 l0_2.length c0_2, .slice A0_3 l0_3.length c0_3, .slice A0_4 l0_4.length c0_4]) (t := 34) ?hr ?_; (case hd => rfl); (case hg => rfl); (case hr => exact z104_); intro gb387 hg w4 hbox hb; have BK387 := q_ (hbox); have GW387 := ge_ hg; have GE387 := ge_ hg; replace HB := hb_ hb; clear hb hbox hg) | ((with_reducible refine gate_dst (N := 8) rfl ?_); refine Kd.R_lit k72 _ 72 ?hg (N := 8) ?hd (xs := ([] : List (S72))) (inner := []) (ok := fun _ => True) (okp := fun _ => True) ?hr ?hp (fun _ hk => hk) trivial (Below.refl _ _) (Nat.le_refl _) (by simp) ?_; (case hd => rfl); (case hg => rfl); (case hr => exact z104_); (case hp => exact z135_); intro v389 w5 ho6 hb hg_ hnew_; clear hg_ hnew_; (first | rw [← Ny388.out] at ho6 | (simp only [Int.reduceToNat] at ho6; rw [← Ny388.out] at ho6)); have HO390 := q_ (Kd.R_lower ho6 (below_size cb_)); replace BK387 := rb_ BK387 hb; replace HB := hb_ hb; clear hb ho6; obtain ⟨hz_, hz_, hz_, hz_, hz_, hz_, hz_, hz_, hz_, hz_⟩ := cs5_ BK387.out))
 (try simp only [Act.put, List.setIfInBounds_toArray, List.set_cons_zero, List.set_cons_succ])
 have H := HC3.out
 clear HC3
 replace H := kb_ H; rcases H with ⟨rfl, H⟩ | ⟨rfl, H⟩
 ·obtain rfl := si_ H
  go_wp2
  go_ret
  exact ⟨_, z1_, z78_, cb_⟩
 ·replace H := bi_ H; obtain ⟨t391, A9, H⟩ := H
  replace H := kdn_ H; obtain ⟨c10b0, H⟩ := H
  (first | rw [c10b0] | rw [c10b1] | (simp only [i64_w, i32_w]; first | rw [c10b0] | rw [c10b1]) | rw [c10b2] | skip)
  replace H := kdn_ H; obtain ⟨c11b0, H⟩ := H
  replace H := bi_ H; obtain ⟨t393, A12, H⟩ := H
  have H' := q_ H
  clear H
  try go_wp2
  replace HO390 := q_ (Kd.R_drew HO390.out)
  replace BK387 := q_ (blk_drew BK387.out)
  replace HB := q_ (below_drew1 HB.out)
  have p392 : 0 ≤ (t391 : Int) := of_decide_eq_true z2_
  have q392 : t391 < (l0_3.length : Int) := of_decide_eq_true z2_
  obtain ⟨ad392, A392_1, c392_1, A392_2, c392_2, A392_3, c392_3, A392_4, c392_4, e392, hx392_0, hx392_1, hx392_2, hx392_3, hx392_4, hl392_1, hi392_1, hl392_2, hi392_2, hl392_3, hi392_3, hl392_4, hi392_4⟩ := at_T34 HR0_3.out t391 p392 q392
  have hw392_4 := hx392_4
  have hw392_3 := hx392_3
  have hw392_2 := hx392_2
  have hw392_1 := hx392_1
  have hw392_0 := hx392_0
  cases e392
  replace hx392_0 := up_ HB hx392_0
  replace hx392_1 := up_ HB hx392_1
  replace hx392_2 := up_ HB hx392_2
  replace hx392_3 := up_ HB hx392_3
  replace hx392_4 := up_ HB hx392_4
  have HR392_1 := q_ hi392_1
  have HC392_1 := q_ hl392_1
  clear hi392_1 hl392_1
  have HR392_2 := q_ hi392_2
  have HC392_2 := q_ hl392_2
  clear hi392_2 hl392_2
  have HR392_3 := q_ hi392_3
  have HC392_3 := q_ hl392_3
  clear hi392_3 hl392_3
  have HR392_4 := q_ hi392_4
  have HC392_4 := q_ hl392_4
  clear hi392_4 hl392_4
  replace p392 := eq_true p392
  replace q392 := eq_true q392
  refine start_ (n := 11) (S := fun w' => w'.cell? ⟨gb387, 0, none⟩ = some (.bool false) ∧ w'.cell? ⟨gb387, 1, none⟩ = some (.slice A0_1 l0_1.length c0_1) ∧ w'.cell? ⟨gb387, 2, none⟩ = some (.slice A0_2 l0_2.length c0_2) ∧ w'.cell? ⟨gb387, 3, none⟩ = some (.slice (some ad392) l0_3.length c0_3) ∧ w'.cell? ⟨gb387, 4, none⟩ = some (.slice A0_4 l0_4.length c0_4) ∧ w'.cell? (ad392.add ((t391).toNat * 5)) = some (.bool ((rd_T34 l0_3 t391).f0)) ∧ w'.cell? ⟨(ad392.add ((t391).toNat * 5)).block, (ad392.add ((t391).toNat * 5)).off + 1, none⟩ = some (.slice A392_1 ((rd_T34 l0_3 t391).f1).length c392_1) ∧ w'.cell? ⟨(ad392.add ((t391).toNat * 5)).block, (ad392.add ((t391).toNat * 5)).off + 2, none⟩ = some (.slice A392_2 ((rd_T34 l0_3 t391).f2).length c392_2) ∧ w'.cell? ⟨(ad392.add ((t391).toNat * 5)).block, (ad392.add ((t391).toNat * 5)).off + 3, none⟩ = some (.slice A392_3 ((rd_T34 l0_3 t391).f3).length c392_3) ∧ w'.cell? ⟨(ad392.add ((t391).toNat * 5)).block, (ad392.add ((t391).toNat * 5)).off + 4, none⟩ = some (.slice A392_4 ((rd_T34 l0_3 t391).f4).length c392_4)) (ds := []) (tf 0 11) (by kernel_rfl) rfl rfl ⟨(blk_cell BK387.out 0).trans rfl, (blk_cell BK387.out 1).trans rfl, (blk_cell BK387.out 2).trans rfl, (blk_cell BK387.out 3).trans rfl, (blk_cell BK387.out 4).trans rfl, ((HB.out.cell (World.block_lt_of_cell? w _ hw392_0)).trans hw392_0), ((HB.out.cell (World.block_lt_of_cell? w _ hw392_1)).trans hw392_1), ((HB.out.cell (World.block_lt_of_cell? w _ hw392_2)).trans hw392_2), ((HB.out.cell (World.block_lt_of_cell? w _ hw392_3)).trans hw392_3), ((HB.out.cell (World.block_lt_of_cell? w _ hw392_4)).trans hw392_4)⟩ (fun hHeld => ?_); refine with_tabW impl_pending.tab4 impl_pending.bits4 (fun HT_ HW_ => ?_)
  generalize w5.drew = w13 at HO390 BK387 HB HR392_1 HR392_2 HR392_3 HR392_4 hx392_0 hx392_1 hx392_2 hx392_3 hx392_4 hHeld ⊢
  refine p1_ 0 (some 12) (tf 1 10) HT_.out ?_
  refine p1_ 2 (some 14) #[true, false, true, false, false, false, false, false, false, false, false] HT_.out ?_
  refine p1_ 4 (some 16) #[true, false, true, false, true, false, false, false, false, false, false] HT_.out ?_
  refine p1_ 8 (some 20) #[true, false, true, false, true, false, false, false, true, false, false] HT_.out ?_
  refine take_ (i := 1) (N := some 13) (v := ?_) (a' := ?_) #[true, true, true, false, true, false, false, false, true, false, false] rfl rfl (take_ofW HT_.out HW_.out (by kernel_rfl)) (fun _ _ _ h => h) (Or.inl ⟨by rfl, ?_⟩) hHeld ?_ ?_
  rotate_left
  ·rintro w' ⟨s0, s1, s2, s3, s4, s5, s6, s7, s8, s9⟩
   go_simp
   with_reducible rfl
  rotate_left
  ·simp only [Act.put, List.setIfInBounds_toArray, List.set_cons_zero, List.set_cons_succ, i64_w, i32_w]
   rfl
  refine take_ (i := 3) (N := some 15) (v := ?_) (a' := ?_) #[true, true, true, true, true, false, false, false, true, false, false] rfl rfl (take_ofW HT_.out HW_.out (by kernel_rfl)) (fun _ _ _ h => h) (Or.inl ⟨by rfl, ?_⟩) hHeld ?_ ?_
  rotate_left
  ·rintro w' ⟨s0, s1, s2, s3, s4, s5, s6, s7, s8, s9⟩
   go_simp
   with_reducible rfl
  rotate_left
  ·simp only [Act.put, List.setIfInBounds_toArray, List.set_cons_zero, List.set_cons_succ, i64_w, i32_w]
   rfl
  refine one_ (i := 5) (N := some 17) #[true, true, true, true, true, true, false, false, true, false, false] rfl rfl (one_of HT_.out (by kernel_rfl)) (by decide) (fun K hK => ?_)
  refine goes_ Try.func68 (by kernel_rfl) rfl #[.slice A0_2 l0_2.length c0_2, .int .i64 a1] (by rfl) rfl rfl z0_ ?_
  with_reducible refine (impl_kidOf.calls k _ _ l0_2 a1 t391 _ ?side1 ?side2 A9.out).mono ?_
  (case side1 => exact z106_)
  (case side2 => exact HC0_2.out)
  rintro e w' ⟨rfl, ⟨nd, rfl⟩⟩
  refine ⟨_, rfl, ?_⟩
  refine hK.out _ _ ⟨(blk_cell BK387.out 0).trans rfl, (blk_cell BK387.out 1).trans rfl, (blk_cell BK387.out 2).trans rfl, (blk_cell BK387.out 3).trans rfl, (blk_cell BK387.out 4).trans rfl, ((HB.out.cell (World.block_lt_of_cell? w _ hw392_0)).trans hw392_0), ((HB.out.cell (World.block_lt_of_cell? w _ hw392_1)).trans hw392_1), ((HB.out.cell (World.block_lt_of_cell? w _ hw392_2)).trans hw392_2), ((HB.out.cell (World.block_lt_of_cell? w _ hw392_3)).trans hw392_3), ((HB.out.cell (World.block_lt_of_cell? w _ hw392_4)).trans hw392_4)⟩ (fun hHeld => ?_)
  clear hK K
  refine norm_ (a' := ?_) ?_ ?_
  rotate_left
  ·show Act.put _ (some 17) _ = _
   simp only [Act.put, List.setIfInBounds_toArray, List.set_cons_zero, List.set_cons_succ, i64_w, i32_w]
   rfl
  refine p1_ 6 (some 18) #[true, true, true, true, true, true, true, false, true, false, false] HT_.out ?_
  refine take_ (i := 7) (N := some 19) (v := ?_) (a' := ?_) (tf 9 2) rfl rfl (take_ofW HT_.out HW_.out (by kernel_rfl)) (fun _ _ _ h => h) (Or.inl ⟨by rfl, ?_⟩) hHeld ?_ ?_
  rotate_left
  ·rintro w' ⟨s0, s1, s2, s3, s4, s5, s6, s7, s8, s9⟩
   go_simp
   with_reducible rfl
  rotate_left
  ·simp only [Act.put, List.setIfInBounds_toArray, List.set_cons_zero, List.set_cons_succ, i64_w, i32_w]
   rfl
  refine one_ (i := 9) (N := some 21) (tf 10 1) rfl rfl (one_of HT_.out (by kernel_rfl)) (by decide) (fun K hK => ?_)
  refine goes_ Try.func72 (by kernel_rfl) rfl #[.agg #[.bool ((rd_T34 l0_3 t391).f0), .slice A392_1 ((rd_T34 l0_3 t391).f1).length c392_1, .slice A392_2 ((rd_T34 l0_3 t391).f2).length c392_2, .slice A392_3 ((rd_T34 l0_3 t391).f3).length c392_3, .slice A392_4 ((rd_T34 l0_3 t391).f4).length c392_4], .int .i64 a1] (by rfl) rfl rfl z0_ ?_
  with_reducible refine (ih k (by omega) ((rd_T34 l0_3 t391).f0) _ _ ((rd_T34 l0_3 t391).f1) _ _ ((rd_T34 l0_3 t391).f2) _ _ ((rd_T34 l0_3 t391).f3) _ _ ((rd_T34 l0_3 t391).f4) a1 t393 _ ?side1 ?side2 ?side3 ?side4 ?side5 ?side6 ?side7 ?side8 A12.out).mono ?_
  (case side1 => repeat (first | exact (Kd.C_below HR392_1.out cb_) | (with_reducible refine Kd.C_alloc ?_ _) | (with_reducible refine Kd.C_drewN ?_ _) | (with_reducible refine Kd.C_drew ?_)))
  (case side2 => exact HC392_1.out)
  (case side3 => repeat (first | exact (Kd.C_below HR392_2.out cb_) | (with_reducible refine Kd.C_alloc ?_ _) | (with_reducible refine Kd.C_drewN ?_ _) | (with_reducible refine Kd.C_drew ?_)))
  (case side4 => exact HC392_2.out)
  (case side5 => repeat (first | exact (Kd.C_below HR392_3.out cb_) | (with_reducible refine Kd.C_alloc ?_ _) | (with_reducible refine Kd.C_drewN ?_ _) | (with_reducible refine Kd.C_drew ?_)))
  (case side6 => exact HC392_3.out)
  (case side7 => repeat (first | exact (Kd.C_below HR392_4.out cb_) | (with_reducible refine Kd.C_alloc ?_ _) | (with_reducible refine Kd.C_drewN ?_ _) | (with_reducible refine Kd.C_drew ?_)))
  (case side8 => exact HC392_4.out)
  rintro e w14 ⟨v394, rfl, ho0, hb⟩
  refine ⟨_, rfl, ?_⟩
  have HO395 := q_ (Kd.R_lower (Kd.R_new' ho0 (Kd.R_lt z78_)) (below_size cb_))
  replace HO390 := q_ (Kd.R_elder' z78_ (Kd.R_base ho0) hb)
  replace BK387 := rb_ BK387 hb
  replace HB := hb_ hb
  (try clear hb)
  (try clear hb2)
  (try clear hk)
  (try clear hi)
  (try clear ho0)
  refine hK.out _ _ ⟨(blk_cell BK387.out 0).trans rfl, (blk_cell BK387.out 1).trans rfl, (blk_cell BK387.out 2).trans rfl, (blk_cell BK387.out 3).trans rfl, (blk_cell BK387.out 4).trans rfl, ((HB.out.cell (World.block_lt_of_cell? w _ hw392_0)).trans hw392_0), ((HB.out.cell (World.block_lt_of_cell? w _ hw392_1)).trans hw392_1), ((HB.out.cell (World.block_lt_of_cell? w _ hw392_2)).trans hw392_2), ((HB.out.cell (World.block_lt_of_cell? w _ hw392_3)).trans hw392_3), ((HB.out.cell (World.block_lt_of_cell? w _ hw392_4)).trans hw392_4)⟩ (fun hHeld => ?_)
  clear hK K
  refine norm_ (a' := ?_) ?_ ?_
  rotate_left
  ·show Act.put _ (some 21) _ = _
   simp only [Act.put, List.setIfInBounds_toArray, List.set_cons_zero, List.set_cons_succ, i64_w, i32_w]
   rfl
  refine p1_ 10 (some 5) (tf 11 0) HT_.out ?_
  refine done_ (done_of HT_.out (by kernel_rfl)) ?_
  obtain ⟨hz_, hz_, hz_, hz_, hz_, hz_, hz_, hz_, hz_, hz_⟩ := cs5_ BK387.out
  try go_wp2
  go_loopg [5, 25] k (fun kq v5 v25 w' => ∃ (x5_1 : List (S72)) (x25_1 : Int), v25 = .int .i64 x25_1 ∧ Aside0 (impl_pending.l0 kq a1 x5_1 l0_4 (l0_4.length : Int) x25_1 = some r) ∧ Aside0 (kq ≤ k) ∧ Aside0 (Kd.R k72 72 w' w.heap.size (fun _ => True) v5 x5_1) ∧ Aside0 (Below w.heap.size w w'))
  case atStart => exact ⟨(t393), (0), z4_, H', ⟨Nat.le_refl _⟩, ⟨by (with_reducible repeat (first | apply Kd.R_alloc | apply Kd.R_drewN | apply Kd.R_drew)); exact Kd.R_mono HO395.out (fun _ hk => trivial)⟩, ⟨cb_⟩⟩
  case round =>
   clear H'
   try clear c1
   try clear p2
   try clear c3
   try clear p3
   try clear q3
   try clear hx3
   try clear c6
   try clear c7
   try clear c8
   try clear c10
   try clear c10b0
   try clear c10b1
   try clear c10b2
   try clear c11
   try clear c11b0
   repeat clear hz_
   try clear hx392_0
   try clear hx392_1
   try clear hx392_2
   try clear hx392_3
   try clear hx392_4
   try clear p392
   try clear q392
   obtain ⟨x5_1, x25_1, rfl, HA, HK1, HO_5, HB⟩ := hrel
   obtain ⟨k1, rfl, H⟩ := rn_ (k := gk) HA (by rintro rfl; simp only [impl_pending.l0])
   clear HA
   simp only [impl_pending.l0] at H
   replace H := kd_ H; rcases H with ⟨c16b0, H⟩ | ⟨c16b0, H⟩
   ·replace H := kdn_ H; obtain ⟨c17b0, H⟩ := H
    replace H := kdn_ H; obtain ⟨c18b0, H⟩ := H
    have HC19 := q_ H
    clear H
    have p396 : 0 ≤ (x25_1 : Int) := of_decide_eq_true z2_
    have q396 : x25_1 < (l0_4.length : Int) := of_decide_eq_true z2_
    obtain ⟨ad396, e396, hx396_0, hx396_1, hx396_2⟩ := at_T72 HR0_4.out x25_1 p396 q396
    cases e396
    replace hx396_0 := up_ HB hx396_0
    replace hx396_1 := up_ HB hx396_1
    replace hx396_2 := up_ HB hx396_2
    replace p396 := eq_true p396
    replace q396 := eq_true q396
    go_upto_if 32 with (first | ((with_reducible refine gate_dst (N := 7) rfl ?_); refine box_event ?hg (N := 7) ?hd (cs := #[.int .i64 0, .int .i64 0, .int .i64 0]) (t := 72) ?hr ?_; (case hd => rfl); (case hg => rfl); (case hr => exact z104_); intro gb397 hg w20 hbox hb; replace HO_5 := q_ (Kd.R_below (Kd.R_elderB z12_ gb397 (Nat.le_of_eq hg.symm)) hb); have BK397 := q_ (hbox); have GW397 := ge_ hg; have GE397 := ge_ hg; replace HB := hb_ hb; clear hb hbox hg; obtain ⟨hz_, hz_, hz_, hz_, hz_, hz_⟩ := cs3_ BK397.out))
    (try simp only [Act.put, List.setIfInBounds_toArray, List.set_cons_zero, List.set_cons_succ])
    have H := HC19.out
    clear HC19
    replace H := ke_ H; rcases H with ⟨c22b0, c22b1, H⟩ | ⟨c22, c22b0, c22b1, H⟩
    ·(first | rw [c22b0] | rw [c22b1] | (simp only [i64_w, i32_w]; first | rw [c22b0] | rw [c22b1]) | rw [c22b2] | skip)
     replace H := kln_ H; obtain ⟨LMc23, H⟩ := H
     obtain ⟨y398, hy_⟩ : ∃ y_ : List (S72), y_ = (x5_1 ++ [(⟨(rd_T72 l0_4 x25_1).f0, (rd_T72 l0_4 x25_1).f1, (rd_T72 l0_4 x25_1).f2⟩ : S72)]) := ⟨_, rfl⟩
     replace H : (impl_pending.l0 k1 a1 y398 l0_4 (l0_4.length : Int) (wrap64 (x25_1 + 1))) = some r := z3_
     have Ny398 := q_ hy_
     clear hy_
     have H' := q_ H
     clear H
     obtain ⟨hz_, hz_, hz_, hz_, hz_, hz_⟩ := cs3_ BK397.out
     go_wp2_with (first | ((with_reducible refine gate_builtin (b := .append) (xs := #[.tmp 33, .tmp 35]) rfl ?_); at_builtin; refine Kd.R_append k72 (w0 := w) w.heap.size rfl (.tmp 33) (.tmp 35) 32 72 (.agg #[(.int .i64 0), (.int .i64 0), (.int .i64 0)]) 24 rfl Try.underlying32 info72 rfl (by decide) (by omega) u5 x5_1 (⟨(rd_T72 l0_4 x25_1).f0, (rd_T72 l0_4 x25_1).f1, (rd_T72 l0_4 x25_1).f2⟩ : S72) [.int .i64 ((rd_T72 l0_4 x25_1).f0), .int .i64 ((rd_T72 l0_4 x25_1).f1), .int .i64 ((rd_T72 l0_4 x25_1).f2)] (fun k_ => k_ ≠ gb397) (fun _ => False) rfl (by first | (go_simp; done) | (go_simp; rfl)) ?aP (fun _ hk => hk.elim) ?aF ?aO ?aB ?aS ?aL ?_; (case aP => exact k72_mkM _ _ _ (⟨(rd_T72 l0_4 x25_1).f0, (rd_T72 l0_4 x25_1).f1, (rd_T72 l0_4 x25_1).f2⟩ : S72)); (case aB => exact cb_); (case aF => exact (fun k_ hk => Kd.freshB (g := gb397) (o := .cells #[.int .i64 ((rd_T72 l0_4 x25_1).f0), .int .i64 ((rd_T72 l0_4 x25_1).f1), .int .i64 ((rd_T72 l0_4 x25_1).f2)] 72 (0, 0)) z15_ k_ hk)); (case aO => exact (by (with_reducible repeat (first | apply Kd.R_alloc | apply Kd.R_drewN | apply Kd.R_drew)); exact Kd.R_mono (Kd.R_far (p := ⟨gb397, 2, none⟩) (Kd.R_far (p := ⟨gb397, 1, none⟩) (Kd.R_far (p := ⟨gb397, 0, none⟩) (Kd.R_mono HO_5.out (fun k_ hk => (⟨hk, hk.2⟩ : _ ∧ k_ ≠ gb397))) (fun _ hk => hk.2) (.int .i64 ((rd_T72 l0_4 x25_1).f0))) (fun _ hk => hk.2) (.int .i64 ((rd_T72 l0_4 x25_1).f1))) (fun _ hk => hk.2) (.int .i64 ((rd_T72 l0_4 x25_1).f2))) (fun _ hk => hk.1.2))); (case aS => exact z133_); (case aL => have := LMc23.out; omega); intro v399 w25 ho hb hg hat; rw [← Ny398.out] at ho; replace BK397 := q_ (blk_grown (g := gb397) (o := .cells #[.int .i64 ((rd_T72 l0_4 x25_1).f0), .int .i64 ((rd_T72 l0_4 x25_1).f1), .int .i64 ((rd_T72 l0_4 x25_1).f2)] 72 (0, 0)) z15_ hg (Kd.R_away HO_5.out (fun _ hk => hk.2))); replace HB := q_ (hb); have HO400 := q_ (ho); clear HO_5; clear ho hb hg hat))
     go_roundg k1
     case measure => have := HK1.out; omega
     case rel => exact ⟨(y398), (wrap64 (x25_1 + 1)), z4_, H', ⟨z29_⟩, ⟨by (with_reducible repeat (first | apply Kd.R_alloc | apply Kd.R_drewN | apply Kd.R_drew)); exact Kd.R_mono HO400.out (fun _ hk => trivial)⟩, ⟨cb_⟩⟩
    ·(first | rw [c22b0] | rw [c22b1] | (simp only [i64_w, i32_w]; first | rw [c22b0] | rw [c22b1]) | rw [c22b2] | skip)
     have H' := q_ H
     clear H
     go_wp2
     go_roundg k1
     case measure => have := HK1.out; omega
     case rel => exact ⟨(x5_1), (wrap64 (x25_1 + 1)), z4_, H', ⟨z29_⟩, ⟨by (with_reducible repeat (first | apply Kd.R_alloc | apply Kd.R_drewN | apply Kd.R_drew)); exact Kd.R_mono (Kd.R_far (p := ⟨gb397, 2, none⟩) (Kd.R_far (p := ⟨gb397, 1, none⟩) (Kd.R_far (p := ⟨gb397, 0, none⟩) (Kd.R_mono HO_5.out (fun k_ hk => (⟨hk, hk.2⟩ : _ ∧ k_ ≠ gb397))) (fun _ hk => hk.2) (.int .i64 ((rd_T72 l0_4 x25_1).f0))) (fun _ hk => hk.2) (.int .i64 ((rd_T72 l0_4 x25_1).f1))) (fun _ hk => hk.2) (.int .i64 ((rd_T72 l0_4 x25_1).f2))) (fun _ hk => trivial)⟩, ⟨cb_⟩⟩
   ·obtain rfl := si_ H
    go_wp2
    go_ret
    exact ⟨_, z1_, z12_, cb_⟩

end Go.Proofs.Ytfnndcpaldkkoaa.PFnExactTreeGet
