-- Written by a program of this session, which goes by the kit's print. Not trusted: Lean checks it.
import Derived.Test.YtfnndcpaldkkoaaPFnExactPendingx0
import Derived.Test.YtfnndcpaldkkoaaPFnExactPendingx7
namespace Go.Proofs.Ytfnndcpaldkkoaa.PFnExactPending
open Go.RowKit Go.Proofs.YtfnndcpaldkkoaaW.PrintWords Go.Proofs.YtfnndcpaldkkoaaW.PrintLast Go.Proofs.YtfnndcpaldkkoaaW.PrintMore
attribute [local go_sem] Instr.field asAgg max2_int min2_int max_two min_two max_three min_three max_four min_four   -- for this text's walks alone
set_option linter.unusedVariables false
set_option linter.unusedSimpArgs false

/-! ### spec_TreeDepth: function 16 -/
def spec_TreeDepth.f (k : Nat) (a0_0 : Bool) (l0_1 : List (S92)) (l0_2 : List Int) (l0_3 : List (S34)) (l0_4 : List (S72)) : Option (Int) := (spec_l2Depth.f k a0_0 l0_1 l0_2 l0_3 l0_4 0 1000 7).bind fun t218 => (some t218)
theorem spec_TreeDepth.mono : ∀ a0 a1 a2 a3 a4 k, LeO (spec_TreeDepth.f k a0 a1 a2 a3 a4) (spec_TreeDepth.f (k + 1) a0 a1 a2 a3 a4) := by
 intro a0 a1 a2 a3 a4 k
 unfold spec_TreeDepth.f
 have m0 := @spec_l2Depth.mono
 exact zm_
set_option maxHeartbeats 8000000 in
set_option maxRecDepth 100000 in
theorem spec_TreeDepth.calls (k : Nat) (a0_0 : Bool) (A0_1 : Option Addr) (c0_1 : Nat) (l0_1 : List (S92)) (A0_2 : Option Addr) (c0_2 : Nat) (l0_2 : List Int) (A0_3 : Option Addr) (c0_3 : Nat) (l0_3 : List (S34)) (A0_4 : Option Addr) (c0_4 : Nat) (l0_4 : List (S72)) (r : Int) (w : World) (hr0_1 : Kd.C k92 w A0_1 l0_1.length l0_1) (hc0_1 : l0_1.length ≤ c0_1) (hr0_2 : Kd.C (Kd.int .i64) w A0_2 l0_2.length l0_2) (hc0_2 : l0_2.length ≤ c0_2) (hr0_3 : Kd.C k34 w A0_3 l0_3.length l0_3) (hc0_3 : l0_3.length ≤ c0_3) (hr0_4 : Kd.C k72 w A0_4 l0_4.length l0_4) (hc0_4 : l0_4.length ≤ c0_4) (h : spec_TreeDepth.f k a0_0 l0_1 l0_2 l0_3 l0_4 = some r) :
  Calls Try.prog 16 #[.agg #[.bool a0_0, .slice A0_1 l0_1.length c0_1, .slice A0_2 l0_2.length c0_2, .slice A0_3 l0_3.length c0_3, .slice A0_4 l0_4.length c0_4]] w fun e w' => e = .returned (.int .i64 r) ∧ Below w.heap.size w w' := by
 have hu34 := Try.underlying34
 have HR0_1 := q_ hr0_1
 have HC0_1 := q_ hc0_1
 clear hr0_1 hc0_1
 have HR0_2 := q_ hr0_2
 have HC0_2 := q_ hc0_2
 clear hr0_2 hc0_2
 have HR0_3 := q_ hr0_3
 have HC0_3 := q_ hc0_3
 clear hr0_3 hc0_3
 have HR0_4 := q_ hr0_4
 have HC0_4 := q_ hc0_4
 clear hr0_4 hc0_4
 have HB := q_ (Below.refl w.heap.size w)
 have H := h; clear h
 unfold spec_TreeDepth.f at H
 replace H := bi_ H; obtain ⟨t218, A2, H⟩ := H
 obtain rfl := si_ H
 go_enter Try.func16, Try.ntmps16
 go_wp2_with (first | ((with_reducible refine gate_dst (N := 1) rfl ?_); refine box_event ?hg (N := 1) ?hd (cs := #[.bool a0_0, .slice A0_1 l0_1.length c0_1, .slice A0_2 l0_2.length c0_2, .slice A0_3 l0_3.length c0_3, .slice A0_4 l0_4.length c0_4]) (t := 34) ?hr ?_; (case hd => rfl); (case hg => rfl); (case hr => exact z76_); intro gb217 hg w3 hbox hb; have BK217 := q_ (hbox); have GW217 := ge_ hg; have GE217 := ge_ hg; replace HB := hb_ hb; clear hb hbox hg; obtain ⟨hz_, hz_, hz_, hz_, hz_, hz_, hz_, hz_, hz_, hz_⟩ := cs5_ BK217.out) | ((with_reducible refine gate_callee (f := 59) rfl ?_); refine goesL_ (some 4) rfl rfl Try.func59 (by kernel_rfl) rfl #[.agg #[.bool a0_0, .slice A0_1 l0_1.length c0_1, .slice A0_2 l0_2.length c0_2, .slice A0_3 l0_3.length c0_3, .slice A0_4 l0_4.length c0_4], .int .i64 0, .int .i64 1000, .int .i64 7] rfl z0_ ?_; (with_reducible refine (spec_l2Depth.calls k a0_0 _ _ l0_1 _ _ l0_2 _ _ l0_3 _ _ l0_4 0 1000 7 t218 _ ?side1 ?side2 ?side3 ?side4 ?side5 ?side6 ?side7 ?side8 A2.out).mono ?_); (case side1 => exact z75_); (case side2 => exact z95_); (case side3 => exact z78_); (case side4 => exact HC0_2.out); (case side5 => exact z79_); (case side6 => exact HC0_3.out); (case side7 => exact z77_); (case side8 => exact HC0_4.out); rintro e w5 ⟨rfl, hb⟩; refine ⟨_, rfl, ?_⟩; replace HB := hb_ hb; (try clear hb); (try clear hb2); (try clear hk); (try clear hi)))
 go_ret
 exact ⟨z1_, cb_⟩

/-! ### spec_TreeOk: function 20 -/
def spec_TreeOk.f (k : Nat) (a0_0 : Bool) (l0_1 : List (S92)) (l0_2 : List Int) (l0_3 : List (S34)) (l0_4 : List (S72)) : Option (Bool) := (spec_TreeDepth.f k a0_0 l0_1 l0_2 l0_3 l0_4).bind fun t220 => (some (decide (t220 > 0)))
theorem spec_TreeOk.mono : ∀ a0 a1 a2 a3 a4 k, LeO (spec_TreeOk.f k a0 a1 a2 a3 a4) (spec_TreeOk.f (k + 1) a0 a1 a2 a3 a4) := by
 intro a0 a1 a2 a3 a4 k
 unfold spec_TreeOk.f
 have m0 := @spec_TreeDepth.mono
 exact zm_
set_option maxHeartbeats 8000000 in
set_option maxRecDepth 100000 in
theorem spec_TreeOk.calls (k : Nat) (a0_0 : Bool) (A0_1 : Option Addr) (c0_1 : Nat) (l0_1 : List (S92)) (A0_2 : Option Addr) (c0_2 : Nat) (l0_2 : List Int) (A0_3 : Option Addr) (c0_3 : Nat) (l0_3 : List (S34)) (A0_4 : Option Addr) (c0_4 : Nat) (l0_4 : List (S72)) (r : Bool) (w : World) (hr0_1 : Kd.C k92 w A0_1 l0_1.length l0_1) (hc0_1 : l0_1.length ≤ c0_1) (hr0_2 : Kd.C (Kd.int .i64) w A0_2 l0_2.length l0_2) (hc0_2 : l0_2.length ≤ c0_2) (hr0_3 : Kd.C k34 w A0_3 l0_3.length l0_3) (hc0_3 : l0_3.length ≤ c0_3) (hr0_4 : Kd.C k72 w A0_4 l0_4.length l0_4) (hc0_4 : l0_4.length ≤ c0_4) (h : spec_TreeOk.f k a0_0 l0_1 l0_2 l0_3 l0_4 = some r) :
  Calls Try.prog 20 #[.agg #[.bool a0_0, .slice A0_1 l0_1.length c0_1, .slice A0_2 l0_2.length c0_2, .slice A0_3 l0_3.length c0_3, .slice A0_4 l0_4.length c0_4]] w fun e w' => e = .returned (.bool r) ∧ Below w.heap.size w w' := by
 have hu34 := Try.underlying34
 have HR0_1 := q_ hr0_1
 have HC0_1 := q_ hc0_1
 clear hr0_1 hc0_1
 have HR0_2 := q_ hr0_2
 have HC0_2 := q_ hc0_2
 clear hr0_2 hc0_2
 have HR0_3 := q_ hr0_3
 have HC0_3 := q_ hc0_3
 clear hr0_3 hc0_3
 have HR0_4 := q_ hr0_4
 have HC0_4 := q_ hc0_4
 clear hr0_4 hc0_4
 have HB := q_ (Below.refl w.heap.size w)
 have H := h; clear h
 unfold spec_TreeOk.f at H
 replace H := bi_ H; obtain ⟨t220, A2, H⟩ := H
 obtain rfl := si_ H
 go_enter Try.func20, Try.ntmps20
 go_wp2_with (first | ((with_reducible refine gate_dst (N := 1) rfl ?_); refine box_event ?hg (N := 1) ?hd (cs := #[.bool a0_0, .slice A0_1 l0_1.length c0_1, .slice A0_2 l0_2.length c0_2, .slice A0_3 l0_3.length c0_3, .slice A0_4 l0_4.length c0_4]) (t := 34) ?hr ?_; (case hd => rfl); (case hg => rfl); (case hr => exact z76_); intro gb219 hg w3 hbox hb; have BK219 := q_ (hbox); have GW219 := ge_ hg; have GE219 := ge_ hg; replace HB := hb_ hb; clear hb hbox hg; obtain ⟨hz_, hz_, hz_, hz_, hz_, hz_, hz_, hz_, hz_, hz_⟩ := cs5_ BK219.out) | ((with_reducible refine gate_callee (f := 16) rfl ?_); refine goesL_ (some 4) rfl rfl Try.func16 (by kernel_rfl) rfl #[.agg #[.bool a0_0, .slice A0_1 l0_1.length c0_1, .slice A0_2 l0_2.length c0_2, .slice A0_3 l0_3.length c0_3, .slice A0_4 l0_4.length c0_4]] rfl z0_ ?_; (with_reducible refine (spec_TreeDepth.calls k a0_0 _ _ l0_1 _ _ l0_2 _ _ l0_3 _ _ l0_4 t220 _ ?side1 ?side2 ?side3 ?side4 ?side5 ?side6 ?side7 ?side8 A2.out).mono ?_); (case side1 => exact z75_); (case side2 => exact z95_); (case side3 => exact z78_); (case side4 => exact HC0_2.out); (case side5 => exact z79_); (case side6 => exact HC0_3.out); (case side7 => exact z77_); (case side8 => exact HC0_4.out); rintro e w5 ⟨rfl, hb⟩; refine ⟨_, rfl, ?_⟩; replace HB := hb_ hb; (try clear hb); (try clear hb2); (try clear hk); (try clear hi)))
 go_ret
 exact ⟨z1_, cb_⟩

/-! ### spec_l2Kid: function 67 -/
def spec_l2Kid.l0 : Nat → Int → Int → Bool → List (S92) → List Int → List (S34) → List (S72) → Option (Int)
 | 0, _, _, _, _, _, _, _ => none
 | k + 1, x1, x5, x222000, x222001, x222002, x222003, x222004 => if x5 < (x222002.length : Int) then (if 0 ≤ x5 then (if (rd x222002 x5) ≤ x1 then (spec_l2Kid.l0 k x1 (wrap64 (x5 + 1)) x222000 x222001 x222002 x222003 x222004) else (some x5)) else (none)) else (some x5)
def spec_l2Kid.f (k : Nat) (a0_0 : Bool) (l0_1 : List (S92)) (l0_2 : List Int) (l0_3 : List (S34)) (l0_4 : List (S72)) (a1 : Int) : Option (Int) := spec_l2Kid.l0 k a1 0 a0_0 l0_1 l0_2 l0_3 l0_4
theorem spec_l2Kid.mono_l : ∀ k, (∀ y0 y1 y2 y3 y4 y5 y6, LeO (spec_l2Kid.l0 k y0 y1 y2 y3 y4 y5 y6) (spec_l2Kid.l0 (k + 1) y0 y1 y2 y3 y4 y5 y6))
 | 0 => fun _ _ _ _ _ _ _ r h => by simp [spec_l2Kid.l0] at h
 | k + 1 => by
  have ih0 := spec_l2Kid.mono_l k
  ·intro y0 y1 y2 y3 y4 y5 y6
   unfold spec_l2Kid.l0
   exact zm_
theorem spec_l2Kid.mono : ∀ a0 a1 a2 a3 a4 a5 k, LeO (spec_l2Kid.f k a0 a1 a2 a3 a4 a5) (spec_l2Kid.f (k + 1) a0 a1 a2 a3 a4 a5) := by
 intro a0 a1 a2 a3 a4 a5 k
 have ih0 := spec_l2Kid.mono_l k
 unfold spec_l2Kid.f
 exact zm_
set_option maxHeartbeats 8000000 in
set_option maxRecDepth 100000 in
theorem spec_l2Kid.calls (k : Nat) (a0_0 : Bool) (A0_1 : Option Addr) (c0_1 : Nat) (l0_1 : List (S92)) (A0_2 : Option Addr) (c0_2 : Nat) (l0_2 : List Int) (A0_3 : Option Addr) (c0_3 : Nat) (l0_3 : List (S34)) (A0_4 : Option Addr) (c0_4 : Nat) (l0_4 : List (S72)) (a1 : Int) (r : Int) (w : World) (hr0_1 : Kd.C k92 w A0_1 l0_1.length l0_1) (hc0_1 : l0_1.length ≤ c0_1) (hr0_2 : Kd.C (Kd.int .i64) w A0_2 l0_2.length l0_2) (hc0_2 : l0_2.length ≤ c0_2) (hr0_3 : Kd.C k34 w A0_3 l0_3.length l0_3) (hc0_3 : l0_3.length ≤ c0_3) (hr0_4 : Kd.C k72 w A0_4 l0_4.length l0_4) (hc0_4 : l0_4.length ≤ c0_4) (h : spec_l2Kid.f k a0_0 l0_1 l0_2 l0_3 l0_4 a1 = some r) :
  Calls Try.prog 67 #[.agg #[.bool a0_0, .slice A0_1 l0_1.length c0_1, .slice A0_2 l0_2.length c0_2, .slice A0_3 l0_3.length c0_3, .slice A0_4 l0_4.length c0_4], .int .i64 a1] w fun e w' => e = .returned (.int .i64 r) ∧ Below w.heap.size w w' := by
 have hu34 := Try.underlying34
 have HR0_1 := q_ hr0_1
 have HC0_1 := q_ hc0_1
 clear hr0_1 hc0_1
 have HR0_2 := q_ hr0_2
 have HC0_2 := q_ hc0_2
 clear hr0_2 hc0_2
 have HR0_3 := q_ hr0_3
 have HC0_3 := q_ hc0_3
 clear hr0_3 hc0_3
 have HR0_4 := q_ hr0_4
 have HC0_4 := q_ hc0_4
 clear hr0_4 hc0_4
 have HB := q_ (Below.refl w.heap.size w)
 have H := h; clear h
 unfold spec_l2Kid.f at H
 have H' := q_ H
 clear H
 go_enter Try.func67, Try.ntmps67
 go_wp2_with (first | ((with_reducible refine gate_dst (N := 2) rfl ?_); refine box_event ?hg (N := 2) ?hd (cs := #[.bool a0_0, .slice A0_1 l0_1.length c0_1, .slice A0_2 l0_2.length c0_2, .slice A0_3 l0_3.length c0_3, .slice A0_4 l0_4.length c0_4]) (t := 34) ?hr ?_; (case hd => rfl); (case hg => rfl); (case hr => exact z76_); intro gb221 hg w3 hbox hb; have BK221 := q_ (hbox); have GW221 := ge_ hg; have GE221 := ge_ hg; replace HB := hb_ hb; clear hb hbox hg))
 go_loopg [5] k (fun kq v5 w' => ∃ (x5_1 : Int), v5 = .int .i64 x5_1 ∧ Aside0 (spec_l2Kid.l0 kq a1 x5_1 a0_0 l0_1 l0_2 l0_3 l0_4 = some r) ∧ Aside0 (kq ≤ k) ∧ Aside0 (w'.heap[gb221]? = some (.cells #[.bool a0_0, (.slice A0_1 l0_1.length c0_1), (.slice A0_2 l0_2.length c0_2), (.slice A0_3 l0_3.length c0_3), (.slice A0_4 l0_4.length c0_4)] 34 (0, 0))) ∧ Aside0 (Below w.heap.size w w'))
 case atStart => exact ⟨(0), z4_, H', ⟨Nat.le_refl _⟩, ⟨z59_⟩, ⟨cb_⟩⟩
 case round =>
  clear H'
  try clear p2
  obtain ⟨x5_1, rfl, HA, HK1, BK221, HB⟩ := hrel
  obtain ⟨k1, rfl, H⟩ := rn_ (k := gk) HA (by rintro rfl; simp only [spec_l2Kid.l0])
  clear HA
  simp only [spec_l2Kid.l0] at H
  replace H := kd_ H; rcases H with ⟨c4b0, H⟩ | ⟨c4b0, H⟩
  ·replace H := kdn_ H; obtain ⟨c5b0, H⟩ := H
   have HC6 := q_ H
   clear H
   obtain ⟨hz_, hz_, hz_, hz_, hz_, hz_, hz_, hz_, hz_, hz_⟩ := cs5_ BK221.out
   have p222 : 0 ≤ (x5_1 : Int) := of_decide_eq_true z2_
   have q222 : x5_1 < (l0_2.length : Int) := of_decide_eq_true z2_
   obtain ⟨ad222, e222, hx222_0⟩ := Kd.at_int HR0_2.out x5_1 p222 q222
   cases e222
   replace hx222_0 := up_ HB hx222_0
   replace p222 := eq_true p222
   replace q222 := eq_true q222
   go_upto_if 19 with (fail)
   have H := HC6.out
   clear HC6
   replace H := kd_ H; rcases H with ⟨c8b0, H⟩ | ⟨c8b0, H⟩
   ·(first | rw [c8b0] | rw [c8b1] | (simp only [i64_w, i32_w]; first | rw [c8b0] | rw [c8b1]) | rw [c8b2] | skip)
    have H' := q_ H
    clear H
    go_wp2
    go_roundg k1
    case measure => have := HK1.out; omega
    case rel => exact ⟨(wrap64 (x5_1 + 1)), z4_, H', ⟨z26_⟩, ⟨z59_⟩, ⟨cb_⟩⟩
   ·(first | rw [c8b0] | rw [c8b1] | (simp only [i64_w, i32_w]; first | rw [c8b0] | rw [c8b1]) | rw [c8b2] | skip)
    obtain rfl := si_ H
    go_wp2
    go_ret
    exact ⟨z1_, cb_⟩
  ·obtain rfl := si_ H
   obtain ⟨hz_, hz_, hz_, hz_, hz_, hz_, hz_, hz_, hz_, hz_⟩ := cs5_ BK221.out
   go_wp2
   go_ret
   exact ⟨z1_, cb_⟩

/-! ### spec_l3Pending: function 71 -/
mutual
def spec_l3Pending.l0 : Nat → Int → List (S72) → Int → Bool → List (S92) → List Int → List (S34) → List (S72) → Option ((List (S72)))
 | 0, _, _, _, _, _, _, _, _ => none
 | k + 1, x1, x5, x6, x224000, x224001, x224002, x224003, x224004 => if x6 < (x224004.length : Int) then (if 0 ≤ x6 then (if ((rd_T72 x224004 x6).f1) = x1 then (if x5.length < 5864062014805 then (spec_l3Pending.l0 k x1 (x5 ++ [(⟨(rd_T72 x224004 x6).f0, (rd_T72 x224004 x6).f1, (rd_T72 x224004 x6).f2⟩ : S72)]) (wrap64 (x6 + 1)) x224000 x224001 x224002 x224003 x224004) else (none)) else (spec_l3Pending.l0 k x1 x5 (wrap64 (x6 + 1)) x224000 x224001 x224002 x224003 x224004)) else (none)) else (some x5)
def spec_l3Pending.f : Nat → Bool → List (S92) → List Int → List (S34) → List (S72) → Int → Option ((List (S72)))
 | 0, _, _, _, _, _, _ => none
 | k + 1, a0_0, l0_1, l0_2, l0_3, l0_4, a1 => (some (([] : List (S72)) : List (S72))).bind fun y224 => (if a0_0 = true then (some y224) else ((spec_l2Kid.f k a0_0 l0_1 l0_2 l0_3 l0_4 a1).bind fun t227 => (if 0 ≤ t227 then (if t227 < (l0_3.length : Int) then ((spec_l3Pending.f k ((rd_T34 l0_3 t227).f0) ((rd_T34 l0_3 t227).f1) ((rd_T34 l0_3 t227).f2) ((rd_T34 l0_3 t227).f3) ((rd_T34 l0_3 t227).f4) a1).bind fun t229 => (if y224.length + t229.length < 5864062014805 then (spec_l3Pending.l0 k a1 (y224 ++ t229) 0 a0_0 l0_1 l0_2 l0_3 l0_4) else (none))) else (none)) else (none))))
end
theorem spec_l3Pending.mono_l : ∀ k, (∀ y0 y1 y2 y3 y4 y5, LeO (spec_l3Pending.f k y0 y1 y2 y3 y4 y5) (spec_l3Pending.f (k + 1) y0 y1 y2 y3 y4 y5)) ∧ (∀ y0 y1 y2 y3 y4 y5 y6 y7, LeO (spec_l3Pending.l0 k y0 y1 y2 y3 y4 y5 y6 y7) (spec_l3Pending.l0 (k + 1) y0 y1 y2 y3 y4 y5 y6 y7))
 | 0 => ⟨fun _ _ _ _ _ _ r h => by simp [spec_l3Pending.f] at h, fun _ _ _ _ _ _ _ _ r h => by simp [spec_l3Pending.l0] at h⟩
 | k + 1 => by
  obtain ⟨ih0, ih1⟩ := spec_l3Pending.mono_l k
  refine ⟨?_, ?_⟩
  ·intro y0 y1 y2 y3 y4 y5
   unfold spec_l3Pending.f
   have m0 := @spec_l2Kid.mono
   exact zm_
  ·intro y0 y1 y2 y3 y4 y5 y6 y7
   unfold spec_l3Pending.l0
   have m0 := @spec_l2Kid.mono
   exact zm_
theorem spec_l3Pending.mono : ∀ a0 a1 a2 a3 a4 a5 k, LeO (spec_l3Pending.f k a0 a1 a2 a3 a4 a5) (spec_l3Pending.f (k + 1) a0 a1 a2 a3 a4 a5) := by
 intro a0 a1 a2 a3 a4 a5 k
 obtain ⟨ih0, ih1⟩ := spec_l3Pending.mono_l k
 exact ih0 a0 a1 a2 a3 a4 a5
def spec_l3Pending.T4 : Bool × List (List Nat × List Nat) := (true, [([], []), ([], []), ([1], [1]), ([], []), ([], []), ([3, 4], [3, 4]), ([2, 5], [2, 5]), ([6], [6]), ([], []), ([7, 8, 5], [7, 8]), ([0, 9, 9], [0, 9]), ([10, 10, 0, 1, 2, 3, 4, 5, 6, 7, 8, 9, 10], [0, 10])])
def spec_l3Pending.B4 : List Nat := [0, 0, 2, 0, 0, 24, 62, 126, 0, 510, 1023, 2047]
theorem spec_l3Pending.tab4 : rtab .any (opsOf Try.f71 4) = spec_l3Pending.T4 := by kernel_rfl
theorem spec_l3Pending.bits4 : waitsOk spec_l3Pending.T4.2 spec_l3Pending.B4 = true := by kernel_rfl
set_option maxHeartbeats 8000000 in
set_option maxRecDepth 100000 in
theorem spec_l3Pending.calls (k : Nat) : ∀ (a0_0 : Bool) (A0_1 : Option Addr) (c0_1 : Nat) (l0_1 : List (S92)) (A0_2 : Option Addr) (c0_2 : Nat) (l0_2 : List Int) (A0_3 : Option Addr) (c0_3 : Nat) (l0_3 : List (S34)) (A0_4 : Option Addr) (c0_4 : Nat) (l0_4 : List (S72)) (a1 : Int) (r : List (S72)) (w : World) (hr0_1 : Kd.C k92 w A0_1 l0_1.length l0_1) (hc0_1 : l0_1.length ≤ c0_1) (hr0_2 : Kd.C (Kd.int .i64) w A0_2 l0_2.length l0_2) (hc0_2 : l0_2.length ≤ c0_2) (hr0_3 : Kd.C k34 w A0_3 l0_3.length l0_3) (hc0_3 : l0_3.length ≤ c0_3) (hr0_4 : Kd.C k72 w A0_4 l0_4.length l0_4) (hc0_4 : l0_4.length ≤ c0_4) (h : spec_l3Pending.f k a0_0 l0_1 l0_2 l0_3 l0_4 a1 = some r),
  Calls Try.prog 71 #[.agg #[.bool a0_0, .slice A0_1 l0_1.length c0_1, .slice A0_2 l0_2.length c0_2, .slice A0_3 l0_3.length c0_3, .slice A0_4 l0_4.length c0_4], .int .i64 a1] w fun e w' => ∃ v0_ : Value, e = .returned (v0_) ∧ Kd.R k72 72 w' w.heap.size (fun _ => True) v0_ r ∧ Below w.heap.size w w' := by
 induction k using Nat.strongRecOn with
 | _ k ih =>
 intro a0_0 A0_1 c0_1 l0_1 A0_2 c0_2 l0_2 A0_3 c0_3 l0_3 A0_4 c0_4 l0_4 a1 r w hr0_1 hc0_1 hr0_2 hc0_2 hr0_3 hc0_3 hr0_4 hc0_4 h
 cases k with
 | zero => exact absurd h (by simp [spec_l3Pending.f])
 | succ k =>
 simp only [spec_l3Pending.f] at h
 have hu34 := Try.underlying34
 have hu72 := Try.underlying72
 have HR0_1 := q_ hr0_1
 have HC0_1 := q_ hc0_1
 clear hr0_1 hc0_1
 have HR0_2 := q_ hr0_2
 have HC0_2 := q_ hc0_2
 clear hr0_2 hc0_2
 have HR0_3 := q_ hr0_3
 have HC0_3 := q_ hc0_3
 clear hr0_3 hc0_3
 have HR0_4 := q_ hr0_4
 have HC0_4 := q_ hc0_4
 clear hr0_4 hc0_4
 have HB := q_ (Below.refl w.heap.size w)
 have H := h; clear h
 obtain ⟨y224, hy_⟩ : ∃ y_ : List (S72), y_ = (([] : List (S72))) := ⟨_, rfl⟩
 replace H : (if a0_0 = true then (some y224) else ((spec_l2Kid.f k a0_0 l0_1 l0_2 l0_3 l0_4 a1).bind fun t227 => (if 0 ≤ t227 then (if t227 < (l0_3.length : Int) then ((spec_l3Pending.f k ((rd_T34 l0_3 t227).f0) ((rd_T34 l0_3 t227).f1) ((rd_T34 l0_3 t227).f2) ((rd_T34 l0_3 t227).f3) ((rd_T34 l0_3 t227).f4) a1).bind fun t229 => (if y224.length + t229.length < 5864062014805 then (spec_l3Pending.l0 k a1 (y224 ++ t229) 0 a0_0 l0_1 l0_2 l0_3 l0_4) else (none))) else (none)) else (none)))) = some r := z3_
 have Ny224 := q_ hy_
 clear hy_
 have HC3 := q_ H
 clear H
 go_enter Try.func71, Try.ntmps71
 go_upto_if 9 with (first | ((with_reducible refine gate_dst (N := 2) rfl ?_); refine box_event ?hg (N := 2) ?hd (cs := #[.bool a0_0, .slice A0_1 l0_1.length c0_1, .slice A0_2 l0_2.length c0_2, .slice A0_3 l0_3.length c0_3, .slice A0_4 l0_4.length c0_4]) (t := 34) ?hr ?_; (case hd => rfl); (case hg => rfl); (case hr => exact z76_); intro gb223 hg w4 hbox hb; have BK223 := q_ (hbox); have GW223 := ge_ hg; have GE223 := ge_ hg; replace HB := hb_ hb; clear hb hbox hg) | ((with_reducible refine gate_dst (N := 7) rfl ?_); refine Kd.R_lit k72 _ 72 ?hg (N := 7) ?hd (xs := ([] : List (S72))) (inner := []) (ok := fun _ => True) (okp := fun _ => True) ?hr ?hp (fun _ hk => hk) trivial (Below.refl _ _) (Nat.le_refl _) (by simp) ?_; (case hd => rfl); (case hg => rfl); (case hr => exact z76_); (case hp => exact (Reps.none _ _)); intro v225 w5 ho6 hb hg_ hnew_; clear hg_ hnew_; (first | rw [← Ny224.out] at ho6 | (simp only [Int.reduceToNat] at ho6; rw [← Ny224.out] at ho6)); have HO226 := q_ (Kd.R_lower ho6 (below_size cb_)); replace BK223 := rb_ BK223 hb; replace HB := hb_ hb; clear hb ho6; obtain ⟨hz_, hz_, hz_, hz_, hz_, hz_, hz_, hz_, hz_, hz_⟩ := cs5_ BK223.out))
 (try simp only [Act.put, List.setIfInBounds_toArray, List.set_cons_zero, List.set_cons_succ])
 have H := HC3.out
 clear HC3
 replace H := kb_ H; rcases H with ⟨rfl, H⟩ | ⟨rfl, H⟩
 ·obtain rfl := si_ H
  go_wp2
  go_ret
  exact ⟨_, z1_, z50_, cb_⟩
 ·replace H := bi_ H; obtain ⟨t227, A9, H⟩ := H
  replace H := kdn_ H; obtain ⟨c10b0, H⟩ := H
  (first | rw [c10b0] | rw [c10b1] | (simp only [i64_w, i32_w]; first | rw [c10b0] | rw [c10b1]) | rw [c10b2] | skip)
  replace H := kdn_ H; obtain ⟨c11b0, H⟩ := H
  replace H := bi_ H; obtain ⟨t229, A12, H⟩ := H
  replace H := kln_ H; obtain ⟨LMc13, H⟩ := H
  obtain ⟨y232, hy_⟩ : ∃ y_ : List (S72), y_ = (y224 ++ t229) := ⟨_, rfl⟩
  replace H : (spec_l3Pending.l0 k a1 y232 0 false l0_1 l0_2 l0_3 l0_4) = some r := z3_
  have Ny232 := q_ hy_
  clear hy_
  have H' := q_ H
  clear H
  try go_wp2
  replace HO226 := q_ (Kd.R_drew HO226.out)
  replace BK223 := q_ (blk_drew BK223.out)
  replace HB := q_ (below_drew1 HB.out)
  have p228 : 0 ≤ (t227 : Int) := of_decide_eq_true z2_
  have q228 : t227 < (l0_3.length : Int) := of_decide_eq_true z2_
  obtain ⟨ad228, A228_1, c228_1, A228_2, c228_2, A228_3, c228_3, A228_4, c228_4, e228, hx228_0, hx228_1, hx228_2, hx228_3, hx228_4, hl228_1, hi228_1, hl228_2, hi228_2, hl228_3, hi228_3, hl228_4, hi228_4⟩ := at_T34 HR0_3.out t227 p228 q228
  have hw228_4 := hx228_4
  have hw228_3 := hx228_3
  have hw228_2 := hx228_2
  have hw228_1 := hx228_1
  have hw228_0 := hx228_0
  cases e228
  replace hx228_0 := up_ HB hx228_0
  replace hx228_1 := up_ HB hx228_1
  replace hx228_2 := up_ HB hx228_2
  replace hx228_3 := up_ HB hx228_3
  replace hx228_4 := up_ HB hx228_4
  have HR228_1 := q_ hi228_1
  have HC228_1 := q_ hl228_1
  clear hi228_1 hl228_1
  have HR228_2 := q_ hi228_2
  have HC228_2 := q_ hl228_2
  clear hi228_2 hl228_2
  have HR228_3 := q_ hi228_3
  have HC228_3 := q_ hl228_3
  clear hi228_3 hl228_3
  have HR228_4 := q_ hi228_4
  have HC228_4 := q_ hl228_4
  clear hi228_4 hl228_4
  replace p228 := eq_true p228
  replace q228 := eq_true q228
  refine start_ (n := 12) (S := fun w' => w'.cell? ⟨gb223, 0, none⟩ = some (.bool false) ∧ w'.cell? ⟨gb223, 1, none⟩ = some (.slice A0_1 l0_1.length c0_1) ∧ w'.cell? ⟨gb223, 2, none⟩ = some (.slice A0_2 l0_2.length c0_2) ∧ w'.cell? ⟨gb223, 3, none⟩ = some (.slice (some ad228) l0_3.length c0_3) ∧ w'.cell? ⟨gb223, 4, none⟩ = some (.slice A0_4 l0_4.length c0_4) ∧ w'.cell? (ad228.add ((t227).toNat * 5)) = some (.bool ((rd_T34 l0_3 t227).f0)) ∧ w'.cell? ⟨(ad228.add ((t227).toNat * 5)).block, (ad228.add ((t227).toNat * 5)).off + 1, none⟩ = some (.slice A228_1 ((rd_T34 l0_3 t227).f1).length c228_1) ∧ w'.cell? ⟨(ad228.add ((t227).toNat * 5)).block, (ad228.add ((t227).toNat * 5)).off + 2, none⟩ = some (.slice A228_2 ((rd_T34 l0_3 t227).f2).length c228_2) ∧ w'.cell? ⟨(ad228.add ((t227).toNat * 5)).block, (ad228.add ((t227).toNat * 5)).off + 3, none⟩ = some (.slice A228_3 ((rd_T34 l0_3 t227).f3).length c228_3) ∧ w'.cell? ⟨(ad228.add ((t227).toNat * 5)).block, (ad228.add ((t227).toNat * 5)).off + 4, none⟩ = some (.slice A228_4 ((rd_T34 l0_3 t227).f4).length c228_4)) (ds := []) (tf 0 12) (by kernel_rfl) rfl rfl ⟨(blk_cell BK223.out 0).trans rfl, (blk_cell BK223.out 1).trans rfl, (blk_cell BK223.out 2).trans rfl, (blk_cell BK223.out 3).trans rfl, (blk_cell BK223.out 4).trans rfl, ((HB.out.cell (World.block_lt_of_cell? w _ hw228_0)).trans hw228_0), ((HB.out.cell (World.block_lt_of_cell? w _ hw228_1)).trans hw228_1), ((HB.out.cell (World.block_lt_of_cell? w _ hw228_2)).trans hw228_2), ((HB.out.cell (World.block_lt_of_cell? w _ hw228_3)).trans hw228_3), ((HB.out.cell (World.block_lt_of_cell? w _ hw228_4)).trans hw228_4)⟩ (fun hHeld => ?_); refine with_tabW spec_l3Pending.tab4 spec_l3Pending.bits4 (fun HT_ HW_ => ?_)
  generalize w5.drew = w14 at HO226 BK223 HB HR228_1 HR228_2 HR228_3 HR228_4 hx228_0 hx228_1 hx228_2 hx228_3 hx228_4 hHeld ⊢
  refine p1_ 0 (some 11) (tf 1 11) HT_.out ?_
  refine p1_ 1 (some 12) (tf 2 10) HT_.out ?_
  refine p1_ 4 (some 15) #[true, true, false, false, true, false, false, false, false, false, false, false] HT_.out ?_
  refine p1_ 8 (some 19) #[true, true, false, false, true, false, false, false, true, false, false, false] HT_.out ?_
  refine take_ (i := 2) (N := some 13) (v := ?_) (a' := ?_) #[true, true, true, false, true, false, false, false, true, false, false, false] rfl rfl (take_ofW HT_.out HW_.out (by kernel_rfl)) (fun _ _ _ h => h) (Or.inl ⟨by rfl, ?_⟩) hHeld ?_ ?_
  rotate_left
  ·rintro w' ⟨s0, s1, s2, s3, s4, s5, s6, s7, s8, s9⟩
   go_simp
   with_reducible rfl
  rotate_left
  ·simp only [Act.put, List.setIfInBounds_toArray, List.set_cons_zero, List.set_cons_succ, i64_w, i32_w]
   rfl
  refine take_ (i := 3) (N := some 14) (v := ?_) (a' := ?_) #[true, true, true, true, true, false, false, false, true, false, false, false] rfl rfl (take_ofW HT_.out HW_.out (by kernel_rfl)) (fun _ _ _ h => h) (Or.inl ⟨by rfl, ?_⟩) hHeld ?_ ?_
  rotate_left
  ·rintro w' ⟨s0, s1, s2, s3, s4, s5, s6, s7, s8, s9⟩
   go_simp
   with_reducible rfl
  rotate_left
  ·simp only [Act.put, List.setIfInBounds_toArray, List.set_cons_zero, List.set_cons_succ, i64_w, i32_w]
   rfl
  refine one_ (i := 5) (N := some 16) #[true, true, true, true, true, true, false, false, true, false, false, false] rfl rfl (one_of HT_.out (by kernel_rfl)) (by decide) (fun K hK => ?_)
  refine goes_ Try.func67 (by kernel_rfl) rfl #[.agg #[.bool false, .slice A0_1 l0_1.length c0_1, .slice A0_2 l0_2.length c0_2, .slice (some ad228) l0_3.length c0_3, .slice A0_4 l0_4.length c0_4], .int .i64 a1] (by rfl) rfl rfl z0_ ?_
  with_reducible refine (spec_l2Kid.calls k false _ _ l0_1 _ _ l0_2 _ _ l0_3 _ _ l0_4 a1 t227 _ ?side1 ?side2 ?side3 ?side4 ?side5 ?side6 ?side7 ?side8 A9.out).mono ?_
  (case side1 => exact z75_)
  (case side2 => exact z95_)
  (case side3 => exact z78_)
  (case side4 => exact HC0_2.out)
  (case side5 => exact z79_)
  (case side6 => exact HC0_3.out)
  (case side7 => exact z77_)
  (case side8 => exact HC0_4.out)
  rintro e w15 ⟨rfl, hb⟩
  refine ⟨_, rfl, ?_⟩
  replace HO226 := q_ (Kd.R_below z50_ hb)
  replace BK223 := rb_ BK223 hb
  replace HB := hb_ hb
  (try clear hb)
  (try clear hb2)
  (try clear hk)
  (try clear hi)
  refine hK.out _ _ ⟨(blk_cell BK223.out 0).trans rfl, (blk_cell BK223.out 1).trans rfl, (blk_cell BK223.out 2).trans rfl, (blk_cell BK223.out 3).trans rfl, (blk_cell BK223.out 4).trans rfl, ((HB.out.cell (World.block_lt_of_cell? w _ hw228_0)).trans hw228_0), ((HB.out.cell (World.block_lt_of_cell? w _ hw228_1)).trans hw228_1), ((HB.out.cell (World.block_lt_of_cell? w _ hw228_2)).trans hw228_2), ((HB.out.cell (World.block_lt_of_cell? w _ hw228_3)).trans hw228_3), ((HB.out.cell (World.block_lt_of_cell? w _ hw228_4)).trans hw228_4)⟩ (fun hHeld => ?_)
  clear hK K
  refine norm_ (a' := ?_) ?_ ?_
  rotate_left
  ·show Act.put _ (some 16) _ = _
   simp only [Act.put, List.setIfInBounds_toArray, List.set_cons_zero, List.set_cons_succ, i64_w, i32_w]
   rfl
  refine p1_ 6 (some 17) #[true, true, true, true, true, true, true, false, true, false, false, false] HT_.out ?_
  refine take_ (i := 7) (N := some 18) (v := ?_) (a' := ?_) (tf 9 3) rfl rfl (take_ofW HT_.out HW_.out (by kernel_rfl)) (fun _ _ _ h => h) (Or.inl ⟨by rfl, ?_⟩) hHeld ?_ ?_
  rotate_left
  ·rintro w' ⟨s0, s1, s2, s3, s4, s5, s6, s7, s8, s9⟩
   go_simp
   with_reducible rfl
  rotate_left
  ·simp only [Act.put, List.setIfInBounds_toArray, List.set_cons_zero, List.set_cons_succ, i64_w, i32_w]
   rfl
  refine one_ (i := 9) (N := some 20) (tf 10 2) rfl rfl (one_of HT_.out (by kernel_rfl)) (by decide) (fun K hK => ?_)
  refine goes_ Try.func71 (by kernel_rfl) rfl #[.agg #[.bool ((rd_T34 l0_3 t227).f0), .slice A228_1 ((rd_T34 l0_3 t227).f1).length c228_1, .slice A228_2 ((rd_T34 l0_3 t227).f2).length c228_2, .slice A228_3 ((rd_T34 l0_3 t227).f3).length c228_3, .slice A228_4 ((rd_T34 l0_3 t227).f4).length c228_4], .int .i64 a1] (by rfl) rfl rfl z0_ ?_
  with_reducible refine (ih k (by omega) ((rd_T34 l0_3 t227).f0) _ _ ((rd_T34 l0_3 t227).f1) _ _ ((rd_T34 l0_3 t227).f2) _ _ ((rd_T34 l0_3 t227).f3) _ _ ((rd_T34 l0_3 t227).f4) a1 t229 _ ?side1 ?side2 ?side3 ?side4 ?side5 ?side6 ?side7 ?side8 A12.out).mono ?_
  (case side1 => repeat (first | exact (Kd.C_below HR228_1.out HB.out) | (with_reducible refine Kd.C_alloc ?_ _) | (with_reducible refine Kd.C_drewN ?_ _) | (with_reducible refine Kd.C_drew ?_)))
  (case side2 => exact HC228_1.out)
  (case side3 => repeat (first | exact (Kd.C_below HR228_2.out HB.out) | (with_reducible refine Kd.C_alloc ?_ _) | (with_reducible refine Kd.C_drewN ?_ _) | (with_reducible refine Kd.C_drew ?_)))
  (case side4 => exact HC228_2.out)
  (case side5 => repeat (first | exact (Kd.C_below HR228_3.out HB.out) | (with_reducible refine Kd.C_alloc ?_ _) | (with_reducible refine Kd.C_drewN ?_ _) | (with_reducible refine Kd.C_drew ?_)))
  (case side6 => exact HC228_3.out)
  (case side7 => repeat (first | exact (Kd.C_below HR228_4.out HB.out) | (with_reducible refine Kd.C_alloc ?_ _) | (with_reducible refine Kd.C_drewN ?_ _) | (with_reducible refine Kd.C_drew ?_)))
  (case side8 => exact HC228_4.out)
  rintro e w16 ⟨v230, rfl, ho0, hb⟩
  refine ⟨_, rfl, ?_⟩
  have HO231 := q_ (Kd.R_lower (Kd.R_new' ho0 (Kd.R_lt z50_)) (below_size cb_))
  replace HO226 := q_ (Kd.R_elder' z50_ (Kd.R_base ho0) hb)
  replace BK223 := rb_ BK223 hb
  replace HB := hb_ hb
  (try clear hb)
  (try clear hb2)
  (try clear hk)
  (try clear hi)
  (try clear ho0)
  obtain ⟨Ao18, co18, eo18⟩ := Kd.R_slice HO231.out
  (first | subst eo18 | (injection eo18 with f1_ f2_ f3_; have f4_ := f1_.symm; have f5_ := f3_.symm; clear f1_ f2_ f3_; subst f4_; subst f5_))
  refine hK.out _ _ ⟨(blk_cell BK223.out 0).trans rfl, (blk_cell BK223.out 1).trans rfl, (blk_cell BK223.out 2).trans rfl, (blk_cell BK223.out 3).trans rfl, (blk_cell BK223.out 4).trans rfl, ((HB.out.cell (World.block_lt_of_cell? w _ hw228_0)).trans hw228_0), ((HB.out.cell (World.block_lt_of_cell? w _ hw228_1)).trans hw228_1), ((HB.out.cell (World.block_lt_of_cell? w _ hw228_2)).trans hw228_2), ((HB.out.cell (World.block_lt_of_cell? w _ hw228_3)).trans hw228_3), ((HB.out.cell (World.block_lt_of_cell? w _ hw228_4)).trans hw228_4)⟩ (fun hHeld => ?_)
  clear hK K
  refine norm_ (a' := ?_) ?_ ?_
  rotate_left
  ·show Act.put _ (some 20) _ = _
   simp only [Act.put, List.setIfInBounds_toArray, List.set_cons_zero, List.set_cons_succ, i64_w, i32_w]
   rfl
  refine one_ (i := 10) (N := some 21) (tf 11 1) rfl rfl (one_of HT_.out (by kernel_rfl)) (by decide) (fun K hK => ?_)
  refine Kd.R_append_rows_step k72 (w0 := w) w.heap.size (by rfl) (.tmp 11) (.tmp 20) 32 72 (.agg #[(.int .i64 0), (.int .i64 0), (.int .i64 0)]) 24 rfl Try.underlying32 info72 rfl (by decide) (by omega) v225 y224 t229 _ _ _ (fun k_ => some k_ ≠ (.slice Ao18 t229.length co18 : Value).ownBlock) (fun _ => False) rfl rfl ?aO ?aR (fun _ _ h => h) (fun _ h => h.elim) ?aF ?aB ?aS ?aL ?_
  (case aR => repeat (first | exact (Kd.R_reads' HO231.out).2.2 | (with_reducible refine Kd.C_alloc ?_ _) | (with_reducible refine Kd.C_drewN ?_ _) | (with_reducible refine Kd.C_drew ?_)))
  (case aB => exact cb_)
  (case aF => exact (fun k_ hk => Kd.fresh' (Kd.R_lt z62_) k_ hk))
  (case aO => exact (by (with_reducible repeat (first | apply Kd.R_alloc | apply Kd.R_drewN | apply Kd.R_drew)); exact Kd.R_mono HO226.out (fun _ hk => hk.2)))
  (case aS => exact (below_size cb_))
  (case aL => have := LMc13.out; omega)
  intro v233 w17 ho hb hg hat
  rw [← Ny232.out] at ho
  replace BK223 := q_ (blk_grown (g := gb223) (o := .cells #[.bool false, .slice A0_1 l0_1.length c0_1, .slice A0_2 l0_2.length c0_2, .slice (some ad228) l0_3.length c0_3, .slice A0_4 l0_4.length c0_4] 34 (0, 0)) z39_ hg (Kd.R_ne HO226.out BK223.out (by decide)))
  replace HO231 := q_ (Kd.R_after (ok := (fun _ => True)) z62_ hg hat)
  replace HB := q_ (hb)
  have HO234 := q_ (ho)
  clear HO226
  clear ho hb hg hat
  refine hK.out _ _ ⟨(blk_cell BK223.out 0).trans rfl, (blk_cell BK223.out 1).trans rfl, (blk_cell BK223.out 2).trans rfl, (blk_cell BK223.out 3).trans rfl, (blk_cell BK223.out 4).trans rfl, ((HB.out.cell (World.block_lt_of_cell? w _ hw228_0)).trans hw228_0), ((HB.out.cell (World.block_lt_of_cell? w _ hw228_1)).trans hw228_1), ((HB.out.cell (World.block_lt_of_cell? w _ hw228_2)).trans hw228_2), ((HB.out.cell (World.block_lt_of_cell? w _ hw228_3)).trans hw228_3), ((HB.out.cell (World.block_lt_of_cell? w _ hw228_4)).trans hw228_4)⟩ (fun hHeld => ?_)
  clear hK K
  refine norm_ (a' := ?_) ?_ ?_
  rotate_left
  ·show Act.put _ (some 21) _ = _
   simp only [Act.put, List.setIfInBounds_toArray, List.set_cons_zero, List.set_cons_succ, i64_w, i32_w]
   rfl
  refine p1_ 11 (some 5) (tf 12 0) HT_.out ?_
  refine done_ (done_of HT_.out (by kernel_rfl)) ?_
  try go_wp2
  go_loopg [5, 6] k (fun kq v5 v6 w' => ∃ (x5_1 : List (S72)) (x6_1 : Int), v6 = .int .i64 x6_1 ∧ Aside0 (spec_l3Pending.l0 kq a1 x5_1 x6_1 false l0_1 l0_2 l0_3 l0_4 = some r) ∧ Aside0 (kq ≤ k) ∧ Aside0 (Kd.R k72 72 w' w.heap.size (fun _ => True) v5 x5_1) ∧ Aside0 (w'.heap[gb223]? = some (.cells #[.bool false, (.slice A0_1 l0_1.length c0_1), (.slice A0_2 l0_2.length c0_2), (.slice (some ad228) l0_3.length c0_3), (.slice A0_4 l0_4.length c0_4)] 34 (0, 0))) ∧ Aside0 (Below w.heap.size w w'))
  case atStart => exact ⟨(y232), (0), z4_, H', ⟨Nat.le_refl _⟩, ⟨by (with_reducible repeat (first | apply Kd.R_alloc | apply Kd.R_drewN | apply Kd.R_drew)); exact Kd.R_mono HO234.out (fun _ hk => trivial)⟩, ⟨z39_⟩, ⟨cb_⟩⟩
  case round =>
   clear H'
   try clear c1
   try clear c2
   try clear p2
   try clear q2
   try clear hx2
   try clear c6
   try clear c7
   try clear c8
   try clear c10
   try clear c10b0
   try clear c10b1
   try clear c10b2
   try clear c11
   try clear c11b0
   try clear c13
   repeat clear hz_
   try clear hx228_0
   try clear hx228_1
   try clear hx228_2
   try clear hx228_3
   try clear hx228_4
   try clear p228
   try clear q228
   obtain ⟨x5_1, x6_1, rfl, HA, HK1, HO_5, BK223, HB⟩ := hrel
   obtain ⟨k1, rfl, H⟩ := rn_ (k := gk) HA (by rintro rfl; simp only [spec_l3Pending.l0])
   clear HA
   simp only [spec_l3Pending.l0] at H
   have HC19 := q_ H
   clear H
   obtain ⟨hz_, hz_, hz_, hz_, hz_, hz_, hz_, hz_, hz_, hz_⟩ := cs5_ BK223.out
   go_upto_if 26 with (fail)
   have H := HC19.out
   clear HC19
   replace H := kd_ H; rcases H with ⟨c21b0, H⟩ | ⟨c21b0, H⟩
   ·(first | rw [c21b0] | rw [c21b1] | (simp only [i64_w, i32_w]; first | rw [c21b0] | rw [c21b1]) | rw [c21b2] | skip)
    replace H := kdn_ H; obtain ⟨c22b0, H⟩ := H
    have HC23 := q_ H
    clear H
    obtain ⟨hz_, hz_, hz_, hz_, hz_, hz_, hz_, hz_, hz_, hz_⟩ := cs5_ BK223.out
    have p235 : 0 ≤ (x6_1 : Int) := of_decide_eq_true z2_
    have q235 : x6_1 < (l0_4.length : Int) := of_decide_eq_true z2_
    obtain ⟨ad235, e235, hx235_0, hx235_1, hx235_2⟩ := at_T72 HR0_4.out x6_1 p235 q235
    cases e235
    replace hx235_0 := up_ HB hx235_0
    replace hx235_1 := up_ HB hx235_1
    replace hx235_2 := up_ HB hx235_2
    replace p235 := eq_true p235
    replace q235 := eq_true q235
    go_upto_if 36 with (fail)
    have H := HC23.out
    clear HC23
    replace H := ke_ H; rcases H with ⟨c25b0, c25b1, H⟩ | ⟨c25, c25b0, c25b1, H⟩
    ·(first | rw [c25b0] | rw [c25b1] | (simp only [i64_w, i32_w]; first | rw [c25b0] | rw [c25b1]) | rw [c25b2] | skip)
     replace H := kln_ H; obtain ⟨LMc26, H⟩ := H
     obtain ⟨y237, hy_⟩ : ∃ y_ : List (S72), y_ = (x5_1 ++ [(⟨(rd_T72 l0_4 x6_1).f0, (rd_T72 l0_4 x6_1).f1, (rd_T72 l0_4 x6_1).f2⟩ : S72)]) := ⟨_, rfl⟩
     replace H : (spec_l3Pending.l0 k1 a1 y237 (wrap64 (x6_1 + 1)) false l0_1 l0_2 l0_3 l0_4) = some r := z3_
     have Ny237 := q_ hy_
     clear hy_
     have H' := q_ H
     clear H
     obtain ⟨hz_, hz_, hz_, hz_, hz_, hz_, hz_, hz_, hz_, hz_⟩ := cs5_ BK223.out
     have p236 : 0 ≤ (x6_1 : Int) := of_decide_eq_true z2_
     have q236 : x6_1 < (l0_4.length : Int) := of_decide_eq_true z2_
     obtain ⟨ad236, e236, hx236_0, hx236_1, hx236_2⟩ := at_T72 HR0_4.out x6_1 p236 q236
     obtain rfl : ad235 = ad236 := (by injection e236)
     replace hx236_0 := up_ HB hx236_0
     replace hx236_1 := up_ HB hx236_1
     replace hx236_2 := up_ HB hx236_2
     replace p236 := eq_true p236
     replace q236 := eq_true q236
     go_wp2_with (first | ((with_reducible refine gate_builtin (b := .append) (xs := #[.tmp 37, .tmp 43]) rfl ?_); at_builtin; refine Kd.R_append k72 (w0 := w) w.heap.size rfl (.tmp 37) (.tmp 43) 32 72 (.agg #[(.int .i64 0), (.int .i64 0), (.int .i64 0)]) 24 rfl Try.underlying32 info72 rfl (by decide) (by omega) u5 x5_1 (⟨(rd_T72 l0_4 x6_1).f0, (rd_T72 l0_4 x6_1).f1, (rd_T72 l0_4 x6_1).f2⟩ : S72) [.int .i64 ((rd_T72 l0_4 x6_1).f0), .int .i64 ((rd_T72 l0_4 x6_1).f1), .int .i64 ((rd_T72 l0_4 x6_1).f2)] (fun _ => True) (fun _ => False) rfl rfl ?aP (fun _ hk => hk.elim) ?aF ?aO ?aB ?aS ?aL ?_; (case aP => exact k72_mkM _ _ _ (⟨(rd_T72 l0_4 x6_1).f0, (rd_T72 l0_4 x6_1).f1, (rd_T72 l0_4 x6_1).f2⟩ : S72)); (case aB => exact cb_); (case aF => exact (fun _ _ => trivial)); (case aO => exact z44_); (case aS => exact (below_size cb_)); (case aL => have := LMc26.out; omega); intro v238 w28 ho hb hg hat; rw [← Ny237.out] at ho; replace BK223 := q_ (blk_grown (g := gb223) (o := .cells #[.bool false, .slice A0_1 l0_1.length c0_1, .slice A0_2 l0_2.length c0_2, .slice (some ad228) l0_3.length c0_3, .slice (some ad235) l0_4.length c0_4] 34 (0, 0)) z39_ hg (Kd.R_ne HO_5.out BK223.out (by decide))); replace HB := q_ (hb); have HO239 := q_ (ho); clear HO_5; clear ho hb hg hat))
     go_roundg k1
     case measure => have := HK1.out; omega
     case rel => exact ⟨(y237), (wrap64 (x6_1 + 1)), z4_, H', ⟨z26_⟩, ⟨by (with_reducible repeat (first | apply Kd.R_alloc | apply Kd.R_drewN | apply Kd.R_drew)); exact HO239.out⟩, ⟨z39_⟩, ⟨cb_⟩⟩
    ·(first | rw [c25b0] | rw [c25b1] | (simp only [i64_w, i32_w]; first | rw [c25b0] | rw [c25b1]) | rw [c25b2] | skip)
     have H' := q_ H
     clear H
     go_wp2
     go_roundg k1
     case measure => have := HK1.out; omega
     case rel => exact ⟨(x5_1), (wrap64 (x6_1 + 1)), z4_, H', ⟨z26_⟩, ⟨z44_⟩, ⟨z39_⟩, ⟨cb_⟩⟩
   ·(first | rw [c21b0] | rw [c21b1] | (simp only [i64_w, i32_w]; first | rw [c21b0] | rw [c21b1]) | rw [c21b2] | skip)
    obtain rfl := si_ H
    go_wp2
    go_ret
    exact ⟨_, z1_, z44_, cb_⟩

/-! ### spec_Pending: function 26 -/
def spec_Pending.f (k : Nat) (a0_0 : Bool) (l0_1 : List (S92)) (l0_2 : List Int) (l0_3 : List (S34)) (l0_4 : List (S72)) (a1 : Int) : Option ((List (S72))) := (spec_TreeOk.f k a0_0 l0_1 l0_2 l0_3 l0_4).bind fun t241 => (if t241 = true then ((spec_l3Pending.f k a0_0 l0_1 l0_2 l0_3 l0_4 a1).bind fun t242 => (some t242)) else (some (([] : List (S72)))))
theorem spec_Pending.mono : ∀ a0 a1 a2 a3 a4 a5 k, LeO (spec_Pending.f k a0 a1 a2 a3 a4 a5) (spec_Pending.f (k + 1) a0 a1 a2 a3 a4 a5) := by
 intro a0 a1 a2 a3 a4 a5 k
 unfold spec_Pending.f
 have m0 := @spec_TreeOk.mono
 have m1 := @spec_l3Pending.mono
 exact zm_
set_option maxHeartbeats 8000000 in
set_option maxRecDepth 100000 in
theorem spec_Pending.calls (k : Nat) (a0_0 : Bool) (A0_1 : Option Addr) (c0_1 : Nat) (l0_1 : List (S92)) (A0_2 : Option Addr) (c0_2 : Nat) (l0_2 : List Int) (A0_3 : Option Addr) (c0_3 : Nat) (l0_3 : List (S34)) (A0_4 : Option Addr) (c0_4 : Nat) (l0_4 : List (S72)) (a1 : Int) (r : List (S72)) (w : World) (hr0_1 : Kd.C k92 w A0_1 l0_1.length l0_1) (hc0_1 : l0_1.length ≤ c0_1) (hr0_2 : Kd.C (Kd.int .i64) w A0_2 l0_2.length l0_2) (hc0_2 : l0_2.length ≤ c0_2) (hr0_3 : Kd.C k34 w A0_3 l0_3.length l0_3) (hc0_3 : l0_3.length ≤ c0_3) (hr0_4 : Kd.C k72 w A0_4 l0_4.length l0_4) (hc0_4 : l0_4.length ≤ c0_4) (h : spec_Pending.f k a0_0 l0_1 l0_2 l0_3 l0_4 a1 = some r) :
  Calls Try.prog 26 #[.agg #[.bool a0_0, .slice A0_1 l0_1.length c0_1, .slice A0_2 l0_2.length c0_2, .slice A0_3 l0_3.length c0_3, .slice A0_4 l0_4.length c0_4], .int .i64 a1] w fun e w' => ∃ v0_ : Value, e = .returned (v0_) ∧ Kd.R k72 72 w' w.heap.size (fun _ => True) v0_ r ∧ Below w.heap.size w w' := by
 have hu34 := Try.underlying34
 have HR0_1 := q_ hr0_1
 have HC0_1 := q_ hc0_1
 clear hr0_1 hc0_1
 have HR0_2 := q_ hr0_2
 have HC0_2 := q_ hc0_2
 clear hr0_2 hc0_2
 have HR0_3 := q_ hr0_3
 have HC0_3 := q_ hc0_3
 clear hr0_3 hc0_3
 have HR0_4 := q_ hr0_4
 have HC0_4 := q_ hc0_4
 clear hr0_4 hc0_4
 have HB := q_ (Below.refl w.heap.size w)
 have H := h; clear h
 unfold spec_Pending.f at H
 replace H := bi_ H; obtain ⟨t241, A3, H⟩ := H
 have HC4 := q_ H
 clear H
 go_enter Try.func26, Try.ntmps26
 go_upto_if 7 with (first | ((with_reducible refine gate_dst (N := 2) rfl ?_); refine box_event ?hg (N := 2) ?hd (cs := #[.bool a0_0, .slice A0_1 l0_1.length c0_1, .slice A0_2 l0_2.length c0_2, .slice A0_3 l0_3.length c0_3, .slice A0_4 l0_4.length c0_4]) (t := 34) ?hr ?_; (case hd => rfl); (case hg => rfl); (case hr => exact z76_); intro gb240 hg w5 hbox hb; have BK240 := q_ (hbox); have GW240 := ge_ hg; have GE240 := ge_ hg; replace HB := hb_ hb; clear hb hbox hg; obtain ⟨hz_, hz_, hz_, hz_, hz_, hz_, hz_, hz_, hz_, hz_⟩ := cs5_ BK240.out) | ((with_reducible refine gate_callee (f := 20) rfl ?_); refine goesL_ (some 6) rfl rfl Try.func20 (by kernel_rfl) rfl #[.agg #[.bool a0_0, .slice A0_1 l0_1.length c0_1, .slice A0_2 l0_2.length c0_2, .slice A0_3 l0_3.length c0_3, .slice A0_4 l0_4.length c0_4]] rfl z0_ ?_; (with_reducible refine (spec_TreeOk.calls k a0_0 _ _ l0_1 _ _ l0_2 _ _ l0_3 _ _ l0_4 t241 _ ?side1 ?side2 ?side3 ?side4 ?side5 ?side6 ?side7 ?side8 A3.out).mono ?_); (case side1 => exact z75_); (case side2 => exact z95_); (case side3 => exact z78_); (case side4 => exact HC0_2.out); (case side5 => exact z79_); (case side6 => exact HC0_3.out); (case side7 => exact z77_); (case side8 => exact HC0_4.out); rintro e w7 ⟨rfl, hb⟩; refine ⟨_, rfl, ?_⟩; replace BK240 := rb_ BK240 hb; replace HB := hb_ hb; (try clear hb); (try clear hb2); (try clear hk); (try clear hi)))
 (try simp only [Act.put, List.setIfInBounds_toArray, List.set_cons_zero, List.set_cons_succ])
 have H := HC4.out
 clear HC4
 replace H := kb_ H; rcases H with ⟨rfl, H⟩ | ⟨rfl, H⟩
 ·replace H := bi_ H; obtain ⟨t242, A9, H⟩ := H
  obtain rfl := si_ H
  obtain ⟨hz_, hz_, hz_, hz_, hz_, hz_, hz_, hz_, hz_, hz_⟩ := cs5_ BK240.out
  go_wp2_with (first | ((with_reducible refine gate_callee (f := 71) rfl ?_); refine goesL_ (some 11) rfl rfl Try.func71 (by kernel_rfl) rfl #[.agg #[.bool a0_0, .slice A0_1 l0_1.length c0_1, .slice A0_2 l0_2.length c0_2, .slice A0_3 l0_3.length c0_3, .slice A0_4 l0_4.length c0_4], .int .i64 a1] rfl z0_ ?_; (with_reducible refine (spec_l3Pending.calls k a0_0 _ _ l0_1 _ _ l0_2 _ _ l0_3 _ _ l0_4 a1 t242 _ ?side1 ?side2 ?side3 ?side4 ?side5 ?side6 ?side7 ?side8 A9.out).mono ?_); (case side1 => exact z75_); (case side2 => exact z95_); (case side3 => exact z78_); (case side4 => exact HC0_2.out); (case side5 => exact z79_); (case side6 => exact HC0_3.out); (case side7 => exact z77_); (case side8 => exact HC0_4.out); rintro e w11 ⟨v243, rfl, ho0, hb⟩; refine ⟨_, rfl, ?_⟩; have HO244 := q_ (Kd.R_lower ho0 (below_size cb_)); replace HB := hb_ hb; (try clear hb); (try clear hb2); (try clear hk); (try clear hi); (try clear ho0)))
  go_ret
  exact ⟨_, z1_, by (with_reducible repeat (first | apply Kd.R_alloc | apply Kd.R_drewN | apply Kd.R_drew)); exact HO244.out, cb_⟩
 ·obtain ⟨y245, hy_⟩ : ∃ y_ : List (S72), y_ = (([] : List (S72))) := ⟨_, rfl⟩
  replace H : (some y245) = some r := z3_
  have Ny245 := q_ hy_
  clear hy_
  obtain rfl := si_ H
  go_wp2_with (first | ((with_reducible refine gate_dst (N := 8) rfl ?_); refine Kd.R_lit k72 _ 72 ?hg (N := 8) ?hd (xs := ([] : List (S72))) (inner := []) (ok := fun _ => True) (okp := fun _ => True) ?hr ?hp (fun _ hk => hk) trivial (Below.refl _ _) (Nat.le_refl _) (by simp) ?_; (case hd => rfl); (case hg => rfl); (case hr => exact z76_); (case hp => exact (Reps.none _ _)); intro v246 w12 ho13 hb hg_ hnew_; clear hg_ hnew_; (first | rw [← Ny245.out] at ho13 | (simp only [Int.reduceToNat] at ho13; rw [← Ny245.out] at ho13)); have HO247 := q_ (Kd.R_lower ho13 (below_size cb_)); replace HB := hb_ hb; clear hb ho13))
  go_ret
  exact ⟨_, z1_, by (with_reducible repeat (first | apply Kd.R_alloc | apply Kd.R_drewN | apply Kd.R_drew)); exact HO247.out, cb_⟩

/-! ### impl_within: function 102 -/
def impl_within.f (a0 : Int) (a1 : Int) (a2 : Int) : Option (Bool) := if a0 ≥ a1 then (some (decide (a0 ≤ a2))) else (some false)
set_option maxHeartbeats 8000000 in
set_option maxRecDepth 100000 in
theorem impl_within.calls (a0 : Int) (a1 : Int) (a2 : Int) (r : Bool) (w : World) (h : impl_within.f a0 a1 a2 = some r) :
  Calls Try.prog 102 #[.int .i64 a0, .int .i64 a1, .int .i64 a2] w fun e w' => e = .returned (.bool r) ∧ Drawn0 w w' := by
 have H := h; clear h
 unfold impl_within.f at H
 by_cases c4 : a0 ≥ a1
 ·rw [if_pos c4] at H
  have c4b0 : decide (a1 ≤ a0) = true := decide_eq_true c4
  clear c4
  obtain rfl := si_ H
  go_enter Try.func102, Try.ntmps102
  go_wp2
  go_ret
  exact ⟨z4_, z8_⟩
 ·rw [if_neg c4] at H
  have c4b0 : decide (a1 ≤ a0) = false := decide_eq_false c4
  clear c4
  obtain rfl := si_ H
  go_enter Try.func102, Try.ntmps102
  go_wp2
  go_ret
  exact ⟨z4_, z8_⟩

/-! ### impl_isKey: function 93 -/
def impl_isKey.f (a0 : Int) : Option (Bool) := (impl_within.f a0 0 999).bind fun t248 => (some t248)
set_option maxHeartbeats 8000000 in
set_option maxRecDepth 100000 in
theorem impl_isKey.calls (a0 : Int) (r : Bool) (w : World) (h : impl_isKey.f a0 = some r) :
  Calls Try.prog 93 #[.int .i64 a0] w fun e w' => e = .returned (.bool r) ∧ Drawn0 w w' := by
 have H := h; clear h
 unfold impl_isKey.f at H
 replace H := bi_ H; obtain ⟨t248, A2, H⟩ := H
 obtain rfl := si_ H
 go_enter Try.func93, Try.ntmps93
 go_wp2_with (first | ((with_reducible refine gate_callee (f := 102) rfl ?_); refine goesL_ (some 4) rfl rfl Try.func102 (by kernel_rfl) rfl #[.int .i64 a0, .int .i64 0, .int .i64 999] rfl z0_ ?_; (with_reducible refine (impl_within.calls a0 0 999 t248 _ A2.out).mono ?_); rintro e w' ⟨rfl, ⟨nd, rfl⟩⟩; refine ⟨_, rfl, ?_⟩))
 go_ret
 exact ⟨z4_, z8_⟩

/-! ### impl_isNum: function 94 -/
def impl_isNum.f (a0 : Int) : Option (Bool) := (impl_within.f a0 (-1000000000) 1000000000).bind fun t249 => (some t249)
set_option maxHeartbeats 8000000 in
set_option maxRecDepth 100000 in
theorem impl_isNum.calls (a0 : Int) (r : Bool) (w : World) (h : impl_isNum.f a0 = some r) :
  Calls Try.prog 94 #[.int .i64 a0] w fun e w' => e = .returned (.bool r) ∧ Drawn0 w w' := by
 have H := h; clear h
 unfold impl_isNum.f at H
 replace H := bi_ H; obtain ⟨t249, A2, H⟩ := H
 obtain rfl := si_ H
 go_enter Try.func94, Try.ntmps94
 go_wp2_with (first | ((with_reducible refine gate_callee (f := 102) rfl ?_); refine goesL_ (some 4) rfl rfl Try.func102 (by kernel_rfl) rfl #[.int .i64 a0, .int .i64 (-1000000000), .int .i64 1000000000] rfl z0_ ?_; (with_reducible refine (impl_within.calls a0 (-1000000000) 1000000000 t249 _ A2.out).mono ?_); rintro e w' ⟨rfl, ⟨nd, rfl⟩⟩; refine ⟨_, rfl, ?_⟩))
 go_ret
 exact ⟨z4_, z8_⟩

end Go.Proofs.Ytfnndcpaldkkoaa.PFnExactPending
