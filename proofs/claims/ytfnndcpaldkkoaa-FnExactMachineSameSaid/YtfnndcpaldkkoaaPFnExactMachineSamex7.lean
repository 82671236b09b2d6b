-- Written by a program of this session, which goes by the kit's print. Not trusted: Lean checks it.
import Derived.Test.YtfnndcpaldkkoaaPFnExactMachineSamex0
import Derived.Test.YtfnndcpaldkkoaaPFnExactMachineSamex6
namespace Go.Proofs.Ytfnndcpaldkkoaa.PFnExactMachineSame
open Go.RowKit Go.Proofs.YtfnndcpaldkkoaaW.PrintWords Go.Proofs.YtfnndcpaldkkoaaW.PrintLast Go.Proofs.YtfnndcpaldkkoaaW.PrintMore
attribute [local go_sem] max2_int min2_int max_two min_two max_three min_three max_four min_four   -- for this text's walks alone
set_option linter.unusedVariables false
set_option linter.unusedSimpArgs false

/-! ### spec_TreeDepth: function 16 -/
def spec_TreeDepth.f (k : Nat) (a0_0 : Bool) (l0_1 : List (S92)) (l0_2 : List Int) (l0_3 : List (S34)) (l0_4 : List (S72)) : Option (Int) := (spec_l2Depth.f k a0_0 l0_1 l0_2 l0_3 l0_4 0 1000 7).bind fun t141 => (some t141)
theorem spec_TreeDepth.mono : ∀ a0 a1 a2 a3 a4 k, LeO (spec_TreeDepth.f k a0 a1 a2 a3 a4) (spec_TreeDepth.f (k + 1) a0 a1 a2 a3 a4) := by
 intro a0 a1 a2 a3 a4 k
 unfold spec_TreeDepth.f
 have m0 := @spec_l2Depth.mono
 exact zm_
set_option maxHeartbeats 8000000 in
set_option maxRecDepth 100000 in
theorem spec_TreeDepth.calls (k : Nat) (a0_0 : Bool) (A0_1 : Option Addr) (c0_1 : Nat) (l0_1 : List (S92)) (A0_2 : Option Addr) (c0_2 : Nat) (l0_2 : List Int) (A0_3 : Option Addr) (c0_3 : Nat) (l0_3 : List (S34)) (A0_4 : Option Addr) (c0_4 : Nat) (l0_4 : List (S72)) (r : Int) (w : World) (hr0_1 : Kd.C k92 w A0_1 l0_1.length l0_1) (hc0_1 : l0_1.length ≤ c0_1) (hr0_2 : Kd.C (Kd.int .i64) w A0_2 l0_2.length l0_2) (hc0_2 : l0_2.length ≤ c0_2) (hr0_3 : Kd.C k34 w A0_3 l0_3.length l0_3) (hc0_3 : l0_3.length ≤ c0_3) (hr0_4 : Kd.C k72 w A0_4 l0_4.length l0_4) (hc0_4 : l0_4.length ≤ c0_4) (h : spec_TreeDepth.f k a0_0 l0_1 l0_2 l0_3 l0_4 = some r) :
  Calls Try.prog 16 #[.agg #[.bool a0_0, .slice A0_1 l0_1.length c0_1, .slice A0_2 l0_2.length c0_2, .slice A0_3 l0_3.length c0_3, .slice A0_4 l0_4.length c0_4]] w fun e w' => e = .returned (.int .i64 r) ∧ Below w.heap.size w w' := by
 have hu34 := Try.underlying34
 have HR0_1 := q_ hr0_1
 have HC0_1 := q_ hc0_1
 clear hr0_1 hc0_1
 have HR0_2 := q_ hr0_2
 have HC0_2 := q_ hc0_2
 clear hr0_2 hc0_2
 have HR0_3 := q_ hr0_3
 have HC0_3 := q_ hc0_3
 clear hr0_3 hc0_3
 have HR0_4 := q_ hr0_4
 have HC0_4 := q_ hc0_4
 clear hr0_4 hc0_4
 have HB := q_ (Below.refl w.heap.size w)
 have H := h; clear h
 unfold spec_TreeDepth.f at H
 replace H := bi_ H; obtain ⟨t141, A2, H⟩ := H
 obtain rfl := si_ H
 go_enter Try.func16, Try.ntmps16
 go_wp2_with (first | ((with_reducible refine gate_dst (N := 1) rfl ?_); refine box_event ?hg (N := 1) ?hd (cs := #[.bool a0_0, .slice A0_1 l0_1.length c0_1, .slice A0_2 l0_2.length c0_2, .slice A0_3 l0_3.length c0_3, .slice A0_4 l0_4.length c0_4]) (t := 34) ?hr ?_; (case hd => rfl); (case hg => rfl); (case hr => exact z92_); intro gb140 hg w3 hbox hb; have BK140 := q_ (hbox); have GW140 := ge_ hg; have GE140 := ge_ hg; replace HB := hb_ hb; clear hb hbox hg; obtain ⟨hz_, hz_, hz_, hz_, hz_, hz_, hz_, hz_, hz_, hz_⟩ := cs5_ BK140.out) | ((with_reducible refine gate_callee (f := 59) rfl ?_); refine goesL_ (some 4) rfl rfl Try.func59 (by kernel_rfl) rfl #[.agg #[.bool a0_0, .slice A0_1 l0_1.length c0_1, .slice A0_2 l0_2.length c0_2, .slice A0_3 l0_3.length c0_3, .slice A0_4 l0_4.length c0_4], .int .i64 0, .int .i64 1000, .int .i64 7] rfl z0_ ?_; (with_reducible refine (spec_l2Depth.calls k a0_0 _ _ l0_1 _ _ l0_2 _ _ l0_3 _ _ l0_4 0 1000 7 t141 _ ?side1 ?side2 ?side3 ?side4 ?side5 ?side6 ?side7 ?side8 A2.out).mono ?_); (case side1 => exact z90_); (case side2 => exact z115_); (case side3 => exact z93_); (case side4 => exact z121_); (case side5 => exact z94_); (case side6 => exact z122_); (case side7 => exact z91_); (case side8 => exact z119_); rintro e w5 ⟨rfl, hb⟩; refine ⟨_, rfl, ?_⟩; replace HB := hb_ hb; (try clear hb); (try clear hb2); (try clear hk); (try clear hi)))
 go_ret
 exact ⟨z1_, cb_⟩

/-! ### spec_TreeOk: function 20 -/
def spec_TreeOk.f (k : Nat) (a0_0 : Bool) (l0_1 : List (S92)) (l0_2 : List Int) (l0_3 : List (S34)) (l0_4 : List (S72)) : Option (Bool) := (spec_TreeDepth.f k a0_0 l0_1 l0_2 l0_3 l0_4).bind fun t143 => (some (decide (t143 > 0)))
theorem spec_TreeOk.mono : ∀ a0 a1 a2 a3 a4 k, LeO (spec_TreeOk.f k a0 a1 a2 a3 a4) (spec_TreeOk.f (k + 1) a0 a1 a2 a3 a4) := by
 intro a0 a1 a2 a3 a4 k
 unfold spec_TreeOk.f
 have m0 := @spec_TreeDepth.mono
 exact zm_
set_option maxHeartbeats 8000000 in
set_option maxRecDepth 100000 in
theorem spec_TreeOk.calls (k : Nat) (a0_0 : Bool) (A0_1 : Option Addr) (c0_1 : Nat) (l0_1 : List (S92)) (A0_2 : Option Addr) (c0_2 : Nat) (l0_2 : List Int) (A0_3 : Option Addr) (c0_3 : Nat) (l0_3 : List (S34)) (A0_4 : Option Addr) (c0_4 : Nat) (l0_4 : List (S72)) (r : Bool) (w : World) (hr0_1 : Kd.C k92 w A0_1 l0_1.length l0_1) (hc0_1 : l0_1.length ≤ c0_1) (hr0_2 : Kd.C (Kd.int .i64) w A0_2 l0_2.length l0_2) (hc0_2 : l0_2.length ≤ c0_2) (hr0_3 : Kd.C k34 w A0_3 l0_3.length l0_3) (hc0_3 : l0_3.length ≤ c0_3) (hr0_4 : Kd.C k72 w A0_4 l0_4.length l0_4) (hc0_4 : l0_4.length ≤ c0_4) (h : spec_TreeOk.f k a0_0 l0_1 l0_2 l0_3 l0_4 = some r) :
  Calls Try.prog 20 #[.agg #[.bool a0_0, .slice A0_1 l0_1.length c0_1, .slice A0_2 l0_2.length c0_2, .slice A0_3 l0_3.length c0_3, .slice A0_4 l0_4.length c0_4]] w fun e w' => e = .returned (.bool r) ∧ Below w.heap.size w w' := by
 have hu34 := Try.underlying34
 have HR0_1 := q_ hr0_1
 have HC0_1 := q_ hc0_1
 clear hr0_1 hc0_1
 have HR0_2 := q_ hr0_2
 have HC0_2 := q_ hc0_2
 clear hr0_2 hc0_2
 have HR0_3 := q_ hr0_3
 have HC0_3 := q_ hc0_3
 clear hr0_3 hc0_3
 have HR0_4 := q_ hr0_4
 have HC0_4 := q_ hc0_4
 clear hr0_4 hc0_4
 have HB := q_ (Below.refl w.heap.size w)
 have H := h; clear h
 unfold spec_TreeOk.f at H
 replace H := bi_ H; obtain ⟨t143, A2, H⟩ := H
 obtain rfl := si_ H
 go_enter Try.func20, Try.ntmps20
 go_wp2_with (first | ((with_reducible refine gate_dst (N := 1) rfl ?_); refine box_event ?hg (N := 1) ?hd (cs := #[.bool a0_0, .slice A0_1 l0_1.length c0_1, .slice A0_2 l0_2.length c0_2, .slice A0_3 l0_3.length c0_3, .slice A0_4 l0_4.length c0_4]) (t := 34) ?hr ?_; (case hd => rfl); (case hg => rfl); (case hr => exact z92_); intro gb142 hg w3 hbox hb; have BK142 := q_ (hbox); have GW142 := ge_ hg; have GE142 := ge_ hg; replace HB := hb_ hb; clear hb hbox hg; obtain ⟨hz_, hz_, hz_, hz_, hz_, hz_, hz_, hz_, hz_, hz_⟩ := cs5_ BK142.out) | ((with_reducible refine gate_callee (f := 16) rfl ?_); refine goesL_ (some 4) rfl rfl Try.func16 (by kernel_rfl) rfl #[.agg #[.bool a0_0, .slice A0_1 l0_1.length c0_1, .slice A0_2 l0_2.length c0_2, .slice A0_3 l0_3.length c0_3, .slice A0_4 l0_4.length c0_4]] rfl z0_ ?_; (with_reducible refine (spec_TreeDepth.calls k a0_0 _ _ l0_1 _ _ l0_2 _ _ l0_3 _ _ l0_4 t143 _ ?side1 ?side2 ?side3 ?side4 ?side5 ?side6 ?side7 ?side8 A2.out).mono ?_); (case side1 => exact z90_); (case side2 => exact z115_); (case side3 => exact z93_); (case side4 => exact z121_); (case side5 => exact z94_); (case side6 => exact z122_); (case side7 => exact z91_); (case side8 => exact z119_); rintro e w5 ⟨rfl, hb⟩; refine ⟨_, rfl, ?_⟩; replace HB := hb_ hb; (try clear hb); (try clear hb2); (try clear hk); (try clear hi)))
 go_ret
 exact ⟨z1_, cb_⟩

/-! ### spec_MapGet: function 79 -/
def spec_MapGet.l0 : Nat → List (S92) → Int → Int → Option (Int × Bool)
 | 0, _, _, _ => none
 | k + 1, x0, x1, x6 => if x6 < (x0.length : Int) then (if 0 ≤ x6 then (if ((rd_T92 x0 x6).f0) = x1 then (some ((rd_T92 x0 x6).f1, true)) else (spec_MapGet.l0 k x0 x1 (wrap64 (x6 + 1)))) else (none)) else (some (0, false))
def spec_MapGet.f (k : Nat) (l0 : List (S92)) (a1 : Int) : Option (Int × Bool) := spec_MapGet.l0 k l0 a1 0
theorem spec_MapGet.mono_l : ∀ k, (∀ y0 y1 y2, LeO (spec_MapGet.l0 k y0 y1 y2) (spec_MapGet.l0 (k + 1) y0 y1 y2))
 | 0 => fun _ _ _ r h => by simp [spec_MapGet.l0] at h
 | k + 1 => by
  have ih0 := spec_MapGet.mono_l k
  ·intro y0 y1 y2
   unfold spec_MapGet.l0
   exact zm_
theorem spec_MapGet.mono : ∀ a0 a1 k, LeO (spec_MapGet.f k a0 a1) (spec_MapGet.f (k + 1) a0 a1) := by
 intro a0 a1 k
 have ih0 := spec_MapGet.mono_l k
 unfold spec_MapGet.f
 exact zm_
set_option maxHeartbeats 8000000 in
set_option maxRecDepth 100000 in
theorem spec_MapGet.calls (k : Nat) (A0 : Option Addr) (c0 : Nat) (l0 : List (S92)) (a1 : Int) (r1 : Int) (r2 : Bool) (w : World) (hr0 : Kd.C k92 w A0 l0.length l0) (hc0 : l0.length ≤ c0) (h : spec_MapGet.f k l0 a1 = some (r1, r2)) :
  Calls Try.prog 79 #[.slice A0 l0.length c0, .int .i64 a1] w fun e w' => e = .returned (.tuple #[.int .i64 r1, .bool r2]) ∧ Drawn0 w w' := by
 have HR0 := q_ hr0
 have HC0 := q_ hc0
 clear hr0 hc0
 have H := h; clear h
 unfold spec_MapGet.f at H
 have H' := q_ H
 clear H
 go_enter Try.func79, Try.ntmps79
 go_wp2
 go_loopg [6] k (fun kq v6 w' => ∃ (x6_1 : Int), v6 = .int .i64 x6_1 ∧ Aside0 (spec_MapGet.l0 kq l0 a1 x6_1 = some (r1, r2)) ∧ Aside0 (kq ≤ k) ∧ Drawn0 w w')
 case atStart => exact ⟨(0), z4_, H', ⟨Nat.le_refl _⟩, z6_⟩
 case round =>
  clear H'
  try clear p2
  obtain ⟨x6_1, rfl, HA, HK1, ⟨m1, rfl⟩⟩ := hrel
  obtain ⟨k1, rfl, H⟩ := rn_ (k := gk) HA (by rintro rfl; simp only [spec_MapGet.l0])
  clear HA
  simp only [spec_MapGet.l0] at H
  replace H := kd_ H; rcases H with ⟨c3b0, H⟩ | ⟨c3b0, H⟩
  ·replace H := kdn_ H; obtain ⟨c4b0, H⟩ := H
   replace H := ke_ H; rcases H with ⟨c5b0, c5b1, H⟩ | ⟨c5, c5b0, c5b1, H⟩
   ·obtain ⟨rfl, rfl⟩ := s2_ H
    have p144 : 0 ≤ (x6_1 : Int) := of_decide_eq_true z2_
    have q144 : x6_1 < (l0.length : Int) := of_decide_eq_true z2_
    obtain ⟨ad144, e144, hx144_0, hx144_1⟩ := at_T92 HR0.out x6_1 p144 q144
    cases e144
    replace p144 := eq_true p144
    replace q144 := eq_true q144
    have p145 : 0 ≤ (x6_1 : Int) := of_decide_eq_true z2_
    have q145 : x6_1 < (l0.length : Int) := of_decide_eq_true z2_
    obtain ⟨ad145, e145, hx145_0, hx145_1⟩ := at_T92 HR0.out x6_1 p145 q145
    obtain rfl : ad144 = ad145 := (by injection e145)
    replace p145 := eq_true p145
    replace q145 := eq_true q145
    go_wp2
    go_ret2
    exact ⟨z4_, z6_⟩
   ·have H' := q_ H
    clear H
    have p144 : 0 ≤ (x6_1 : Int) := of_decide_eq_true z2_
    have q144 : x6_1 < (l0.length : Int) := of_decide_eq_true z2_
    obtain ⟨ad144, e144, hx144_0, hx144_1⟩ := at_T92 HR0.out x6_1 p144 q144
    cases e144
    replace p144 := eq_true p144
    replace q144 := eq_true q144
    go_wp2
    go_roundg k1
    case measure => have := HK1.out; omega
    case rel => exact ⟨(wrap64 (x6_1 + 1)), z4_, H', ⟨z37_⟩, z6_⟩
  ·obtain ⟨rfl, rfl⟩ := s2_ H
   go_wp2
   go_ret2
   exact ⟨z4_, z6_⟩

/-! ### spec_l1Put: function 129 -/
mutual
def spec_l1Put.l0 : Nat → List (S92) → Int → Int → List (S92) → Bool → Int → Option ((List (S92)))
 | 0, _, _, _, _, _, _ => none
 | k + 1, x0, x1, x2, x7, x8, x9 => if x9 < (x0.length : Int) then (if x8 = true then (spec_l1Put.j1 k x0 x1 x2 x7 x8 x9 false) else (if 0 ≤ x9 then (spec_l1Put.j1 k x0 x1 x2 x7 x8 x9 (decide (((rd_T92 x0 x9).f0) ≥ x1))) else (none))) else (if x8 = true then (some x7) else (if x7.length < 8796093022208 then (some (x7 ++ [(⟨x1, x2⟩ : S92)])) else (none)))
def spec_l1Put.j1 : Nat → List (S92) → Int → Int → List (S92) → Bool → Int → Bool → Option ((List (S92)))
 | 0, _, _, _, _, _, _, _ => none
 | k + 1, x0, x1, x2, x7, x8, x9, x27 => if x27 = true then (if x7.length < 8796093022208 then ((some (x7 ++ [(⟨x1, x2⟩ : S92)] : List (S92))).bind fun y153 => (if 0 ≤ x9 then (if x9 < (x0.length : Int) then (if ((rd_T92 x0 x9).f0) = x1 then (spec_l1Put.l0 k x0 x1 x2 y153 true (wrap64 (x9 + 1))) else (if y153.length < 8796093022208 then (spec_l1Put.l0 k x0 x1 x2 (y153 ++ [(⟨(rd_T92 x0 x9).f0, (rd_T92 x0 x9).f1⟩ : S92)]) true (wrap64 (x9 + 1))) else (none))) else (none)) else (none))) else (none)) else (if 0 ≤ x9 then (if x9 < (x0.length : Int) then (if ((rd_T92 x0 x9).f0) = x1 then (spec_l1Put.l0 k x0 x1 x2 x7 x8 (wrap64 (x9 + 1))) else (if x7.length < 8796093022208 then (spec_l1Put.l0 k x0 x1 x2 (x7 ++ [(⟨(rd_T92 x0 x9).f0, (rd_T92 x0 x9).f1⟩ : S92)]) x8 (wrap64 (x9 + 1))) else (none))) else (none)) else (none))
end
def spec_l1Put.f (k : Nat) (l0 : List (S92)) (a1 : Int) (a2 : Int) : Option ((List (S92))) := spec_l1Put.l0 k l0 a1 a2 (([] : List (S92))) false 0
theorem spec_l1Put.mono_l : ∀ k, (∀ y0 y1 y2 y3 y4 y5, LeO (spec_l1Put.l0 k y0 y1 y2 y3 y4 y5) (spec_l1Put.l0 (k + 1) y0 y1 y2 y3 y4 y5)) ∧ (∀ y0 y1 y2 y3 y4 y5 y6, LeO (spec_l1Put.j1 k y0 y1 y2 y3 y4 y5 y6) (spec_l1Put.j1 (k + 1) y0 y1 y2 y3 y4 y5 y6))
 | 0 => ⟨fun _ _ _ _ _ _ r h => by simp [spec_l1Put.l0] at h, fun _ _ _ _ _ _ _ r h => by simp [spec_l1Put.j1] at h⟩
 | k + 1 => by
  obtain ⟨ih0, ih1⟩ := spec_l1Put.mono_l k
  refine ⟨?_, ?_⟩
  ·intro y0 y1 y2 y3 y4 y5
   unfold spec_l1Put.l0
   exact zm_
  ·intro y0 y1 y2 y3 y4 y5 y6
   unfold spec_l1Put.j1
   exact zm_
theorem spec_l1Put.mono : ∀ a0 a1 a2 k, LeO (spec_l1Put.f k a0 a1 a2) (spec_l1Put.f (k + 1) a0 a1 a2) := by
 intro a0 a1 a2 k
 obtain ⟨ih0, ih1⟩ := spec_l1Put.mono_l k
 unfold spec_l1Put.f
 exact zm_
set_option maxHeartbeats 8000000 in
set_option maxRecDepth 100000 in
theorem spec_l1Put.calls (k : Nat) (A0 : Option Addr) (c0 : Nat) (l0 : List (S92)) (a1 : Int) (a2 : Int) (r : List (S92)) (w : World) (hr0 : Kd.C k92 w A0 l0.length l0) (hc0 : l0.length ≤ c0) (h : spec_l1Put.f k l0 a1 a2 = some r) :
  Calls Try.prog 129 #[.slice A0 l0.length c0, .int .i64 a1, .int .i64 a2] w fun e w' => ∃ v0_ : Value, e = .returned (v0_) ∧ Kd.R k92 92 w' w.heap.size (fun _ => True) v0_ r ∧ Below w.heap.size w w' := by
 have hu92 := Try.underlying92
 have HR0 := q_ hr0
 have HC0 := q_ hc0
 clear hr0 hc0
 have HB := q_ (Below.refl w.heap.size w)
 have H := h; clear h
 unfold spec_l1Put.f at H
 obtain ⟨y146, hy_⟩ : ∃ y_ : List (S92), y_ = (([] : List (S92))) := ⟨_, rfl⟩
 replace H : (spec_l1Put.l0 k l0 a1 a2 y146 false 0) = some r := z3_
 have Ny146 := q_ hy_
 clear hy_
 have H' := q_ H
 clear H
 go_enter Try.func129, Try.ntmps129
 go_wp2_with (first | ((with_reducible refine gate_dst (N := 10) rfl ?_); refine Kd.R_lit k92 _ 92 ?hg (N := 10) ?hd (xs := ([] : List (S92))) (inner := []) (ok := fun _ => True) (okp := fun _ => True) ?hr ?hp (fun _ hk => hk) trivial (Below.refl _ _) (Nat.le_refl _) (by simp) ?_; (case hd => rfl); (case hg => rfl); (case hr => exact z92_); (case hp => exact z131_); intro v147 w4 ho5 hb hg_ hnew_; clear hg_ hnew_; (first | rw [← Ny146.out] at ho5 | (simp only [Int.reduceToNat] at ho5; rw [← Ny146.out] at ho5)); have HO148 := q_ (Kd.R_lower ho5 (below_size cb_)); replace HB := hb_ hb; clear hb ho5))
 go_loopg [7, 8, 9] k (fun kq v7 v8 v9 w' => ∃ (x7_1 : List (S92)) (x8_1 : Bool) (x9_1 : Int), v8 = .bool x8_1 ∧ v9 = .int .i64 x9_1 ∧ Aside0 (spec_l1Put.l0 kq l0 a1 a2 x7_1 x8_1 x9_1 = some r) ∧ Aside0 (kq ≤ k) ∧ Aside0 (Kd.R k92 92 w' w.heap.size (fun _ => True) v7 x7_1) ∧ Aside0 (Below w.heap.size w w'))
 case atStart => exact ⟨(y146), (false), (0), z4_, z4_, H', ⟨Nat.le_refl _⟩, ⟨by (with_reducible repeat (first | apply Kd.R_alloc | apply Kd.R_drewN | apply Kd.R_drew)); exact HO148.out⟩, ⟨cb_⟩⟩
 case round =>
  clear H'
  try clear c1
  try clear p2
  obtain ⟨x7_1, x8_1, x9_1, rfl, rfl, HA, HK1, HO_7, HB⟩ := hrel
  obtain ⟨k1, rfl, H⟩ := rn_ (k := gk) HA (by rintro rfl; simp only [spec_l1Put.l0])
  clear HA
  simp only [spec_l1Put.l0] at H
  replace H := kd_ H; rcases H with ⟨c6b0, H⟩ | ⟨c6b0, H⟩
  ·have HC7 := q_ H
   clear H
   go_upto_region 6 with (fail)
   go_cut [27] (fun v27 wc => ∃ (kq : Nat) (x27_6 : Bool), v27 = .bool x27_6 ∧ Aside0 (spec_l1Put.j1 kq l0 a1 a2 x7_1 x8_1 x9_1 x27_6 = some r) ∧ Aside0 (kq ≤ k1) ∧ Aside0 (Kd.R k92 92 wc w.heap.size (fun _ => True) u7 x7_1) ∧ Aside0 (Below w.heap.size w wc))
   case first =>
    have H := HC7.out
    clear HC7
    replace H := kb_ H; rcases H with ⟨rfl, H⟩ | ⟨rfl, H⟩
    ·have H' := q_ H
     clear H
     go_wp2
     go_meet
     case rel => exact ⟨_, (false), z4_, H', ⟨z72_⟩, ⟨z40_⟩, ⟨cb_⟩⟩
    ·replace H := kdn_ H; obtain ⟨c9b0, H⟩ := H
     (first | rw [c9b0] | rw [c9b1] | (simp only [i64_w, i32_w]; first | rw [c9b0] | rw [c9b1]) | rw [c9b2] | skip)
     have H' := q_ H
     clear H
     have p152 : 0 ≤ (x9_1 : Int) := of_decide_eq_true z2_
     have q152 : x9_1 < (l0.length : Int) := of_decide_eq_true z2_
     obtain ⟨ad152, e152, hx152_0, hx152_1⟩ := at_T92 HR0.out x9_1 p152 q152
     cases e152
     replace hx152_0 := up_ HB hx152_0
     replace hx152_1 := up_ HB hx152_1
     replace p152 := eq_true p152
     replace q152 := eq_true q152
     go_wp2
     go_meet
     case rel => exact ⟨_, (decide (((rd_T92 l0 x9_1).f0) ≥ a1)), z4_, H', ⟨z72_⟩, ⟨z40_⟩, ⟨cb_⟩⟩
   case rest =>
    clear HC7
    try clear c1
    try clear p1
    try clear q1
    try clear hx1
    try clear p2
    try clear c6
    try clear c6b0
    try clear c8
    try clear c9
    try clear c9b0
    try clear c9b1
    try clear c9b2
    try clear hx152_0
    try clear hx152_1
    try clear p152
    try clear p2
    try clear q152
    obtain ⟨kq, x27_6, rfl, HA, HJ6, HO_7, HB⟩ := hcut
    obtain ⟨kj6, rfl, H⟩ := rn_ (k := kq) HA (by rintro rfl; simp only [spec_l1Put.j1])
    clear HA
    simp only [spec_l1Put.j1] at H
    replace H := kb_ H; rcases H with ⟨rfl, H⟩ | ⟨rfl, H⟩
    ·replace H := kln_ H; obtain ⟨LMc11, H⟩ := H
     obtain ⟨y153, hy_⟩ : ∃ y_ : List (S92), y_ = (x7_1 ++ [(⟨a1, a2⟩ : S92)]) := ⟨_, rfl⟩
     replace H : (if 0 ≤ x9_1 then (if x9_1 < (l0.length : Int) then (if ((rd_T92 l0 x9_1).f0) = a1 then (spec_l1Put.l0 kj6 l0 a1 a2 y153 true (wrap64 (x9_1 + 1))) else (if y153.length < 8796093022208 then (spec_l1Put.l0 kj6 l0 a1 a2 (y153 ++ [(⟨(rd_T92 l0 x9_1).f0, (rd_T92 l0 x9_1).f1⟩ : S92)]) true (wrap64 (x9_1 + 1))) else (none))) else (none)) else (none)) = some r := z3_
     have Ny153 := q_ hy_
     clear hy_
     replace H := kdn_ H; obtain ⟨c12b0, H⟩ := H
     replace H := kdn_ H; obtain ⟨c13b0, H⟩ := H
     have HC14 := q_ H
     clear H
     go_upto_if 40 with (first | ((with_reducible refine gate_builtin (b := .append) (xs := #[.tmp 28, .tmp 32]) rfl ?_); at_builtin; refine Kd.R_append k92 (w0 := w) w.heap.size rfl (.tmp 28) (.tmp 32) 30 92 (.agg #[(.int .i64 0), (.int .i64 0)]) 16 rfl Try.underlying30 info92 rfl (by decide) (by omega) u7 x7_1 (⟨a1, a2⟩ : S92) [.int .i64 a1, .int .i64 a2] (fun _ => True) (fun _ => False) rfl rfl ?aP (fun _ hk => hk.elim) ?aF ?aO ?aB ?aS ?aL ?_; (case aP => exact k92_mkM _ _ _ (⟨a1, a2⟩ : S92)); (case aB => exact cb_); (case aF => exact z129_); (case aO => exact z40_); (case aS => exact z130_); (case aL => have := LMc11.out; omega); intro v154 w15 ho hb hg hat; rw [← Ny153.out] at ho; replace HB := q_ (hb); have HO155 := q_ (ho); clear HO_7; clear ho hb hg hat; have p156 : 0 ≤ (x9_1 : Int) := of_decide_eq_true z2_; have q156 : x9_1 < (l0.length : Int) := of_decide_eq_true z2_; obtain ⟨ad156, e156, hx156_0, hx156_1⟩ := at_T92 HR0.out x9_1 p156 q156; cases e156; replace hx156_0 := up_ HB hx156_0; replace hx156_1 := up_ HB hx156_1; replace p156 := eq_true p156; replace q156 := eq_true q156))
     (try simp only [Act.put, List.setIfInBounds_toArray, List.set_cons_zero, List.set_cons_succ])
     have H := HC14.out
     clear HC14
     replace H := ke_ H; rcases H with ⟨c16b0, c16b1, H⟩ | ⟨c16, c16b0, c16b1, H⟩
     ·(first | rw [c16b0] | rw [c16b1] | (simp only [i64_w, i32_w]; first | rw [c16b0] | rw [c16b1]) | rw [c16b2] | skip)
      have H' := q_ H
      clear H
      go_wp2
      go_roundg kj6
      case measure => have := HK1.out; have := HJ6.out; omega
      case rel => exact ⟨(y153), (true), (wrap64 (x9_1 + 1)), z4_, z4_, H', ⟨z78_⟩, ⟨z73_⟩, ⟨cb_⟩⟩
     ·(first | rw [c16b0] | rw [c16b1] | (simp only [i64_w, i32_w]; first | rw [c16b0] | rw [c16b1]) | rw [c16b2] | skip)
      replace H := kln_ H; obtain ⟨LMc17, H⟩ := H
      obtain ⟨y158, hy_⟩ : ∃ y_ : List (S92), y_ = (y153 ++ [(⟨(rd_T92 l0 x9_1).f0, (rd_T92 l0 x9_1).f1⟩ : S92)]) := ⟨_, rfl⟩
      replace H : (spec_l1Put.l0 kj6 l0 a1 a2 y158 true (wrap64 (x9_1 + 1))) = some r := z3_
      have Ny158 := q_ hy_
      clear hy_
      have H' := q_ H
      clear H
      have p157 : 0 ≤ (x9_1 : Int) := of_decide_eq_true z2_
      have q157 : x9_1 < (l0.length : Int) := of_decide_eq_true z2_
      obtain ⟨ad157, e157, hx157_0, hx157_1⟩ := at_T92 HR0.out x9_1 p157 q157
      obtain rfl : ad156 = ad157 := (by injection e157)
      replace hx157_0 := up_ HB hx157_0
      replace hx157_1 := up_ HB hx157_1
      replace p157 := eq_true p157
      replace q157 := eq_true q157
      go_wp2_with (first | ((with_reducible refine gate_builtin (b := .append) (xs := #[.tmp 41, .tmp 46]) rfl ?_); at_builtin; refine Kd.R_append k92 (w0 := w) w.heap.size rfl (.tmp 41) (.tmp 46) 30 92 (.agg #[(.int .i64 0), (.int .i64 0)]) 16 rfl Try.underlying30 info92 rfl (by decide) (by omega) v154 y153 (⟨(rd_T92 l0 x9_1).f0, (rd_T92 l0 x9_1).f1⟩ : S92) [.int .i64 ((rd_T92 l0 x9_1).f0), .int .i64 ((rd_T92 l0 x9_1).f1)] (fun _ => True) (fun _ => False) rfl rfl ?aP (fun _ hk => hk.elim) ?aF ?aO ?aB ?aS ?aL ?_; (case aP => exact k92_mkM _ _ _ (⟨(rd_T92 l0 x9_1).f0, (rd_T92 l0 x9_1).f1⟩ : S92)); (case aB => exact cb_); (case aF => exact z129_); (case aO => exact z73_); (case aS => exact z130_); (case aL => have := LMc17.out; omega); intro v159 w18 ho hb hg hat; rw [← Ny158.out] at ho; replace HB := q_ (hb); have HO160 := q_ (ho); clear HO155; clear ho hb hg hat))
      go_roundg kj6
      case measure => have := HK1.out; have := HJ6.out; omega
      case rel => exact ⟨(y158), (true), (wrap64 (x9_1 + 1)), z4_, z4_, H', ⟨z78_⟩, ⟨by (with_reducible repeat (first | apply Kd.R_alloc | apply Kd.R_drewN | apply Kd.R_drew)); exact HO160.out⟩, ⟨cb_⟩⟩
    ·replace H := kdn_ H; obtain ⟨c19b0, H⟩ := H
     replace H := kdn_ H; obtain ⟨c20b0, H⟩ := H
     replace H := ke_ H; rcases H with ⟨c21b0, c21b1, H⟩ | ⟨c21, c21b0, c21b1, H⟩
     ·have H' := q_ H
      clear H
      have p161 : 0 ≤ (x9_1 : Int) := of_decide_eq_true z2_
      have q161 : x9_1 < (l0.length : Int) := of_decide_eq_true z2_
      obtain ⟨ad161, e161, hx161_0, hx161_1⟩ := at_T92 HR0.out x9_1 p161 q161
      cases e161
      replace hx161_0 := up_ HB hx161_0
      replace hx161_1 := up_ HB hx161_1
      replace p161 := eq_true p161
      replace q161 := eq_true q161
      go_wp2
      go_roundg kj6
      case measure => have := HK1.out; have := HJ6.out; omega
      case rel => exact ⟨(x7_1), (x8_1), (wrap64 (x9_1 + 1)), z4_, z4_, H', ⟨z78_⟩, ⟨z40_⟩, ⟨cb_⟩⟩
     ·replace H := kln_ H; obtain ⟨LMc22, H⟩ := H
      obtain ⟨y163, hy_⟩ : ∃ y_ : List (S92), y_ = (x7_1 ++ [(⟨(rd_T92 l0 x9_1).f0, (rd_T92 l0 x9_1).f1⟩ : S92)]) := ⟨_, rfl⟩
      replace H : (spec_l1Put.l0 kj6 l0 a1 a2 y163 x8_1 (wrap64 (x9_1 + 1))) = some r := z3_
      have Ny163 := q_ hy_
      clear hy_
      have H' := q_ H
      clear H
      have p161 : 0 ≤ (x9_1 : Int) := of_decide_eq_true z2_
      have q161 : x9_1 < (l0.length : Int) := of_decide_eq_true z2_
      obtain ⟨ad161, e161, hx161_0, hx161_1⟩ := at_T92 HR0.out x9_1 p161 q161
      cases e161
      replace hx161_0 := up_ HB hx161_0
      replace hx161_1 := up_ HB hx161_1
      replace p161 := eq_true p161
      replace q161 := eq_true q161
      have p162 : 0 ≤ (x9_1 : Int) := of_decide_eq_true z2_
      have q162 : x9_1 < (l0.length : Int) := of_decide_eq_true z2_
      obtain ⟨ad162, e162, hx162_0, hx162_1⟩ := at_T92 HR0.out x9_1 p162 q162
      obtain rfl : ad161 = ad162 := (by injection e162)
      replace hx162_0 := up_ HB hx162_0
      replace hx162_1 := up_ HB hx162_1
      replace p162 := eq_true p162
      replace q162 := eq_true q162
      go_wp2_with (first | ((with_reducible refine gate_builtin (b := .append) (xs := #[.tmp 41, .tmp 46]) rfl ?_); at_builtin; refine Kd.R_append k92 (w0 := w) w.heap.size rfl (.tmp 41) (.tmp 46) 30 92 (.agg #[(.int .i64 0), (.int .i64 0)]) 16 rfl Try.underlying30 info92 rfl (by decide) (by omega) u7 x7_1 (⟨(rd_T92 l0 x9_1).f0, (rd_T92 l0 x9_1).f1⟩ : S92) [.int .i64 ((rd_T92 l0 x9_1).f0), .int .i64 ((rd_T92 l0 x9_1).f1)] (fun _ => True) (fun _ => False) rfl rfl ?aP (fun _ hk => hk.elim) ?aF ?aO ?aB ?aS ?aL ?_; (case aP => exact k92_mkM _ _ _ (⟨(rd_T92 l0 x9_1).f0, (rd_T92 l0 x9_1).f1⟩ : S92)); (case aB => exact cb_); (case aF => exact z129_); (case aO => exact z40_); (case aS => exact z130_); (case aL => have := LMc22.out; omega); intro v164 w23 ho hb hg hat; rw [← Ny163.out] at ho; replace HB := q_ (hb); have HO165 := q_ (ho); clear HO_7; clear ho hb hg hat))
      go_roundg kj6
      case measure => have := HK1.out; have := HJ6.out; omega
      case rel => exact ⟨(y163), (x8_1), (wrap64 (x9_1 + 1)), z4_, z4_, H', ⟨z78_⟩, ⟨by (with_reducible repeat (first | apply Kd.R_alloc | apply Kd.R_drewN | apply Kd.R_drew)); exact HO165.out⟩, ⟨cb_⟩⟩
  ·replace H := kb_ H; rcases H with ⟨rfl, H⟩ | ⟨rfl, H⟩
   ·obtain rfl := si_ H
    go_wp2
    go_ret
    exact ⟨_, z1_, z40_, cb_⟩
   ·replace H := kln_ H; obtain ⟨LMc25, H⟩ := H
    obtain ⟨y149, hy_⟩ : ∃ y_ : List (S92), y_ = (x7_1 ++ [(⟨a1, a2⟩ : S92)]) := ⟨_, rfl⟩
    replace H : (some y149) = some r := z3_
    have Ny149 := q_ hy_
    clear hy_
    obtain rfl := si_ H
    go_wp2_with (first | ((with_reducible refine gate_builtin (b := .append) (xs := #[.tmp 50, .tmp 54]) rfl ?_); at_builtin; refine Kd.R_append k92 (w0 := w) w.heap.size rfl (.tmp 50) (.tmp 54) 30 92 (.agg #[(.int .i64 0), (.int .i64 0)]) 16 rfl Try.underlying30 info92 rfl (by decide) (by omega) u7 x7_1 (⟨a1, a2⟩ : S92) [.int .i64 a1, .int .i64 a2] (fun _ => True) (fun _ => False) rfl rfl ?aP (fun _ hk => hk.elim) ?aF ?aO ?aB ?aS ?aL ?_; (case aP => exact k92_mkM _ _ _ (⟨a1, a2⟩ : S92)); (case aB => exact cb_); (case aF => exact z129_); (case aO => exact z40_); (case aS => exact z130_); (case aL => have := LMc25.out; omega); intro v150 w26 ho hb hg hat; rw [← Ny149.out] at ho; replace HB := q_ (hb); have HO151 := q_ (ho); clear HO_7; clear ho hb hg hat))
    go_ret
    exact ⟨_, z1_, by (with_reducible repeat (first | apply Kd.R_alloc | apply Kd.R_drewN | apply Kd.R_drew)); exact HO151.out, cb_⟩

/-! ### spec_l1Without: function 130 -/
def spec_l1Without.l0 : Nat → List (S92) → Int → List (S92) → Int → Option ((List (S92)))
 | 0, _, _, _, _ => none
 | k + 1, x0, x1, x5, x6 => if x6 < (x0.length : Int) then (if 0 ≤ x6 then (if ((rd_T92 x0 x6).f0) = x1 then (spec_l1Without.l0 k x0 x1 x5 (wrap64 (x6 + 1))) else (if x5.length < 8796093022208 then (spec_l1Without.l0 k x0 x1 (x5 ++ [(⟨(rd_T92 x0 x6).f0, (rd_T92 x0 x6).f1⟩ : S92)]) (wrap64 (x6 + 1))) else (none))) else (none)) else (some x5)
def spec_l1Without.f (k : Nat) (l0 : List (S92)) (a1 : Int) : Option ((List (S92))) := spec_l1Without.l0 k l0 a1 (([] : List (S92))) 0
theorem spec_l1Without.mono_l : ∀ k, (∀ y0 y1 y2 y3, LeO (spec_l1Without.l0 k y0 y1 y2 y3) (spec_l1Without.l0 (k + 1) y0 y1 y2 y3))
 | 0 => fun _ _ _ _ r h => by simp [spec_l1Without.l0] at h
 | k + 1 => by
  have ih0 := spec_l1Without.mono_l k
  ·intro y0 y1 y2 y3
   unfold spec_l1Without.l0
   exact zm_
theorem spec_l1Without.mono : ∀ a0 a1 k, LeO (spec_l1Without.f k a0 a1) (spec_l1Without.f (k + 1) a0 a1) := by
 intro a0 a1 k
 have ih0 := spec_l1Without.mono_l k
 unfold spec_l1Without.f
 exact zm_
set_option maxHeartbeats 8000000 in
set_option maxRecDepth 100000 in
theorem spec_l1Without.calls (k : Nat) (A0 : Option Addr) (c0 : Nat) (l0 : List (S92)) (a1 : Int) (r : List (S92)) (w : World) (hr0 : Kd.C k92 w A0 l0.length l0) (hc0 : l0.length ≤ c0) (h : spec_l1Without.f k l0 a1 = some r) :
  Calls Try.prog 130 #[.slice A0 l0.length c0, .int .i64 a1] w fun e w' => ∃ v0_ : Value, e = .returned (v0_) ∧ Kd.R k92 92 w' w.heap.size (fun _ => True) v0_ r ∧ Below w.heap.size w w' := by
 have hu92 := Try.underlying92
 have HR0 := q_ hr0
 have HC0 := q_ hc0
 clear hr0 hc0
 have HB := q_ (Below.refl w.heap.size w)
 have H := h; clear h
 unfold spec_l1Without.f at H
 obtain ⟨y166, hy_⟩ : ∃ y_ : List (S92), y_ = (([] : List (S92))) := ⟨_, rfl⟩
 replace H : (spec_l1Without.l0 k l0 a1 y166 0) = some r := z3_
 have Ny166 := q_ hy_
 clear hy_
 have H' := q_ H
 clear H
 go_enter Try.func130, Try.ntmps130
 go_wp2_with (first | ((with_reducible refine gate_dst (N := 7) rfl ?_); refine Kd.R_lit k92 _ 92 ?hg (N := 7) ?hd (xs := ([] : List (S92))) (inner := []) (ok := fun _ => True) (okp := fun _ => True) ?hr ?hp (fun _ hk => hk) trivial (Below.refl _ _) (Nat.le_refl _) (by simp) ?_; (case hd => rfl); (case hg => rfl); (case hr => exact z92_); (case hp => exact z131_); intro v167 w3 ho4 hb hg_ hnew_; clear hg_ hnew_; (first | rw [← Ny166.out] at ho4 | (simp only [Int.reduceToNat] at ho4; rw [← Ny166.out] at ho4)); have HO168 := q_ (Kd.R_lower ho4 (below_size cb_)); replace HB := hb_ hb; clear hb ho4))
 go_loopg [5, 6] k (fun kq v5 v6 w' => ∃ (x5_1 : List (S92)) (x6_1 : Int), v6 = .int .i64 x6_1 ∧ Aside0 (spec_l1Without.l0 kq l0 a1 x5_1 x6_1 = some r) ∧ Aside0 (kq ≤ k) ∧ Aside0 (Kd.R k92 92 w' w.heap.size (fun _ => True) v5 x5_1) ∧ Aside0 (Below w.heap.size w w'))
 case atStart => exact ⟨(y166), (0), z4_, H', ⟨Nat.le_refl _⟩, ⟨by (with_reducible repeat (first | apply Kd.R_alloc | apply Kd.R_drewN | apply Kd.R_drew)); exact HO168.out⟩, ⟨cb_⟩⟩
 case round =>
  clear H'
  try clear c1
  try clear p2
  obtain ⟨x5_1, x6_1, rfl, HA, HK1, HO_5, HB⟩ := hrel
  obtain ⟨k1, rfl, H⟩ := rn_ (k := gk) HA (by rintro rfl; simp only [spec_l1Without.l0])
  clear HA
  simp only [spec_l1Without.l0] at H
  replace H := kd_ H; rcases H with ⟨c5b0, H⟩ | ⟨c5b0, H⟩
  ·replace H := kdn_ H; obtain ⟨c6b0, H⟩ := H
   replace H := ke_ H; rcases H with ⟨c7b0, c7b1, H⟩ | ⟨c7, c7b0, c7b1, H⟩
   ·have H' := q_ H
    clear H
    have p169 : 0 ≤ (x6_1 : Int) := of_decide_eq_true z2_
    have q169 : x6_1 < (l0.length : Int) := of_decide_eq_true z2_
    obtain ⟨ad169, e169, hx169_0, hx169_1⟩ := at_T92 HR0.out x6_1 p169 q169
    cases e169
    replace hx169_0 := up_ HB hx169_0
    replace hx169_1 := up_ HB hx169_1
    replace p169 := eq_true p169
    replace q169 := eq_true q169
    go_wp2
    go_roundg k1
    case measure => have := HK1.out; omega
    case rel => exact ⟨(x5_1), (wrap64 (x6_1 + 1)), z4_, H', ⟨z37_⟩, ⟨z34_⟩, ⟨cb_⟩⟩
   ·replace H := kln_ H; obtain ⟨LMc8, H⟩ := H
    obtain ⟨y171, hy_⟩ : ∃ y_ : List (S92), y_ = (x5_1 ++ [(⟨(rd_T92 l0 x6_1).f0, (rd_T92 l0 x6_1).f1⟩ : S92)]) := ⟨_, rfl⟩
    replace H : (spec_l1Without.l0 k1 l0 a1 y171 (wrap64 (x6_1 + 1))) = some r := z3_
    have Ny171 := q_ hy_
    clear hy_
    have H' := q_ H
    clear H
    have p169 : 0 ≤ (x6_1 : Int) := of_decide_eq_true z2_
    have q169 : x6_1 < (l0.length : Int) := of_decide_eq_true z2_
    obtain ⟨ad169, e169, hx169_0, hx169_1⟩ := at_T92 HR0.out x6_1 p169 q169
    cases e169
    replace hx169_0 := up_ HB hx169_0
    replace hx169_1 := up_ HB hx169_1
    replace p169 := eq_true p169
    replace q169 := eq_true q169
    have p170 : 0 ≤ (x6_1 : Int) := of_decide_eq_true z2_
    have q170 : x6_1 < (l0.length : Int) := of_decide_eq_true z2_
    obtain ⟨ad170, e170, hx170_0, hx170_1⟩ := at_T92 HR0.out x6_1 p170 q170
    obtain rfl : ad169 = ad170 := (by injection e170)
    replace hx170_0 := up_ HB hx170_0
    replace hx170_1 := up_ HB hx170_1
    replace p170 := eq_true p170
    replace q170 := eq_true q170
    go_wp2_with (first | ((with_reducible refine gate_builtin (b := .append) (xs := #[.tmp 21, .tmp 26]) rfl ?_); at_builtin; refine Kd.R_append k92 (w0 := w) w.heap.size rfl (.tmp 21) (.tmp 26) 30 92 (.agg #[(.int .i64 0), (.int .i64 0)]) 16 rfl Try.underlying30 info92 rfl (by decide) (by omega) u5 x5_1 (⟨(rd_T92 l0 x6_1).f0, (rd_T92 l0 x6_1).f1⟩ : S92) [.int .i64 ((rd_T92 l0 x6_1).f0), .int .i64 ((rd_T92 l0 x6_1).f1)] (fun _ => True) (fun _ => False) rfl rfl ?aP (fun _ hk => hk.elim) ?aF ?aO ?aB ?aS ?aL ?_; (case aP => exact k92_mkM _ _ _ (⟨(rd_T92 l0 x6_1).f0, (rd_T92 l0 x6_1).f1⟩ : S92)); (case aB => exact cb_); (case aF => exact z129_); (case aO => exact z34_); (case aS => exact z130_); (case aL => have := LMc8.out; omega); intro v172 w9 ho hb hg hat; rw [← Ny171.out] at ho; replace HB := q_ (hb); have HO173 := q_ (ho); clear HO_5; clear ho hb hg hat))
    go_roundg k1
    case measure => have := HK1.out; omega
    case rel => exact ⟨(y171), (wrap64 (x6_1 + 1)), z4_, H', ⟨z37_⟩, ⟨by (with_reducible repeat (first | apply Kd.R_alloc | apply Kd.R_drewN | apply Kd.R_drew)); exact HO173.out⟩, ⟨cb_⟩⟩
  ·obtain rfl := si_ H
   go_wp2
   go_ret
   exact ⟨_, z1_, z34_, cb_⟩

/-! ### spec_l1Max: function 140 -/
def spec_l1Max.f (a0 : Int) (a1 : Int) : Option (Int) := if a0 > a1 then (some a0) else (some a1)
set_option maxHeartbeats 8000000 in
set_option maxRecDepth 100000 in
theorem spec_l1Max.calls (a0 : Int) (a1 : Int) (r : Int) (w : World) (h : spec_l1Max.f a0 a1 = some r) :
  Calls Try.prog 140 #[.int .i64 a0, .int .i64 a1] w fun e w' => e = .returned (.int .i64 r) ∧ Drawn0 w w' := by
 have H := h; clear h
 unfold spec_l1Max.f at H
 replace H := kg_ H; rcases H with ⟨c3b0, H⟩ | ⟨c3b0, H⟩
 ·obtain rfl := si_ H
  go_enter Try.func140, Try.ntmps140
  go_wp2
  go_ret
  exact ⟨z4_, z6_⟩
 ·obtain rfl := si_ H
  go_enter Try.func140, Try.ntmps140
  go_wp2
  go_ret
  exact ⟨z4_, z6_⟩

/-! ### spec_l1Min: function 141 -/
def spec_l1Min.f (a0 : Int) (a1 : Int) : Option (Int) := if a0 < a1 then (some a0) else (some a1)
set_option maxHeartbeats 8000000 in
set_option maxRecDepth 100000 in
theorem spec_l1Min.calls (a0 : Int) (a1 : Int) (r : Int) (w : World) (h : spec_l1Min.f a0 a1 = some r) :
  Calls Try.prog 141 #[.int .i64 a0, .int .i64 a1] w fun e w' => e = .returned (.int .i64 r) ∧ Drawn0 w w' := by
 have H := h; clear h
 unfold spec_l1Min.f at H
 replace H := kd_ H; rcases H with ⟨c3b0, H⟩ | ⟨c3b0, H⟩
 ·obtain rfl := si_ H
  go_enter Try.func141, Try.ntmps141
  go_wp2
  go_ret
  exact ⟨z4_, z6_⟩
 ·obtain rfl := si_ H
  go_enter Try.func141, Try.ntmps141
  go_wp2
  go_ret
  exact ⟨z4_, z6_⟩

/-! ### spec_l1Clamp: function 131 -/
def spec_l1Clamp.f (a0 : Int) : Option (Int) := (spec_l1Min.f a0 1000000000).bind fun t174 => ((spec_l1Max.f t174 (-1000000000)).bind fun t175 => (some t175))
set_option maxHeartbeats 8000000 in
set_option maxRecDepth 100000 in
theorem spec_l1Clamp.calls (a0 : Int) (r : Int) (w : World) (h : spec_l1Clamp.f a0 = some r) :
  Calls Try.prog 131 #[.int .i64 a0] w fun e w' => e = .returned (.int .i64 r) ∧ Drawn0 w w' := by
 have H := h; clear h
 unfold spec_l1Clamp.f at H
 replace H := bi_ H; obtain ⟨t174, A2, H⟩ := H
 replace H := bi_ H; obtain ⟨t175, A3, H⟩ := H
 obtain rfl := si_ H
 go_enter Try.func131, Try.ntmps131
 go_wp2_with (first | ((with_reducible refine gate_callee (f := 141) rfl ?_); refine goesL_ (some 4) rfl rfl Try.func141 (by kernel_rfl) rfl #[.int .i64 a0, .int .i64 1000000000] rfl z0_ ?_; (with_reducible refine (spec_l1Min.calls a0 1000000000 t174 _ A2.out).mono ?_); rintro e w' ⟨rfl, ⟨nd, rfl⟩⟩; refine ⟨_, rfl, ?_⟩) | ((with_reducible refine gate_callee (f := 140) rfl ?_); refine goesL_ (some 5) rfl rfl Try.func140 (by kernel_rfl) rfl #[.int .i64 t174, .int .i64 (-1000000000)] rfl z0_ ?_; (with_reducible refine (spec_l1Max.calls t174 (-1000000000) t175 _ A3.out).mono ?_); rintro e w' ⟨rfl, ⟨nd, rfl⟩⟩; refine ⟨_, rfl, ?_⟩))
 go_ret
 exact ⟨z4_, z6_⟩

end Go.Proofs.Ytfnndcpaldkkoaa.PFnExactMachineSame
