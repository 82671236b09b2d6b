-- Written by a program of this session, which goes by the kit's print. Not trusted: Lean checks it.
import Derived.Test.YtfnndcpaldkkoaaPFnExactTreeOkx0
import Derived.Test.YtfnndcpaldkkoaaPFnExactTreeOkx7
namespace Go.Proofs.Ytfnndcpaldkkoaa.PFnExactTreeOk
open Go.RowKit Go.Proofs.YtfnndcpaldkkoaaW.PrintWords Go.Proofs.YtfnndcpaldkkoaaW.PrintLast Go.Proofs.YtfnndcpaldkkoaaW.PrintMore
attribute [local go_sem] max2_int min2_int max_two min_two max_three min_three max_four min_four   -- for this text's walks alone
set_option linter.unusedVariables false
set_option linter.unusedSimpArgs false

/-! ### spec_TreeDepth: function 16 -/
def spec_TreeDepth.f (k : Nat) (a0_0 : Bool) (l0_1 : List (S92)) (l0_2 : List Int) (l0_3 : List (S34)) (l0_4 : List (S72)) : Option (Int) := (spec_l2Depth.f k a0_0 l0_1 l0_2 l0_3 l0_4 0 1000 7).bind fun t218 => (some t218)
theorem spec_TreeDepth.mono : ∀ a0 a1 a2 a3 a4 k, LeO (spec_TreeDepth.f k a0 a1 a2 a3 a4) (spec_TreeDepth.f (k + 1) a0 a1 a2 a3 a4) := by
 intro a0 a1 a2 a3 a4 k
 unfold spec_TreeDepth.f
 repeat' first
   | (with_reducible exact spec_l2Depth.mono _ _ _ _ _ _ _ _ _)
   | (with_reducible exact LeO.refl _)
   | (with_reducible exact LeO.none _)
   | (with_reducible refine LeO.ite ?_ ?_)
   | (with_reducible refine LeO.bind ?_ (fun _ => ?_))
   | exact spec_l2Depth.mono _ _ _ _ _ _ _ _ _
   | exact LeO.none _
   | refine LeO.ite ?_ ?_
   | refine LeO.bind ?_ (fun _ => ?_)
set_option maxHeartbeats 8000000 in
set_option maxRecDepth 100000 in
theorem spec_TreeDepth.calls (k : Nat) (a0_0 : Bool) (A0_1 : Option Addr) (c0_1 : Nat) (l0_1 : List (S92)) (A0_2 : Option Addr) (c0_2 : Nat) (l0_2 : List Int) (A0_3 : Option Addr) (c0_3 : Nat) (l0_3 : List (S34)) (A0_4 : Option Addr) (c0_4 : Nat) (l0_4 : List (S72)) (r : Int) (w : World) (hr0_1 : Kd.C k92 w A0_1 l0_1.length l0_1) (hc0_1 : l0_1.length ≤ c0_1) (hr0_2 : Kd.C (Kd.int .i64) w A0_2 l0_2.length l0_2) (hc0_2 : l0_2.length ≤ c0_2) (hr0_3 : Kd.C k34 w A0_3 l0_3.length l0_3) (hc0_3 : l0_3.length ≤ c0_3) (hr0_4 : Kd.C k72 w A0_4 l0_4.length l0_4) (hc0_4 : l0_4.length ≤ c0_4) (h : spec_TreeDepth.f k a0_0 l0_1 l0_2 l0_3 l0_4 = some r) :
  Calls Try.prog 16 #[.agg #[.bool a0_0, .slice A0_1 l0_1.length c0_1, .slice A0_2 l0_2.length c0_2, .slice A0_3 l0_3.length c0_3, .slice A0_4 l0_4.length c0_4]] w fun e w' => e = .returned (.int .i64 r) ∧ Below w.heap.size w w' := by
 have hu34 := Try.underlying34
 have HR0_1 := q_ hr0_1
 have HC0_1 := q_ hc0_1
 clear hr0_1 hc0_1
 have HR0_2 := q_ hr0_2
 have HC0_2 := q_ hc0_2
 clear hr0_2 hc0_2
 have HR0_3 := q_ hr0_3
 have HC0_3 := q_ hc0_3
 clear hr0_3 hc0_3
 have HR0_4 := q_ hr0_4
 have HC0_4 := q_ hc0_4
 clear hr0_4 hc0_4
 have HB := q_ (Below.refl w.heap.size w)
 have H : ((spec_l2Depth.f k a0_0 l0_1 l0_2 l0_3 l0_4 0 1000 7).bind fun t218 => (some t218)) = some r := h
 clear h
 replace H := Option.bind_eq_some_iff.mp H
 obtain ⟨t218, A20, H⟩ := H
 replace H : (some t218) = some r := H
 have A2 := q_ A20
 clear A20
 obtain rfl := Option.some.inj H
 go_enter Try.func16, Try.ntmps16
 go_wp2_with (first | ((with_reducible refine gate_dst (N := 1) rfl ?_); refine box_event ?hg (N := 1) ?hd (cs := #[.bool a0_0, .slice A0_1 l0_1.length c0_1, .slice A0_2 l0_2.length c0_2, .slice A0_3 l0_3.length c0_3, .slice A0_4 l0_4.length c0_4]) (t := 34) ?hr ?_; (case hd => rfl); (case hg => rfl); (case hr => exact z141_); intro gb217 hg w3 hbox hb; have n0_ := q_ (below_step z0_ hb); have n1_ := q_ (hbox); have n2_ := q_ ((z104_ : w.heap.size ≤ gb217)); have n3_ := q_ ((z104_ : w.heap.size ≤ gb217)); clear HB; have HB := n0_; have BK217 := n1_; have GW217 := n2_; have GE217 := n3_; clear n0_ n1_ n2_ n3_; clear hb hbox hg; obtain ⟨hcz4_0, hcz4_1, hcz4_2, hcz4_3, hcz4_4, hfz4_0, hfz4_1, hfz4_2, hfz4_3, hfz4_4⟩ := cs5_ BK217.out) | ((with_reducible refine gate_callee (f := 59) rfl ?_); refine goesL_ (some 4) rfl rfl Try.func59 (by kernel_rfl) rfl #[.agg #[.bool a0_0, .slice A0_1 l0_1.length c0_1, .slice A0_2 l0_2.length c0_2, .slice A0_3 l0_3.length c0_3, .slice A0_4 l0_4.length c0_4], .int .i64 0, .int .i64 1000, .int .i64 7] rfl z1_ ?_; (with_reducible refine (spec_l2Depth.calls k a0_0 _ _ l0_1 _ _ l0_2 _ _ l0_3 _ _ l0_4 0 1000 7 t218 _ ?side1 ?side2 ?side3 ?side4 ?side5 ?side6 ?side7 ?side8 A2.out).mono ?_); (case side1 => exact z140_); (case side2 => exact z157_); (case side3 => exact z143_); (case side4 => exact z163_); (case side5 => exact z144_); (case side6 => exact z164_); (case side7 => exact z142_); (case side8 => exact z165_); rintro e w5 ⟨rfl, hb⟩; refine ⟨_, rfl, ?_⟩; have n0_ := q_ (below_step z0_ hb); clear HB; have HB := n0_; clear n0_; (try clear hb); (try clear hb2); (try clear hk); (try clear hi)))
 go_ret
 exact ⟨z2_, z0_⟩

/-! ### spec_TreeOk: function 20 -/
def spec_TreeOk.f (k : Nat) (a0_0 : Bool) (l0_1 : List (S92)) (l0_2 : List Int) (l0_3 : List (S34)) (l0_4 : List (S72)) : Option (Bool) := (spec_TreeDepth.f k a0_0 l0_1 l0_2 l0_3 l0_4).bind fun t220 => (some (decide (t220 > 0)))
theorem spec_TreeOk.mono : ∀ a0 a1 a2 a3 a4 k, LeO (spec_TreeOk.f k a0 a1 a2 a3 a4) (spec_TreeOk.f (k + 1) a0 a1 a2 a3 a4) := by
 intro a0 a1 a2 a3 a4 k
 unfold spec_TreeOk.f
 repeat' first
   | (with_reducible exact spec_TreeDepth.mono _ _ _ _ _ _)
   | (with_reducible exact LeO.refl _)
   | (with_reducible exact LeO.none _)
   | (with_reducible refine LeO.ite ?_ ?_)
   | (with_reducible refine LeO.bind ?_ (fun _ => ?_))
   | exact spec_TreeDepth.mono _ _ _ _ _ _
   | exact LeO.none _
   | refine LeO.ite ?_ ?_
   | refine LeO.bind ?_ (fun _ => ?_)
set_option maxHeartbeats 8000000 in
set_option maxRecDepth 100000 in
theorem spec_TreeOk.calls (k : Nat) (a0_0 : Bool) (A0_1 : Option Addr) (c0_1 : Nat) (l0_1 : List (S92)) (A0_2 : Option Addr) (c0_2 : Nat) (l0_2 : List Int) (A0_3 : Option Addr) (c0_3 : Nat) (l0_3 : List (S34)) (A0_4 : Option Addr) (c0_4 : Nat) (l0_4 : List (S72)) (r : Bool) (w : World) (hr0_1 : Kd.C k92 w A0_1 l0_1.length l0_1) (hc0_1 : l0_1.length ≤ c0_1) (hr0_2 : Kd.C (Kd.int .i64) w A0_2 l0_2.length l0_2) (hc0_2 : l0_2.length ≤ c0_2) (hr0_3 : Kd.C k34 w A0_3 l0_3.length l0_3) (hc0_3 : l0_3.length ≤ c0_3) (hr0_4 : Kd.C k72 w A0_4 l0_4.length l0_4) (hc0_4 : l0_4.length ≤ c0_4) (h : spec_TreeOk.f k a0_0 l0_1 l0_2 l0_3 l0_4 = some r) :
  Calls Try.prog 20 #[.agg #[.bool a0_0, .slice A0_1 l0_1.length c0_1, .slice A0_2 l0_2.length c0_2, .slice A0_3 l0_3.length c0_3, .slice A0_4 l0_4.length c0_4]] w fun e w' => e = .returned (.bool r) ∧ Below w.heap.size w w' := by
 have hu34 := Try.underlying34
 have HR0_1 := q_ hr0_1
 have HC0_1 := q_ hc0_1
 clear hr0_1 hc0_1
 have HR0_2 := q_ hr0_2
 have HC0_2 := q_ hc0_2
 clear hr0_2 hc0_2
 have HR0_3 := q_ hr0_3
 have HC0_3 := q_ hc0_3
 clear hr0_3 hc0_3
 have HR0_4 := q_ hr0_4
 have HC0_4 := q_ hc0_4
 clear hr0_4 hc0_4
 have HB := q_ (Below.refl w.heap.size w)
 have H : ((spec_TreeDepth.f k a0_0 l0_1 l0_2 l0_3 l0_4).bind fun t220 => (some (decide (t220 > 0)))) = some r := h
 clear h
 replace H := Option.bind_eq_some_iff.mp H
 obtain ⟨t220, A20, H⟩ := H
 replace H : (some (decide (t220 > 0))) = some r := H
 have A2 := q_ A20
 clear A20
 obtain rfl := Option.some.inj H
 go_enter Try.func20, Try.ntmps20
 go_wp2_with (first | ((with_reducible refine gate_dst (N := 1) rfl ?_); refine box_event ?hg (N := 1) ?hd (cs := #[.bool a0_0, .slice A0_1 l0_1.length c0_1, .slice A0_2 l0_2.length c0_2, .slice A0_3 l0_3.length c0_3, .slice A0_4 l0_4.length c0_4]) (t := 34) ?hr ?_; (case hd => rfl); (case hg => rfl); (case hr => exact z141_); intro gb219 hg w3 hbox hb; have n0_ := q_ (below_step z0_ hb); have n1_ := q_ (hbox); have n2_ := q_ ((z104_ : w.heap.size ≤ gb219)); have n3_ := q_ ((z104_ : w.heap.size ≤ gb219)); clear HB; have HB := n0_; have BK219 := n1_; have GW219 := n2_; have GE219 := n3_; clear n0_ n1_ n2_ n3_; clear hb hbox hg; obtain ⟨hcz4_0, hcz4_1, hcz4_2, hcz4_3, hcz4_4, hfz4_0, hfz4_1, hfz4_2, hfz4_3, hfz4_4⟩ := cs5_ BK219.out) | ((with_reducible refine gate_callee (f := 16) rfl ?_); refine goesL_ (some 4) rfl rfl Try.func16 (by kernel_rfl) rfl #[.agg #[.bool a0_0, .slice A0_1 l0_1.length c0_1, .slice A0_2 l0_2.length c0_2, .slice A0_3 l0_3.length c0_3, .slice A0_4 l0_4.length c0_4]] rfl z1_ ?_; (with_reducible refine (spec_TreeDepth.calls k a0_0 _ _ l0_1 _ _ l0_2 _ _ l0_3 _ _ l0_4 t220 _ ?side1 ?side2 ?side3 ?side4 ?side5 ?side6 ?side7 ?side8 A2.out).mono ?_); (case side1 => exact z140_); (case side2 => exact z157_); (case side3 => exact z143_); (case side4 => exact z163_); (case side5 => exact z144_); (case side6 => exact z164_); (case side7 => exact z142_); (case side8 => exact z165_); rintro e w5 ⟨rfl, hb⟩; refine ⟨_, rfl, ?_⟩; have n0_ := q_ (below_step z0_ hb); clear HB; have HB := n0_; clear n0_; (try clear hb); (try clear hb2); (try clear hk); (try clear hi)))
 go_ret
 exact ⟨z2_, z0_⟩

/-! ### impl_within: function 102 -/
def impl_within.f (a0 : Int) (a1 : Int) (a2 : Int) : Option (Bool) := if a0 ≥ a1 then (some (decide (a0 ≤ a2))) else (some false)
set_option maxHeartbeats 8000000 in
set_option maxRecDepth 100000 in
theorem impl_within.calls (a0 : Int) (a1 : Int) (a2 : Int) (r : Bool) (w : World) (h : impl_within.f a0 a1 a2 = some r) :
  Calls Try.prog 102 #[.int .i64 a0, .int .i64 a1, .int .i64 a2] w fun e w' => e = .returned (.bool r) ∧ Drawn0 w w' := by
 have H : (if a0 ≥ a1 then (some (decide (a0 ≤ a2))) else (some false)) = some r := h
 clear h
 by_cases c4 : a0 ≥ a1
 ·rw [if_pos c4] at H
  have c4b0 : decide (a1 ≤ a0) = true := decide_eq_true c4
  clear c4
  obtain rfl := Option.some.inj H
  go_enter Try.func102, Try.ntmps102
  go_wp2
  go_ret
  exact ⟨z8_, z52_⟩
 ·rw [if_neg c4] at H
  have c4b0 : decide (a1 ≤ a0) = false := decide_eq_false c4
  clear c4
  obtain rfl := Option.some.inj H
  go_enter Try.func102, Try.ntmps102
  go_wp2
  go_ret
  exact ⟨z8_, z52_⟩

/-! ### impl_isKey: function 93 -/
def impl_isKey.f (a0 : Int) : Option (Bool) := (impl_within.f a0 0 999).bind fun t221 => (some t221)
set_option maxHeartbeats 8000000 in
set_option maxRecDepth 100000 in
theorem impl_isKey.calls (a0 : Int) (r : Bool) (w : World) (h : impl_isKey.f a0 = some r) :
  Calls Try.prog 93 #[.int .i64 a0] w fun e w' => e = .returned (.bool r) ∧ Drawn0 w w' := by
 have H : ((impl_within.f a0 0 999).bind fun t221 => (some t221)) = some r := h
 clear h
 replace H := Option.bind_eq_some_iff.mp H
 obtain ⟨t221, A20, H⟩ := H
 replace H : (some t221) = some r := H
 have A2 := q_ A20
 clear A20
 obtain rfl := Option.some.inj H
 go_enter Try.func93, Try.ntmps93
 go_wp2_with (first | ((with_reducible refine gate_callee (f := 102) rfl ?_); refine goesL_ (some 4) rfl rfl Try.func102 (by kernel_rfl) rfl #[.int .i64 a0, .int .i64 0, .int .i64 999] rfl z1_ ?_; (with_reducible refine (impl_within.calls a0 0 999 t221 _ A2.out).mono ?_); rintro e w' ⟨rfl, ⟨nd, rfl⟩⟩; refine ⟨_, rfl, ?_⟩))
 go_ret
 exact ⟨z8_, z52_⟩

/-! ### impl_isNum: function 94 -/
def impl_isNum.f (a0 : Int) : Option (Bool) := (impl_within.f a0 (-1000000000) 1000000000).bind fun t222 => (some t222)
set_option maxHeartbeats 8000000 in
set_option maxRecDepth 100000 in
theorem impl_isNum.calls (a0 : Int) (r : Bool) (w : World) (h : impl_isNum.f a0 = some r) :
  Calls Try.prog 94 #[.int .i64 a0] w fun e w' => e = .returned (.bool r) ∧ Drawn0 w w' := by
 have H : ((impl_within.f a0 (-1000000000) 1000000000).bind fun t222 => (some t222)) = some r := h
 clear h
 replace H := Option.bind_eq_some_iff.mp H
 obtain ⟨t222, A20, H⟩ := H
 replace H : (some t222) = some r := H
 have A2 := q_ A20
 clear A20
 obtain rfl := Option.some.inj H
 go_enter Try.func94, Try.ntmps94
 go_wp2_with (first | ((with_reducible refine gate_callee (f := 102) rfl ?_); refine goesL_ (some 4) rfl rfl Try.func102 (by kernel_rfl) rfl #[.int .i64 a0, .int .i64 (-1000000000), .int .i64 1000000000] rfl z1_ ?_; (with_reducible refine (impl_within.calls a0 (-1000000000) 1000000000 t222 _ A2.out).mono ?_); rintro e w' ⟨rfl, ⟨nd, rfl⟩⟩; refine ⟨_, rfl, ?_⟩))
 go_ret
 exact ⟨z8_, z52_⟩

/-! ### impl_MapOk: function 51 -/
def impl_MapOk.l0 : Nat → List (S92) → List (S92) → Int → Int → Option (Bool)
 | 0, _, _, _, _ => none
 | k + 1, x0, x5, x6, x7 => if x7 < x6 then (if 0 ≤ x7 then (if x7 < (x5.length : Int) then ((impl_isKey.f ((rd_T92 x5 x7).f0)).bind fun t225 => (if t225 = true then ((impl_isNum.f ((rd_T92 x5 x7).f1)).bind fun t226 => (if t226 = true then (if x7 > 0 then (if 0 ≤ (wrap64 (x7 - 1)) then (if (wrap64 (x7 - 1)) < (x0.length : Int) then (if ((rd_T92 x0 (wrap64 (x7 - 1))).f0) ≥ ((rd_T92 x5 x7).f0) then (some false) else (impl_MapOk.l0 k x0 x5 x6 (wrap64 (x7 + 1)))) else (none)) else (none)) else (impl_MapOk.l0 k x0 x5 x6 (wrap64 (x7 + 1)))) else (some false))) else (some false))) else (none)) else (none)) else (some true)
def impl_MapOk.f (k : Nat) (l0 : List (S92)) : Option (Bool) := impl_MapOk.l0 k l0 l0 (l0.length : Int) 0
theorem impl_MapOk.mono_l : ∀ k, (∀ y0 y1 y2 y3, LeO (impl_MapOk.l0 k y0 y1 y2 y3) (impl_MapOk.l0 (k + 1) y0 y1 y2 y3))
 | 0 => fun _ _ _ _ r h => by simp [impl_MapOk.l0] at h
 | k + 1 => by
  have ih0 := impl_MapOk.mono_l k
  ·intro y0 y1 y2 y3
   unfold impl_MapOk.l0
   repeat' first
   | (with_reducible exact ih0 _ _ _ _)
   | (with_reducible exact LeO.refl _)
   | (with_reducible exact LeO.none _)
   | (with_reducible refine LeO.ite ?_ ?_)
   | (with_reducible refine LeO.bind ?_ (fun _ => ?_))
   | exact ih0 _ _ _ _
   | exact LeO.none _
   | refine LeO.ite ?_ ?_
   | refine LeO.bind ?_ (fun _ => ?_)
theorem impl_MapOk.mono : ∀ a0 k, LeO (impl_MapOk.f k a0) (impl_MapOk.f (k + 1) a0) := by
 intro a0 k
 have ih0 := impl_MapOk.mono_l k
 unfold impl_MapOk.f
 repeat' first
   | (with_reducible exact ih0 _ _ _ _)
   | (with_reducible exact LeO.refl _)
   | (with_reducible exact LeO.none _)
   | (with_reducible refine LeO.ite ?_ ?_)
   | (with_reducible refine LeO.bind ?_ (fun _ => ?_))
   | exact ih0 _ _ _ _
   | exact LeO.none _
   | refine LeO.ite ?_ ?_
   | refine LeO.bind ?_ (fun _ => ?_)
set_option maxHeartbeats 8000000 in
set_option maxRecDepth 100000 in
theorem impl_MapOk.calls (k : Nat) (A0 : Option Addr) (c0 : Nat) (l0 : List (S92)) (r : Bool) (w : World) (hr0 : Kd.C k92 w A0 l0.length l0) (hc0 : l0.length ≤ c0) (h : impl_MapOk.f k l0 = some r) :
  Calls Try.prog 51 #[.slice A0 l0.length c0] w fun e w' => e = .returned (.bool r) ∧ Below w.heap.size w w' := by
 have hu92 := Try.underlying92
 have HR0 := q_ hr0
 have HC0 := q_ hc0
 clear hr0 hc0
 have HB := q_ (Below.refl w.heap.size w)
 have H : (impl_MapOk.l0 k l0 l0 (l0.length : Int) 0) = some r := h
 clear h
 have H' := q_ H
 clear H
 go_enter Try.func51, Try.ntmps51
 go_wp2
 repeat (go_quiet (fail); try go_wp2)
 go_loopg [7] k (fun kq v7 w' => ∃ (x7_1 : Int), v7 = .int .i64 x7_1 ∧ Aside0 (impl_MapOk.l0 kq l0 l0 (l0.length : Int) x7_1 = some r) ∧ Aside0 (kq ≤ k) ∧ Aside0 (Below w.heap.size w w'))
 case atStart => exact ⟨(0), z8_, H', ⟨Nat.le_refl _⟩, ⟨z0_⟩⟩
 case round =>
  clear H'
  obtain ⟨x7_1, rfl, HA, HK1, HB⟩ := hrel
  cases gk with
  | zero => exact absurd HA.out (by simp [impl_MapOk.l0])
  | succ k1 =>
   have H := HA.out
   clear HA
   simp only [impl_MapOk.l0] at H
   by_cases c2 : x7_1 < (l0.length : Int)
   ·rw [if_pos c2] at H
    have c2b0 : decide (x7_1 < (l0.length : Int)) = true := decide_eq_true c2
    clear c2
    by_cases c3 : 0 ≤ x7_1
    ·rw [if_pos c3] at H
     have c3b0 : decide (0 ≤ x7_1) = true := decide_eq_true c3
     clear c3
     by_cases c4 : x7_1 < (l0.length : Int)
     ·rw [if_pos c4] at H
      have c4b0 : decide (x7_1 < (l0.length : Int)) = true := decide_eq_true c4
      clear c4
      replace H := Option.bind_eq_some_iff.mp H
      obtain ⟨t225, A50, H⟩ := H
      replace H : (if t225 = true then ((impl_isNum.f ((rd_T92 l0 x7_1).f1)).bind fun t226 => (if t226 = true then (if x7_1 > 0 then (if 0 ≤ (wrap64 (x7_1 - 1)) then (if (wrap64 (x7_1 - 1)) < (l0.length : Int) then (if ((rd_T92 l0 (wrap64 (x7_1 - 1))).f0) ≥ ((rd_T92 l0 x7_1).f0) then (some false) else (impl_MapOk.l0 k1 l0 l0 (l0.length : Int) (wrap64 (x7_1 + 1)))) else (none)) else (none)) else (impl_MapOk.l0 k1 l0 l0 (l0.length : Int) (wrap64 (x7_1 + 1)))) else (some false))) else (some false)) = some r := H
      have A5 := q_ A50
      clear A50
      by_cases c6 : t225 = true
      ·subst c6
       have H1 : ((impl_isNum.f ((rd_T92 l0 x7_1).f1)).bind fun t226 => (if t226 = true then (if x7_1 > 0 then (if 0 ≤ (wrap64 (x7_1 - 1)) then (if (wrap64 (x7_1 - 1)) < (l0.length : Int) then (if ((rd_T92 l0 (wrap64 (x7_1 - 1))).f0) ≥ ((rd_T92 l0 x7_1).f0) then (some false) else (impl_MapOk.l0 k1 l0 l0 (l0.length : Int) (wrap64 (x7_1 + 1)))) else (none)) else (none)) else (impl_MapOk.l0 k1 l0 l0 (l0.length : Int) (wrap64 (x7_1 + 1)))) else (some false))) = some r := z45_
       clear H
       have H := H1
       clear H1
       replace H := Option.bind_eq_some_iff.mp H
       obtain ⟨t226, A70, H⟩ := H
       replace H : (if t226 = true then (if x7_1 > 0 then (if 0 ≤ (wrap64 (x7_1 - 1)) then (if (wrap64 (x7_1 - 1)) < (l0.length : Int) then (if ((rd_T92 l0 (wrap64 (x7_1 - 1))).f0) ≥ ((rd_T92 l0 x7_1).f0) then (some false) else (impl_MapOk.l0 k1 l0 l0 (l0.length : Int) (wrap64 (x7_1 + 1)))) else (none)) else (none)) else (impl_MapOk.l0 k1 l0 l0 (l0.length : Int) (wrap64 (x7_1 + 1)))) else (some false)) = some r := H
       have A7 := q_ A70
       clear A70
       by_cases c8 : t226 = true
       ·subst c8
        have H1 : (if x7_1 > 0 then (if 0 ≤ (wrap64 (x7_1 - 1)) then (if (wrap64 (x7_1 - 1)) < (l0.length : Int) then (if ((rd_T92 l0 (wrap64 (x7_1 - 1))).f0) ≥ ((rd_T92 l0 x7_1).f0) then (some false) else (impl_MapOk.l0 k1 l0 l0 (l0.length : Int) (wrap64 (x7_1 + 1)))) else (none)) else (none)) else (impl_MapOk.l0 k1 l0 l0 (l0.length : Int) (wrap64 (x7_1 + 1)))) = some r := z45_
        clear H
        have H := H1
        clear H1
        by_cases c9 : x7_1 > 0
        ·rw [if_pos c9] at H
         have c9b0 : decide (0 < x7_1) = true := decide_eq_true c9
         clear c9
         obtain ⟨ji10, hji10⟩ : ∃ j_ : Int, (wrap64 (x7_1 - 1)) = j_ := ⟨_, rfl⟩
         replace H : (if 0 ≤ (ji10) then (if (ji10) < (l0.length : Int) then (if ((rd_T92 l0 (ji10)).f0) ≥ ((rd_T92 l0 x7_1).f0) then (some false) else (impl_MapOk.l0 k1 l0 l0 (l0.length : Int) (wrap64 (x7_1 + 1)))) else (none)) else (none)) = some r := by first | (rw [hji10] at H; exact H) | (simp only [hji10] at H ⊢; exact H)
         (try rw [hji10] at A5)
         (try rw [hji10] at A7)
         have hji10w : (IntKind.i64.wrap (x7_1 - 1)) = ji10 := (i64_w _).trans hji10
         by_cases c11 : 0 ≤ (ji10)
         ·rw [if_pos c11] at H
          have c11b0 : decide (0 ≤ (ji10)) = true := decide_eq_true c11
          clear c11
          by_cases c12 : (ji10) < (l0.length : Int)
          ·rw [if_pos c12] at H
           have c12b0 : decide ((ji10) < (l0.length : Int)) = true := decide_eq_true c12
           clear c12
           by_cases c13 : ((rd_T92 l0 (ji10)).f0) ≥ ((rd_T92 l0 x7_1).f0)
           ·rw [if_pos c13] at H
            have c13b0 : decide (((rd_T92 l0 x7_1).f0) ≤ ((rd_T92 l0 (ji10)).f0)) = true := decide_eq_true c13
            clear c13
            obtain rfl := Option.some.inj H
            have p223 : 0 ≤ (x7_1 : Int) := of_decide_eq_true z3_
            have q223 : x7_1 < (l0.length : Int) := of_decide_eq_true z3_
            obtain ⟨ad223, e223, hx223_0, hx223_1⟩ := at_T92 HR0.out x7_1 p223 q223
            cases e223
            replace hx223_0 := up_ HB hx223_0
            replace hx223_1 := up_ HB hx223_1
            replace p223 := eq_true p223
            replace q223 := eq_true q223
            go_wp2_with (first | ((with_reducible refine gate_dst (N := 4) rfl ?_); refine box_event ?hg (N := 4) ?hd (cs := #[.int .i64 0, .int .i64 0]) (t := 92) ?hr ?_; (case hd => rfl); (case hg => rfl); (case hr => exact z141_); intro gb224 hg w14 hbox hb; have n0_ := q_ (below_step z0_ hb); have n1_ := q_ (hbox); have n2_ := q_ ((z104_ : w.heap.size ≤ gb224)); have n3_ := q_ ((z104_ : w.heap.size ≤ gb224)); clear HB; have HB := n0_; have BK224 := n1_; have GW224 := n2_; have GE224 := n3_; clear n0_ n1_ n2_ n3_; clear hb hbox hg; obtain ⟨hcz15_0, hcz15_1, hfz15_0, hfz15_1⟩ := cs2_ BK224.out) | (go_at_call 93; (with_reducible refine (impl_isKey.calls ((rd_T92 l0 x7_1).f0) true _ A5.out).mono ?_); rintro e w' ⟨rfl, ⟨nd, rfl⟩⟩; (try first | exact ⟨rfl, _, World.drewN_drewN _ _ _⟩ | exact ⟨rfl, _, Eq.trans (World.drewN_drewN _ _ _) (congrArg (World.drewN _) (Nat.add_assoc _ _ _))⟩)) | (go_at_call 94; (with_reducible refine (impl_isNum.calls ((rd_T92 l0 x7_1).f1) true _ A7.out).mono ?_); rintro e w' ⟨rfl, ⟨nd, rfl⟩⟩; (try first | exact ⟨rfl, _, World.drewN_drewN _ _ _⟩ | exact ⟨rfl, _, Eq.trans (World.drewN_drewN _ _ _) (congrArg (World.drewN _) (Nat.add_assoc _ _ _))⟩); have p227 : 0 ≤ ((ji10) : Int) := of_decide_eq_true z3_; have q227 : (ji10) < (l0.length : Int) := of_decide_eq_true z3_; obtain ⟨ad227, e227, hx227_0, hx227_1⟩ := at_T92 HR0.out (ji10) p227 q227; obtain rfl : ad223 = ad227 := z103_; have hn227_0 : ad223.block ≠ gb224 := Nat.ne_of_lt (Nat.lt_of_lt_of_le (by have := World.block_lt_of_cell? _ _ hx227_0; first | rwa [add_block] at this | exact this) GW224.out); have hn227_1 : ad223.block ≠ gb224 := Nat.ne_of_lt (Nat.lt_of_lt_of_le (by have := World.block_lt_of_cell? _ _ hx227_0; first | rwa [add_block] at this | exact this) GW224.out); replace hx227_0 := up_ HB hx227_0; replace hx227_1 := up_ HB hx227_1; replace hx227_0 := (cell_far (p := ⟨gb224, 0, none⟩) z37_ (.int .i64 ((rd_T92 l0 x7_1).f0))).trans hx227_0; replace hx227_1 := (cell_far (p := ⟨gb224, 0, none⟩) z37_ (.int .i64 ((rd_T92 l0 x7_1).f0))).trans hx227_1; replace hx227_0 := (cell_far (p := ⟨gb224, 1, none⟩) z38_ (.int .i64 ((rd_T92 l0 x7_1).f1))).trans hx227_0; replace hx227_1 := (cell_far (p := ⟨gb224, 1, none⟩) z38_ (.int .i64 ((rd_T92 l0 x7_1).f1))).trans hx227_1; (try have hy227_0 := fun (n_ : Nat) => (show ((((w14.drewN n_).setCell ⟨gb224, 0, none⟩ (.int .i64 ((rd_T92 l0 x7_1).f0))).setCell ⟨gb224, 1, none⟩ (.int .i64 ((rd_T92 l0 x7_1).f1)))).cell? _ = some _ from hx227_0)); (try have hy227_1 := fun (n_ : Nat) => (show ((((w14.drewN n_).setCell ⟨gb224, 0, none⟩ (.int .i64 ((rd_T92 l0 x7_1).f0))).setCell ⟨gb224, 1, none⟩ (.int .i64 ((rd_T92 l0 x7_1).f1)))).cell? _ = some _ from hx227_1)); clear hn227_0; clear hn227_1; replace p227 := eq_true p227; replace q227 := eq_true q227))
            repeat (go_quiet (first | ((with_reducible refine gate_dst (N := 4) rfl ?_); refine box_event ?hg (N := 4) ?hd (cs := #[.int .i64 0, .int .i64 0]) (t := 92) ?hr ?_; (case hd => rfl); (case hg => rfl); (case hr => exact z141_); intro gb224 hg w14 hbox hb; have n0_ := q_ (below_step z0_ hb); have n1_ := q_ (hbox); have n2_ := q_ ((z104_ : w.heap.size ≤ gb224)); have n3_ := q_ ((z104_ : w.heap.size ≤ gb224)); clear HB; have HB := n0_; have BK224 := n1_; have GW224 := n2_; have GE224 := n3_; clear n0_ n1_ n2_ n3_; clear hb hbox hg; obtain ⟨hcz15_0, hcz15_1, hfz15_0, hfz15_1⟩ := cs2_ BK224.out) | (go_at_call 93; (with_reducible refine (impl_isKey.calls ((rd_T92 l0 x7_1).f0) true _ A5.out).mono ?_); rintro e w' ⟨rfl, ⟨nd, rfl⟩⟩; (try first | exact ⟨rfl, _, World.drewN_drewN _ _ _⟩ | exact ⟨rfl, _, Eq.trans (World.drewN_drewN _ _ _) (congrArg (World.drewN _) (Nat.add_assoc _ _ _))⟩)) | (go_at_call 94; (with_reducible refine (impl_isNum.calls ((rd_T92 l0 x7_1).f1) true _ A7.out).mono ?_); rintro e w' ⟨rfl, ⟨nd, rfl⟩⟩; (try first | exact ⟨rfl, _, World.drewN_drewN _ _ _⟩ | exact ⟨rfl, _, Eq.trans (World.drewN_drewN _ _ _) (congrArg (World.drewN _) (Nat.add_assoc _ _ _))⟩); have p227 : 0 ≤ ((ji10) : Int) := of_decide_eq_true z3_; have q227 : (ji10) < (l0.length : Int) := of_decide_eq_true z3_; obtain ⟨ad227, e227, hx227_0, hx227_1⟩ := at_T92 HR0.out (ji10) p227 q227; obtain rfl : ad223 = ad227 := z103_; have hn227_0 : ad223.block ≠ gb224 := Nat.ne_of_lt (Nat.lt_of_lt_of_le (by have := World.block_lt_of_cell? _ _ hx227_0; first | rwa [add_block] at this | exact this) GW224.out); have hn227_1 : ad223.block ≠ gb224 := Nat.ne_of_lt (Nat.lt_of_lt_of_le (by have := World.block_lt_of_cell? _ _ hx227_0; first | rwa [add_block] at this | exact this) GW224.out); replace hx227_0 := up_ HB hx227_0; replace hx227_1 := up_ HB hx227_1; replace hx227_0 := (cell_far (p := ⟨gb224, 0, none⟩) z37_ (.int .i64 ((rd_T92 l0 x7_1).f0))).trans hx227_0; replace hx227_1 := (cell_far (p := ⟨gb224, 0, none⟩) z37_ (.int .i64 ((rd_T92 l0 x7_1).f0))).trans hx227_1; replace hx227_0 := (cell_far (p := ⟨gb224, 1, none⟩) z38_ (.int .i64 ((rd_T92 l0 x7_1).f1))).trans hx227_0; replace hx227_1 := (cell_far (p := ⟨gb224, 1, none⟩) z38_ (.int .i64 ((rd_T92 l0 x7_1).f1))).trans hx227_1; (try have hy227_0 := fun (n_ : Nat) => (show ((((w14.drewN n_).setCell ⟨gb224, 0, none⟩ (.int .i64 ((rd_T92 l0 x7_1).f0))).setCell ⟨gb224, 1, none⟩ (.int .i64 ((rd_T92 l0 x7_1).f1)))).cell? _ = some _ from hx227_0)); (try have hy227_1 := fun (n_ : Nat) => (show ((((w14.drewN n_).setCell ⟨gb224, 0, none⟩ (.int .i64 ((rd_T92 l0 x7_1).f0))).setCell ⟨gb224, 1, none⟩ (.int .i64 ((rd_T92 l0 x7_1).f1)))).cell? _ = some _ from hx227_1)); clear hn227_0; clear hn227_1; replace p227 := eq_true p227; replace q227 := eq_true q227)); try go_wp2_with (first | ((with_reducible refine gate_dst (N := 4) rfl ?_); refine box_event ?hg (N := 4) ?hd (cs := #[.int .i64 0, .int .i64 0]) (t := 92) ?hr ?_; (case hd => rfl); (case hg => rfl); (case hr => exact z141_); intro gb224 hg w14 hbox hb; have n0_ := q_ (below_step z0_ hb); have n1_ := q_ (hbox); have n2_ := q_ ((z104_ : w.heap.size ≤ gb224)); have n3_ := q_ ((z104_ : w.heap.size ≤ gb224)); clear HB; have HB := n0_; have BK224 := n1_; have GW224 := n2_; have GE224 := n3_; clear n0_ n1_ n2_ n3_; clear hb hbox hg; obtain ⟨hcz15_0, hcz15_1, hfz15_0, hfz15_1⟩ := cs2_ BK224.out) | (go_at_call 93; (with_reducible refine (impl_isKey.calls ((rd_T92 l0 x7_1).f0) true _ A5.out).mono ?_); rintro e w' ⟨rfl, ⟨nd, rfl⟩⟩; (try first | exact ⟨rfl, _, World.drewN_drewN _ _ _⟩ | exact ⟨rfl, _, Eq.trans (World.drewN_drewN _ _ _) (congrArg (World.drewN _) (Nat.add_assoc _ _ _))⟩)) | (go_at_call 94; (with_reducible refine (impl_isNum.calls ((rd_T92 l0 x7_1).f1) true _ A7.out).mono ?_); rintro e w' ⟨rfl, ⟨nd, rfl⟩⟩; (try first | exact ⟨rfl, _, World.drewN_drewN _ _ _⟩ | exact ⟨rfl, _, Eq.trans (World.drewN_drewN _ _ _) (congrArg (World.drewN _) (Nat.add_assoc _ _ _))⟩); have p227 : 0 ≤ ((ji10) : Int) := of_decide_eq_true z3_; have q227 : (ji10) < (l0.length : Int) := of_decide_eq_true z3_; obtain ⟨ad227, e227, hx227_0, hx227_1⟩ := at_T92 HR0.out (ji10) p227 q227; obtain rfl : ad223 = ad227 := z103_; have hn227_0 : ad223.block ≠ gb224 := Nat.ne_of_lt (Nat.lt_of_lt_of_le (by have := World.block_lt_of_cell? _ _ hx227_0; first | rwa [add_block] at this | exact this) GW224.out); have hn227_1 : ad223.block ≠ gb224 := Nat.ne_of_lt (Nat.lt_of_lt_of_le (by have := World.block_lt_of_cell? _ _ hx227_0; first | rwa [add_block] at this | exact this) GW224.out); replace hx227_0 := up_ HB hx227_0; replace hx227_1 := up_ HB hx227_1; replace hx227_0 := (cell_far (p := ⟨gb224, 0, none⟩) z37_ (.int .i64 ((rd_T92 l0 x7_1).f0))).trans hx227_0; replace hx227_1 := (cell_far (p := ⟨gb224, 0, none⟩) z37_ (.int .i64 ((rd_T92 l0 x7_1).f0))).trans hx227_1; replace hx227_0 := (cell_far (p := ⟨gb224, 1, none⟩) z38_ (.int .i64 ((rd_T92 l0 x7_1).f1))).trans hx227_0; replace hx227_1 := (cell_far (p := ⟨gb224, 1, none⟩) z38_ (.int .i64 ((rd_T92 l0 x7_1).f1))).trans hx227_1; (try have hy227_0 := fun (n_ : Nat) => (show ((((w14.drewN n_).setCell ⟨gb224, 0, none⟩ (.int .i64 ((rd_T92 l0 x7_1).f0))).setCell ⟨gb224, 1, none⟩ (.int .i64 ((rd_T92 l0 x7_1).f1)))).cell? _ = some _ from hx227_0)); (try have hy227_1 := fun (n_ : Nat) => (show ((((w14.drewN n_).setCell ⟨gb224, 0, none⟩ (.int .i64 ((rd_T92 l0 x7_1).f0))).setCell ⟨gb224, 1, none⟩ (.int .i64 ((rd_T92 l0 x7_1).f1)))).cell? _ = some _ from hx227_1)); clear hn227_0; clear hn227_1; replace p227 := eq_true p227; replace q227 := eq_true q227)))
            go_ret
            exact ⟨by first | rfl | (simp [errW_none, errW_some] <;> rfl) | (simp only [← hji10]; first | rfl | (simp [errW_none, errW_some] <;> rfl)) | (simp [*, errW_none, errW_some] <;> rfl), z56_⟩
           ·rw [if_neg c13] at H
            have c13b0 : decide (((rd_T92 l0 x7_1).f0) ≤ ((rd_T92 l0 (ji10)).f0)) = false := decide_eq_false c13
            clear c13
            have H' := q_ H
            clear H
            have p223 : 0 ≤ (x7_1 : Int) := of_decide_eq_true z3_
            have q223 : x7_1 < (l0.length : Int) := of_decide_eq_true z3_
            obtain ⟨ad223, e223, hx223_0, hx223_1⟩ := at_T92 HR0.out x7_1 p223 q223
            cases e223
            replace hx223_0 := up_ HB hx223_0
            replace hx223_1 := up_ HB hx223_1
            replace p223 := eq_true p223
            replace q223 := eq_true q223
            go_wp2_with (first | ((with_reducible refine gate_dst (N := 4) rfl ?_); refine box_event ?hg (N := 4) ?hd (cs := #[.int .i64 0, .int .i64 0]) (t := 92) ?hr ?_; (case hd => rfl); (case hg => rfl); (case hr => exact z141_); intro gb224 hg w16 hbox hb; have n0_ := q_ (below_step z0_ hb); have n1_ := q_ (hbox); have n2_ := q_ ((z104_ : w.heap.size ≤ gb224)); have n3_ := q_ ((z104_ : w.heap.size ≤ gb224)); clear HB; have HB := n0_; have BK224 := n1_; have GW224 := n2_; have GE224 := n3_; clear n0_ n1_ n2_ n3_; clear hb hbox hg; obtain ⟨hcz17_0, hcz17_1, hfz17_0, hfz17_1⟩ := cs2_ BK224.out) | (go_at_call 93; (with_reducible refine (impl_isKey.calls ((rd_T92 l0 x7_1).f0) true _ A5.out).mono ?_); rintro e w' ⟨rfl, ⟨nd, rfl⟩⟩; (try first | exact ⟨rfl, _, World.drewN_drewN _ _ _⟩ | exact ⟨rfl, _, Eq.trans (World.drewN_drewN _ _ _) (congrArg (World.drewN _) (Nat.add_assoc _ _ _))⟩)) | (go_at_call 94; (with_reducible refine (impl_isNum.calls ((rd_T92 l0 x7_1).f1) true _ A7.out).mono ?_); rintro e w' ⟨rfl, ⟨nd, rfl⟩⟩; (try first | exact ⟨rfl, _, World.drewN_drewN _ _ _⟩ | exact ⟨rfl, _, Eq.trans (World.drewN_drewN _ _ _) (congrArg (World.drewN _) (Nat.add_assoc _ _ _))⟩); have p227 : 0 ≤ ((ji10) : Int) := of_decide_eq_true z3_; have q227 : (ji10) < (l0.length : Int) := of_decide_eq_true z3_; obtain ⟨ad227, e227, hx227_0, hx227_1⟩ := at_T92 HR0.out (ji10) p227 q227; obtain rfl : ad223 = ad227 := z103_; have hn227_0 : ad223.block ≠ gb224 := Nat.ne_of_lt (Nat.lt_of_lt_of_le (by have := World.block_lt_of_cell? _ _ hx227_0; first | rwa [add_block] at this | exact this) GW224.out); have hn227_1 : ad223.block ≠ gb224 := Nat.ne_of_lt (Nat.lt_of_lt_of_le (by have := World.block_lt_of_cell? _ _ hx227_0; first | rwa [add_block] at this | exact this) GW224.out); replace hx227_0 := up_ HB hx227_0; replace hx227_1 := up_ HB hx227_1; replace hx227_0 := (cell_far (p := ⟨gb224, 0, none⟩) z37_ (.int .i64 ((rd_T92 l0 x7_1).f0))).trans hx227_0; replace hx227_1 := (cell_far (p := ⟨gb224, 0, none⟩) z37_ (.int .i64 ((rd_T92 l0 x7_1).f0))).trans hx227_1; replace hx227_0 := (cell_far (p := ⟨gb224, 1, none⟩) z38_ (.int .i64 ((rd_T92 l0 x7_1).f1))).trans hx227_0; replace hx227_1 := (cell_far (p := ⟨gb224, 1, none⟩) z38_ (.int .i64 ((rd_T92 l0 x7_1).f1))).trans hx227_1; (try have hy227_0 := fun (n_ : Nat) => (show ((((w16.drewN n_).setCell ⟨gb224, 0, none⟩ (.int .i64 ((rd_T92 l0 x7_1).f0))).setCell ⟨gb224, 1, none⟩ (.int .i64 ((rd_T92 l0 x7_1).f1)))).cell? _ = some _ from hx227_0)); (try have hy227_1 := fun (n_ : Nat) => (show ((((w16.drewN n_).setCell ⟨gb224, 0, none⟩ (.int .i64 ((rd_T92 l0 x7_1).f0))).setCell ⟨gb224, 1, none⟩ (.int .i64 ((rd_T92 l0 x7_1).f1)))).cell? _ = some _ from hx227_1)); clear hn227_0; clear hn227_1; replace p227 := eq_true p227; replace q227 := eq_true q227))
            repeat (go_quiet (first | ((with_reducible refine gate_dst (N := 4) rfl ?_); refine box_event ?hg (N := 4) ?hd (cs := #[.int .i64 0, .int .i64 0]) (t := 92) ?hr ?_; (case hd => rfl); (case hg => rfl); (case hr => exact z141_); intro gb224 hg w16 hbox hb; have n0_ := q_ (below_step z0_ hb); have n1_ := q_ (hbox); have n2_ := q_ ((z104_ : w.heap.size ≤ gb224)); have n3_ := q_ ((z104_ : w.heap.size ≤ gb224)); clear HB; have HB := n0_; have BK224 := n1_; have GW224 := n2_; have GE224 := n3_; clear n0_ n1_ n2_ n3_; clear hb hbox hg; obtain ⟨hcz17_0, hcz17_1, hfz17_0, hfz17_1⟩ := cs2_ BK224.out) | (go_at_call 93; (with_reducible refine (impl_isKey.calls ((rd_T92 l0 x7_1).f0) true _ A5.out).mono ?_); rintro e w' ⟨rfl, ⟨nd, rfl⟩⟩; (try first | exact ⟨rfl, _, World.drewN_drewN _ _ _⟩ | exact ⟨rfl, _, Eq.trans (World.drewN_drewN _ _ _) (congrArg (World.drewN _) (Nat.add_assoc _ _ _))⟩)) | (go_at_call 94; (with_reducible refine (impl_isNum.calls ((rd_T92 l0 x7_1).f1) true _ A7.out).mono ?_); rintro e w' ⟨rfl, ⟨nd, rfl⟩⟩; (try first | exact ⟨rfl, _, World.drewN_drewN _ _ _⟩ | exact ⟨rfl, _, Eq.trans (World.drewN_drewN _ _ _) (congrArg (World.drewN _) (Nat.add_assoc _ _ _))⟩); have p227 : 0 ≤ ((ji10) : Int) := of_decide_eq_true z3_; have q227 : (ji10) < (l0.length : Int) := of_decide_eq_true z3_; obtain ⟨ad227, e227, hx227_0, hx227_1⟩ := at_T92 HR0.out (ji10) p227 q227; obtain rfl : ad223 = ad227 := z103_; have hn227_0 : ad223.block ≠ gb224 := Nat.ne_of_lt (Nat.lt_of_lt_of_le (by have := World.block_lt_of_cell? _ _ hx227_0; first | rwa [add_block] at this | exact this) GW224.out); have hn227_1 : ad223.block ≠ gb224 := Nat.ne_of_lt (Nat.lt_of_lt_of_le (by have := World.block_lt_of_cell? _ _ hx227_0; first | rwa [add_block] at this | exact this) GW224.out); replace hx227_0 := up_ HB hx227_0; replace hx227_1 := up_ HB hx227_1; replace hx227_0 := (cell_far (p := ⟨gb224, 0, none⟩) z37_ (.int .i64 ((rd_T92 l0 x7_1).f0))).trans hx227_0; replace hx227_1 := (cell_far (p := ⟨gb224, 0, none⟩) z37_ (.int .i64 ((rd_T92 l0 x7_1).f0))).trans hx227_1; replace hx227_0 := (cell_far (p := ⟨gb224, 1, none⟩) z38_ (.int .i64 ((rd_T92 l0 x7_1).f1))).trans hx227_0; replace hx227_1 := (cell_far (p := ⟨gb224, 1, none⟩) z38_ (.int .i64 ((rd_T92 l0 x7_1).f1))).trans hx227_1; (try have hy227_0 := fun (n_ : Nat) => (show ((((w16.drewN n_).setCell ⟨gb224, 0, none⟩ (.int .i64 ((rd_T92 l0 x7_1).f0))).setCell ⟨gb224, 1, none⟩ (.int .i64 ((rd_T92 l0 x7_1).f1)))).cell? _ = some _ from hx227_0)); (try have hy227_1 := fun (n_ : Nat) => (show ((((w16.drewN n_).setCell ⟨gb224, 0, none⟩ (.int .i64 ((rd_T92 l0 x7_1).f0))).setCell ⟨gb224, 1, none⟩ (.int .i64 ((rd_T92 l0 x7_1).f1)))).cell? _ = some _ from hx227_1)); clear hn227_0; clear hn227_1; replace p227 := eq_true p227; replace q227 := eq_true q227)); try go_wp2_with (first | ((with_reducible refine gate_dst (N := 4) rfl ?_); refine box_event ?hg (N := 4) ?hd (cs := #[.int .i64 0, .int .i64 0]) (t := 92) ?hr ?_; (case hd => rfl); (case hg => rfl); (case hr => exact z141_); intro gb224 hg w16 hbox hb; have n0_ := q_ (below_step z0_ hb); have n1_ := q_ (hbox); have n2_ := q_ ((z104_ : w.heap.size ≤ gb224)); have n3_ := q_ ((z104_ : w.heap.size ≤ gb224)); clear HB; have HB := n0_; have BK224 := n1_; have GW224 := n2_; have GE224 := n3_; clear n0_ n1_ n2_ n3_; clear hb hbox hg; obtain ⟨hcz17_0, hcz17_1, hfz17_0, hfz17_1⟩ := cs2_ BK224.out) | (go_at_call 93; (with_reducible refine (impl_isKey.calls ((rd_T92 l0 x7_1).f0) true _ A5.out).mono ?_); rintro e w' ⟨rfl, ⟨nd, rfl⟩⟩; (try first | exact ⟨rfl, _, World.drewN_drewN _ _ _⟩ | exact ⟨rfl, _, Eq.trans (World.drewN_drewN _ _ _) (congrArg (World.drewN _) (Nat.add_assoc _ _ _))⟩)) | (go_at_call 94; (with_reducible refine (impl_isNum.calls ((rd_T92 l0 x7_1).f1) true _ A7.out).mono ?_); rintro e w' ⟨rfl, ⟨nd, rfl⟩⟩; (try first | exact ⟨rfl, _, World.drewN_drewN _ _ _⟩ | exact ⟨rfl, _, Eq.trans (World.drewN_drewN _ _ _) (congrArg (World.drewN _) (Nat.add_assoc _ _ _))⟩); have p227 : 0 ≤ ((ji10) : Int) := of_decide_eq_true z3_; have q227 : (ji10) < (l0.length : Int) := of_decide_eq_true z3_; obtain ⟨ad227, e227, hx227_0, hx227_1⟩ := at_T92 HR0.out (ji10) p227 q227; obtain rfl : ad223 = ad227 := z103_; have hn227_0 : ad223.block ≠ gb224 := Nat.ne_of_lt (Nat.lt_of_lt_of_le (by have := World.block_lt_of_cell? _ _ hx227_0; first | rwa [add_block] at this | exact this) GW224.out); have hn227_1 : ad223.block ≠ gb224 := Nat.ne_of_lt (Nat.lt_of_lt_of_le (by have := World.block_lt_of_cell? _ _ hx227_0; first | rwa [add_block] at this | exact this) GW224.out); replace hx227_0 := up_ HB hx227_0; replace hx227_1 := up_ HB hx227_1; replace hx227_0 := (cell_far (p := ⟨gb224, 0, none⟩) z37_ (.int .i64 ((rd_T92 l0 x7_1).f0))).trans hx227_0; replace hx227_1 := (cell_far (p := ⟨gb224, 0, none⟩) z37_ (.int .i64 ((rd_T92 l0 x7_1).f0))).trans hx227_1; replace hx227_0 := (cell_far (p := ⟨gb224, 1, none⟩) z38_ (.int .i64 ((rd_T92 l0 x7_1).f1))).trans hx227_0; replace hx227_1 := (cell_far (p := ⟨gb224, 1, none⟩) z38_ (.int .i64 ((rd_T92 l0 x7_1).f1))).trans hx227_1; (try have hy227_0 := fun (n_ : Nat) => (show ((((w16.drewN n_).setCell ⟨gb224, 0, none⟩ (.int .i64 ((rd_T92 l0 x7_1).f0))).setCell ⟨gb224, 1, none⟩ (.int .i64 ((rd_T92 l0 x7_1).f1)))).cell? _ = some _ from hx227_0)); (try have hy227_1 := fun (n_ : Nat) => (show ((((w16.drewN n_).setCell ⟨gb224, 0, none⟩ (.int .i64 ((rd_T92 l0 x7_1).f0))).setCell ⟨gb224, 1, none⟩ (.int .i64 ((rd_T92 l0 x7_1).f1)))).cell? _ = some _ from hx227_1)); clear hn227_0; clear hn227_1; replace p227 := eq_true p227; replace q227 := eq_true q227)))
            go_roundg k1
            case measure => have := HK1.out; omega
            case rel => exact ⟨(wrap64 (x7_1 + 1)), z8_, H', ⟨z79_⟩, ⟨z56_⟩⟩
          ·rw [if_neg c12] at H
           exact absurd H (by simp)
         ·rw [if_neg c11] at H
          exact absurd H (by simp)
        ·rw [if_neg c9] at H
         have c9b0 : decide (0 < x7_1) = false := decide_eq_false c9
         clear c9
         have H' := q_ H
         clear H
         have p223 : 0 ≤ (x7_1 : Int) := of_decide_eq_true z3_
         have q223 : x7_1 < (l0.length : Int) := of_decide_eq_true z3_
         obtain ⟨ad223, e223, hx223_0, hx223_1⟩ := at_T92 HR0.out x7_1 p223 q223
         cases e223
         replace hx223_0 := up_ HB hx223_0
         replace hx223_1 := up_ HB hx223_1
         replace p223 := eq_true p223
         replace q223 := eq_true q223
         go_wp2_with (first | ((with_reducible refine gate_dst (N := 4) rfl ?_); refine box_event ?hg (N := 4) ?hd (cs := #[.int .i64 0, .int .i64 0]) (t := 92) ?hr ?_; (case hd => rfl); (case hg => rfl); (case hr => exact z141_); intro gb224 hg w18 hbox hb; have n0_ := q_ (below_step z0_ hb); have n1_ := q_ (hbox); have n2_ := q_ ((z104_ : w.heap.size ≤ gb224)); have n3_ := q_ ((z104_ : w.heap.size ≤ gb224)); clear HB; have HB := n0_; have BK224 := n1_; have GW224 := n2_; have GE224 := n3_; clear n0_ n1_ n2_ n3_; clear hb hbox hg; obtain ⟨hcz19_0, hcz19_1, hfz19_0, hfz19_1⟩ := cs2_ BK224.out) | (go_at_call 93; (with_reducible refine (impl_isKey.calls ((rd_T92 l0 x7_1).f0) true _ A5.out).mono ?_); rintro e w' ⟨rfl, ⟨nd, rfl⟩⟩; (try first | exact ⟨rfl, _, World.drewN_drewN _ _ _⟩ | exact ⟨rfl, _, Eq.trans (World.drewN_drewN _ _ _) (congrArg (World.drewN _) (Nat.add_assoc _ _ _))⟩)) | (go_at_call 94; (with_reducible refine (impl_isNum.calls ((rd_T92 l0 x7_1).f1) true _ A7.out).mono ?_); rintro e w' ⟨rfl, ⟨nd, rfl⟩⟩; (try first | exact ⟨rfl, _, World.drewN_drewN _ _ _⟩ | exact ⟨rfl, _, Eq.trans (World.drewN_drewN _ _ _) (congrArg (World.drewN _) (Nat.add_assoc _ _ _))⟩)))
         repeat (go_quiet (first | ((with_reducible refine gate_dst (N := 4) rfl ?_); refine box_event ?hg (N := 4) ?hd (cs := #[.int .i64 0, .int .i64 0]) (t := 92) ?hr ?_; (case hd => rfl); (case hg => rfl); (case hr => exact z141_); intro gb224 hg w18 hbox hb; have n0_ := q_ (below_step z0_ hb); have n1_ := q_ (hbox); have n2_ := q_ ((z104_ : w.heap.size ≤ gb224)); have n3_ := q_ ((z104_ : w.heap.size ≤ gb224)); clear HB; have HB := n0_; have BK224 := n1_; have GW224 := n2_; have GE224 := n3_; clear n0_ n1_ n2_ n3_; clear hb hbox hg; obtain ⟨hcz19_0, hcz19_1, hfz19_0, hfz19_1⟩ := cs2_ BK224.out) | (go_at_call 93; (with_reducible refine (impl_isKey.calls ((rd_T92 l0 x7_1).f0) true _ A5.out).mono ?_); rintro e w' ⟨rfl, ⟨nd, rfl⟩⟩; (try first | exact ⟨rfl, _, World.drewN_drewN _ _ _⟩ | exact ⟨rfl, _, Eq.trans (World.drewN_drewN _ _ _) (congrArg (World.drewN _) (Nat.add_assoc _ _ _))⟩)) | (go_at_call 94; (with_reducible refine (impl_isNum.calls ((rd_T92 l0 x7_1).f1) true _ A7.out).mono ?_); rintro e w' ⟨rfl, ⟨nd, rfl⟩⟩; (try first | exact ⟨rfl, _, World.drewN_drewN _ _ _⟩ | exact ⟨rfl, _, Eq.trans (World.drewN_drewN _ _ _) (congrArg (World.drewN _) (Nat.add_assoc _ _ _))⟩))); try go_wp2_with (first | ((with_reducible refine gate_dst (N := 4) rfl ?_); refine box_event ?hg (N := 4) ?hd (cs := #[.int .i64 0, .int .i64 0]) (t := 92) ?hr ?_; (case hd => rfl); (case hg => rfl); (case hr => exact z141_); intro gb224 hg w18 hbox hb; have n0_ := q_ (below_step z0_ hb); have n1_ := q_ (hbox); have n2_ := q_ ((z104_ : w.heap.size ≤ gb224)); have n3_ := q_ ((z104_ : w.heap.size ≤ gb224)); clear HB; have HB := n0_; have BK224 := n1_; have GW224 := n2_; have GE224 := n3_; clear n0_ n1_ n2_ n3_; clear hb hbox hg; obtain ⟨hcz19_0, hcz19_1, hfz19_0, hfz19_1⟩ := cs2_ BK224.out) | (go_at_call 93; (with_reducible refine (impl_isKey.calls ((rd_T92 l0 x7_1).f0) true _ A5.out).mono ?_); rintro e w' ⟨rfl, ⟨nd, rfl⟩⟩; (try first | exact ⟨rfl, _, World.drewN_drewN _ _ _⟩ | exact ⟨rfl, _, Eq.trans (World.drewN_drewN _ _ _) (congrArg (World.drewN _) (Nat.add_assoc _ _ _))⟩)) | (go_at_call 94; (with_reducible refine (impl_isNum.calls ((rd_T92 l0 x7_1).f1) true _ A7.out).mono ?_); rintro e w' ⟨rfl, ⟨nd, rfl⟩⟩; (try first | exact ⟨rfl, _, World.drewN_drewN _ _ _⟩ | exact ⟨rfl, _, Eq.trans (World.drewN_drewN _ _ _) (congrArg (World.drewN _) (Nat.add_assoc _ _ _))⟩))))
         go_roundg k1
         case measure => have := HK1.out; omega
         case rel => exact ⟨(wrap64 (x7_1 + 1)), z8_, H', ⟨z79_⟩, ⟨z56_⟩⟩
       ·replace c8 := Bool.eq_false_iff.mpr c8
        subst c8
        have H1 : (some false) = some r := by rw [if_neg (show ¬ (false = true) by decide)] at H; exact H
        clear H
        have H := H1
        clear H1
        obtain rfl := Option.some.inj H
        have p223 : 0 ≤ (x7_1 : Int) := of_decide_eq_true z3_
        have q223 : x7_1 < (l0.length : Int) := of_decide_eq_true z3_
        obtain ⟨ad223, e223, hx223_0, hx223_1⟩ := at_T92 HR0.out x7_1 p223 q223
        cases e223
        replace hx223_0 := up_ HB hx223_0
        replace hx223_1 := up_ HB hx223_1
        replace p223 := eq_true p223
        replace q223 := eq_true q223
        go_wp2_with (first | ((with_reducible refine gate_dst (N := 4) rfl ?_); refine box_event ?hg (N := 4) ?hd (cs := #[.int .i64 0, .int .i64 0]) (t := 92) ?hr ?_; (case hd => rfl); (case hg => rfl); (case hr => exact z141_); intro gb224 hg w20 hbox hb; have n0_ := q_ (below_step z0_ hb); have n1_ := q_ (hbox); have n2_ := q_ ((z104_ : w.heap.size ≤ gb224)); have n3_ := q_ ((z104_ : w.heap.size ≤ gb224)); clear HB; have HB := n0_; have BK224 := n1_; have GW224 := n2_; have GE224 := n3_; clear n0_ n1_ n2_ n3_; clear hb hbox hg; obtain ⟨hcz21_0, hcz21_1, hfz21_0, hfz21_1⟩ := cs2_ BK224.out) | (go_at_call 93; (with_reducible refine (impl_isKey.calls ((rd_T92 l0 x7_1).f0) true _ A5.out).mono ?_); rintro e w' ⟨rfl, ⟨nd, rfl⟩⟩; (try first | exact ⟨rfl, _, World.drewN_drewN _ _ _⟩ | exact ⟨rfl, _, Eq.trans (World.drewN_drewN _ _ _) (congrArg (World.drewN _) (Nat.add_assoc _ _ _))⟩)) | (go_at_call 94; (with_reducible refine (impl_isNum.calls ((rd_T92 l0 x7_1).f1) false _ A7.out).mono ?_); rintro e w' ⟨rfl, ⟨nd, rfl⟩⟩; (try first | exact ⟨rfl, _, World.drewN_drewN _ _ _⟩ | exact ⟨rfl, _, Eq.trans (World.drewN_drewN _ _ _) (congrArg (World.drewN _) (Nat.add_assoc _ _ _))⟩)))
        repeat (go_quiet (first | ((with_reducible refine gate_dst (N := 4) rfl ?_); refine box_event ?hg (N := 4) ?hd (cs := #[.int .i64 0, .int .i64 0]) (t := 92) ?hr ?_; (case hd => rfl); (case hg => rfl); (case hr => exact z141_); intro gb224 hg w20 hbox hb; have n0_ := q_ (below_step z0_ hb); have n1_ := q_ (hbox); have n2_ := q_ ((z104_ : w.heap.size ≤ gb224)); have n3_ := q_ ((z104_ : w.heap.size ≤ gb224)); clear HB; have HB := n0_; have BK224 := n1_; have GW224 := n2_; have GE224 := n3_; clear n0_ n1_ n2_ n3_; clear hb hbox hg; obtain ⟨hcz21_0, hcz21_1, hfz21_0, hfz21_1⟩ := cs2_ BK224.out) | (go_at_call 93; (with_reducible refine (impl_isKey.calls ((rd_T92 l0 x7_1).f0) true _ A5.out).mono ?_); rintro e w' ⟨rfl, ⟨nd, rfl⟩⟩; (try first | exact ⟨rfl, _, World.drewN_drewN _ _ _⟩ | exact ⟨rfl, _, Eq.trans (World.drewN_drewN _ _ _) (congrArg (World.drewN _) (Nat.add_assoc _ _ _))⟩)) | (go_at_call 94; (with_reducible refine (impl_isNum.calls ((rd_T92 l0 x7_1).f1) false _ A7.out).mono ?_); rintro e w' ⟨rfl, ⟨nd, rfl⟩⟩; (try first | exact ⟨rfl, _, World.drewN_drewN _ _ _⟩ | exact ⟨rfl, _, Eq.trans (World.drewN_drewN _ _ _) (congrArg (World.drewN _) (Nat.add_assoc _ _ _))⟩))); try go_wp2_with (first | ((with_reducible refine gate_dst (N := 4) rfl ?_); refine box_event ?hg (N := 4) ?hd (cs := #[.int .i64 0, .int .i64 0]) (t := 92) ?hr ?_; (case hd => rfl); (case hg => rfl); (case hr => exact z141_); intro gb224 hg w20 hbox hb; have n0_ := q_ (below_step z0_ hb); have n1_ := q_ (hbox); have n2_ := q_ ((z104_ : w.heap.size ≤ gb224)); have n3_ := q_ ((z104_ : w.heap.size ≤ gb224)); clear HB; have HB := n0_; have BK224 := n1_; have GW224 := n2_; have GE224 := n3_; clear n0_ n1_ n2_ n3_; clear hb hbox hg; obtain ⟨hcz21_0, hcz21_1, hfz21_0, hfz21_1⟩ := cs2_ BK224.out) | (go_at_call 93; (with_reducible refine (impl_isKey.calls ((rd_T92 l0 x7_1).f0) true _ A5.out).mono ?_); rintro e w' ⟨rfl, ⟨nd, rfl⟩⟩; (try first | exact ⟨rfl, _, World.drewN_drewN _ _ _⟩ | exact ⟨rfl, _, Eq.trans (World.drewN_drewN _ _ _) (congrArg (World.drewN _) (Nat.add_assoc _ _ _))⟩)) | (go_at_call 94; (with_reducible refine (impl_isNum.calls ((rd_T92 l0 x7_1).f1) false _ A7.out).mono ?_); rintro e w' ⟨rfl, ⟨nd, rfl⟩⟩; (try first | exact ⟨rfl, _, World.drewN_drewN _ _ _⟩ | exact ⟨rfl, _, Eq.trans (World.drewN_drewN _ _ _) (congrArg (World.drewN _) (Nat.add_assoc _ _ _))⟩))))
        go_ret
        exact ⟨z2_, z56_⟩
      ·replace c6 := Bool.eq_false_iff.mpr c6
       subst c6
       have H1 : (some false) = some r := by rw [if_neg (show ¬ (false = true) by decide)] at H; exact H
       clear H
       have H := H1
       clear H1
       obtain rfl := Option.some.inj H
       have p223 : 0 ≤ (x7_1 : Int) := of_decide_eq_true z3_
       have q223 : x7_1 < (l0.length : Int) := of_decide_eq_true z3_
       obtain ⟨ad223, e223, hx223_0, hx223_1⟩ := at_T92 HR0.out x7_1 p223 q223
       cases e223
       replace hx223_0 := up_ HB hx223_0
       replace hx223_1 := up_ HB hx223_1
       replace p223 := eq_true p223
       replace q223 := eq_true q223
       go_wp2_with (first | ((with_reducible refine gate_dst (N := 4) rfl ?_); refine box_event ?hg (N := 4) ?hd (cs := #[.int .i64 0, .int .i64 0]) (t := 92) ?hr ?_; (case hd => rfl); (case hg => rfl); (case hr => exact z141_); intro gb224 hg w22 hbox hb; have n0_ := q_ (below_step z0_ hb); have n1_ := q_ (hbox); have n2_ := q_ ((z104_ : w.heap.size ≤ gb224)); have n3_ := q_ ((z104_ : w.heap.size ≤ gb224)); clear HB; have HB := n0_; have BK224 := n1_; have GW224 := n2_; have GE224 := n3_; clear n0_ n1_ n2_ n3_; clear hb hbox hg; obtain ⟨hcz23_0, hcz23_1, hfz23_0, hfz23_1⟩ := cs2_ BK224.out) | (go_at_call 93; (with_reducible refine (impl_isKey.calls ((rd_T92 l0 x7_1).f0) false _ A5.out).mono ?_); rintro e w' ⟨rfl, ⟨nd, rfl⟩⟩; (try first | exact ⟨rfl, _, World.drewN_drewN _ _ _⟩ | exact ⟨rfl, _, Eq.trans (World.drewN_drewN _ _ _) (congrArg (World.drewN _) (Nat.add_assoc _ _ _))⟩)))
       repeat (go_quiet (first | ((with_reducible refine gate_dst (N := 4) rfl ?_); refine box_event ?hg (N := 4) ?hd (cs := #[.int .i64 0, .int .i64 0]) (t := 92) ?hr ?_; (case hd => rfl); (case hg => rfl); (case hr => exact z141_); intro gb224 hg w22 hbox hb; have n0_ := q_ (below_step z0_ hb); have n1_ := q_ (hbox); have n2_ := q_ ((z104_ : w.heap.size ≤ gb224)); have n3_ := q_ ((z104_ : w.heap.size ≤ gb224)); clear HB; have HB := n0_; have BK224 := n1_; have GW224 := n2_; have GE224 := n3_; clear n0_ n1_ n2_ n3_; clear hb hbox hg; obtain ⟨hcz23_0, hcz23_1, hfz23_0, hfz23_1⟩ := cs2_ BK224.out) | (go_at_call 93; (with_reducible refine (impl_isKey.calls ((rd_T92 l0 x7_1).f0) false _ A5.out).mono ?_); rintro e w' ⟨rfl, ⟨nd, rfl⟩⟩; (try first | exact ⟨rfl, _, World.drewN_drewN _ _ _⟩ | exact ⟨rfl, _, Eq.trans (World.drewN_drewN _ _ _) (congrArg (World.drewN _) (Nat.add_assoc _ _ _))⟩))); try go_wp2_with (first | ((with_reducible refine gate_dst (N := 4) rfl ?_); refine box_event ?hg (N := 4) ?hd (cs := #[.int .i64 0, .int .i64 0]) (t := 92) ?hr ?_; (case hd => rfl); (case hg => rfl); (case hr => exact z141_); intro gb224 hg w22 hbox hb; have n0_ := q_ (below_step z0_ hb); have n1_ := q_ (hbox); have n2_ := q_ ((z104_ : w.heap.size ≤ gb224)); have n3_ := q_ ((z104_ : w.heap.size ≤ gb224)); clear HB; have HB := n0_; have BK224 := n1_; have GW224 := n2_; have GE224 := n3_; clear n0_ n1_ n2_ n3_; clear hb hbox hg; obtain ⟨hcz23_0, hcz23_1, hfz23_0, hfz23_1⟩ := cs2_ BK224.out) | (go_at_call 93; (with_reducible refine (impl_isKey.calls ((rd_T92 l0 x7_1).f0) false _ A5.out).mono ?_); rintro e w' ⟨rfl, ⟨nd, rfl⟩⟩; (try first | exact ⟨rfl, _, World.drewN_drewN _ _ _⟩ | exact ⟨rfl, _, Eq.trans (World.drewN_drewN _ _ _) (congrArg (World.drewN _) (Nat.add_assoc _ _ _))⟩))))
       go_ret
       exact ⟨z2_, z56_⟩
     ·rw [if_neg c4] at H
      exact absurd H (by simp)
    ·rw [if_neg c3] at H
     exact absurd H (by simp)
   ·rw [if_neg c2] at H
    have c2b0 : decide (x7_1 < (l0.length : Int)) = false := decide_eq_false c2
    clear c2
    obtain rfl := Option.some.inj H
    go_wp2
    repeat (go_quiet (fail); try go_wp2)
    go_ret
    exact ⟨z2_, z0_⟩

/-! ### impl_leafOk_f1: function 123 -/
def impl_leafOk_f1.f (a0_0 : Int) (a0_1 : Int) (a28_0 : Int) (a36_0 : Int) : Option (Bool) := (impl_within.f a0_0 a28_0 (wrap64 (a36_0 - 1))).bind fun t229 => (some (!t229))
set_option maxHeartbeats 8000000 in
set_option maxRecDepth 100000 in
theorem impl_leafOk_f1.calls (a0_0 : Int) (a0_1 : Int) (gc28 : Nat) (a28_0 : Int) (gc36 : Nat) (a36_0 : Int) (r : Bool) (w : World) (hb28 : w.heap[gc28]? = some (.cells #[.int .i64 a28_0] 3 (0, 0))) (hb36 : w.heap[gc36]? = some (.cells #[.int .i64 a36_0] 3 (0, 0))) (h : impl_leafOk_f1.f a0_0 a0_1 a28_0 a36_0 = some r) :
  Calls Try.prog 123 #[.agg #[.int .i64 a0_0, .int .i64 a0_1], .pointer (some ⟨gc28, 0, none⟩), .pointer (some ⟨gc36, 0, none⟩)] w fun e w' => e = .returned (.bool r) ∧ Below w.heap.size w w' := by
 have hu92 := Try.underlying92
 have BK28 := q_ hb28
 clear hb28
 have BK36 := q_ hb36
 clear hb36
 have HB := q_ (Below.refl w.heap.size w)
 have H : ((impl_within.f a0_0 a28_0 (wrap64 (a36_0 - 1))).bind fun t229 => (some (!t229))) = some r := h
 clear h
 replace H := Option.bind_eq_some_iff.mp H
 obtain ⟨t229, A40, H⟩ := H
 replace H : (some (!t229)) = some r := H
 have A4 := q_ A40
 clear A40
 obtain rfl := Option.some.inj H
 go_enter Try.func123, Try.ntmps123
 go_wp2_with (first | ((with_reducible refine gate_dst (N := 3) rfl ?_); refine box_event ?hg (N := 3) ?hd (cs := #[.int .i64 a0_0, .int .i64 a0_1]) (t := 92) ?hr ?_; (case hd => rfl); (case hg => rfl); (case hr => exact z141_); intro gb228 hg w5 hbox hb; have n0_ := q_ (blk_below (g := gc28) (o := .cells #[.int .i64 a28_0] 3 (0, 0)) z24_ hb); have n1_ := q_ (blk_below (g := gc36) (o := .cells #[.int .i64 a36_0] 3 (0, 0)) z58_ hb); have n2_ := q_ (below_step z46_ hb); have n3_ := q_ (hbox); have n4_ := q_ ((z138_ : w.heap.size ≤ gb228)); have n5_ := q_ ((z138_ : w.heap.size ≤ gb228)); have n6_ := q_ ((z134_ : gc28 ≠ gb228)); have n7_ := q_ ((z135_ : gb228 ≠ gc28)); have n8_ := q_ ((z136_ : gc36 ≠ gb228)); have n9_ := q_ ((z137_ : gb228 ≠ gc36)); clear BK28; clear BK36; clear HB; have BK28 := n0_; have BK36 := n1_; have HB := n2_; have BK228 := n3_; have GW228 := n4_; have GE228 := n5_; have NB28_228 := n6_; have NB228_28 := n7_; have NB36_228 := n8_; have NB228_36 := n9_; clear n0_ n1_ n2_ n3_ n4_ n5_ n6_ n7_ n8_ n9_; clear hb hbox hg; have hnb6 := NB228_28.out; have hnc6 := NB28_228.out; have hnb7 := NB228_36.out; have hnc7 := NB36_228.out; obtain ⟨hcz8_0, hcz8_1, hfz8_0, hfz8_1⟩ := cs2_ BK228.out; have hcz9_0 : w5.cell? ⟨gc28, 0, none⟩ = some (.int .i64 a28_0) := (blk_cell BK28.out 0).trans rfl; have hfz9_0 := blk_frozen BK28.out 0; have hcz10_0 : w5.cell? ⟨gc36, 0, none⟩ = some (.int .i64 a36_0) := (blk_cell BK36.out 0).trans rfl; have hfz10_0 := blk_frozen BK36.out 0) | ((with_reducible refine gate_callee (f := 102) rfl ?_); refine goesL_ (some 10) rfl rfl Try.func102 (by kernel_rfl) rfl #[.int .i64 a0_0, .int .i64 a28_0, .int .i64 (wrap64 (a36_0 - 1))] rfl z1_ ?_; (with_reducible refine (impl_within.calls a0_0 a28_0 (wrap64 (a36_0 - 1)) t229 _ A4.out).mono ?_); rintro e w' ⟨rfl, ⟨nd, rfl⟩⟩; refine ⟨_, rfl, ?_⟩))
 go_ret
 exact ⟨z2_, z0_⟩

/-! ### slices_IndexFunc_Pair_123: function 118 -/
def slices_IndexFunc_Pair_123.l0 : Nat → List (S92) → Int → Int → Int → Int → Option (Int)
 | 0, _, _, _, _, _ => none
 | k + 1, x0, x7, x8, x29000, x30000 => if x8 < x7 then (if 0 ≤ x8 then (if x8 < (x0.length : Int) then ((impl_leafOk_f1.f ((rd_T92 x0 x8).f0) ((rd_T92 x0 x8).f1) x29000 x30000).bind fun t231 => (if t231 = true then (some x8) else (slices_IndexFunc_Pair_123.l0 k x0 x7 (wrap64 (x8 + 1)) x29000 x30000))) else (none)) else (none)) else (some (-1))
def slices_IndexFunc_Pair_123.f (k : Nat) (l0 : List (S92)) (a28_0 : Int) (a29_0 : Int) : Option (Int) := slices_IndexFunc_Pair_123.l0 k l0 (l0.length : Int) 0 a28_0 a29_0
theorem slices_IndexFunc_Pair_123.mono_l : ∀ k, (∀ y0 y1 y2 y3 y4, LeO (slices_IndexFunc_Pair_123.l0 k y0 y1 y2 y3 y4) (slices_IndexFunc_Pair_123.l0 (k + 1) y0 y1 y2 y3 y4))
 | 0 => fun _ _ _ _ _ r h => by simp [slices_IndexFunc_Pair_123.l0] at h
 | k + 1 => by
  have ih0 := slices_IndexFunc_Pair_123.mono_l k
  ·intro y0 y1 y2 y3 y4
   unfold slices_IndexFunc_Pair_123.l0
   repeat' first
   | (with_reducible exact ih0 _ _ _ _ _)
   | (with_reducible exact LeO.refl _)
   | (with_reducible exact LeO.none _)
   | (with_reducible refine LeO.ite ?_ ?_)
   | (with_reducible refine LeO.bind ?_ (fun _ => ?_))
   | exact ih0 _ _ _ _ _
   | exact LeO.none _
   | refine LeO.ite ?_ ?_
   | refine LeO.bind ?_ (fun _ => ?_)
theorem slices_IndexFunc_Pair_123.mono : ∀ a0 a1 a2 k, LeO (slices_IndexFunc_Pair_123.f k a0 a1 a2) (slices_IndexFunc_Pair_123.f (k + 1) a0 a1 a2) := by
 intro a0 a1 a2 k
 have ih0 := slices_IndexFunc_Pair_123.mono_l k
 unfold slices_IndexFunc_Pair_123.f
 repeat' first
   | (with_reducible exact ih0 _ _ _ _ _)
   | (with_reducible exact LeO.refl _)
   | (with_reducible exact LeO.none _)
   | (with_reducible refine LeO.ite ?_ ?_)
   | (with_reducible refine LeO.bind ?_ (fun _ => ?_))
   | exact ih0 _ _ _ _ _
   | exact LeO.none _
   | refine LeO.ite ?_ ?_
   | refine LeO.bind ?_ (fun _ => ?_)
set_option maxHeartbeats 8000000 in
set_option maxRecDepth 100000 in
theorem slices_IndexFunc_Pair_123.calls (k : Nat) (A0 : Option Addr) (c0 : Nat) (l0 : List (S92)) (gc28 : Nat) (gc29 : Nat) (a28_0 : Int) (a29_0 : Int) (r : Int) (w : World) (hr0 : Kd.C k92 w A0 l0.length l0) (hc0 : l0.length ≤ c0) (hb28 : w.heap[gc28]? = some (.cells #[.int .i64 a28_0] 3 (0, 0))) (hb29 : w.heap[gc29]? = some (.cells #[.int .i64 a29_0] 3 (0, 0))) (h : slices_IndexFunc_Pair_123.f k l0 a28_0 a29_0 = some r) :
  Calls Try.prog 118 #[.slice A0 l0.length c0, .func (.func 123) #[] #[.pointer (some ⟨gc28, 0, none⟩), .pointer (some ⟨gc29, 0, none⟩)]] w fun e w' => e = .returned (.int .i64 r) ∧ Below w.heap.size w w' := by
 have hu92 := Try.underlying92
 have HR0 := q_ hr0
 have HC0 := q_ hc0
 clear hr0 hc0
 have BK28 := q_ hb28
 clear hb28
 have BK29 := q_ hb29
 clear hb29
 have HB := q_ (Below.refl w.heap.size w)
 have H : (slices_IndexFunc_Pair_123.l0 k l0 (l0.length : Int) 0 a28_0 a29_0) = some r := h
 clear h
 have H' := q_ H
 clear H
 go_enter Try.func118, Try.ntmps118
 go_wp2
 go_loopg [8] k (fun kq v8 w' => ∃ (x8_1 : Int), v8 = .int .i64 x8_1 ∧ Aside0 (slices_IndexFunc_Pair_123.l0 kq l0 (l0.length : Int) x8_1 a28_0 a29_0 = some r) ∧ Aside0 (kq ≤ k) ∧ Aside0 (w'.heap[gc28]? = some (.cells #[.int .i64 a28_0] 3 (0, 0))) ∧ Aside0 (w'.heap[gc29]? = some (.cells #[.int .i64 a29_0] 3 (0, 0))) ∧ Aside0 (Below w.heap.size w w'))
 case atStart => exact ⟨(0), z8_, H', ⟨Nat.le_refl _⟩, ⟨z24_⟩, ⟨z44_⟩, ⟨z11_⟩⟩
 case round =>
  clear H'
  try clear c1
  try clear c2
  try clear p2
  obtain ⟨x8_1, rfl, HA, HK1, BK28, BK29, HB⟩ := hrel
  cases gk with
  | zero => exact absurd HA.out (by simp [slices_IndexFunc_Pair_123.l0])
  | succ k1 =>
   have H := HA.out
   clear HA
   simp only [slices_IndexFunc_Pair_123.l0] at H
   by_cases c3 : x8_1 < (l0.length : Int)
   ·rw [if_pos c3] at H
    have c3b0 : decide (x8_1 < (l0.length : Int)) = true := decide_eq_true c3
    clear c3
    by_cases c4 : 0 ≤ x8_1
    ·rw [if_pos c4] at H
     have c4b0 : decide (0 ≤ x8_1) = true := decide_eq_true c4
     clear c4
     by_cases c5 : x8_1 < (l0.length : Int)
     ·rw [if_pos c5] at H
      have c5b0 : decide (x8_1 < (l0.length : Int)) = true := decide_eq_true c5
      clear c5
      replace H := Option.bind_eq_some_iff.mp H
      obtain ⟨t231, A60, H⟩ := H
      replace H : (if t231 = true then (some x8_1) else (slices_IndexFunc_Pair_123.l0 k1 l0 (l0.length : Int) (wrap64 (x8_1 + 1)) a28_0 a29_0)) = some r := H
      have A6 := q_ A60
      clear A60
      by_cases c7 : t231 = true
      ·subst c7
       have H1 : (some x8_1) = some r := z45_
       clear H
       have H := H1
       clear H1
       obtain rfl := Option.some.inj H
       have p230 : 0 ≤ (x8_1 : Int) := of_decide_eq_true z3_
       have q230 : x8_1 < (l0.length : Int) := of_decide_eq_true z3_
       obtain ⟨ad230, e230, hx230_0, hx230_1⟩ := at_T92 HR0.out x8_1 p230 q230
       cases e230
       replace hx230_0 := up_ HB hx230_0
       replace hx230_1 := up_ HB hx230_1
       replace p230 := eq_true p230
       replace q230 := eq_true q230
       go_wp2_with (first | (go_at_call 123; refine calls_of_args (args' := #[.agg #[.int .i64 ((rd_T92 l0 x8_1).f0), .int .i64 ((rd_T92 l0 x8_1).f1)], .pointer (some ⟨gc28, 0, none⟩), .pointer (some ⟨gc29, 0, none⟩)]) (by first | rfl | rfl) ?_; (with_reducible refine (impl_leafOk_f1.calls ((rd_T92 l0 x8_1).f0) ((rd_T92 l0 x8_1).f1) gc28 a28_0 gc29 a29_0 true _ ?side1 ?side2 A6.out).mono ?_); (case side1 => exact z155_); (case side2 => exact z156_); rintro e w8 ⟨rfl, hb⟩; have n0_ := q_ (blk_below (g := gc28) (o := .cells #[.int .i64 a28_0] 3 (0, 0)) z24_ hb); have n1_ := q_ (blk_below (g := gc29) (o := .cells #[.int .i64 a29_0] 3 (0, 0)) z44_ hb); have n2_ := q_ (below_step z11_ hb); clear BK28; clear BK29; clear HB; have BK28 := n0_; have BK29 := n1_; have HB := n2_; clear n0_ n1_ n2_; (try clear hb); (try clear hb2); (try clear hk); (try clear hi)))
       go_ret
       exact ⟨z2_, z11_⟩
      ·replace c7 := Bool.eq_false_iff.mpr c7
       subst c7
       have H1 : (slices_IndexFunc_Pair_123.l0 k1 l0 (l0.length : Int) (wrap64 (x8_1 + 1)) a28_0 a29_0) = some r := by rw [if_neg (show ¬ (false = true) by decide)] at H; exact H
       clear H
       have H := H1
       clear H1
       have H' := q_ H
       clear H
       have p230 : 0 ≤ (x8_1 : Int) := of_decide_eq_true z3_
       have q230 : x8_1 < (l0.length : Int) := of_decide_eq_true z3_
       obtain ⟨ad230, e230, hx230_0, hx230_1⟩ := at_T92 HR0.out x8_1 p230 q230
       cases e230
       replace hx230_0 := up_ HB hx230_0
       replace hx230_1 := up_ HB hx230_1
       replace p230 := eq_true p230
       replace q230 := eq_true q230
       go_wp2_with (first | (go_at_call 123; refine calls_of_args (args' := #[.agg #[.int .i64 ((rd_T92 l0 x8_1).f0), .int .i64 ((rd_T92 l0 x8_1).f1)], .pointer (some ⟨gc28, 0, none⟩), .pointer (some ⟨gc29, 0, none⟩)]) (by first | rfl | rfl) ?_; (with_reducible refine (impl_leafOk_f1.calls ((rd_T92 l0 x8_1).f0) ((rd_T92 l0 x8_1).f1) gc28 a28_0 gc29 a29_0 false _ ?side1 ?side2 A6.out).mono ?_); (case side1 => exact z155_); (case side2 => exact z156_); rintro e w9 ⟨rfl, hb⟩; have n0_ := q_ (blk_below (g := gc28) (o := .cells #[.int .i64 a28_0] 3 (0, 0)) z24_ hb); have n1_ := q_ (blk_below (g := gc29) (o := .cells #[.int .i64 a29_0] 3 (0, 0)) z44_ hb); have n2_ := q_ (below_step z11_ hb); clear BK28; clear BK29; clear HB; have BK28 := n0_; have BK29 := n1_; have HB := n2_; clear n0_ n1_ n2_; (try clear hb); (try clear hb2); (try clear hk); (try clear hi)))
       go_roundg k1
       case measure => have := HK1.out; omega
       case rel => exact ⟨(wrap64 (x8_1 + 1)), z8_, H', ⟨z79_⟩, ⟨z24_⟩, ⟨z44_⟩, ⟨z11_⟩⟩
     ·rw [if_neg c5] at H
      exact absurd H (by simp)
    ·rw [if_neg c4] at H
     exact absurd H (by simp)
   ·rw [if_neg c3] at H
    have c3b0 : decide (x8_1 < (l0.length : Int)) = false := decide_eq_false c3
    clear c3
    obtain rfl := Option.some.inj H
    go_wp2
    go_ret
    exact ⟨z2_, z11_⟩

/-! ### slices_ContainsFunc_Pair_123: function 122 -/
def slices_ContainsFunc_Pair_123.f (k : Nat) (l0 : List (S92)) (a28_0 : Int) (a29_0 : Int) : Option (Bool) := (slices_IndexFunc_Pair_123.f k l0 a28_0 a29_0).bind fun t232 => (some (decide (t232 ≥ 0)))
theorem slices_ContainsFunc_Pair_123.mono : ∀ a0 a1 a2 k, LeO (slices_ContainsFunc_Pair_123.f k a0 a1 a2) (slices_ContainsFunc_Pair_123.f (k + 1) a0 a1 a2) := by
 intro a0 a1 a2 k
 unfold slices_ContainsFunc_Pair_123.f
 repeat' first
   | (with_reducible exact slices_IndexFunc_Pair_123.mono _ _ _ _)
   | (with_reducible exact LeO.refl _)
   | (with_reducible exact LeO.none _)
   | (with_reducible refine LeO.ite ?_ ?_)
   | (with_reducible refine LeO.bind ?_ (fun _ => ?_))
   | exact slices_IndexFunc_Pair_123.mono _ _ _ _
   | exact LeO.none _
   | refine LeO.ite ?_ ?_
   | refine LeO.bind ?_ (fun _ => ?_)
set_option maxHeartbeats 8000000 in
set_option maxRecDepth 100000 in
theorem slices_ContainsFunc_Pair_123.calls (k : Nat) (A0 : Option Addr) (c0 : Nat) (l0 : List (S92)) (gc28 : Nat) (gc29 : Nat) (a28_0 : Int) (a29_0 : Int) (r : Bool) (w : World) (hr0 : Kd.C k92 w A0 l0.length l0) (hc0 : l0.length ≤ c0) (hb28 : w.heap[gc28]? = some (.cells #[.int .i64 a28_0] 3 (0, 0))) (hb29 : w.heap[gc29]? = some (.cells #[.int .i64 a29_0] 3 (0, 0))) (h : slices_ContainsFunc_Pair_123.f k l0 a28_0 a29_0 = some r) :
  Calls Try.prog 122 #[.slice A0 l0.length c0, .func (.func 123) #[] #[.pointer (some ⟨gc28, 0, none⟩), .pointer (some ⟨gc29, 0, none⟩)]] w fun e w' => e = .returned (.bool r) ∧ Below w.heap.size w w' := by
 have HR0 := q_ hr0
 have HC0 := q_ hc0
 clear hr0 hc0
 have BK28 := q_ hb28
 clear hb28
 have BK29 := q_ hb29
 clear hb29
 have HB := q_ (Below.refl w.heap.size w)
 have H : ((slices_IndexFunc_Pair_123.f k l0 a28_0 a29_0).bind fun t232 => (some (decide (t232 ≥ 0)))) = some r := h
 clear h
 replace H := Option.bind_eq_some_iff.mp H
 obtain ⟨t232, A30, H⟩ := H
 replace H : (some (decide (t232 ≥ 0))) = some r := H
 have A3 := q_ A30
 clear A30
 obtain rfl := Option.some.inj H
 go_enter Try.func122, Try.ntmps122
 go_wp2_with (first | ((with_reducible refine gate_callee (f := 118) rfl ?_); refine goesL_ (some 7) rfl rfl Try.func118 (by kernel_rfl) rfl #[.slice A0 l0.length c0, .func (.func 123) #[] #[.pointer (some ⟨gc28, 0, none⟩), .pointer (some ⟨gc29, 0, none⟩)]] rfl z1_ ?_; (with_reducible refine (slices_IndexFunc_Pair_123.calls k _ _ l0 gc28 gc29 a28_0 a29_0 t232 _ ?side1 ?side2 ?side3 ?side4 A3.out).mono ?_); (case side1 => exact z199_); (case side2 => exact HC0.out); (case side3 => exact z155_); (case side4 => exact z156_); rintro e w4 ⟨rfl, hb⟩; refine ⟨_, rfl, ?_⟩; have n0_ := q_ (blk_below (g := gc28) (o := .cells #[.int .i64 a28_0] 3 (0, 0)) z24_ hb); have n1_ := q_ (blk_below (g := gc29) (o := .cells #[.int .i64 a29_0] 3 (0, 0)) z44_ hb); have n2_ := q_ (below_step z11_ hb); clear BK28; clear BK29; clear HB; have BK28 := n0_; have BK29 := n1_; have HB := n2_; clear n0_ n1_ n2_; (try clear hb); (try clear hb2); (try clear hk); (try clear hi)))
 go_ret
 exact ⟨z2_, z11_⟩

/-! ### impl_leafOk: function 101 -/
def impl_leafOk.f (k : Nat) (a0_0 : Bool) (l0_1 : List (S92)) (l0_2 : List Int) (l0_3 : List (S34)) (l0_4 : List (S72)) (a1 : Int) (a2 : Int) : Option (Bool) := (impl_MapOk.f k l0_1).bind fun t236 => (if t236 = true then (if (l0_1.length : Int) > 4 then (some false) else (if (l0_2.length : Int) > 0 then (some false) else (if (l0_3.length : Int) > 0 then (some false) else (if (l0_4.length : Int) > 0 then (some false) else ((slices_ContainsFunc_Pair_123.f k l0_1 a1 a2).bind fun t237 => (some (!t237))))))) else (some false))
theorem impl_leafOk.mono : ∀ a0 a1 a2 a3 a4 a5 a6 k, LeO (impl_leafOk.f k a0 a1 a2 a3 a4 a5 a6) (impl_leafOk.f (k + 1) a0 a1 a2 a3 a4 a5 a6) := by
 intro a0 a1 a2 a3 a4 a5 a6 k
 unfold impl_leafOk.f
 repeat' first
   | (with_reducible exact impl_MapOk.mono _ _)
   | (with_reducible exact slices_ContainsFunc_Pair_123.mono _ _ _ _)
   | (with_reducible exact LeO.refl _)
   | (with_reducible exact LeO.none _)
   | (with_reducible refine LeO.ite ?_ ?_)
   | (with_reducible refine LeO.bind ?_ (fun _ => ?_))
   | exact impl_MapOk.mono _ _
   | exact slices_ContainsFunc_Pair_123.mono _ _ _ _
   | exact LeO.none _
   | refine LeO.ite ?_ ?_
   | refine LeO.bind ?_ (fun _ => ?_)
set_option maxHeartbeats 8000000 in
set_option maxRecDepth 100000 in
theorem impl_leafOk.calls (k : Nat) (a0_0 : Bool) (A0_1 : Option Addr) (c0_1 : Nat) (l0_1 : List (S92)) (A0_2 : Option Addr) (c0_2 : Nat) (l0_2 : List Int) (A0_3 : Option Addr) (c0_3 : Nat) (l0_3 : List (S34)) (A0_4 : Option Addr) (c0_4 : Nat) (l0_4 : List (S72)) (a1 : Int) (a2 : Int) (r : Bool) (w : World) (hr0_1 : Kd.C k92 w A0_1 l0_1.length l0_1) (hc0_1 : l0_1.length ≤ c0_1) (hr0_2 : Kd.C (Kd.int .i64) w A0_2 l0_2.length l0_2) (hc0_2 : l0_2.length ≤ c0_2) (hr0_3 : Kd.C k34 w A0_3 l0_3.length l0_3) (hc0_3 : l0_3.length ≤ c0_3) (hr0_4 : Kd.C k72 w A0_4 l0_4.length l0_4) (hc0_4 : l0_4.length ≤ c0_4) (h : impl_leafOk.f k a0_0 l0_1 l0_2 l0_3 l0_4 a1 a2 = some r) :
  Calls Try.prog 101 #[.agg #[.bool a0_0, .slice A0_1 l0_1.length c0_1, .slice A0_2 l0_2.length c0_2, .slice A0_3 l0_3.length c0_3, .slice A0_4 l0_4.length c0_4], .int .i64 a1, .int .i64 a2] w fun e w' => e = .returned (.bool r) ∧ Below w.heap.size w w' := by
 have hu34 := Try.underlying34
 have HR0_1 := q_ hr0_1
 have HC0_1 := q_ hc0_1
 clear hr0_1 hc0_1
 have HR0_2 := q_ hr0_2
 have HC0_2 := q_ hc0_2
 clear hr0_2 hc0_2
 have HR0_3 := q_ hr0_3
 have HC0_3 := q_ hc0_3
 clear hr0_3 hc0_3
 have HR0_4 := q_ hr0_4
 have HC0_4 := q_ hc0_4
 clear hr0_4 hc0_4
 have HB := q_ (Below.refl w.heap.size w)
 have H : ((impl_MapOk.f k l0_1).bind fun t236 => (if t236 = true then (if (l0_1.length : Int) > 4 then (some false) else (if (l0_2.length : Int) > 0 then (some false) else (if (l0_3.length : Int) > 0 then (some false) else (if (l0_4.length : Int) > 0 then (some false) else ((slices_ContainsFunc_Pair_123.f k l0_1 a1 a2).bind fun t237 => (some (!t237))))))) else (some false))) = some r := h
 clear h
 replace H := Option.bind_eq_some_iff.mp H
 obtain ⟨t236, A40, H⟩ := H
 replace H : (if t236 = true then (if (l0_1.length : Int) > 4 then (some false) else (if (l0_2.length : Int) > 0 then (some false) else (if (l0_3.length : Int) > 0 then (some false) else (if (l0_4.length : Int) > 0 then (some false) else ((slices_ContainsFunc_Pair_123.f k l0_1 a1 a2).bind fun t237 => (some (!t237))))))) else (some false)) = some r := H
 have A4 := q_ A40
 clear A40
 by_cases c5 : t236 = true
 ·subst c5
  have H1 : (if (l0_1.length : Int) > 4 then (some false) else (if (l0_2.length : Int) > 0 then (some false) else (if (l0_3.length : Int) > 0 then (some false) else (if (l0_4.length : Int) > 0 then (some false) else ((slices_ContainsFunc_Pair_123.f k l0_1 a1 a2).bind fun t237 => (some (!t237))))))) = some r := z45_
  clear H
  have H := H1
  clear H1
  by_cases c6 : (l0_1.length : Int) > 4
  ·rw [if_pos c6] at H
   have c6b0 : decide (4 < (l0_1.length : Int)) = true := decide_eq_true c6
   have c6b1 : decide (4 < l0_1.length) = true := decide_eq_true (by omega)
   clear c6
   obtain rfl := Option.some.inj H
   go_enter Try.func101, Try.ntmps101
   go_wp2_with (first | ((with_reducible refine gate_dst (N := 3) rfl ?_); (try (refine gate_guard (by rfl) ?_; dsimp only)); refine box_event ?hg (N := 3) ?hd (cs := #[.bool a0_0, .slice A0_1 l0_1.length c0_1, .slice A0_2 l0_2.length c0_2, .slice A0_3 l0_3.length c0_3, .slice A0_4 l0_4.length c0_4]) (t := 34) ?hr ?_; (case hd => rfl); (case hg => rfl); (case hr => exact z141_); intro gb233 hg w7 hbox hb; have n0_ := q_ (below_step z0_ hb); have n1_ := q_ (hbox); have n2_ := q_ ((z104_ : w.heap.size ≤ gb233)); have n3_ := q_ ((z104_ : w.heap.size ≤ gb233)); clear HB; have HB := n0_; have BK233 := n1_; have GW233 := n2_; have GE233 := n3_; clear n0_ n1_ n2_ n3_; clear hb hbox hg) | ((with_reducible refine gate_dst (N := 4) rfl ?_); (try (refine gate_guard (by rfl) ?_; dsimp only)); refine box_event ?hg (N := 4) ?hd (cs := #[.int .i64 a1]) (t := 3) ?hr ?_; (case hd => rfl); (case hg => rfl); (case hr => exact z141_); intro gb234 hg w8 hbox hb; have n0_ := q_ (blk_below (g := gb233) (o := .cells #[.bool a0_0, .slice A0_1 l0_1.length c0_1, .slice A0_2 l0_2.length c0_2, .slice A0_3 l0_3.length c0_3, .slice A0_4 l0_4.length c0_4] 34 (0, 0)) z7_ hb); have n1_ := q_ (below_step z4_ hb); have n2_ := q_ (hbox); have n3_ := q_ ((z112_ : w.heap.size ≤ gb234)); have n4_ := q_ ((z112_ : w.heap.size ≤ gb234)); have n5_ := q_ ((z105_ : gb233 ≠ gb234)); have n6_ := q_ ((z106_ : gb234 ≠ gb233)); clear BK233; clear HB; have BK233 := n0_; have HB := n1_; have BK234 := n2_; have GW234 := n3_; have GE234 := n4_; have NB233_234 := n5_; have NB234_233 := n6_; clear n0_ n1_ n2_ n3_ n4_ n5_ n6_; clear hb hbox hg) | ((with_reducible refine gate_dst (N := 5) rfl ?_); (try (refine gate_guard (by rfl) ?_; dsimp only)); refine box_event ?hg (N := 5) ?hd (cs := #[.int .i64 a2]) (t := 3) ?hr ?_; (case hd => rfl); (case hg => rfl); (case hr => exact z141_); intro gb235 hg w9 hbox hb; have n0_ := q_ (blk_below (g := gb233) (o := .cells #[.bool a0_0, .slice A0_1 l0_1.length c0_1, .slice A0_2 l0_2.length c0_2, .slice A0_3 l0_3.length c0_3, .slice A0_4 l0_4.length c0_4] 34 (0, 0)) z7_ hb); have n1_ := q_ (below_step z4_ hb); have n2_ := q_ (hbox); have n3_ := q_ ((z112_ : w.heap.size ≤ gb235)); have n4_ := q_ ((z112_ : w.heap.size ≤ gb235)); have n5_ := q_ ((z105_ : gb233 ≠ gb235)); have n6_ := q_ ((z106_ : gb235 ≠ gb233)); clear BK233; clear HB; have BK233 := n0_; have HB := n1_; have BK235 := n2_; have GW235 := n3_; have GE235 := n4_; have NB233_235 := n5_; have NB235_233 := n6_; clear n0_ n1_ n2_ n3_ n4_ n5_ n6_; clear hb hbox hg; have hnb10 := NB233_235.out; have hnc10 := NB235_233.out; obtain ⟨hcz11_0, hcz11_1, hcz11_2, hcz11_3, hcz11_4, hfz11_0, hfz11_1, hfz11_2, hfz11_3, hfz11_4⟩ := cs5_ BK233.out) | ((with_reducible refine gate_callee (f := 51) rfl ?_); refine goesL_ (some 9) rfl rfl Try.func51 (by kernel_rfl) rfl #[.slice A0_1 l0_1.length c0_1] rfl z1_ ?_; (with_reducible refine (impl_MapOk.calls k _ _ l0_1 true _ ?side1 ?side2 A4.out).mono ?_); (case side1 => exact z140_); (case side2 => exact z157_); rintro e w12 ⟨rfl, hb⟩; refine ⟨_, rfl, ?_⟩; have n0_ := q_ (blk_below (g := gb233) (o := .cells #[.bool a0_0, .slice A0_1 l0_1.length c0_1, .slice A0_2 l0_2.length c0_2, .slice A0_3 l0_3.length c0_3, .slice A0_4 l0_4.length c0_4] 34 (0, 0)) z7_ hb); have n1_ := q_ (below_step z4_ hb); clear BK233; clear HB; have BK233 := n0_; have HB := n1_; clear n0_ n1_; (try clear hb); (try clear hb2); (try clear hk); (try clear hi); obtain ⟨hcz13_0, hcz13_1, hcz13_2, hcz13_3, hcz13_4, hfz13_0, hfz13_1, hfz13_2, hfz13_3, hfz13_4⟩ := cs5_ BK233.out))
   go_ret
   exact ⟨z2_, z4_⟩
  ·rw [if_neg c6] at H
   have c6b0 : decide (4 < (l0_1.length : Int)) = false := decide_eq_false c6
   have c6b1 : decide (4 < l0_1.length) = false := decide_eq_false (by omega)
   clear c6
   by_cases c14 : (l0_2.length : Int) > 0
   ·rw [if_pos c14] at H
    have c14b0 : decide (0 < (l0_2.length : Int)) = true := decide_eq_true c14
    have c14b1 : decide (0 < l0_2.length) = true := decide_eq_true (by omega)
    clear c14
    obtain rfl := Option.some.inj H
    go_enter Try.func101, Try.ntmps101
    go_wp2_with (first | ((with_reducible refine gate_dst (N := 3) rfl ?_); (try (refine gate_guard (by rfl) ?_; dsimp only)); refine box_event ?hg (N := 3) ?hd (cs := #[.bool a0_0, .slice A0_1 l0_1.length c0_1, .slice A0_2 l0_2.length c0_2, .slice A0_3 l0_3.length c0_3, .slice A0_4 l0_4.length c0_4]) (t := 34) ?hr ?_; (case hd => rfl); (case hg => rfl); (case hr => exact z141_); intro gb233 hg w15 hbox hb; have n0_ := q_ (below_step z0_ hb); have n1_ := q_ (hbox); have n2_ := q_ ((z104_ : w.heap.size ≤ gb233)); have n3_ := q_ ((z104_ : w.heap.size ≤ gb233)); clear HB; have HB := n0_; have BK233 := n1_; have GW233 := n2_; have GE233 := n3_; clear n0_ n1_ n2_ n3_; clear hb hbox hg) | ((with_reducible refine gate_dst (N := 4) rfl ?_); (try (refine gate_guard (by rfl) ?_; dsimp only)); refine box_event ?hg (N := 4) ?hd (cs := #[.int .i64 a1]) (t := 3) ?hr ?_; (case hd => rfl); (case hg => rfl); (case hr => exact z141_); intro gb234 hg w16 hbox hb; have n0_ := q_ (blk_below (g := gb233) (o := .cells #[.bool a0_0, .slice A0_1 l0_1.length c0_1, .slice A0_2 l0_2.length c0_2, .slice A0_3 l0_3.length c0_3, .slice A0_4 l0_4.length c0_4] 34 (0, 0)) z7_ hb); have n1_ := q_ (below_step z4_ hb); have n2_ := q_ (hbox); have n3_ := q_ ((z112_ : w.heap.size ≤ gb234)); have n4_ := q_ ((z112_ : w.heap.size ≤ gb234)); have n5_ := q_ ((z105_ : gb233 ≠ gb234)); have n6_ := q_ ((z106_ : gb234 ≠ gb233)); clear BK233; clear HB; have BK233 := n0_; have HB := n1_; have BK234 := n2_; have GW234 := n3_; have GE234 := n4_; have NB233_234 := n5_; have NB234_233 := n6_; clear n0_ n1_ n2_ n3_ n4_ n5_ n6_; clear hb hbox hg) | ((with_reducible refine gate_dst (N := 5) rfl ?_); (try (refine gate_guard (by rfl) ?_; dsimp only)); refine box_event ?hg (N := 5) ?hd (cs := #[.int .i64 a2]) (t := 3) ?hr ?_; (case hd => rfl); (case hg => rfl); (case hr => exact z141_); intro gb235 hg w17 hbox hb; have n0_ := q_ (blk_below (g := gb233) (o := .cells #[.bool a0_0, .slice A0_1 l0_1.length c0_1, .slice A0_2 l0_2.length c0_2, .slice A0_3 l0_3.length c0_3, .slice A0_4 l0_4.length c0_4] 34 (0, 0)) z7_ hb); have n1_ := q_ (below_step z4_ hb); have n2_ := q_ (hbox); have n3_ := q_ ((z112_ : w.heap.size ≤ gb235)); have n4_ := q_ ((z112_ : w.heap.size ≤ gb235)); have n5_ := q_ ((z105_ : gb233 ≠ gb235)); have n6_ := q_ ((z106_ : gb235 ≠ gb233)); clear BK233; clear HB; have BK233 := n0_; have HB := n1_; have BK235 := n2_; have GW235 := n3_; have GE235 := n4_; have NB233_235 := n5_; have NB235_233 := n6_; clear n0_ n1_ n2_ n3_ n4_ n5_ n6_; clear hb hbox hg; have hnb18 := NB233_235.out; have hnc18 := NB235_233.out; obtain ⟨hcz19_0, hcz19_1, hcz19_2, hcz19_3, hcz19_4, hfz19_0, hfz19_1, hfz19_2, hfz19_3, hfz19_4⟩ := cs5_ BK233.out) | ((with_reducible refine gate_callee (f := 51) rfl ?_); refine goesL_ (some 9) rfl rfl Try.func51 (by kernel_rfl) rfl #[.slice A0_1 l0_1.length c0_1] rfl z1_ ?_; (with_reducible refine (impl_MapOk.calls k _ _ l0_1 true _ ?side1 ?side2 A4.out).mono ?_); (case side1 => exact z140_); (case side2 => exact z157_); rintro e w20 ⟨rfl, hb⟩; refine ⟨_, rfl, ?_⟩; have n0_ := q_ (blk_below (g := gb233) (o := .cells #[.bool a0_0, .slice A0_1 l0_1.length c0_1, .slice A0_2 l0_2.length c0_2, .slice A0_3 l0_3.length c0_3, .slice A0_4 l0_4.length c0_4] 34 (0, 0)) z7_ hb); have n1_ := q_ (below_step z4_ hb); clear BK233; clear HB; have BK233 := n0_; have HB := n1_; clear n0_ n1_; (try clear hb); (try clear hb2); (try clear hk); (try clear hi); obtain ⟨hcz21_0, hcz21_1, hcz21_2, hcz21_3, hcz21_4, hfz21_0, hfz21_1, hfz21_2, hfz21_3, hfz21_4⟩ := cs5_ BK233.out))
    go_ret
    exact ⟨z2_, z4_⟩
   ·rw [if_neg c14] at H
    have c14b0 : decide (0 < (l0_2.length : Int)) = false := decide_eq_false c14
    have c14b1 : decide (0 < l0_2.length) = false := decide_eq_false (by omega)
    clear c14
    by_cases c22 : (l0_3.length : Int) > 0
    ·rw [if_pos c22] at H
     have c22b0 : decide (0 < (l0_3.length : Int)) = true := decide_eq_true c22
     have c22b1 : decide (0 < l0_3.length) = true := decide_eq_true (by omega)
     clear c22
     obtain rfl := Option.some.inj H
     go_enter Try.func101, Try.ntmps101
     go_wp2_with (first | ((with_reducible refine gate_dst (N := 3) rfl ?_); (try (refine gate_guard (by rfl) ?_; dsimp only)); refine box_event ?hg (N := 3) ?hd (cs := #[.bool a0_0, .slice A0_1 l0_1.length c0_1, .slice A0_2 l0_2.length c0_2, .slice A0_3 l0_3.length c0_3, .slice A0_4 l0_4.length c0_4]) (t := 34) ?hr ?_; (case hd => rfl); (case hg => rfl); (case hr => exact z141_); intro gb233 hg w23 hbox hb; have n0_ := q_ (below_step z0_ hb); have n1_ := q_ (hbox); have n2_ := q_ ((z104_ : w.heap.size ≤ gb233)); have n3_ := q_ ((z104_ : w.heap.size ≤ gb233)); clear HB; have HB := n0_; have BK233 := n1_; have GW233 := n2_; have GE233 := n3_; clear n0_ n1_ n2_ n3_; clear hb hbox hg) | ((with_reducible refine gate_dst (N := 4) rfl ?_); (try (refine gate_guard (by rfl) ?_; dsimp only)); refine box_event ?hg (N := 4) ?hd (cs := #[.int .i64 a1]) (t := 3) ?hr ?_; (case hd => rfl); (case hg => rfl); (case hr => exact z141_); intro gb234 hg w24 hbox hb; have n0_ := q_ (blk_below (g := gb233) (o := .cells #[.bool a0_0, .slice A0_1 l0_1.length c0_1, .slice A0_2 l0_2.length c0_2, .slice A0_3 l0_3.length c0_3, .slice A0_4 l0_4.length c0_4] 34 (0, 0)) z7_ hb); have n1_ := q_ (below_step z4_ hb); have n2_ := q_ (hbox); have n3_ := q_ ((z112_ : w.heap.size ≤ gb234)); have n4_ := q_ ((z112_ : w.heap.size ≤ gb234)); have n5_ := q_ ((z105_ : gb233 ≠ gb234)); have n6_ := q_ ((z106_ : gb234 ≠ gb233)); clear BK233; clear HB; have BK233 := n0_; have HB := n1_; have BK234 := n2_; have GW234 := n3_; have GE234 := n4_; have NB233_234 := n5_; have NB234_233 := n6_; clear n0_ n1_ n2_ n3_ n4_ n5_ n6_; clear hb hbox hg) | ((with_reducible refine gate_dst (N := 5) rfl ?_); (try (refine gate_guard (by rfl) ?_; dsimp only)); refine box_event ?hg (N := 5) ?hd (cs := #[.int .i64 a2]) (t := 3) ?hr ?_; (case hd => rfl); (case hg => rfl); (case hr => exact z141_); intro gb235 hg w25 hbox hb; have n0_ := q_ (blk_below (g := gb233) (o := .cells #[.bool a0_0, .slice A0_1 l0_1.length c0_1, .slice A0_2 l0_2.length c0_2, .slice A0_3 l0_3.length c0_3, .slice A0_4 l0_4.length c0_4] 34 (0, 0)) z7_ hb); have n1_ := q_ (below_step z4_ hb); have n2_ := q_ (hbox); have n3_ := q_ ((z112_ : w.heap.size ≤ gb235)); have n4_ := q_ ((z112_ : w.heap.size ≤ gb235)); have n5_ := q_ ((z105_ : gb233 ≠ gb235)); have n6_ := q_ ((z106_ : gb235 ≠ gb233)); clear BK233; clear HB; have BK233 := n0_; have HB := n1_; have BK235 := n2_; have GW235 := n3_; have GE235 := n4_; have NB233_235 := n5_; have NB235_233 := n6_; clear n0_ n1_ n2_ n3_ n4_ n5_ n6_; clear hb hbox hg; have hnb26 := NB233_235.out; have hnc26 := NB235_233.out; obtain ⟨hcz27_0, hcz27_1, hcz27_2, hcz27_3, hcz27_4, hfz27_0, hfz27_1, hfz27_2, hfz27_3, hfz27_4⟩ := cs5_ BK233.out) | ((with_reducible refine gate_callee (f := 51) rfl ?_); refine goesL_ (some 9) rfl rfl Try.func51 (by kernel_rfl) rfl #[.slice A0_1 l0_1.length c0_1] rfl z1_ ?_; (with_reducible refine (impl_MapOk.calls k _ _ l0_1 true _ ?side1 ?side2 A4.out).mono ?_); (case side1 => exact z140_); (case side2 => exact z157_); rintro e w28 ⟨rfl, hb⟩; refine ⟨_, rfl, ?_⟩; have n0_ := q_ (blk_below (g := gb233) (o := .cells #[.bool a0_0, .slice A0_1 l0_1.length c0_1, .slice A0_2 l0_2.length c0_2, .slice A0_3 l0_3.length c0_3, .slice A0_4 l0_4.length c0_4] 34 (0, 0)) z7_ hb); have n1_ := q_ (below_step z4_ hb); clear BK233; clear HB; have BK233 := n0_; have HB := n1_; clear n0_ n1_; (try clear hb); (try clear hb2); (try clear hk); (try clear hi); obtain ⟨hcz29_0, hcz29_1, hcz29_2, hcz29_3, hcz29_4, hfz29_0, hfz29_1, hfz29_2, hfz29_3, hfz29_4⟩ := cs5_ BK233.out))
     go_ret
     exact ⟨z2_, z4_⟩
    ·rw [if_neg c22] at H
     have c22b0 : decide (0 < (l0_3.length : Int)) = false := decide_eq_false c22
     have c22b1 : decide (0 < l0_3.length) = false := decide_eq_false (by omega)
     clear c22
     by_cases c30 : (l0_4.length : Int) > 0
     ·rw [if_pos c30] at H
      have c30b0 : decide (0 < (l0_4.length : Int)) = true := decide_eq_true c30
      have c30b1 : decide (0 < l0_4.length) = true := decide_eq_true (by omega)
      clear c30
      obtain rfl := Option.some.inj H
      go_enter Try.func101, Try.ntmps101
      go_wp2_with (first | ((with_reducible refine gate_dst (N := 3) rfl ?_); (try (refine gate_guard (by rfl) ?_; dsimp only)); refine box_event ?hg (N := 3) ?hd (cs := #[.bool a0_0, .slice A0_1 l0_1.length c0_1, .slice A0_2 l0_2.length c0_2, .slice A0_3 l0_3.length c0_3, .slice A0_4 l0_4.length c0_4]) (t := 34) ?hr ?_; (case hd => rfl); (case hg => rfl); (case hr => exact z141_); intro gb233 hg w31 hbox hb; have n0_ := q_ (below_step z0_ hb); have n1_ := q_ (hbox); have n2_ := q_ ((z104_ : w.heap.size ≤ gb233)); have n3_ := q_ ((z104_ : w.heap.size ≤ gb233)); clear HB; have HB := n0_; have BK233 := n1_; have GW233 := n2_; have GE233 := n3_; clear n0_ n1_ n2_ n3_; clear hb hbox hg) | ((with_reducible refine gate_dst (N := 4) rfl ?_); (try (refine gate_guard (by rfl) ?_; dsimp only)); refine box_event ?hg (N := 4) ?hd (cs := #[.int .i64 a1]) (t := 3) ?hr ?_; (case hd => rfl); (case hg => rfl); (case hr => exact z141_); intro gb234 hg w32 hbox hb; have n0_ := q_ (blk_below (g := gb233) (o := .cells #[.bool a0_0, .slice A0_1 l0_1.length c0_1, .slice A0_2 l0_2.length c0_2, .slice A0_3 l0_3.length c0_3, .slice A0_4 l0_4.length c0_4] 34 (0, 0)) z7_ hb); have n1_ := q_ (below_step z4_ hb); have n2_ := q_ (hbox); have n3_ := q_ ((z112_ : w.heap.size ≤ gb234)); have n4_ := q_ ((z112_ : w.heap.size ≤ gb234)); have n5_ := q_ ((z105_ : gb233 ≠ gb234)); have n6_ := q_ ((z106_ : gb234 ≠ gb233)); clear BK233; clear HB; have BK233 := n0_; have HB := n1_; have BK234 := n2_; have GW234 := n3_; have GE234 := n4_; have NB233_234 := n5_; have NB234_233 := n6_; clear n0_ n1_ n2_ n3_ n4_ n5_ n6_; clear hb hbox hg) | ((with_reducible refine gate_dst (N := 5) rfl ?_); (try (refine gate_guard (by rfl) ?_; dsimp only)); refine box_event ?hg (N := 5) ?hd (cs := #[.int .i64 a2]) (t := 3) ?hr ?_; (case hd => rfl); (case hg => rfl); (case hr => exact z141_); intro gb235 hg w33 hbox hb; have n0_ := q_ (blk_below (g := gb233) (o := .cells #[.bool a0_0, .slice A0_1 l0_1.length c0_1, .slice A0_2 l0_2.length c0_2, .slice A0_3 l0_3.length c0_3, .slice A0_4 l0_4.length c0_4] 34 (0, 0)) z7_ hb); have n1_ := q_ (below_step z4_ hb); have n2_ := q_ (hbox); have n3_ := q_ ((z112_ : w.heap.size ≤ gb235)); have n4_ := q_ ((z112_ : w.heap.size ≤ gb235)); have n5_ := q_ ((z105_ : gb233 ≠ gb235)); have n6_ := q_ ((z106_ : gb235 ≠ gb233)); clear BK233; clear HB; have BK233 := n0_; have HB := n1_; have BK235 := n2_; have GW235 := n3_; have GE235 := n4_; have NB233_235 := n5_; have NB235_233 := n6_; clear n0_ n1_ n2_ n3_ n4_ n5_ n6_; clear hb hbox hg; have hnb34 := NB233_235.out; have hnc34 := NB235_233.out; obtain ⟨hcz35_0, hcz35_1, hcz35_2, hcz35_3, hcz35_4, hfz35_0, hfz35_1, hfz35_2, hfz35_3, hfz35_4⟩ := cs5_ BK233.out) | ((with_reducible refine gate_callee (f := 51) rfl ?_); refine goesL_ (some 9) rfl rfl Try.func51 (by kernel_rfl) rfl #[.slice A0_1 l0_1.length c0_1] rfl z1_ ?_; (with_reducible refine (impl_MapOk.calls k _ _ l0_1 true _ ?side1 ?side2 A4.out).mono ?_); (case side1 => exact z140_); (case side2 => exact z157_); rintro e w36 ⟨rfl, hb⟩; refine ⟨_, rfl, ?_⟩; have n0_ := q_ (blk_below (g := gb233) (o := .cells #[.bool a0_0, .slice A0_1 l0_1.length c0_1, .slice A0_2 l0_2.length c0_2, .slice A0_3 l0_3.length c0_3, .slice A0_4 l0_4.length c0_4] 34 (0, 0)) z7_ hb); have n1_ := q_ (below_step z4_ hb); clear BK233; clear HB; have BK233 := n0_; have HB := n1_; clear n0_ n1_; (try clear hb); (try clear hb2); (try clear hk); (try clear hi); obtain ⟨hcz37_0, hcz37_1, hcz37_2, hcz37_3, hcz37_4, hfz37_0, hfz37_1, hfz37_2, hfz37_3, hfz37_4⟩ := cs5_ BK233.out))
      go_ret
      exact ⟨z2_, z4_⟩
     ·rw [if_neg c30] at H
      have c30b0 : decide (0 < (l0_4.length : Int)) = false := decide_eq_false c30
      have c30b1 : decide (0 < l0_4.length) = false := decide_eq_false (by omega)
      clear c30
      replace H := Option.bind_eq_some_iff.mp H
      obtain ⟨t237, A380, H⟩ := H
      replace H : (some (!t237)) = some r := H
      have A38 := q_ A380
      clear A380
      obtain rfl := Option.some.inj H
      go_enter Try.func101, Try.ntmps101
      go_wp2_with (first | ((with_reducible refine gate_dst (N := 3) rfl ?_); (try (refine gate_guard (by rfl) ?_; dsimp only)); refine box_event ?hg (N := 3) ?hd (cs := #[.bool a0_0, .slice A0_1 l0_1.length c0_1, .slice A0_2 l0_2.length c0_2, .slice A0_3 l0_3.length c0_3, .slice A0_4 l0_4.length c0_4]) (t := 34) ?hr ?_; (case hd => rfl); (case hg => rfl); (case hr => exact z141_); intro gb233 hg w39 hbox hb; have n0_ := q_ (below_step z0_ hb); have n1_ := q_ (hbox); have n2_ := q_ ((z104_ : w.heap.size ≤ gb233)); have n3_ := q_ ((z104_ : w.heap.size ≤ gb233)); clear HB; have HB := n0_; have BK233 := n1_; have GW233 := n2_; have GE233 := n3_; clear n0_ n1_ n2_ n3_; clear hb hbox hg) | ((with_reducible refine gate_dst (N := 4) rfl ?_); (try (refine gate_guard (by rfl) ?_; dsimp only)); refine box_event ?hg (N := 4) ?hd (cs := #[.int .i64 a1]) (t := 3) ?hr ?_; (case hd => rfl); (case hg => rfl); (case hr => exact z141_); intro gb234 hg w40 hbox hb; have n0_ := q_ (blk_below (g := gb233) (o := .cells #[.bool a0_0, .slice A0_1 l0_1.length c0_1, .slice A0_2 l0_2.length c0_2, .slice A0_3 l0_3.length c0_3, .slice A0_4 l0_4.length c0_4] 34 (0, 0)) z7_ hb); have n1_ := q_ (below_step z4_ hb); have n2_ := q_ (hbox); have n3_ := q_ ((z112_ : w.heap.size ≤ gb234)); have n4_ := q_ ((z112_ : w.heap.size ≤ gb234)); have n5_ := q_ ((z105_ : gb233 ≠ gb234)); have n6_ := q_ ((z106_ : gb234 ≠ gb233)); clear BK233; clear HB; have BK233 := n0_; have HB := n1_; have BK234 := n2_; have GW234 := n3_; have GE234 := n4_; have NB233_234 := n5_; have NB234_233 := n6_; clear n0_ n1_ n2_ n3_ n4_ n5_ n6_; clear hb hbox hg) | ((with_reducible refine gate_dst (N := 5) rfl ?_); (try (refine gate_guard (by rfl) ?_; dsimp only)); refine box_event ?hg (N := 5) ?hd (cs := #[.int .i64 a2]) (t := 3) ?hr ?_; (case hd => rfl); (case hg => rfl); (case hr => exact z141_); intro gb235 hg w41 hbox hb; have n0_ := q_ (blk_below (g := gb233) (o := .cells #[.bool a0_0, .slice A0_1 l0_1.length c0_1, .slice A0_2 l0_2.length c0_2, .slice A0_3 l0_3.length c0_3, .slice A0_4 l0_4.length c0_4] 34 (0, 0)) z7_ hb); have n1_ := q_ (blk_below (g := gb234) (o := .cells #[.int .i64 a1] 3 (0, 0)) z69_ hb); have n2_ := q_ (below_step z74_ hb); have n3_ := q_ (hbox); have n4_ := q_ ((by rw [hg]; exact (below_size z74_) : w.heap.size ≤ gb235)); have n5_ := q_ ((by rw [hg]; exact (below_size z74_) : w.heap.size ≤ gb235)); have n6_ := q_ ((z105_ : gb233 ≠ gb235)); have n7_ := q_ ((z106_ : gb235 ≠ gb233)); have n8_ := q_ ((by rw [hg]; exact Nat.ne_of_lt (blk_lt (g := gb234) (o := .cells #[.int .i64 a1] 3 (0, 0)) z69_) : gb234 ≠ gb235)); have n9_ := q_ ((by rw [hg]; exact Nat.ne_of_gt (blk_lt (g := gb234) (o := .cells #[.int .i64 a1] 3 (0, 0)) z69_) : gb235 ≠ gb234)); clear BK233; clear BK234; clear HB; have BK233 := n0_; have BK234 := n1_; have HB := n2_; have BK235 := n3_; have GW235 := n4_; have GE235 := n5_; have NB233_235 := n6_; have NB235_233 := n7_; have NB234_235 := n8_; have NB235_234 := n9_; clear n0_ n1_ n2_ n3_ n4_ n5_ n6_ n7_ n8_ n9_; clear hb hbox hg; have hnb42 := NB233_234.out; have hnc42 := NB234_233.out; have hnb43 := NB233_235.out; have hnc43 := NB235_233.out; obtain ⟨hcz44_0, hcz44_1, hcz44_2, hcz44_3, hcz44_4, hfz44_0, hfz44_1, hfz44_2, hfz44_3, hfz44_4⟩ := cs5_ BK233.out) | ((with_reducible refine gate_callee (f := 51) rfl ?_); refine goesL_ (some 9) rfl rfl Try.func51 (by kernel_rfl) rfl #[.slice A0_1 l0_1.length c0_1] rfl z1_ ?_; (with_reducible refine (impl_MapOk.calls k _ _ l0_1 true _ ?side1 ?side2 A4.out).mono ?_); (case side1 => exact z140_); (case side2 => exact z157_); rintro e w45 ⟨rfl, hb⟩; refine ⟨_, rfl, ?_⟩; have n0_ := q_ (blk_below (g := gb233) (o := .cells #[.bool a0_0, .slice A0_1 l0_1.length c0_1, .slice A0_2 l0_2.length c0_2, .slice A0_3 l0_3.length c0_3, .slice A0_4 l0_4.length c0_4] 34 (0, 0)) z7_ hb); have n1_ := q_ (blk_below (g := gb234) (o := .cells #[.int .i64 a1] 3 (0, 0)) z69_ hb); have n2_ := q_ (blk_below (g := gb235) (o := .cells #[.int .i64 a2] 3 (0, 0)) z93_ hb); have n3_ := q_ (below_step (by repeat (first | (with_reducible first | exact HB.out | apply below_alloc | apply pw_below_drewN | apply below_drew1 | refine below_set ?_ GE233.out | refine below_set ?_ GE234.out | refine below_set ?_ GE235.out) | exact HB.out)) hb); clear BK233; clear BK234; clear BK235; clear HB; have BK233 := n0_; have BK234 := n1_; have BK235 := n2_; have HB := n3_; clear n0_ n1_ n2_ n3_; (try clear hb); (try clear hb2); (try clear hk); (try clear hi); obtain ⟨hcz46_0, hcz46_1, hcz46_2, hcz46_3, hcz46_4, hfz46_0, hfz46_1, hfz46_2, hfz46_3, hfz46_4⟩ := cs5_ BK233.out) | ((with_reducible refine gate_callee (f := 122) rfl ?_); refine goesL_ (some 38) rfl rfl Try.func122 (by kernel_rfl) rfl #[.slice A0_1 l0_1.length c0_1, .func (.func 123) #[] #[.pointer (some ⟨gb234, 0, none⟩), .pointer (some ⟨gb235, 0, none⟩)]] rfl z1_ ?_; (with_reducible refine (slices_ContainsFunc_Pair_123.calls k _ _ l0_1 gb234 gb235 a1 a2 t237 _ ?side1 ?side2 ?side3 ?side4 A38.out).mono ?_); (case side1 => exact z140_); (case side2 => exact z157_); (case side3 => (with_reducible repeat (first | refine blk_drewN ?_ _ | refine blk_drew ?_ | refine blk_alloc ?_ _)); exact BK234.out); (case side4 => (with_reducible repeat (first | refine blk_drewN ?_ _ | refine blk_drew ?_ | refine blk_alloc ?_ _)); exact BK235.out); rintro e w47 ⟨rfl, hb⟩; refine ⟨_, rfl, ?_⟩; have n0_ := q_ (blk_below (g := gb234) (o := .cells #[.int .i64 a1] 3 (0, 0)) z69_ hb); have n1_ := q_ (blk_below (g := gb235) (o := .cells #[.int .i64 a2] 3 (0, 0)) z93_ hb); have n2_ := q_ (below_step z82_ hb); clear BK234; clear BK235; clear HB; have BK234 := n0_; have BK235 := n1_; have HB := n2_; clear n0_ n1_ n2_; (try clear hb); (try clear hb2); (try clear hk); (try clear hi)))
      go_ret
      exact ⟨z2_, z82_⟩
 ·replace c5 := Bool.eq_false_iff.mpr c5
  subst c5
  have H1 : (some false) = some r := by rw [if_neg (show ¬ (false = true) by decide)] at H; exact H
  clear H
  have H := H1
  clear H1
  obtain rfl := Option.some.inj H
  go_enter Try.func101, Try.ntmps101
  go_wp2_with (first | ((with_reducible refine gate_dst (N := 3) rfl ?_); (try (refine gate_guard (by rfl) ?_; dsimp only)); refine box_event ?hg (N := 3) ?hd (cs := #[.bool a0_0, .slice A0_1 l0_1.length c0_1, .slice A0_2 l0_2.length c0_2, .slice A0_3 l0_3.length c0_3, .slice A0_4 l0_4.length c0_4]) (t := 34) ?hr ?_; (case hd => rfl); (case hg => rfl); (case hr => exact z141_); intro gb233 hg w48 hbox hb; have n0_ := q_ (below_step z0_ hb); have n1_ := q_ (hbox); have n2_ := q_ ((z104_ : w.heap.size ≤ gb233)); have n3_ := q_ ((z104_ : w.heap.size ≤ gb233)); clear HB; have HB := n0_; have BK233 := n1_; have GW233 := n2_; have GE233 := n3_; clear n0_ n1_ n2_ n3_; clear hb hbox hg) | ((with_reducible refine gate_dst (N := 4) rfl ?_); (try (refine gate_guard (by rfl) ?_; dsimp only)); refine box_event ?hg (N := 4) ?hd (cs := #[.int .i64 a1]) (t := 3) ?hr ?_; (case hd => rfl); (case hg => rfl); (case hr => exact z141_); intro gb234 hg w49 hbox hb; have n0_ := q_ (blk_below (g := gb233) (o := .cells #[.bool a0_0, .slice A0_1 l0_1.length c0_1, .slice A0_2 l0_2.length c0_2, .slice A0_3 l0_3.length c0_3, .slice A0_4 l0_4.length c0_4] 34 (0, 0)) z7_ hb); have n1_ := q_ (below_step z4_ hb); have n2_ := q_ (hbox); have n3_ := q_ ((z112_ : w.heap.size ≤ gb234)); have n4_ := q_ ((z112_ : w.heap.size ≤ gb234)); have n5_ := q_ ((z105_ : gb233 ≠ gb234)); have n6_ := q_ ((z106_ : gb234 ≠ gb233)); clear BK233; clear HB; have BK233 := n0_; have HB := n1_; have BK234 := n2_; have GW234 := n3_; have GE234 := n4_; have NB233_234 := n5_; have NB234_233 := n6_; clear n0_ n1_ n2_ n3_ n4_ n5_ n6_; clear hb hbox hg) | ((with_reducible refine gate_dst (N := 5) rfl ?_); (try (refine gate_guard (by rfl) ?_; dsimp only)); refine box_event ?hg (N := 5) ?hd (cs := #[.int .i64 a2]) (t := 3) ?hr ?_; (case hd => rfl); (case hg => rfl); (case hr => exact z141_); intro gb235 hg w50 hbox hb; have n0_ := q_ (blk_below (g := gb233) (o := .cells #[.bool a0_0, .slice A0_1 l0_1.length c0_1, .slice A0_2 l0_2.length c0_2, .slice A0_3 l0_3.length c0_3, .slice A0_4 l0_4.length c0_4] 34 (0, 0)) z7_ hb); have n1_ := q_ (below_step z4_ hb); have n2_ := q_ (hbox); have n3_ := q_ ((z112_ : w.heap.size ≤ gb235)); have n4_ := q_ ((z112_ : w.heap.size ≤ gb235)); have n5_ := q_ ((z105_ : gb233 ≠ gb235)); have n6_ := q_ ((z106_ : gb235 ≠ gb233)); clear BK233; clear HB; have BK233 := n0_; have HB := n1_; have BK235 := n2_; have GW235 := n3_; have GE235 := n4_; have NB233_235 := n5_; have NB235_233 := n6_; clear n0_ n1_ n2_ n3_ n4_ n5_ n6_; clear hb hbox hg; have hnb51 := NB233_235.out; have hnc51 := NB235_233.out; obtain ⟨hcz52_0, hcz52_1, hcz52_2, hcz52_3, hcz52_4, hfz52_0, hfz52_1, hfz52_2, hfz52_3, hfz52_4⟩ := cs5_ BK233.out) | ((with_reducible refine gate_callee (f := 51) rfl ?_); refine goesL_ (some 9) rfl rfl Try.func51 (by kernel_rfl) rfl #[.slice A0_1 l0_1.length c0_1] rfl z1_ ?_; (with_reducible refine (impl_MapOk.calls k _ _ l0_1 false _ ?side1 ?side2 A4.out).mono ?_); (case side1 => exact z140_); (case side2 => exact z157_); rintro e w53 ⟨rfl, hb⟩; refine ⟨_, rfl, ?_⟩; have n0_ := q_ (below_step z0_ hb); clear HB; have HB := n0_; clear n0_; (try clear hb); (try clear hb2); (try clear hk); (try clear hi)))
  go_ret
  exact ⟨z2_, z0_⟩

/-! ### impl_MsgOk: function 105 -/
def impl_MsgOk.j0 : Nat → Int → Bool → Int → Int → Int → Option (Bool)
 | 0, _, _, _, _, _ => none
 | k + 1, x8, x9, x239000, x239001, x239002 => if x9 = true then ((impl_isNum.f x239002).bind fun t240 => (some t240)) else (if x8 = 2 then (some (x239002 == 0)) else (if x8 = 4 then (some (x239002 == 0)) else (some false)))
def impl_MsgOk.f (k : Nat) (a0_0 : Int) (a0_1 : Int) (a0_2 : Int) : Option (Bool) := (impl_isKey.f a0_1).bind fun t239 => (if t239 = true then (if a0_0 = 1 then (impl_MsgOk.j0 k a0_0 (a0_0 == 1) a0_0 a0_1 a0_2) else (impl_MsgOk.j0 k a0_0 (a0_0 == 3) a0_0 a0_1 a0_2)) else (some false))
theorem impl_MsgOk.mono_l : ∀ k, (∀ y0 y1 y2 y3 y4, LeO (impl_MsgOk.j0 k y0 y1 y2 y3 y4) (impl_MsgOk.j0 (k + 1) y0 y1 y2 y3 y4))
 | 0 => fun _ _ _ _ _ r h => by simp [impl_MsgOk.j0] at h
 | k + 1 => by
  have ih0 := impl_MsgOk.mono_l k
  ·intro y0 y1 y2 y3 y4
   unfold impl_MsgOk.j0
   repeat' first
   | (with_reducible exact ih0 _ _ _ _ _)
   | (with_reducible exact LeO.refl _)
   | (with_reducible exact LeO.none _)
   | (with_reducible refine LeO.ite ?_ ?_)
   | (with_reducible refine LeO.bind ?_ (fun _ => ?_))
   | exact ih0 _ _ _ _ _
   | exact LeO.none _
   | refine LeO.ite ?_ ?_
   | refine LeO.bind ?_ (fun _ => ?_)
theorem impl_MsgOk.mono : ∀ a0 a1 a2 k, LeO (impl_MsgOk.f k a0 a1 a2) (impl_MsgOk.f (k + 1) a0 a1 a2) := by
 intro a0 a1 a2 k
 have ih0 := impl_MsgOk.mono_l k
 unfold impl_MsgOk.f
 repeat' first
   | (with_reducible exact ih0 _ _ _ _ _)
   | (with_reducible exact LeO.refl _)
   | (with_reducible exact LeO.none _)
   | (with_reducible refine LeO.ite ?_ ?_)
   | (with_reducible refine LeO.bind ?_ (fun _ => ?_))
   | exact ih0 _ _ _ _ _
   | exact LeO.none _
   | refine LeO.ite ?_ ?_
   | refine LeO.bind ?_ (fun _ => ?_)
set_option maxHeartbeats 8000000 in
set_option maxRecDepth 100000 in
theorem impl_MsgOk.calls (k : Nat) (a0_0 : Int) (a0_1 : Int) (a0_2 : Int) (r : Bool) (w : World) (h : impl_MsgOk.f k a0_0 a0_1 a0_2 = some r) :
  Calls Try.prog 105 #[.agg #[.int .i64 a0_0, .int .i64 a0_1, .int .i64 a0_2]] w fun e w' => e = .returned (.bool r) ∧ Below w.heap.size w w' := by
 have hu72 := Try.underlying72
 have HB := q_ (Below.refl w.heap.size w)
 have H : ((impl_isKey.f a0_1).bind fun t239 => (if t239 = true then (if a0_0 = 1 then (impl_MsgOk.j0 k a0_0 (a0_0 == 1) a0_0 a0_1 a0_2) else (impl_MsgOk.j0 k a0_0 (a0_0 == 3) a0_0 a0_1 a0_2)) else (some false))) = some r := h
 clear h
 replace H := Option.bind_eq_some_iff.mp H
 obtain ⟨t239, A20, H⟩ := H
 replace H : (if t239 = true then (if a0_0 = 1 then (impl_MsgOk.j0 k a0_0 (a0_0 == 1) a0_0 a0_1 a0_2) else (impl_MsgOk.j0 k a0_0 (a0_0 == 3) a0_0 a0_1 a0_2)) else (some false)) = some r := H
 have A2 := q_ A20
 clear A20
 by_cases c3 : t239 = true
 ·subst c3
  have H1 : (if a0_0 = 1 then (impl_MsgOk.j0 k a0_0 (a0_0 == 1) a0_0 a0_1 a0_2) else (impl_MsgOk.j0 k a0_0 (a0_0 == 3) a0_0 a0_1 a0_2)) = some r := z45_
  clear H
  have H := H1
  clear H1
  have HC4 := q_ H
  clear H
  go_enter Try.func105, Try.ntmps105
  go_upto_if 9 with (first | ((with_reducible refine gate_dst (N := 1) rfl ?_); refine box_event ?hg (N := 1) ?hd (cs := #[.int .i64 a0_0, .int .i64 a0_1, .int .i64 a0_2]) (t := 72) ?hr ?_; (case hd => rfl); (case hg => rfl); (case hr => exact z141_); intro gb238 hg w5 hbox hb; have n0_ := q_ (below_step z0_ hb); have n1_ := q_ (hbox); have n2_ := q_ ((z104_ : w.heap.size ≤ gb238)); have n3_ := q_ ((z104_ : w.heap.size ≤ gb238)); clear HB; have HB := n0_; have BK238 := n1_; have GW238 := n2_; have GE238 := n3_; clear n0_ n1_ n2_ n3_; clear hb hbox hg; obtain ⟨hcz6_0, hcz6_1, hcz6_2, hfz6_0, hfz6_1, hfz6_2⟩ := cs3_ BK238.out) | ((with_reducible refine gate_callee (f := 93) rfl ?_); refine goesL_ (some 5) rfl rfl Try.func93 (by kernel_rfl) rfl #[.int .i64 a0_1] rfl z1_ ?_; (with_reducible refine (impl_isKey.calls a0_1 true _ A2.out).mono ?_); rintro e w' ⟨rfl, ⟨nd, rfl⟩⟩; refine ⟨_, rfl, ?_⟩))
  (try simp only [Act.put, List.setIfInBounds_toArray, List.set_cons_zero, List.set_cons_succ])
  go_cut [9] (fun v9 wc => ∃ (kq : Nat) (x9_3 : Bool), v9 = .bool x9_3 ∧ Aside0 (impl_MsgOk.j0 kq a0_0 x9_3 a0_0 a0_1 a0_2 = some r) ∧ Aside0 (kq ≤ k) ∧ Aside0 (wc.heap[gb238]? = some (.cells #[.int .i64 a0_0, .int .i64 a0_1, .int .i64 a0_2] 72 (0, 0))) ∧ Aside0 (Below w.heap.size w wc))
  case first =>
   have H := HC4.out
   clear HC4
   by_cases c7 : a0_0 = 1
   ·rw [if_pos c7] at H
    have c7b0 : (a0_0 == 1) = true := beq_iff_eq.mpr c7
    have c7b1 : (a0_0 != 1) = false := bne_eq_false_iff_eq.mpr c7
    clear c7
    (first | rw [c7b0] | (simp only [i64_w, i32_w]; rw [c7b0]) | skip)
    have H' := q_ H
    clear H
    go_wp2
    go_meet
    case rel => exact ⟨_, ((a0_0 == 1)), z8_, H', ⟨z80_⟩, ⟨z94_⟩, ⟨z57_⟩⟩
   ·rw [if_neg c7] at H
    have c7b0 : (a0_0 == 1) = false := beq_eq_false_iff_ne.mpr c7
    have c7b1 : (a0_0 != 1) = true := bne_iff_ne.mpr c7
    (first | rw [c7b0] | (simp only [i64_w, i32_w]; rw [c7b0]) | skip)
    have H' := q_ H
    clear H
    go_wp2
    go_meet
    case rel => exact ⟨_, ((a0_0 == 3)), z8_, H', ⟨z80_⟩, ⟨z94_⟩, ⟨z57_⟩⟩
  case rest =>
   clear HC4
   try clear c1
   try clear p2
   try clear c3
   try clear c7
   try clear c7b0
   try clear c7b1
   try clear hcz6_0
   try clear hcz6_1
   try clear hcz6_2
   try clear hfz6_0
   try clear hfz6_1
   try clear hfz6_2
   obtain ⟨kq, x9_3, rfl, HA, HJ3, BK238, HB⟩ := hcut
   cases kq with
   | zero => exact absurd HA.out (by simp [impl_MsgOk.j0])
   | succ kj3 =>
    have H := HA.out
    clear HA
    simp only [impl_MsgOk.j0] at H
    by_cases c8 : x9_3 = true
    ·subst c8
     have H1 : ((impl_isNum.f a0_2).bind fun t240 => (some t240)) = some r := z45_
     clear H
     have H := H1
     clear H1
     replace H := Option.bind_eq_some_iff.mp H
     obtain ⟨t240, A90, H⟩ := H
     replace H : (some t240) = some r := H
     have A9 := q_ A90
     clear A90
     obtain rfl := Option.some.inj H
     obtain ⟨hcz10_0, hcz10_1, hcz10_2, hfz10_0, hfz10_1, hfz10_2⟩ := cs3_ BK238.out
     go_wp2_with (first | ((with_reducible refine gate_callee (f := 94) rfl ?_); refine goesL_ (some 14) rfl rfl Try.func94 (by kernel_rfl) rfl #[.int .i64 a0_2] rfl z1_ ?_; (with_reducible refine (impl_isNum.calls a0_2 t240 _ A9.out).mono ?_); rintro e w' ⟨rfl, ⟨nd, rfl⟩⟩; refine ⟨_, rfl, ?_⟩))
     go_ret
     exact ⟨z2_, z0_⟩
    ·replace c8 := Bool.eq_false_iff.mpr c8
     subst c8
     have H1 : (if a0_0 = 2 then (some (a0_2 == 0)) else (if a0_0 = 4 then (some (a0_2 == 0)) else (some false))) = some r := by rw [if_neg (show ¬ (false = true) by decide)] at H; exact H
     clear H
     have H := H1
     clear H1
     by_cases c11 : a0_0 = 2
     ·rw [if_pos c11] at H
      have c11b0 : (a0_0 == 2) = true := beq_iff_eq.mpr c11
      have c11b1 : (a0_0 != 2) = false := bne_eq_false_iff_eq.mpr c11
      clear c11
      obtain rfl := Option.some.inj H
      obtain ⟨hcz12_0, hcz12_1, hcz12_2, hfz12_0, hfz12_1, hfz12_2⟩ := cs3_ BK238.out
      go_wp2
      go_ret
      exact ⟨z2_, z57_⟩
     ·rw [if_neg c11] at H
      have c11b0 : (a0_0 == 2) = false := beq_eq_false_iff_ne.mpr c11
      have c11b1 : (a0_0 != 2) = true := bne_iff_ne.mpr c11
      by_cases c13 : a0_0 = 4
      ·rw [if_pos c13] at H
       have c13b0 : (a0_0 == 4) = true := beq_iff_eq.mpr c13
       have c13b1 : (a0_0 != 4) = false := bne_eq_false_iff_eq.mpr c13
       clear c13
       obtain rfl := Option.some.inj H
       obtain ⟨hcz14_0, hcz14_1, hcz14_2, hfz14_0, hfz14_1, hfz14_2⟩ := cs3_ BK238.out
       go_wp2
       go_ret
       exact ⟨z2_, z57_⟩
      ·rw [if_neg c13] at H
       have c13b0 : (a0_0 == 4) = false := beq_eq_false_iff_ne.mpr c13
       have c13b1 : (a0_0 != 4) = true := bne_iff_ne.mpr c13
       obtain rfl := Option.some.inj H
       go_wp2
       go_ret
       exact ⟨z2_, z57_⟩
 ·replace c3 := Bool.eq_false_iff.mpr c3
  subst c3
  have H1 : (some false) = some r := by rw [if_neg (show ¬ (false = true) by decide)] at H; exact H
  clear H
  have H := H1
  clear H1
  obtain rfl := Option.some.inj H
  go_enter Try.func105, Try.ntmps105
  go_wp2_with (first | ((with_reducible refine gate_dst (N := 1) rfl ?_); refine box_event ?hg (N := 1) ?hd (cs := #[.int .i64 a0_0, .int .i64 a0_1, .int .i64 a0_2]) (t := 72) ?hr ?_; (case hd => rfl); (case hg => rfl); (case hr => exact z141_); intro gb238 hg w15 hbox hb; have n0_ := q_ (below_step z0_ hb); have n1_ := q_ (hbox); have n2_ := q_ ((z104_ : w.heap.size ≤ gb238)); have n3_ := q_ ((z104_ : w.heap.size ≤ gb238)); clear HB; have HB := n0_; have BK238 := n1_; have GW238 := n2_; have GE238 := n3_; clear n0_ n1_ n2_ n3_; clear hb hbox hg; obtain ⟨hcz16_0, hcz16_1, hcz16_2, hfz16_0, hfz16_1, hfz16_2⟩ := cs3_ BK238.out) | ((with_reducible refine gate_callee (f := 93) rfl ?_); refine goesL_ (some 5) rfl rfl Try.func93 (by kernel_rfl) rfl #[.int .i64 a0_1] rfl z1_ ?_; (with_reducible refine (impl_isKey.calls a0_1 false _ A2.out).mono ?_); rintro e w' ⟨rfl, ⟨nd, rfl⟩⟩; refine ⟨_, rfl, ?_⟩))
  go_ret
  exact ⟨z2_, z0_⟩

end Go.Proofs.Ytfnndcpaldkkoaa.PFnExactTreeOk
