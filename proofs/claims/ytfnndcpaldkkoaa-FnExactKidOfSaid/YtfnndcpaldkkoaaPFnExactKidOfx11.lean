-- Written by a program of this session, which goes by the kit's print. Not trusted: Lean checks it.
import Derived.Test.YtfnndcpaldkkoaaPFnExactKidOfx0
import Derived.Test.YtfnndcpaldkkoaaPFnExactKidOfx1
import Derived.Test.YtfnndcpaldkkoaaPFnExactKidOfx2
import Derived.Test.YtfnndcpaldkkoaaPFnExactKidOfx4
import Derived.Test.YtfnndcpaldkkoaaPFnExactKidOfx8
import Derived.Test.YtfnndcpaldkkoaaPFnExactKidOfx10
namespace Go.Proofs.Ytfnndcpaldkkoaa.PFnExactKidOf
open Go.RowKit Go.Proofs.YtfnndcpaldkkoaaW.PrintWords Go.Proofs.YtfnndcpaldkkoaaW.PrintLast Go.Proofs.YtfnndcpaldkkoaaW.PrintMore
attribute [local go_sem] max2_int min2_int max_two min_two max_three min_three max_four min_four   -- for this text's walks alone
set_option linter.unusedVariables false
set_option linter.unusedSimpArgs false

/-! ### impl_TreeDepth: function 18 -/
def impl_TreeDepth.f (k : Nat) (a0_0 : Bool) (l0_1 : List (S92)) (l0_2 : List Int) (l0_3 : List (S34)) (l0_4 : List (S72)) : Option (Int) := (impl_depthOf.f k a0_0 l0_1 l0_2 l0_3 l0_4 0 1000 7).bind fun t264 => (some t264)
theorem impl_TreeDepth.mono : ∀ a0 a1 a2 a3 a4 k, LeO (impl_TreeDepth.f k a0 a1 a2 a3 a4) (impl_TreeDepth.f (k + 1) a0 a1 a2 a3 a4) := by
 intro a0 a1 a2 a3 a4 k
 unfold impl_TreeDepth.f
 repeat' first
   | (with_reducible exact impl_depthOf.mono _ _ _ _ _ _ _ _ _)
   | (with_reducible exact LeO.refl _)
   | (with_reducible exact LeO.none _)
   | (with_reducible refine LeO.ite ?_ ?_)
   | (with_reducible refine LeO.bind ?_ (fun _ => ?_))
   | exact impl_depthOf.mono _ _ _ _ _ _ _ _ _
   | exact LeO.none _
   | refine LeO.ite ?_ ?_
   | refine LeO.bind ?_ (fun _ => ?_)
set_option maxHeartbeats 8000000 in
set_option maxRecDepth 100000 in
theorem impl_TreeDepth.calls (k : Nat) (a0_0 : Bool) (A0_1 : Option Addr) (c0_1 : Nat) (l0_1 : List (S92)) (A0_2 : Option Addr) (c0_2 : Nat) (l0_2 : List Int) (A0_3 : Option Addr) (c0_3 : Nat) (l0_3 : List (S34)) (A0_4 : Option Addr) (c0_4 : Nat) (l0_4 : List (S72)) (r : Int) (w : World) (hr0_1 : Kd.C k92 w A0_1 l0_1.length l0_1) (hc0_1 : l0_1.length ≤ c0_1) (hr0_2 : Kd.C (Kd.int .i64) w A0_2 l0_2.length l0_2) (hc0_2 : l0_2.length ≤ c0_2) (hr0_3 : Kd.C k34 w A0_3 l0_3.length l0_3) (hc0_3 : l0_3.length ≤ c0_3) (hr0_4 : Kd.C k72 w A0_4 l0_4.length l0_4) (hc0_4 : l0_4.length ≤ c0_4) (h : impl_TreeDepth.f k a0_0 l0_1 l0_2 l0_3 l0_4 = some r) :
  Calls Try.prog 18 #[.agg #[.bool a0_0, .slice A0_1 l0_1.length c0_1, .slice A0_2 l0_2.length c0_2, .slice A0_3 l0_3.length c0_3, .slice A0_4 l0_4.length c0_4]] w fun e w' => e = .returned (.int .i64 r) ∧ Below w.heap.size w w' := by
 have hu34 := Try.underlying34
 have HR0_1 := q_ hr0_1
 have HC0_1 := q_ hc0_1
 clear hr0_1 hc0_1
 have HR0_2 := q_ hr0_2
 have HC0_2 := q_ hc0_2
 clear hr0_2 hc0_2
 have HR0_3 := q_ hr0_3
 have HC0_3 := q_ hc0_3
 clear hr0_3 hc0_3
 have HR0_4 := q_ hr0_4
 have HC0_4 := q_ hc0_4
 clear hr0_4 hc0_4
 have HB := q_ (Below.refl w.heap.size w)
 have H : ((impl_depthOf.f k a0_0 l0_1 l0_2 l0_3 l0_4 0 1000 7).bind fun t264 => (some t264)) = some r := h
 clear h
 replace H := Option.bind_eq_some_iff.mp H
 obtain ⟨t264, A20, H⟩ := H
 replace H : (some t264) = some r := H
 have A2 := q_ A20
 clear A20
 obtain rfl := Option.some.inj H
 go_enter Try.func18, Try.ntmps18
 go_wp2_with (first | ((with_reducible refine gate_dst (N := 1) rfl ?_); refine box_event ?hg (N := 1) ?hd (cs := #[.bool a0_0, .slice A0_1 l0_1.length c0_1, .slice A0_2 l0_2.length c0_2, .slice A0_3 l0_3.length c0_3, .slice A0_4 l0_4.length c0_4]) (t := 34) ?hr ?_; (case hd => rfl); (case hg => rfl); (case hr => exact z146_); intro gb263 hg w3 hbox hb; have n0_ := q_ (below_step z0_ hb); have n1_ := q_ (hbox); have n2_ := q_ ((z107_ : w.heap.size ≤ gb263)); have n3_ := q_ ((z107_ : w.heap.size ≤ gb263)); clear HB; have HB := n0_; have BK263 := n1_; have GW263 := n2_; have GE263 := n3_; clear n0_ n1_ n2_ n3_; clear hb hbox hg; obtain ⟨hcz4_0, hcz4_1, hcz4_2, hcz4_3, hcz4_4, hfz4_0, hfz4_1, hfz4_2, hfz4_3, hfz4_4⟩ := cs5_ BK263.out) | ((with_reducible refine gate_callee (f := 64) rfl ?_); refine goesL_ (some 4) rfl rfl Try.func64 (by kernel_rfl) rfl #[.agg #[.bool a0_0, .slice A0_1 l0_1.length c0_1, .slice A0_2 l0_2.length c0_2, .slice A0_3 l0_3.length c0_3, .slice A0_4 l0_4.length c0_4], .int .i64 0, .int .i64 1000, .int .i64 7] rfl z1_ ?_; (with_reducible refine (impl_depthOf.calls k a0_0 _ _ l0_1 _ _ l0_2 _ _ l0_3 _ _ l0_4 0 1000 7 t264 _ ?side1 ?side2 ?side3 ?side4 ?side5 ?side6 ?side7 ?side8 A2.out).mono ?_); (case side1 => exact z143_); (case side2 => exact z160_); (case side3 => exact z145_); (case side4 => exact z166_); (case side5 => exact z147_); (case side6 => exact z167_); (case side7 => exact z144_); (case side8 => exact z168_); rintro e w5 ⟨rfl, hb⟩; refine ⟨_, rfl, ?_⟩; have n0_ := q_ (below_step z0_ hb); clear HB; have HB := n0_; clear n0_; (try clear hb); (try clear hb2); (try clear hk); (try clear hi)))
 go_ret
 exact ⟨z2_, z0_⟩

/-! ### impl_TreeOk: function 21 -/
def impl_TreeOk.f (k : Nat) (a0_0 : Bool) (l0_1 : List (S92)) (l0_2 : List Int) (l0_3 : List (S34)) (l0_4 : List (S72)) : Option (Bool) := (impl_TreeDepth.f k a0_0 l0_1 l0_2 l0_3 l0_4).bind fun t266 => (some (decide (t266 > 0)))
theorem impl_TreeOk.mono : ∀ a0 a1 a2 a3 a4 k, LeO (impl_TreeOk.f k a0 a1 a2 a3 a4) (impl_TreeOk.f (k + 1) a0 a1 a2 a3 a4) := by
 intro a0 a1 a2 a3 a4 k
 unfold impl_TreeOk.f
 repeat' first
   | (with_reducible exact impl_TreeDepth.mono _ _ _ _ _ _)
   | (with_reducible exact LeO.refl _)
   | (with_reducible exact LeO.none _)
   | (with_reducible refine LeO.ite ?_ ?_)
   | (with_reducible refine LeO.bind ?_ (fun _ => ?_))
   | exact impl_TreeDepth.mono _ _ _ _ _ _
   | exact LeO.none _
   | refine LeO.ite ?_ ?_
   | refine LeO.bind ?_ (fun _ => ?_)
set_option maxHeartbeats 8000000 in
set_option maxRecDepth 100000 in
theorem impl_TreeOk.calls (k : Nat) (a0_0 : Bool) (A0_1 : Option Addr) (c0_1 : Nat) (l0_1 : List (S92)) (A0_2 : Option Addr) (c0_2 : Nat) (l0_2 : List Int) (A0_3 : Option Addr) (c0_3 : Nat) (l0_3 : List (S34)) (A0_4 : Option Addr) (c0_4 : Nat) (l0_4 : List (S72)) (r : Bool) (w : World) (hr0_1 : Kd.C k92 w A0_1 l0_1.length l0_1) (hc0_1 : l0_1.length ≤ c0_1) (hr0_2 : Kd.C (Kd.int .i64) w A0_2 l0_2.length l0_2) (hc0_2 : l0_2.length ≤ c0_2) (hr0_3 : Kd.C k34 w A0_3 l0_3.length l0_3) (hc0_3 : l0_3.length ≤ c0_3) (hr0_4 : Kd.C k72 w A0_4 l0_4.length l0_4) (hc0_4 : l0_4.length ≤ c0_4) (h : impl_TreeOk.f k a0_0 l0_1 l0_2 l0_3 l0_4 = some r) :
  Calls Try.prog 21 #[.agg #[.bool a0_0, .slice A0_1 l0_1.length c0_1, .slice A0_2 l0_2.length c0_2, .slice A0_3 l0_3.length c0_3, .slice A0_4 l0_4.length c0_4]] w fun e w' => e = .returned (.bool r) ∧ Below w.heap.size w w' := by
 have hu34 := Try.underlying34
 have HR0_1 := q_ hr0_1
 have HC0_1 := q_ hc0_1
 clear hr0_1 hc0_1
 have HR0_2 := q_ hr0_2
 have HC0_2 := q_ hc0_2
 clear hr0_2 hc0_2
 have HR0_3 := q_ hr0_3
 have HC0_3 := q_ hc0_3
 clear hr0_3 hc0_3
 have HR0_4 := q_ hr0_4
 have HC0_4 := q_ hc0_4
 clear hr0_4 hc0_4
 have HB := q_ (Below.refl w.heap.size w)
 have H : ((impl_TreeDepth.f k a0_0 l0_1 l0_2 l0_3 l0_4).bind fun t266 => (some (decide (t266 > 0)))) = some r := h
 clear h
 replace H := Option.bind_eq_some_iff.mp H
 obtain ⟨t266, A20, H⟩ := H
 replace H : (some (decide (t266 > 0))) = some r := H
 have A2 := q_ A20
 clear A20
 obtain rfl := Option.some.inj H
 go_enter Try.func21, Try.ntmps21
 go_wp2_with (first | ((with_reducible refine gate_dst (N := 1) rfl ?_); refine box_event ?hg (N := 1) ?hd (cs := #[.bool a0_0, .slice A0_1 l0_1.length c0_1, .slice A0_2 l0_2.length c0_2, .slice A0_3 l0_3.length c0_3, .slice A0_4 l0_4.length c0_4]) (t := 34) ?hr ?_; (case hd => rfl); (case hg => rfl); (case hr => exact z146_); intro gb265 hg w3 hbox hb; have n0_ := q_ (below_step z0_ hb); have n1_ := q_ (hbox); have n2_ := q_ ((z107_ : w.heap.size ≤ gb265)); have n3_ := q_ ((z107_ : w.heap.size ≤ gb265)); clear HB; have HB := n0_; have BK265 := n1_; have GW265 := n2_; have GE265 := n3_; clear n0_ n1_ n2_ n3_; clear hb hbox hg; obtain ⟨hcz4_0, hcz4_1, hcz4_2, hcz4_3, hcz4_4, hfz4_0, hfz4_1, hfz4_2, hfz4_3, hfz4_4⟩ := cs5_ BK265.out) | ((with_reducible refine gate_callee (f := 18) rfl ?_); refine goesL_ (some 4) rfl rfl Try.func18 (by kernel_rfl) rfl #[.agg #[.bool a0_0, .slice A0_1 l0_1.length c0_1, .slice A0_2 l0_2.length c0_2, .slice A0_3 l0_3.length c0_3, .slice A0_4 l0_4.length c0_4]] rfl z1_ ?_; (with_reducible refine (impl_TreeDepth.calls k a0_0 _ _ l0_1 _ _ l0_2 _ _ l0_3 _ _ l0_4 t266 _ ?side1 ?side2 ?side3 ?side4 ?side5 ?side6 ?side7 ?side8 A2.out).mono ?_); (case side1 => exact z143_); (case side2 => exact z160_); (case side3 => exact z145_); (case side4 => exact z166_); (case side5 => exact z147_); (case side6 => exact z167_); (case side7 => exact z144_); (case side8 => exact z168_); rintro e w5 ⟨rfl, hb⟩; refine ⟨_, rfl, ?_⟩; have n0_ := q_ (below_step z0_ hb); clear HB; have HB := n0_; clear n0_; (try clear hb); (try clear hb2); (try clear hk); (try clear hi)))
 go_ret
 exact ⟨z2_, z0_⟩

/-! ### impl_kidOf: function 68 -/
def impl_kidOf.l0 : Nat → Int → Int → List Int → Int → Int → Option (Int)
 | 0, _, _, _, _, _ => none
 | k + 1, x1, x5, x8, x9, x10 => if x10 < x9 then (if 0 ≤ x10 then (if x10 < (x8.length : Int) then (if (rd x8 x10) ≤ x1 then (impl_kidOf.l0 k x1 (wrap64 (x5 + 1)) x8 x9 (wrap64 (x10 + 1))) else (impl_kidOf.l0 k x1 x5 x8 x9 (wrap64 (x10 + 1)))) else (none)) else (none)) else (some x5)
def impl_kidOf.f (k : Nat) (l0 : List Int) (a1 : Int) : Option (Int) := impl_kidOf.l0 k a1 0 l0 (l0.length : Int) 0
theorem impl_kidOf.mono_l : ∀ k, (∀ y0 y1 y2 y3 y4, LeO (impl_kidOf.l0 k y0 y1 y2 y3 y4) (impl_kidOf.l0 (k + 1) y0 y1 y2 y3 y4))
 | 0 => fun _ _ _ _ _ r h => by simp [impl_kidOf.l0] at h
 | k + 1 => by
  have ih0 := impl_kidOf.mono_l k
  ·intro y0 y1 y2 y3 y4
   unfold impl_kidOf.l0
   repeat' first
   | (with_reducible exact ih0 _ _ _ _ _)
   | (with_reducible exact LeO.refl _)
   | (with_reducible exact LeO.none _)
   | (with_reducible refine LeO.ite ?_ ?_)
   | (with_reducible refine LeO.bind ?_ (fun _ => ?_))
   | exact ih0 _ _ _ _ _
   | exact LeO.none _
   | refine LeO.ite ?_ ?_
   | refine LeO.bind ?_ (fun _ => ?_)
theorem impl_kidOf.mono : ∀ a0 a1 k, LeO (impl_kidOf.f k a0 a1) (impl_kidOf.f (k + 1) a0 a1) := by
 intro a0 a1 k
 have ih0 := impl_kidOf.mono_l k
 unfold impl_kidOf.f
 repeat' first
   | (with_reducible exact ih0 _ _ _ _ _)
   | (with_reducible exact LeO.refl _)
   | (with_reducible exact LeO.none _)
   | (with_reducible refine LeO.ite ?_ ?_)
   | (with_reducible refine LeO.bind ?_ (fun _ => ?_))
   | exact ih0 _ _ _ _ _
   | exact LeO.none _
   | refine LeO.ite ?_ ?_
   | refine LeO.bind ?_ (fun _ => ?_)
set_option maxHeartbeats 8000000 in
set_option maxRecDepth 100000 in
theorem impl_kidOf.calls (k : Nat) (A0 : Option Addr) (c0 : Nat) (l0 : List Int) (a1 : Int) (r : Int) (w : World) (hr0 : Kd.C (Kd.int .i64) w A0 l0.length l0) (hc0 : l0.length ≤ c0) (h : impl_kidOf.f k l0 a1 = some r) :
  Calls Try.prog 68 #[.slice A0 l0.length c0, .int .i64 a1] w fun e w' => e = .returned (.int .i64 r) ∧ Drawn0 w w' := by
 have HR0 := q_ hr0
 have HC0 := q_ hc0
 clear hr0 hc0
 have H : (impl_kidOf.l0 k a1 0 l0 (l0.length : Int) 0) = some r := h
 clear h
 have H' := q_ H
 clear H
 go_enter Try.func68, Try.ntmps68
 go_wp2
 go_loopg [5, 10] k (fun kq v5 v10 w' => ∃ (x5_1 : Int) (x10_1 : Int), v5 = .int .i64 x5_1 ∧ v10 = .int .i64 x10_1 ∧ Aside0 (impl_kidOf.l0 kq a1 x5_1 l0 (l0.length : Int) x10_1 = some r) ∧ Aside0 (kq ≤ k) ∧ Drawn0 w w')
 case atStart => exact ⟨(0), (0), z8_, z8_, H', ⟨Nat.le_refl _⟩, z41_⟩
 case round =>
  clear H'
  try clear p2
  obtain ⟨x5_1, x10_1, rfl, rfl, HA, HK1, ⟨m1, rfl⟩⟩ := hrel
  cases gk with
  | zero => exact absurd HA.out (by simp [impl_kidOf.l0])
  | succ k1 =>
   have H := HA.out
   clear HA
   simp only [impl_kidOf.l0] at H
   by_cases c3 : x10_1 < (l0.length : Int)
   ·rw [if_pos c3] at H
    have c3b0 : decide (x10_1 < (l0.length : Int)) = true := decide_eq_true c3
    clear c3
    by_cases c4 : 0 ≤ x10_1
    ·rw [if_pos c4] at H
     have c4b0 : decide (0 ≤ x10_1) = true := decide_eq_true c4
     clear c4
     by_cases c5 : x10_1 < (l0.length : Int)
     ·rw [if_pos c5] at H
      have c5b0 : decide (x10_1 < (l0.length : Int)) = true := decide_eq_true c5
      clear c5
      by_cases c6 : (rd l0 x10_1) ≤ a1
      ·rw [if_pos c6] at H
       have c6b0 : decide ((rd l0 x10_1) ≤ a1) = true := decide_eq_true c6
       clear c6
       have H' := q_ H
       clear H
       have p267 : 0 ≤ (x10_1 : Int) := of_decide_eq_true z3_
       have q267 : x10_1 < (l0.length : Int) := of_decide_eq_true z3_
       obtain ⟨ad267, e267, hx267_0⟩ := Kd.at_int HR0.out x10_1 p267 q267
       cases e267
       replace p267 := eq_true p267
       replace q267 := eq_true q267
       go_wp2
       go_roundg k1
       case measure => have := HK1.out; omega
       case rel => exact ⟨(wrap64 (x5_1 + 1)), (wrap64 (x10_1 + 1)), z8_, z8_, H', ⟨z76_⟩, z41_⟩
      ·rw [if_neg c6] at H
       have c6b0 : decide ((rd l0 x10_1) ≤ a1) = false := decide_eq_false c6
       clear c6
       have H' := q_ H
       clear H
       have p267 : 0 ≤ (x10_1 : Int) := of_decide_eq_true z3_
       have q267 : x10_1 < (l0.length : Int) := of_decide_eq_true z3_
       obtain ⟨ad267, e267, hx267_0⟩ := Kd.at_int HR0.out x10_1 p267 q267
       cases e267
       replace p267 := eq_true p267
       replace q267 := eq_true q267
       go_wp2
       go_roundg k1
       case measure => have := HK1.out; omega
       case rel => exact ⟨(x5_1), (wrap64 (x10_1 + 1)), z8_, z8_, H', ⟨z76_⟩, z41_⟩
     ·rw [if_neg c5] at H
      exact absurd H (by simp)
    ·rw [if_neg c4] at H
     exact absurd H (by simp)
   ·rw [if_neg c3] at H
    have c3b0 : decide (x10_1 < (l0.length : Int)) = false := decide_eq_false c3
    clear c3
    obtain rfl := Option.some.inj H
    go_wp2
    go_ret
    exact ⟨z8_, z41_⟩

/-! ### impl_KidOf: function 23 -/
def impl_KidOf.f (k : Nat) (a0_0 : Bool) (l0_1 : List (S92)) (l0_2 : List Int) (l0_3 : List (S34)) (l0_4 : List (S72)) (a1 : Int) : Option (Int) := if a0_0 = true then (some (-1)) else ((impl_TreeOk.f k a0_0 l0_1 l0_2 l0_3 l0_4).bind fun t269 => (if t269 = true then ((impl_kidOf.f k l0_2 a1).bind fun t270 => (some t270)) else (some (-1))))
theorem impl_KidOf.mono : ∀ a0 a1 a2 a3 a4 a5 k, LeO (impl_KidOf.f k a0 a1 a2 a3 a4 a5) (impl_KidOf.f (k + 1) a0 a1 a2 a3 a4 a5) := by
 intro a0 a1 a2 a3 a4 a5 k
 unfold impl_KidOf.f
 repeat' first
   | (with_reducible exact impl_TreeOk.mono _ _ _ _ _ _)
   | (with_reducible exact impl_kidOf.mono _ _ _)
   | (with_reducible exact LeO.refl _)
   | (with_reducible exact LeO.none _)
   | (with_reducible refine LeO.ite ?_ ?_)
   | (with_reducible refine LeO.bind ?_ (fun _ => ?_))
   | exact impl_TreeOk.mono _ _ _ _ _ _
   | exact impl_kidOf.mono _ _ _
   | exact LeO.none _
   | refine LeO.ite ?_ ?_
   | refine LeO.bind ?_ (fun _ => ?_)
set_option maxHeartbeats 8000000 in
set_option maxRecDepth 100000 in
theorem impl_KidOf.calls (k : Nat) (a0_0 : Bool) (A0_1 : Option Addr) (c0_1 : Nat) (l0_1 : List (S92)) (A0_2 : Option Addr) (c0_2 : Nat) (l0_2 : List Int) (A0_3 : Option Addr) (c0_3 : Nat) (l0_3 : List (S34)) (A0_4 : Option Addr) (c0_4 : Nat) (l0_4 : List (S72)) (a1 : Int) (r : Int) (w : World) (hr0_1 : Kd.C k92 w A0_1 l0_1.length l0_1) (hc0_1 : l0_1.length ≤ c0_1) (hr0_2 : Kd.C (Kd.int .i64) w A0_2 l0_2.length l0_2) (hc0_2 : l0_2.length ≤ c0_2) (hr0_3 : Kd.C k34 w A0_3 l0_3.length l0_3) (hc0_3 : l0_3.length ≤ c0_3) (hr0_4 : Kd.C k72 w A0_4 l0_4.length l0_4) (hc0_4 : l0_4.length ≤ c0_4) (h : impl_KidOf.f k a0_0 l0_1 l0_2 l0_3 l0_4 a1 = some r) :
  Calls Try.prog 23 #[.agg #[.bool a0_0, .slice A0_1 l0_1.length c0_1, .slice A0_2 l0_2.length c0_2, .slice A0_3 l0_3.length c0_3, .slice A0_4 l0_4.length c0_4], .int .i64 a1] w fun e w' => e = .returned (.int .i64 r) ∧ Below w.heap.size w w' := by
 have hu34 := Try.underlying34
 have HR0_1 := q_ hr0_1
 have HC0_1 := q_ hc0_1
 clear hr0_1 hc0_1
 have HR0_2 := q_ hr0_2
 have HC0_2 := q_ hc0_2
 clear hr0_2 hc0_2
 have HR0_3 := q_ hr0_3
 have HC0_3 := q_ hc0_3
 clear hr0_3 hc0_3
 have HR0_4 := q_ hr0_4
 have HC0_4 := q_ hc0_4
 clear hr0_4 hc0_4
 have HB := q_ (Below.refl w.heap.size w)
 have H : (if a0_0 = true then (some (-1)) else ((impl_TreeOk.f k a0_0 l0_1 l0_2 l0_3 l0_4).bind fun t269 => (if t269 = true then ((impl_kidOf.f k l0_2 a1).bind fun t270 => (some t270)) else (some (-1))))) = some r := h
 clear h
 by_cases c3 : a0_0 = true
 ·subst c3
  have H1 : (some (-1)) = some r := z40_
  clear H
  have H := H1
  clear H1
  obtain rfl := Option.some.inj H
  go_enter Try.func23, Try.ntmps23
  go_wp2_with (first | ((with_reducible refine gate_dst (N := 2) rfl ?_); refine box_event ?hg (N := 2) ?hd (cs := #[.bool true, .slice A0_1 l0_1.length c0_1, .slice A0_2 l0_2.length c0_2, .slice A0_3 l0_3.length c0_3, .slice A0_4 l0_4.length c0_4]) (t := 34) ?hr ?_; (case hd => rfl); (case hg => rfl); (case hr => exact z146_); intro gb268 hg w4 hbox hb; have n0_ := q_ (below_step z0_ hb); have n1_ := q_ (hbox); have n2_ := q_ ((z107_ : w.heap.size ≤ gb268)); have n3_ := q_ ((z107_ : w.heap.size ≤ gb268)); clear HB; have HB := n0_; have BK268 := n1_; have GW268 := n2_; have GE268 := n3_; clear n0_ n1_ n2_ n3_; clear hb hbox hg; obtain ⟨hcz5_0, hcz5_1, hcz5_2, hcz5_3, hcz5_4, hfz5_0, hfz5_1, hfz5_2, hfz5_3, hfz5_4⟩ := cs5_ BK268.out))
  go_ret
  exact ⟨z2_, z92_⟩
 ·replace c3 := Bool.eq_false_iff.mpr c3
  subst c3
  have H1 : ((impl_TreeOk.f k false l0_1 l0_2 l0_3 l0_4).bind fun t269 => (if t269 = true then ((impl_kidOf.f k l0_2 a1).bind fun t270 => (some t270)) else (some (-1)))) = some r := by rw [if_neg (show ¬ (false = true) by decide)] at H; exact H
  clear H
  have H := H1
  clear H1
  replace H := Option.bind_eq_some_iff.mp H
  obtain ⟨t269, A60, H⟩ := H
  replace H : (if t269 = true then ((impl_kidOf.f k l0_2 a1).bind fun t270 => (some t270)) else (some (-1))) = some r := H
  have A6 := q_ A60
  clear A60
  by_cases c7 : t269 = true
  ·subst c7
   have H1 : ((impl_kidOf.f k l0_2 a1).bind fun t270 => (some t270)) = some r := z40_
   clear H
   have H := H1
   clear H1
   replace H := Option.bind_eq_some_iff.mp H
   obtain ⟨t270, A80, H⟩ := H
   replace H : (some t270) = some r := H
   have A8 := q_ A80
   clear A80
   obtain rfl := Option.some.inj H
   go_enter Try.func23, Try.ntmps23
   go_wp2_with (first | ((with_reducible refine gate_dst (N := 2) rfl ?_); refine box_event ?hg (N := 2) ?hd (cs := #[.bool false, .slice A0_1 l0_1.length c0_1, .slice A0_2 l0_2.length c0_2, .slice A0_3 l0_3.length c0_3, .slice A0_4 l0_4.length c0_4]) (t := 34) ?hr ?_; (case hd => rfl); (case hg => rfl); (case hr => exact z146_); intro gb268 hg w9 hbox hb; have n0_ := q_ (below_step z0_ hb); have n1_ := q_ (hbox); have n2_ := q_ ((z107_ : w.heap.size ≤ gb268)); have n3_ := q_ ((z107_ : w.heap.size ≤ gb268)); clear HB; have HB := n0_; have BK268 := n1_; have GW268 := n2_; have GE268 := n3_; clear n0_ n1_ n2_ n3_; clear hb hbox hg; obtain ⟨hcz10_0, hcz10_1, hcz10_2, hcz10_3, hcz10_4, hfz10_0, hfz10_1, hfz10_2, hfz10_3, hfz10_4⟩ := cs5_ BK268.out) | (go_at_call 21; (with_reducible refine (impl_TreeOk.calls k false _ _ l0_1 _ _ l0_2 _ _ l0_3 _ _ l0_4 true _ ?side1 ?side2 ?side3 ?side4 ?side5 ?side6 ?side7 ?side8 A6.out).mono ?_); (case side1 => exact z143_); (case side2 => exact z160_); (case side3 => exact z145_); (case side4 => exact z166_); (case side5 => exact z147_); (case side6 => exact z167_); (case side7 => exact z144_); (case side8 => exact z168_); rintro e w11 ⟨rfl, hb⟩; have n0_ := q_ (blk_below (g := gb268) (o := .cells #[.bool false, .slice A0_1 l0_1.length c0_1, .slice A0_2 l0_2.length c0_2, .slice A0_3 l0_3.length c0_3, .slice A0_4 l0_4.length c0_4] 34 (0, 0)) (by (with_reducible repeat (first | refine blk_drewN ?_ _ | refine blk_drew ?_ | refine blk_alloc ?_ _)); exact BK268.out) hb); have n1_ := q_ (below_step z92_ hb); clear BK268; clear HB; have BK268 := n0_; have HB := n1_; clear n0_ n1_; (try clear hb); (try clear hb2); (try clear hk); (try clear hi); obtain ⟨hcz12_0, hcz12_1, hcz12_2, hcz12_3, hcz12_4, hfz12_0, hfz12_1, hfz12_2, hfz12_3, hfz12_4⟩ := cs5_ BK268.out) | ((with_reducible refine gate_callee (f := 68) rfl ?_); refine goesL_ (some 15) rfl rfl Try.func68 (by kernel_rfl) rfl #[.slice A0_2 l0_2.length c0_2, .int .i64 a1] rfl z1_ ?_; (with_reducible refine (impl_kidOf.calls k _ _ l0_2 a1 t270 _ ?side1 ?side2 A8.out).mono ?_); (case side1 => exact z145_); (case side2 => exact z166_); rintro e w' ⟨rfl, ⟨nd, rfl⟩⟩; refine ⟨_, rfl, ?_⟩))
   go_ret
   exact ⟨z2_, z0_⟩
  ·replace c7 := Bool.eq_false_iff.mpr c7
   subst c7
   have H1 : (some (-1)) = some r := by rw [if_neg (show ¬ (false = true) by decide)] at H; exact H
   clear H
   have H := H1
   clear H1
   obtain rfl := Option.some.inj H
   go_enter Try.func23, Try.ntmps23
   go_wp2_with (first | ((with_reducible refine gate_dst (N := 2) rfl ?_); refine box_event ?hg (N := 2) ?hd (cs := #[.bool false, .slice A0_1 l0_1.length c0_1, .slice A0_2 l0_2.length c0_2, .slice A0_3 l0_3.length c0_3, .slice A0_4 l0_4.length c0_4]) (t := 34) ?hr ?_; (case hd => rfl); (case hg => rfl); (case hr => exact z146_); intro gb268 hg w13 hbox hb; have n0_ := q_ (below_step z0_ hb); have n1_ := q_ (hbox); have n2_ := q_ ((z107_ : w.heap.size ≤ gb268)); have n3_ := q_ ((z107_ : w.heap.size ≤ gb268)); clear HB; have HB := n0_; have BK268 := n1_; have GW268 := n2_; have GE268 := n3_; clear n0_ n1_ n2_ n3_; clear hb hbox hg; obtain ⟨hcz14_0, hcz14_1, hcz14_2, hcz14_3, hcz14_4, hfz14_0, hfz14_1, hfz14_2, hfz14_3, hfz14_4⟩ := cs5_ BK268.out) | (go_at_call 21; (with_reducible refine (impl_TreeOk.calls k false _ _ l0_1 _ _ l0_2 _ _ l0_3 _ _ l0_4 false _ ?side1 ?side2 ?side3 ?side4 ?side5 ?side6 ?side7 ?side8 A6.out).mono ?_); (case side1 => exact z143_); (case side2 => exact z160_); (case side3 => exact z145_); (case side4 => exact z166_); (case side5 => exact z147_); (case side6 => exact z167_); (case side7 => exact z144_); (case side8 => exact z168_); rintro e w15 ⟨rfl, hb⟩; have n0_ := q_ (below_step z0_ hb); clear HB; have HB := n0_; clear n0_; (try clear hb); (try clear hb2); (try clear hk); (try clear hi)))
   go_ret
   exact ⟨z2_, z0_⟩

/-! ### laws_FnExactKidOf: function 5 -/
def laws_FnExactKidOf.f (k : Nat) (a0_0 : Bool) (l0_1 : List (S107)) (l0_2 : List Int) (l0_3 : List (S27)) (l0_4 : List (S109)) (a1 : Int) : Option (Bool) := (laws_szTree.f k a0_0 l0_1 l0_2 l0_3 l0_4 1048576).bind fun t272 => (if t272 < 0 then (some true) else ((laws_toTree.f k a0_0 l0_1 l0_2 l0_3 l0_4).bind fun bt273 => ((spec_KidOf.f k bt273.1 bt273.2.1 bt273.2.2.1 bt273.2.2.2.1 bt273.2.2.2.2 a1).bind fun t286 => ((laws_toTree.f k a0_0 l0_1 l0_2 l0_3 l0_4).bind fun bt287 => ((impl_KidOf.f k bt287.1 bt287.2.1 bt287.2.2.1 bt287.2.2.2.1 bt287.2.2.2.2 a1).bind fun t301 => (if t301 = t286 then ((laws_toTree.f k a0_0 l0_1 l0_2 l0_3 l0_4).bind fun bt302 => ((laws_eqTree.f k bt287.1 bt287.2.1 bt287.2.2.1 bt287.2.2.2.1 bt287.2.2.2.2 bt302.1 bt302.2.1 bt302.2.2.1 bt302.2.2.2.1 bt302.2.2.2.2).bind fun t315 => (if t315 = true then (some true) else (some false)))) else (some false)))))))
theorem laws_FnExactKidOf.mono : ∀ a0 a1 a2 a3 a4 a5 k, LeO (laws_FnExactKidOf.f k a0 a1 a2 a3 a4 a5) (laws_FnExactKidOf.f (k + 1) a0 a1 a2 a3 a4 a5) := by
 intro a0 a1 a2 a3 a4 a5 k
 unfold laws_FnExactKidOf.f
 repeat' first
   | (with_reducible exact impl_KidOf.mono _ _ _ _ _ _ _)
   | (with_reducible exact laws_eqTree.mono _ _ _ _ _ _ _ _ _ _ _)
   | (with_reducible exact laws_szTree.mono _ _ _ _ _ _ _)
   | (with_reducible exact laws_toTree.mono _ _ _ _ _ _)
   | (with_reducible exact spec_KidOf.mono _ _ _ _ _ _ _)
   | (with_reducible exact LeO.refl _)
   | (with_reducible exact LeO.none _)
   | (with_reducible refine LeO.ite ?_ ?_)
   | (with_reducible refine LeO.bind ?_ (fun _ => ?_))
   | exact impl_KidOf.mono _ _ _ _ _ _ _
   | exact laws_eqTree.mono _ _ _ _ _ _ _ _ _ _ _
   | exact laws_szTree.mono _ _ _ _ _ _ _
   | exact laws_toTree.mono _ _ _ _ _ _
   | exact spec_KidOf.mono _ _ _ _ _ _ _
   | exact LeO.none _
   | refine LeO.ite ?_ ?_
   | refine LeO.bind ?_ (fun _ => ?_)
set_option maxHeartbeats 8000000 in
set_option maxRecDepth 100000 in
theorem laws_FnExactKidOf.calls (k : Nat) (a0_0 : Bool) (A0_1 : Option Addr) (c0_1 : Nat) (l0_1 : List (S107)) (A0_2 : Option Addr) (c0_2 : Nat) (l0_2 : List Int) (A0_3 : Option Addr) (c0_3 : Nat) (l0_3 : List (S27)) (A0_4 : Option Addr) (c0_4 : Nat) (l0_4 : List (S109)) (a1 : Int) (r : Bool) (w : World) (hr0_1 : Kd.C k107 w A0_1 l0_1.length l0_1) (hc0_1 : l0_1.length ≤ c0_1) (hr0_2 : Kd.C (Kd.int .i64) w A0_2 l0_2.length l0_2) (hc0_2 : l0_2.length ≤ c0_2) (hr0_3 : Kd.C k27 w A0_3 l0_3.length l0_3) (hc0_3 : l0_3.length ≤ c0_3) (hr0_4 : Kd.C k109 w A0_4 l0_4.length l0_4) (hc0_4 : l0_4.length ≤ c0_4) (h : laws_FnExactKidOf.f k a0_0 l0_1 l0_2 l0_3 l0_4 a1 = some r) :
  Calls Try.prog 5 #[.agg #[.bool a0_0, .slice A0_1 l0_1.length c0_1, .slice A0_2 l0_2.length c0_2, .slice A0_3 l0_3.length c0_3, .slice A0_4 l0_4.length c0_4], .int .i64 a1] w fun e w' => e = .returned (.bool r) ∧ Below w.heap.size w w' := by
 have hu27 := Try.underlying27
 have hu34 := Try.underlying34
 have HR0_1 := q_ hr0_1
 have HC0_1 := q_ hc0_1
 clear hr0_1 hc0_1
 have HR0_2 := q_ hr0_2
 have HC0_2 := q_ hc0_2
 clear hr0_2 hc0_2
 have HR0_3 := q_ hr0_3
 have HC0_3 := q_ hc0_3
 clear hr0_3 hc0_3
 have HR0_4 := q_ hr0_4
 have HC0_4 := q_ hc0_4
 clear hr0_4 hc0_4
 have HB := q_ (Below.refl w.heap.size w)
 have H : ((laws_szTree.f k a0_0 l0_1 l0_2 l0_3 l0_4 1048576).bind fun t272 => (if t272 < 0 then (some true) else ((laws_toTree.f k a0_0 l0_1 l0_2 l0_3 l0_4).bind fun bt273 => ((spec_KidOf.f k bt273.1 bt273.2.1 bt273.2.2.1 bt273.2.2.2.1 bt273.2.2.2.2 a1).bind fun t286 => ((laws_toTree.f k a0_0 l0_1 l0_2 l0_3 l0_4).bind fun bt287 => ((impl_KidOf.f k bt287.1 bt287.2.1 bt287.2.2.1 bt287.2.2.2.1 bt287.2.2.2.2 a1).bind fun t301 => (if t301 = t286 then ((laws_toTree.f k a0_0 l0_1 l0_2 l0_3 l0_4).bind fun bt302 => ((laws_eqTree.f k bt287.1 bt287.2.1 bt287.2.2.1 bt287.2.2.2.1 bt287.2.2.2.2 bt302.1 bt302.2.1 bt302.2.2.1 bt302.2.2.2.1 bt302.2.2.2.2).bind fun t315 => (if t315 = true then (some true) else (some false)))) else (some false)))))))) = some r := h
 clear h
 replace H := Option.bind_eq_some_iff.mp H
 obtain ⟨t272, A30, H⟩ := H
 replace H : (if t272 < 0 then (some true) else ((laws_toTree.f k a0_0 l0_1 l0_2 l0_3 l0_4).bind fun bt273 => ((spec_KidOf.f k bt273.1 bt273.2.1 bt273.2.2.1 bt273.2.2.2.1 bt273.2.2.2.2 a1).bind fun t286 => ((laws_toTree.f k a0_0 l0_1 l0_2 l0_3 l0_4).bind fun bt287 => ((impl_KidOf.f k bt287.1 bt287.2.1 bt287.2.2.1 bt287.2.2.2.1 bt287.2.2.2.2 a1).bind fun t301 => (if t301 = t286 then ((laws_toTree.f k a0_0 l0_1 l0_2 l0_3 l0_4).bind fun bt302 => ((laws_eqTree.f k bt287.1 bt287.2.1 bt287.2.2.1 bt287.2.2.2.1 bt287.2.2.2.2 bt302.1 bt302.2.1 bt302.2.2.1 bt302.2.2.2.1 bt302.2.2.2.2).bind fun t315 => (if t315 = true then (some true) else (some false)))) else (some false))))))) = some r := H
 have A3 := q_ A30
 clear A30
 by_cases c4 : t272 < 0
 ·rw [if_pos c4] at H
  have c4b0 : decide (t272 < 0) = true := decide_eq_true c4
  clear c4
  obtain rfl := Option.some.inj H
  go_enter Try.func5, Try.ntmps5
  go_wp2_with (first | ((with_reducible refine gate_dst (N := 2) rfl ?_); refine box_event ?hg (N := 2) ?hd (cs := #[.bool a0_0, .slice A0_1 l0_1.length c0_1, .slice A0_2 l0_2.length c0_2, .slice A0_3 l0_3.length c0_3, .slice A0_4 l0_4.length c0_4]) (t := 27) ?hr ?_; (case hd => rfl); (case hg => rfl); (case hr => exact z146_); intro gb271 hg w5 hbox hb; have n0_ := q_ (below_step z0_ hb); have n1_ := q_ (hbox); have n2_ := q_ ((z107_ : w.heap.size ≤ gb271)); have n3_ := q_ ((z107_ : w.heap.size ≤ gb271)); clear HB; have HB := n0_; have BK271 := n1_; have GW271 := n2_; have GE271 := n3_; clear n0_ n1_ n2_ n3_; clear hb hbox hg; obtain ⟨hcz6_0, hcz6_1, hcz6_2, hcz6_3, hcz6_4, hfz6_0, hfz6_1, hfz6_2, hfz6_3, hfz6_4⟩ := cs5_ BK271.out) | ((with_reducible refine gate_callee (f := 15) rfl ?_); refine goesL_ (some 11) rfl rfl Try.func15 (by kernel_rfl) rfl #[.agg #[.bool a0_0, .slice A0_1 l0_1.length c0_1, .slice A0_2 l0_2.length c0_2, .slice A0_3 l0_3.length c0_3, .slice A0_4 l0_4.length c0_4], .int .i64 1048576] rfl z1_ ?_; (with_reducible refine (laws_szTree.calls k a0_0 _ _ l0_1 _ _ l0_2 _ _ l0_3 _ _ l0_4 1048576 t272 _ ?side1 ?side2 ?side3 ?side4 ?side5 ?side6 ?side7 ?side8 A3.out).mono ?_); (case side1 => exact z143_); (case side2 => exact z160_); (case side3 => exact z145_); (case side4 => exact z166_); (case side5 => exact z147_); (case side6 => exact z167_); (case side7 => exact z144_); (case side8 => exact z168_); rintro e w7 ⟨rfl, hb⟩; refine ⟨_, rfl, ?_⟩; have n0_ := q_ (below_step z0_ hb); clear HB; have HB := n0_; clear n0_; (try clear hb); (try clear hb2); (try clear hk); (try clear hi)))
  go_ret
  exact ⟨z2_, z0_⟩
 ·rw [if_neg c4] at H
  have c4b0 : decide (t272 < 0) = false := decide_eq_false c4
  clear c4
  replace H := Option.bind_eq_some_iff.mp H
  obtain ⟨⟨t273, t274, t277, t280, t283⟩, A80, H⟩ := H
  replace H : ((spec_KidOf.f k t273 t274 t277 t280 t283 a1).bind fun t286 => ((laws_toTree.f k a0_0 l0_1 l0_2 l0_3 l0_4).bind fun bt287 => ((impl_KidOf.f k bt287.1 bt287.2.1 bt287.2.2.1 bt287.2.2.2.1 bt287.2.2.2.2 a1).bind fun t301 => (if t301 = t286 then ((laws_toTree.f k a0_0 l0_1 l0_2 l0_3 l0_4).bind fun bt302 => ((laws_eqTree.f k bt287.1 bt287.2.1 bt287.2.2.1 bt287.2.2.2.1 bt287.2.2.2.2 bt302.1 bt302.2.1 bt302.2.2.1 bt302.2.2.2.1 bt302.2.2.2.2).bind fun t315 => (if t315 = true then (some true) else (some false)))) else (some false))))) = some r := H
  have A8 := q_ A80
  clear A80
  replace H := Option.bind_eq_some_iff.mp H
  obtain ⟨t286, A90, H⟩ := H
  replace H : ((laws_toTree.f k a0_0 l0_1 l0_2 l0_3 l0_4).bind fun bt287 => ((impl_KidOf.f k bt287.1 bt287.2.1 bt287.2.2.1 bt287.2.2.2.1 bt287.2.2.2.2 a1).bind fun t301 => (if t301 = t286 then ((laws_toTree.f k a0_0 l0_1 l0_2 l0_3 l0_4).bind fun bt302 => ((laws_eqTree.f k bt287.1 bt287.2.1 bt287.2.2.1 bt287.2.2.2.1 bt287.2.2.2.2 bt302.1 bt302.2.1 bt302.2.2.1 bt302.2.2.2.1 bt302.2.2.2.2).bind fun t315 => (if t315 = true then (some true) else (some false)))) else (some false)))) = some r := H
  have A9 := q_ A90
  clear A90
  replace H := Option.bind_eq_some_iff.mp H
  obtain ⟨⟨t287, t288, t291, t294, t297⟩, A100, H⟩ := H
  replace H : ((impl_KidOf.f k t287 t288 t291 t294 t297 a1).bind fun t301 => (if t301 = t286 then ((laws_toTree.f k a0_0 l0_1 l0_2 l0_3 l0_4).bind fun bt302 => ((laws_eqTree.f k t287 t288 t291 t294 t297 bt302.1 bt302.2.1 bt302.2.2.1 bt302.2.2.2.1 bt302.2.2.2.2).bind fun t315 => (if t315 = true then (some true) else (some false)))) else (some false))) = some r := H
  have A10 := q_ A100
  clear A100
  replace H := Option.bind_eq_some_iff.mp H
  obtain ⟨t301, A110, H⟩ := H
  replace H : (if t301 = t286 then ((laws_toTree.f k a0_0 l0_1 l0_2 l0_3 l0_4).bind fun bt302 => ((laws_eqTree.f k t287 t288 t291 t294 t297 bt302.1 bt302.2.1 bt302.2.2.1 bt302.2.2.2.1 bt302.2.2.2.2).bind fun t315 => (if t315 = true then (some true) else (some false)))) else (some false)) = some r := H
  have A11 := q_ A110
  clear A110
  by_cases c12 : t301 = t286
  ·rw [if_pos c12] at H
   have c12b0 : (t301 == t286) = true := beq_iff_eq.mpr c12
   have c12b1 : (t301 != t286) = false := bne_eq_false_iff_eq.mpr c12
   clear c12
   replace H := Option.bind_eq_some_iff.mp H
   obtain ⟨⟨t302, t303, t306, t309, t312⟩, A130, H⟩ := H
   replace H : ((laws_eqTree.f k t287 t288 t291 t294 t297 t302 t303 t306 t309 t312).bind fun t315 => (if t315 = true then (some true) else (some false))) = some r := H
   have A13 := q_ A130
   clear A130
   replace H := Option.bind_eq_some_iff.mp H
   obtain ⟨t315, A140, H⟩ := H
   replace H : (if t315 = true then (some true) else (some false)) = some r := H
   have A14 := q_ A140
   clear A140
   by_cases c15 : t315 = true
   ·subst c15
    have H1 : (some true) = some r := z40_
    clear H
    have H := H1
    clear H1
    obtain rfl := Option.some.inj H
    go_enter Try.func5, Try.ntmps5
    try go_wp2_with (first | ((with_reducible refine gate_dst (N := 2) rfl ?_); refine box_event ?hg (N := 2) ?hd (cs := #[.bool a0_0, .slice A0_1 l0_1.length c0_1, .slice A0_2 l0_2.length c0_2, .slice A0_3 l0_3.length c0_3, .slice A0_4 l0_4.length c0_4]) (t := 27) ?hr ?_; (case hd => rfl); (case hg => rfl); (case hr => exact z146_); intro gb271 hg w16 hbox hb; have n0_ := q_ (below_step z0_ hb); have n1_ := q_ (hbox); have n2_ := q_ ((z107_ : w.heap.size ≤ gb271)); have n3_ := q_ ((z107_ : w.heap.size ≤ gb271)); clear HB; have HB := n0_; have BK271 := n1_; have GW271 := n2_; have GE271 := n3_; clear n0_ n1_ n2_ n3_; clear hb hbox hg; obtain ⟨hcz17_0, hcz17_1, hcz17_2, hcz17_3, hcz17_4, hfz17_0, hfz17_1, hfz17_2, hfz17_3, hfz17_4⟩ := cs5_ BK271.out) | ((with_reducible refine gate_callee (f := 15) rfl ?_); refine goesL_ (some 11) rfl rfl Try.func15 (by kernel_rfl) rfl #[.agg #[.bool a0_0, .slice A0_1 l0_1.length c0_1, .slice A0_2 l0_2.length c0_2, .slice A0_3 l0_3.length c0_3, .slice A0_4 l0_4.length c0_4], .int .i64 1048576] rfl z1_ ?_; (with_reducible refine (laws_szTree.calls k a0_0 _ _ l0_1 _ _ l0_2 _ _ l0_3 _ _ l0_4 1048576 t272 _ ?side1 ?side2 ?side3 ?side4 ?side5 ?side6 ?side7 ?side8 A3.out).mono ?_); (case side1 => exact z143_); (case side2 => exact z160_); (case side3 => exact z145_); (case side4 => exact z166_); (case side5 => exact z147_); (case side6 => exact z167_); (case side7 => exact z144_); (case side8 => exact z168_); rintro e w18 ⟨rfl, hb⟩; refine ⟨_, rfl, ?_⟩; have n0_ := q_ (blk_below (g := gb271) (o := .cells #[.bool a0_0, .slice A0_1 l0_1.length c0_1, .slice A0_2 l0_2.length c0_2, .slice A0_3 l0_3.length c0_3, .slice A0_4 l0_4.length c0_4] 27 (0, 0)) z17_ hb); have n1_ := q_ (below_step z5_ hb); clear BK271; clear HB; have BK271 := n0_; have HB := n1_; clear n0_ n1_; (try clear hb); (try clear hb2); (try clear hk); (try clear hi); obtain ⟨hcz19_0, hcz19_1, hcz19_2, hcz19_3, hcz19_4, hfz19_0, hfz19_1, hfz19_2, hfz19_3, hfz19_4⟩ := cs5_ BK271.out) | ((with_reducible refine gate_callee (f := 17) rfl ?_); refine goesL_ (some 15) rfl rfl Try.func17 (by kernel_rfl) rfl #[.agg #[.bool a0_0, .slice A0_1 l0_1.length c0_1, .slice A0_2 l0_2.length c0_2, .slice A0_3 l0_3.length c0_3, .slice A0_4 l0_4.length c0_4]] rfl z1_ ?_; (with_reducible refine (laws_toTree.calls k a0_0 _ _ l0_1 _ _ l0_2 _ _ l0_3 _ _ l0_4 t273 t274 t277 t280 t283 _ ?side1 ?side2 ?side3 ?side4 ?side5 ?side6 ?side7 ?side8 A8.out).mono ?_); (case side1 => exact z143_); (case side2 => exact z160_); (case side3 => exact z145_); (case side4 => exact z166_); (case side5 => exact z147_); (case side6 => exact z167_); (case side7 => exact z144_); (case side8 => exact z168_); rintro e w20 ⟨v275, v278, v281, v284, rfl, ho0, ho1, ho2, ho3, hb⟩; refine ⟨_, rfl, ?_⟩; have n0_ := q_ (Kd.R_lower ho0 (below_size z5_)); have n1_ := q_ (Kd.R_lower ho1 (below_size z5_)); have n2_ := q_ (Kd.R_lower ho2 (below_size z5_)); have n3_ := q_ (Kd.R_lower ho3 (below_size z5_)); have n4_ := q_ (blk_below (g := gb271) (o := .cells #[.bool a0_0, .slice A0_1 l0_1.length c0_1, .slice A0_2 l0_2.length c0_2, .slice A0_3 l0_3.length c0_3, .slice A0_4 l0_4.length c0_4] 27 (0, 0)) z17_ hb); have n5_ := q_ (below_step z5_ hb); clear BK271; clear HB; have HO276 := n0_; have HO279 := n1_; have HO282 := n2_; have HO285 := n3_; have BK271 := n4_; have HB := n5_; clear n0_ n1_ n2_ n3_ n4_ n5_; (try clear hb); (try clear hb2); (try clear hk); (try clear hi); (try clear ho0); (try clear ho1); (try clear ho2); (try clear ho3); obtain ⟨Ao21, co21, eo21⟩ := Kd.R_slice HO276.out; subst eo21; obtain ⟨Ao22, co22, eo22⟩ := Kd.R_slice HO279.out; subst eo22; obtain ⟨Ao23, co23, eo23⟩ := Kd.R_slice HO282.out; subst eo23; obtain ⟨Ao24, co24, eo24⟩ := Kd.R_slice HO285.out; subst eo24) | ((with_reducible refine gate_callee (f := 22) rfl ?_); refine goesL_ (some 17) rfl rfl Try.func22 (by kernel_rfl) rfl #[.agg #[.bool t273, .slice Ao21 t274.length co21, .slice Ao22 t277.length co22, .slice Ao23 t280.length co23, .slice Ao24 t283.length co24], .int .i64 a1] rfl z1_ ?_; (with_reducible refine (spec_KidOf.calls k t273 _ _ t274 _ _ t277 _ _ t280 _ _ t283 a1 t286 _ ?side1 ?side2 ?side3 ?side4 ?side5 ?side6 ?side7 ?side8 A9.out).mono ?_); (case side1 => exact z162_); (case side2 => exact (Kd.R_reads' HO276.out).2.1); (case side3 => exact z163_); (case side4 => exact (Kd.R_reads' HO279.out).2.1); (case side5 => exact z164_); (case side6 => exact (Kd.R_reads' HO282.out).2.1); (case side7 => exact z165_); (case side8 => exact (Kd.R_reads' HO285.out).2.1); rintro e w25 ⟨rfl, hb⟩; refine ⟨_, rfl, ?_⟩; have n0_ := q_ (Kd.R_below z18_ hb); have n1_ := q_ (Kd.R_below z19_ hb); have n2_ := q_ (Kd.R_below z26_ hb); have n3_ := q_ (Kd.R_below z20_ hb); have n4_ := q_ (blk_below (g := gb271) (o := .cells #[.bool a0_0, .slice A0_1 l0_1.length c0_1, .slice A0_2 l0_2.length c0_2, .slice A0_3 l0_3.length c0_3, .slice A0_4 l0_4.length c0_4] 27 (0, 0)) z17_ hb); have n5_ := q_ (below_step z5_ hb); clear HO276; clear HO279; clear HO282; clear HO285; clear BK271; clear HB; have HO276 := n0_; have HO279 := n1_; have HO282 := n2_; have HO285 := n3_; have BK271 := n4_; have HB := n5_; clear n0_ n1_ n2_ n3_ n4_ n5_; (try clear hb); (try clear hb2); (try clear hk); (try clear hi); obtain ⟨hcz26_0, hcz26_1, hcz26_2, hcz26_3, hcz26_4, hfz26_0, hfz26_1, hfz26_2, hfz26_3, hfz26_4⟩ := cs5_ BK271.out) | ((with_reducible refine gate_callee (f := 17) rfl ?_); refine goesL_ (some 19) rfl rfl Try.func17 (by kernel_rfl) rfl #[.agg #[.bool a0_0, .slice A0_1 l0_1.length c0_1, .slice A0_2 l0_2.length c0_2, .slice A0_3 l0_3.length c0_3, .slice A0_4 l0_4.length c0_4]] rfl z1_ ?_; (with_reducible refine (laws_toTree.calls k a0_0 _ _ l0_1 _ _ l0_2 _ _ l0_3 _ _ l0_4 t287 t288 t291 t294 t297 _ ?side1 ?side2 ?side3 ?side4 ?side5 ?side6 ?side7 ?side8 A10.out).mono ?_); (case side1 => exact z143_); (case side2 => exact z160_); (case side3 => exact z145_); (case side4 => exact z166_); (case side5 => exact z147_); (case side6 => exact z167_); (case side7 => exact z144_); (case side8 => exact z168_); rintro e w27 ⟨v289, v292, v295, v298, rfl, ho0, ho1, ho2, ho3, hb⟩; refine ⟨_, rfl, ?_⟩; have n0_ := q_ (Kd.R_elder' z18_ (Kd.R_base ho0) hb); have n1_ := q_ (Kd.R_elder' z19_ (Kd.R_base ho1) hb); have n2_ := q_ (Kd.R_mono (Kd.R_told (Kd.R_told (Kd.R_told (Kd.R_told (Kd.R_old z26_ hb) (Kd.R_base ho0)) (Kd.R_base ho1)) (Kd.R_base ho2)) (Kd.R_base ho3)) (fun _ h_ => h_.1)); have n3_ := q_ (Kd.R_elder' z20_ (Kd.R_base ho3) hb); have n4_ := q_ (Kd.R_lower (Kd.R_new' ho0 (Kd.R_lt z18_)) (below_size z5_)); have n5_ := q_ (Kd.R_lower (Kd.R_new' ho1 (Kd.R_lt z19_)) (below_size z5_)); have n6_ := q_ (Kd.R_lower (Kd.R_new' (Kd.R_new' (Kd.R_new' (Kd.R_new' ho2 (Kd.R_lt z18_)) (Kd.R_lt z19_)) (Kd.R_lt z26_)) (Kd.R_lt z20_)) (below_size z5_)); have n7_ := q_ (Kd.R_lower (Kd.R_new' ho3 (Kd.R_lt z20_)) (below_size z5_)); have n8_ := q_ (blk_below (g := gb271) (o := .cells #[.bool a0_0, .slice A0_1 l0_1.length c0_1, .slice A0_2 l0_2.length c0_2, .slice A0_3 l0_3.length c0_3, .slice A0_4 l0_4.length c0_4] 27 (0, 0)) z17_ hb); have n9_ := q_ (below_step z5_ hb); clear HO276; clear HO279; clear HO282; clear HO285; clear BK271; clear HB; have HO276 := n0_; have HO279 := n1_; have HO282 := n2_; have HO285 := n3_; have HO290 := n4_; have HO293 := n5_; have HO296 := n6_; have HO299 := n7_; have BK271 := n8_; have HB := n9_; clear n0_ n1_ n2_ n3_ n4_ n5_ n6_ n7_ n8_ n9_; (try clear hb); (try clear hb2); (try clear hk); (try clear hi); (try clear ho0); (try clear ho1); (try clear ho2); (try clear ho3)) | ((with_reducible refine gate_dst (N := 7) rfl ?_); refine box_event ?hg (N := 7) ?hd (cs := #[.bool false, .slice none 0 0, .slice none 0 0, .slice none 0 0, .slice none 0 0]) (t := 34) ?hr ?_; (case hd => rfl); (case hg => rfl); (case hr => exact z146_); intro gb300 hg w28 hbox hb; have n0_ := q_ (Kd.R_below z18_ hb); have n1_ := q_ (Kd.R_below z19_ hb); have n2_ := q_ (Kd.R_below (Kd.R_elderB z26_ gb300 (Nat.le_of_eq hg.symm)) hb); have n3_ := q_ (Kd.R_below z20_ hb); have n4_ := q_ (Kd.R_below z48_ hb); have n5_ := q_ (Kd.R_below z49_ hb); have n6_ := q_ (Kd.R_below (Kd.R_elderB z54_ gb300 (Nat.le_of_eq hg.symm)) hb); have n7_ := q_ (Kd.R_below z50_ hb); have n8_ := q_ (blk_below (g := gb271) (o := .cells #[.bool a0_0, .slice A0_1 l0_1.length c0_1, .slice A0_2 l0_2.length c0_2, .slice A0_3 l0_3.length c0_3, .slice A0_4 l0_4.length c0_4] 27 (0, 0)) z17_ hb); have n9_ := q_ (below_step z5_ hb); have n10_ := q_ (hbox); have n11_ := q_ ((z142_ : w.heap.size ≤ gb300)); have n12_ := q_ ((z142_ : w.heap.size ≤ gb300)); have n13_ := q_ ((z122_ : gb271 ≠ gb300)); have n14_ := q_ ((z123_ : gb300 ≠ gb271)); clear HO276; clear HO279; clear HO282; clear HO285; clear HO290; clear HO293; clear HO296; clear HO299; clear BK271; clear HB; have HO276 := n0_; have HO279 := n1_; have HO282 := n2_; have HO285 := n3_; have HO290 := n4_; have HO293 := n5_; have HO296 := n6_; have HO299 := n7_; have BK271 := n8_; have HB := n9_; have BK300 := n10_; have GW300 := n11_; have GE300 := n12_; have NB271_300 := n13_; have NB300_271 := n14_; clear n0_ n1_ n2_ n3_ n4_ n5_ n6_ n7_ n8_ n9_ n10_ n11_ n12_ n13_ n14_; clear hb hbox hg; have hnb29 := NB300_271.out; have hnc29 := NB271_300.out; obtain ⟨hcz30_0, hcz30_1, hcz30_2, hcz30_3, hcz30_4, hfz30_0, hfz30_1, hfz30_2, hfz30_3, hfz30_4⟩ := cs5_ BK300.out; obtain ⟨Ao31, co31, eo31⟩ := Kd.R_slice HO290.out; subst eo31; obtain ⟨Ao32, co32, eo32⟩ := Kd.R_slice HO293.out; subst eo32; obtain ⟨Ao33, co33, eo33⟩ := Kd.R_slice HO296.out; subst eo33; obtain ⟨Ao34, co34, eo34⟩ := Kd.R_slice HO299.out; subst eo34) | ((with_reducible refine gate_callee (f := 23) rfl ?_); refine goesL_ (some 22) rfl rfl Try.func23 (by kernel_rfl) rfl #[.agg #[.bool t287, .slice Ao31 t288.length co31, .slice Ao32 t291.length co32, .slice Ao33 t294.length co33, .slice Ao34 t297.length co34], .int .i64 a1] rfl z1_ ?_; (with_reducible refine (impl_KidOf.calls k t287 _ _ t288 _ _ t291 _ _ t294 _ _ t297 a1 t301 _ ?side1 ?side2 ?side3 ?side4 ?side5 ?side6 ?side7 ?side8 A11.out).mono ?_); (case side1 => refine (Kd.R_reads' (e := 92) (base := w.heap.size) (ok := fun k_ => (True ∧ some k_ ≠ (.slice Ao21 t274.length co21 : Value).ownBlock)) (n := t288.length) (c := co31) ?_).2.2; exact (by (with_reducible repeat (first | apply Kd.R_alloc | apply Kd.R_drewN | apply Kd.R_drew)); exact (Kd.R_mono (Kd.R_far (p := ⟨gb300, 4, none⟩) (Kd.R_far (p := ⟨gb300, 3, none⟩) (Kd.R_far (p := ⟨gb300, 2, none⟩) (Kd.R_far (p := ⟨gb300, 1, none⟩) (Kd.R_far (p := ⟨gb300, 0, none⟩) (Kd.R_types HO290.out BK300.out (by decide)) (fun _ hk => hk.2) (.bool t287)) (fun _ hk => hk.2) (.slice Ao31 t288.length co31)) (fun _ hk => hk.2) (.slice Ao32 t291.length co32)) (fun _ hk => hk.2) (.slice Ao33 t294.length co33)) (fun _ hk => hk.2) (.slice Ao34 t297.length co34)) (fun _ h_ => h_.1)))); (case side2 => exact z205_); (case side3 => refine (Kd.R_reads' (e := 3) (base := w.heap.size) (ok := fun k_ => (True ∧ some k_ ≠ (.slice Ao22 t277.length co22 : Value).ownBlock)) (n := t291.length) (c := co32) ?_).2.2; exact (by (with_reducible repeat (first | apply Kd.R_alloc | apply Kd.R_drewN | apply Kd.R_drew)); exact (Kd.R_mono (Kd.R_far (p := ⟨gb300, 4, none⟩) (Kd.R_far (p := ⟨gb300, 3, none⟩) (Kd.R_far (p := ⟨gb300, 2, none⟩) (Kd.R_far (p := ⟨gb300, 1, none⟩) (Kd.R_far (p := ⟨gb300, 0, none⟩) (Kd.R_types HO293.out BK300.out (by decide)) (fun _ hk => hk.2) (.bool t287)) (fun _ hk => hk.2) (.slice Ao31 t288.length co31)) (fun _ hk => hk.2) (.slice Ao32 t291.length co32)) (fun _ hk => hk.2) (.slice Ao33 t294.length co33)) (fun _ hk => hk.2) (.slice Ao34 t297.length co34)) (fun _ h_ => h_.1)))); (case side4 => exact z206_); (case side5 => refine (Kd.R_reads' (e := 34) (base := w.heap.size) (ok := fun k_ => ((((((some k_ ≠ (.slice Ao31 t288.length co31 : Value).ownBlock ∧ (some k_ ≠ (.slice Ao32 t291.length co32 : Value).ownBlock ∧ some k_ ≠ (.slice Ao34 t297.length co34 : Value).ownBlock)) ∧ some k_ ≠ (.slice Ao21 t274.length co21 : Value).ownBlock) ∧ some k_ ≠ (.slice Ao22 t277.length co22 : Value).ownBlock) ∧ some k_ ≠ (.slice Ao23 t280.length co23 : Value).ownBlock) ∧ some k_ ≠ (.slice Ao24 t283.length co24 : Value).ownBlock) ∧ k_ ≠ gb300)) (n := t294.length) (c := co33) ?_).2.2; exact z43_); (case side6 => exact z207_); (case side7 => refine (Kd.R_reads' (e := 72) (base := w.heap.size) (ok := fun k_ => (True ∧ some k_ ≠ (.slice Ao24 t283.length co24 : Value).ownBlock)) (n := t297.length) (c := co34) ?_).2.2; exact (by (with_reducible repeat (first | apply Kd.R_alloc | apply Kd.R_drewN | apply Kd.R_drew)); exact (Kd.R_mono (Kd.R_far (p := ⟨gb300, 4, none⟩) (Kd.R_far (p := ⟨gb300, 3, none⟩) (Kd.R_far (p := ⟨gb300, 2, none⟩) (Kd.R_far (p := ⟨gb300, 1, none⟩) (Kd.R_far (p := ⟨gb300, 0, none⟩) (Kd.R_types HO299.out BK300.out (by decide)) (fun _ hk => hk.2) (.bool t287)) (fun _ hk => hk.2) (.slice Ao31 t288.length co31)) (fun _ hk => hk.2) (.slice Ao32 t291.length co32)) (fun _ hk => hk.2) (.slice Ao33 t294.length co33)) (fun _ hk => hk.2) (.slice Ao34 t297.length co34)) (fun _ h_ => h_.1)))); (case side8 => exact z208_); rintro e w35 ⟨rfl, hb⟩; refine ⟨_, rfl, ?_⟩; have n0_ := q_ (Kd.R_below (by (with_reducible repeat (first | apply Kd.R_alloc | apply Kd.R_drewN | apply Kd.R_drew)); exact (Kd.R_mono (Kd.R_far (p := ⟨gb300, 4, none⟩) (Kd.R_far (p := ⟨gb300, 3, none⟩) (Kd.R_far (p := ⟨gb300, 2, none⟩) (Kd.R_far (p := ⟨gb300, 1, none⟩) (Kd.R_far (p := ⟨gb300, 0, none⟩) (Kd.R_types HO276.out BK300.out (by decide)) (fun _ hk => hk.2) (.bool t287)) (fun _ hk => hk.2) (.slice Ao31 t288.length co31)) (fun _ hk => hk.2) (.slice Ao32 t291.length co32)) (fun _ hk => hk.2) (.slice Ao33 t294.length co33)) (fun _ hk => hk.2) (.slice Ao34 t297.length co34)) (fun _ h_ => h_.1))) hb); have n1_ := q_ (Kd.R_below (by (with_reducible repeat (first | apply Kd.R_alloc | apply Kd.R_drewN | apply Kd.R_drew)); exact (Kd.R_mono (Kd.R_far (p := ⟨gb300, 4, none⟩) (Kd.R_far (p := ⟨gb300, 3, none⟩) (Kd.R_far (p := ⟨gb300, 2, none⟩) (Kd.R_far (p := ⟨gb300, 1, none⟩) (Kd.R_far (p := ⟨gb300, 0, none⟩) (Kd.R_types HO279.out BK300.out (by decide)) (fun _ hk => hk.2) (.bool t287)) (fun _ hk => hk.2) (.slice Ao31 t288.length co31)) (fun _ hk => hk.2) (.slice Ao32 t291.length co32)) (fun _ hk => hk.2) (.slice Ao33 t294.length co33)) (fun _ hk => hk.2) (.slice Ao34 t297.length co34)) (fun _ h_ => h_.1))) hb); have n2_ := q_ (Kd.R_below (by (with_reducible repeat (first | apply Kd.R_alloc | apply Kd.R_drewN | apply Kd.R_drew)); exact (Kd.R_mono (Kd.R_far (p := ⟨gb300, 4, none⟩) (Kd.R_far (p := ⟨gb300, 3, none⟩) (Kd.R_far (p := ⟨gb300, 2, none⟩) (Kd.R_far (p := ⟨gb300, 1, none⟩) (Kd.R_far (p := ⟨gb300, 0, none⟩) (Kd.R_mono HO282.out (fun k_ hk => (⟨hk, hk.2⟩ : _ ∧ k_ ≠ gb300))) (fun _ hk => hk.2) (.bool t287)) (fun _ hk => hk.2) (.slice Ao31 t288.length co31)) (fun _ hk => hk.2) (.slice Ao32 t291.length co32)) (fun _ hk => hk.2) (.slice Ao33 t294.length co33)) (fun _ hk => hk.2) (.slice Ao34 t297.length co34)) (fun _ h_ => h_.1))) hb); have n3_ := q_ (Kd.R_below (by (with_reducible repeat (first | apply Kd.R_alloc | apply Kd.R_drewN | apply Kd.R_drew)); exact (Kd.R_mono (Kd.R_far (p := ⟨gb300, 4, none⟩) (Kd.R_far (p := ⟨gb300, 3, none⟩) (Kd.R_far (p := ⟨gb300, 2, none⟩) (Kd.R_far (p := ⟨gb300, 1, none⟩) (Kd.R_far (p := ⟨gb300, 0, none⟩) (Kd.R_types HO285.out BK300.out (by decide)) (fun _ hk => hk.2) (.bool t287)) (fun _ hk => hk.2) (.slice Ao31 t288.length co31)) (fun _ hk => hk.2) (.slice Ao32 t291.length co32)) (fun _ hk => hk.2) (.slice Ao33 t294.length co33)) (fun _ hk => hk.2) (.slice Ao34 t297.length co34)) (fun _ h_ => h_.1))) hb); have n4_ := q_ (Kd.R_below (by (with_reducible repeat (first | apply Kd.R_alloc | apply Kd.R_drewN | apply Kd.R_drew)); exact (Kd.R_mono (Kd.R_far (p := ⟨gb300, 4, none⟩) (Kd.R_far (p := ⟨gb300, 3, none⟩) (Kd.R_far (p := ⟨gb300, 2, none⟩) (Kd.R_far (p := ⟨gb300, 1, none⟩) (Kd.R_far (p := ⟨gb300, 0, none⟩) (Kd.R_types HO290.out BK300.out (by decide)) (fun _ hk => hk.2) (.bool t287)) (fun _ hk => hk.2) (.slice Ao31 t288.length co31)) (fun _ hk => hk.2) (.slice Ao32 t291.length co32)) (fun _ hk => hk.2) (.slice Ao33 t294.length co33)) (fun _ hk => hk.2) (.slice Ao34 t297.length co34)) (fun _ h_ => h_.1))) hb); have n5_ := q_ (Kd.R_below (by (with_reducible repeat (first | apply Kd.R_alloc | apply Kd.R_drewN | apply Kd.R_drew)); exact (Kd.R_mono (Kd.R_far (p := ⟨gb300, 4, none⟩) (Kd.R_far (p := ⟨gb300, 3, none⟩) (Kd.R_far (p := ⟨gb300, 2, none⟩) (Kd.R_far (p := ⟨gb300, 1, none⟩) (Kd.R_far (p := ⟨gb300, 0, none⟩) (Kd.R_types HO293.out BK300.out (by decide)) (fun _ hk => hk.2) (.bool t287)) (fun _ hk => hk.2) (.slice Ao31 t288.length co31)) (fun _ hk => hk.2) (.slice Ao32 t291.length co32)) (fun _ hk => hk.2) (.slice Ao33 t294.length co33)) (fun _ hk => hk.2) (.slice Ao34 t297.length co34)) (fun _ h_ => h_.1))) hb); have n6_ := q_ (Kd.R_below z43_ hb); have n7_ := q_ (Kd.R_below (by (with_reducible repeat (first | apply Kd.R_alloc | apply Kd.R_drewN | apply Kd.R_drew)); exact (Kd.R_mono (Kd.R_far (p := ⟨gb300, 4, none⟩) (Kd.R_far (p := ⟨gb300, 3, none⟩) (Kd.R_far (p := ⟨gb300, 2, none⟩) (Kd.R_far (p := ⟨gb300, 1, none⟩) (Kd.R_far (p := ⟨gb300, 0, none⟩) (Kd.R_types HO299.out BK300.out (by decide)) (fun _ hk => hk.2) (.bool t287)) (fun _ hk => hk.2) (.slice Ao31 t288.length co31)) (fun _ hk => hk.2) (.slice Ao32 t291.length co32)) (fun _ hk => hk.2) (.slice Ao33 t294.length co33)) (fun _ hk => hk.2) (.slice Ao34 t297.length co34)) (fun _ h_ => h_.1))) hb); have n8_ := q_ (blk_below (g := gb271) (o := .cells #[.bool a0_0, .slice A0_1 l0_1.length c0_1, .slice A0_2 l0_2.length c0_2, .slice A0_3 l0_3.length c0_3, .slice A0_4 l0_4.length c0_4] 27 (0, 0)) z33_ hb); have n9_ := q_ (blk_below (g := gb300) (o := .cells #[.bool t287, .slice Ao31 t288.length co31, .slice Ao32 t291.length co32, .slice Ao33 t294.length co33, .slice Ao34 t297.length co34] 34 (0, 0)) (by (with_reducible repeat (first | refine blk_drewN ?_ _ | refine blk_drew ?_ | refine blk_alloc ?_ _)); refine blk_put (cs := #[.bool t287, .slice Ao31 t288.length co31, .slice Ao32 t291.length co32, .slice Ao33 t294.length co33, .slice none 0 0]) ?_ 4 _ rfl; (with_reducible repeat (first | refine blk_drewN ?_ _ | refine blk_drew ?_ | refine blk_alloc ?_ _)); refine blk_put (cs := #[.bool t287, .slice Ao31 t288.length co31, .slice Ao32 t291.length co32, .slice none 0 0, .slice none 0 0]) ?_ 3 _ rfl; (with_reducible repeat (first | refine blk_drewN ?_ _ | refine blk_drew ?_ | refine blk_alloc ?_ _)); refine blk_put (cs := #[.bool t287, .slice Ao31 t288.length co31, .slice none 0 0, .slice none 0 0, .slice none 0 0]) ?_ 2 _ rfl; (with_reducible repeat (first | refine blk_drewN ?_ _ | refine blk_drew ?_ | refine blk_alloc ?_ _)); refine blk_put (cs := #[.bool t287, .slice none 0 0, .slice none 0 0, .slice none 0 0, .slice none 0 0]) ?_ 1 _ rfl; (with_reducible repeat (first | refine blk_drewN ?_ _ | refine blk_drew ?_ | refine blk_alloc ?_ _)); refine blk_put (cs := #[.bool false, .slice none 0 0, .slice none 0 0, .slice none 0 0, .slice none 0 0]) ?_ 0 _ rfl; (with_reducible repeat (first | refine blk_drewN ?_ _ | refine blk_drew ?_ | refine blk_alloc ?_ _)); exact BK300.out) hb); have n10_ := q_ (below_step z10_ hb); clear HO276; clear HO279; clear HO282; clear HO285; clear HO290; clear HO293; clear HO296; clear HO299; clear BK271; clear BK300; clear HB; have HO276 := n0_; have HO279 := n1_; have HO282 := n2_; have HO285 := n3_; have HO290 := n4_; have HO293 := n5_; have HO296 := n6_; have HO299 := n7_; have BK271 := n8_; have BK300 := n9_; have HB := n10_; clear n0_ n1_ n2_ n3_ n4_ n5_ n6_ n7_ n8_ n9_ n10_; (try clear hb); (try clear hb2); (try clear hk); (try clear hi)))
    have n0_ := q_ (Kd.R_drew HO276.out)
    have n1_ := q_ (Kd.R_drew HO279.out)
    have n2_ := q_ (Kd.R_drew HO282.out)
    have n3_ := q_ (Kd.R_drew HO285.out)
    have n4_ := q_ (Kd.R_drew HO290.out)
    have n5_ := q_ (Kd.R_drew HO293.out)
    have n6_ := q_ (Kd.R_drew HO296.out)
    have n7_ := q_ (Kd.R_drew HO299.out)
    have n8_ := q_ (blk_drew BK271.out)
    have n9_ := q_ (blk_drew BK300.out)
    have n10_ := q_ (below_drew1 HB.out)
    clear HO276
    clear HO279
    clear HO282
    clear HO285
    clear HO290
    clear HO293
    clear HO296
    clear HO299
    clear BK271
    clear BK300
    clear HB
    have HO276 := n0_
    have HO279 := n1_
    have HO282 := n2_
    have HO285 := n3_
    have HO290 := n4_
    have HO293 := n5_
    have HO296 := n6_
    have HO299 := n7_
    have BK271 := n8_
    have BK300 := n9_
    have HB := n10_
    clear n0_ n1_ n2_ n3_ n4_ n5_ n6_ n7_ n8_ n9_ n10_
    refine start_ (n := 5) (S := fun w' => w'.cell? ⟨gb300, 0, none⟩ = some (.bool t287) ∧ w'.cell? ⟨gb300, 1, none⟩ = some (.slice Ao31 t288.length co31) ∧ w'.cell? ⟨gb300, 2, none⟩ = some (.slice Ao32 t291.length co32) ∧ w'.cell? ⟨gb300, 3, none⟩ = some (.slice Ao33 t294.length co33) ∧ w'.cell? ⟨gb300, 4, none⟩ = some (.slice Ao34 t297.length co34) ∧ w'.cell? ⟨gb271, 0, none⟩ = some (.bool a0_0) ∧ w'.cell? ⟨gb271, 1, none⟩ = some (.slice A0_1 l0_1.length c0_1) ∧ w'.cell? ⟨gb271, 2, none⟩ = some (.slice A0_2 l0_2.length c0_2) ∧ w'.cell? ⟨gb271, 3, none⟩ = some (.slice A0_3 l0_3.length c0_3) ∧ w'.cell? ⟨gb271, 4, none⟩ = some (.slice A0_4 l0_4.length c0_4)) (ds := []) #[false, false, false, false, false] (by kernel_rfl) rfl rfl ⟨(blk_cell BK300.out 0).trans rfl, (blk_cell BK300.out 1).trans rfl, (blk_cell BK300.out 2).trans rfl, (blk_cell BK300.out 3).trans rfl, (blk_cell BK300.out 4).trans rfl, (blk_cell BK271.out 0).trans rfl, (blk_cell BK271.out 1).trans rfl, (blk_cell BK271.out 2).trans rfl, (blk_cell BK271.out 3).trans rfl, (blk_cell BK271.out 4).trans rfl⟩ (fun hHeld => ?_)
    generalize w35.drew = w36 at HO276 HO279 HO282 HO285 HO290 HO293 HO296 HO299 BK271 BK300 HB hHeld ⊢
    refine take_ (i := 0) (N := some 26) (v := ?_) (a' := ?_) #[true, false, false, false, false] rfl rfl (by kernel_rfl) (fun _ _ _ h => h) (Or.inl ⟨by rfl, ?_⟩) hHeld ?_ ?_
    rotate_left
    ·rintro w' ⟨s0, s1, s2, s3, s4, s5, s6, s7, s8, s9⟩
     go_simp
     with_reducible rfl
    rotate_left
    ·simp only [Act.put, List.setIfInBounds_toArray, List.set_cons_zero, List.set_cons_succ, i64_w, i32_w]
     rfl
    refine take_ (i := 1) (N := some 27) (v := ?_) (a' := ?_) #[true, true, false, false, false] rfl rfl (by kernel_rfl) (fun _ _ _ h => h) (Or.inl ⟨by rfl, ?_⟩) hHeld ?_ ?_
    rotate_left
    ·rintro w' ⟨s0, s1, s2, s3, s4, s5, s6, s7, s8, s9⟩
     go_simp
     with_reducible rfl
    rotate_left
    ·simp only [Act.put, List.setIfInBounds_toArray, List.set_cons_zero, List.set_cons_succ, i64_w, i32_w]
     rfl
    refine one_ (i := 2) (N := some 28) #[true, true, true, false, false] rfl rfl (by kernel_rfl) (by decide) (fun K hK => ?_)
    refine goes_ Try.func17 (by kernel_rfl) rfl #[.agg #[.bool a0_0, .slice A0_1 l0_1.length c0_1, .slice A0_2 l0_2.length c0_2, .slice A0_3 l0_3.length c0_3, .slice A0_4 l0_4.length c0_4]] (by rfl) rfl rfl z1_ ?_
    with_reducible refine (laws_toTree.calls k a0_0 _ _ l0_1 _ _ l0_2 _ _ l0_3 _ _ l0_4 t302 t303 t306 t309 t312 _ ?side1 ?side2 ?side3 ?side4 ?side5 ?side6 ?side7 ?side8 A13.out).mono ?_
    (case side1 => exact z143_)
    (case side2 => exact z160_)
    (case side3 => exact z145_)
    (case side4 => exact z166_)
    (case side5 => exact z147_)
    (case side6 => exact z167_)
    (case side7 => exact z144_)
    (case side8 => exact z168_)
    rintro e w37 ⟨v304, v307, v310, v313, rfl, ho0, ho1, ho2, ho3, hb⟩
    refine ⟨_, rfl, ?_⟩
    have n0_ := q_ (Kd.R_elder' z18_ (Kd.R_base ho0) hb)
    have n1_ := q_ (Kd.R_elder' z19_ (Kd.R_base ho1) hb)
    have n2_ := q_ (Kd.R_mono (Kd.R_told (Kd.R_told (Kd.R_told (Kd.R_told (Kd.R_old z26_ hb) (Kd.R_base ho0)) (Kd.R_base ho1)) (Kd.R_base ho2)) (Kd.R_base ho3)) (fun _ h_ => h_.1))
    have n3_ := q_ (Kd.R_elder' z20_ (Kd.R_base ho3) hb)
    have n4_ := q_ (Kd.R_elder' z48_ (Kd.R_base ho0) hb)
    have n5_ := q_ (Kd.R_elder' z49_ (Kd.R_base ho1) hb)
    have n6_ := q_ (Kd.R_mono (Kd.R_told (Kd.R_told (Kd.R_told (Kd.R_told (Kd.R_old z54_ hb) (Kd.R_base ho0)) (Kd.R_base ho1)) (Kd.R_base ho2)) (Kd.R_base ho3)) (fun _ h_ => h_.1))
    have n7_ := q_ (Kd.R_elder' z50_ (Kd.R_base ho3) hb)
    have n8_ := q_ (Kd.R_lower (Kd.R_new' (Kd.R_new' ho0 (Kd.R_lt z18_)) (Kd.R_lt z48_)) (below_size z10_))
    have n9_ := q_ (Kd.R_lower (Kd.R_new' (Kd.R_new' ho1 (Kd.R_lt z19_)) (Kd.R_lt z49_)) (below_size z10_))
    have n10_ := q_ (Kd.R_lower (Kd.R_newB (Kd.R_new' (Kd.R_new' (Kd.R_new' (Kd.R_new' (Kd.R_new' (Kd.R_new' (Kd.R_new' (Kd.R_new' ho2 (Kd.R_lt z18_)) (Kd.R_lt z19_)) (Kd.R_lt z26_)) (Kd.R_lt z20_)) (Kd.R_lt z48_)) (Kd.R_lt z49_)) (Kd.R_lt z54_)) (Kd.R_lt z50_)) (g := gb300) (o := .cells #[.bool t287, .slice Ao31 t288.length co31, .slice Ao32 t291.length co32, .slice Ao33 t294.length co33, .slice Ao34 t297.length co34] 34 (0, 0)) z67_) (below_size z10_))
    have n11_ := q_ (Kd.R_lower (Kd.R_new' (Kd.R_new' ho3 (Kd.R_lt z20_)) (Kd.R_lt z50_)) (below_size z10_))
    have n12_ := q_ (blk_below (g := gb271) (o := .cells #[.bool a0_0, .slice A0_1 l0_1.length c0_1, .slice A0_2 l0_2.length c0_2, .slice A0_3 l0_3.length c0_3, .slice A0_4 l0_4.length c0_4] 27 (0, 0)) z17_ hb)
    have n13_ := q_ (blk_below (g := gb300) (o := .cells #[.bool t287, .slice Ao31 t288.length co31, .slice Ao32 t291.length co32, .slice Ao33 t294.length co33, .slice Ao34 t297.length co34] 34 (0, 0)) z67_ hb)
    have n14_ := q_ (below_step z10_ hb)
    clear HO276
    clear HO279
    clear HO282
    clear HO285
    clear HO290
    clear HO293
    clear HO296
    clear HO299
    clear BK271
    clear BK300
    clear HB
    have HO276 := n0_
    have HO279 := n1_
    have HO282 := n2_
    have HO285 := n3_
    have HO290 := n4_
    have HO293 := n5_
    have HO296 := n6_
    have HO299 := n7_
    have HO305 := n8_
    have HO308 := n9_
    have HO311 := n10_
    have HO314 := n11_
    have BK271 := n12_
    have BK300 := n13_
    have HB := n14_
    clear n0_ n1_ n2_ n3_ n4_ n5_ n6_ n7_ n8_ n9_ n10_ n11_ n12_ n13_ n14_
    (try clear hb)
    (try clear hb2)
    (try clear hk)
    (try clear hi)
    (try clear ho0)
    (try clear ho1)
    (try clear ho2)
    (try clear ho3)
    obtain ⟨Ao38, co38, eo38⟩ := Kd.R_slice HO305.out
    (first | subst eo38 | (injection eo38 with f1_ f2_ f3_; have f4_ := f1_.symm; have f5_ := f3_.symm; clear f1_ f2_ f3_; subst f4_; subst f5_))
    obtain ⟨Ao39, co39, eo39⟩ := Kd.R_slice HO308.out
    (first | subst eo39 | (injection eo39 with f1_ f2_ f3_; have f4_ := f1_.symm; have f5_ := f3_.symm; clear f1_ f2_ f3_; subst f4_; subst f5_))
    obtain ⟨Ao40, co40, eo40⟩ := Kd.R_slice HO311.out
    (first | subst eo40 | (injection eo40 with f1_ f2_ f3_; have f4_ := f1_.symm; have f5_ := f3_.symm; clear f1_ f2_ f3_; subst f4_; subst f5_))
    obtain ⟨Ao41, co41, eo41⟩ := Kd.R_slice HO314.out
    (first | subst eo41 | (injection eo41 with f1_ f2_ f3_; have f4_ := f1_.symm; have f5_ := f3_.symm; clear f1_ f2_ f3_; subst f4_; subst f5_))
    refine hK.out _ _ ⟨(blk_cell BK300.out 0).trans rfl, (blk_cell BK300.out 1).trans rfl, (blk_cell BK300.out 2).trans rfl, (blk_cell BK300.out 3).trans rfl, (blk_cell BK300.out 4).trans rfl, (blk_cell BK271.out 0).trans rfl, (blk_cell BK271.out 1).trans rfl, (blk_cell BK271.out 2).trans rfl, (blk_cell BK271.out 3).trans rfl, (blk_cell BK271.out 4).trans rfl⟩ (fun hHeld => ?_)
    clear hK K
    refine norm_ (a' := ?_) ?_ ?_
    rotate_left
    ·show Act.put _ (some 28) _ = _
     simp only [Act.put, List.setIfInBounds_toArray, List.set_cons_zero, List.set_cons_succ, i64_w, i32_w]
     rfl
    refine one_ (i := 3) (N := some 29) #[true, true, true, true, false] rfl rfl (by kernel_rfl) (by decide) (fun K hK => ?_)
    refine goes_ Try.func19 (by kernel_rfl) rfl #[.agg #[.bool t287, .slice Ao31 t288.length co31, .slice Ao32 t291.length co32, .slice Ao33 t294.length co33, .slice Ao34 t297.length co34], .agg #[.bool t302, .slice Ao38 t303.length co38, .slice Ao39 t306.length co39, .slice Ao40 t309.length co40, .slice Ao41 t312.length co41]] (by rfl) rfl rfl z1_ ?_
    with_reducible refine (laws_eqTree.calls k t287 _ _ t288 _ _ t291 _ _ t294 _ _ t297 t302 _ _ t303 _ _ t306 _ _ t309 _ _ t312 true _ ?side1 ?side2 ?side3 ?side4 ?side5 ?side6 ?side7 ?side8 ?side9 ?side10 ?side11 ?side12 ?side13 ?side14 ?side15 ?side16 A14.out).mono ?_
    (case side1 => exact z193_)
    (case side2 => exact z205_)
    (case side3 => exact z194_)
    (case side4 => exact z206_)
    (case side5 => exact z195_)
    (case side6 => exact z207_)
    (case side7 => exact z196_)
    (case side8 => exact z208_)
    (case side9 => exact z197_)
    (case side10 => exact (Kd.R_reads' HO305.out).2.1)
    (case side11 => exact z198_)
    (case side12 => exact (Kd.R_reads' HO308.out).2.1)
    (case side13 => exact z199_)
    (case side14 => exact (Kd.R_reads' HO311.out).2.1)
    (case side15 => exact z200_)
    (case side16 => exact (Kd.R_reads' HO314.out).2.1)
    rintro e w42 ⟨rfl, hb⟩
    refine ⟨_, rfl, ?_⟩
    have n0_ := q_ (Kd.R_below z18_ hb)
    have n1_ := q_ (Kd.R_below z19_ hb)
    have n2_ := q_ (Kd.R_below z26_ hb)
    have n3_ := q_ (Kd.R_below z20_ hb)
    have n4_ := q_ (Kd.R_below z48_ hb)
    have n5_ := q_ (Kd.R_below z49_ hb)
    have n6_ := q_ (Kd.R_below z54_ hb)
    have n7_ := q_ (Kd.R_below z50_ hb)
    have n8_ := q_ (Kd.R_below z100_ hb)
    have n9_ := q_ (Kd.R_below z101_ hb)
    have n10_ := q_ (Kd.R_below z102_ hb)
    have n11_ := q_ (Kd.R_below z103_ hb)
    have n12_ := q_ (blk_below (g := gb271) (o := .cells #[.bool a0_0, .slice A0_1 l0_1.length c0_1, .slice A0_2 l0_2.length c0_2, .slice A0_3 l0_3.length c0_3, .slice A0_4 l0_4.length c0_4] 27 (0, 0)) z17_ hb)
    have n13_ := q_ (blk_below (g := gb300) (o := .cells #[.bool t287, .slice Ao31 t288.length co31, .slice Ao32 t291.length co32, .slice Ao33 t294.length co33, .slice Ao34 t297.length co34] 34 (0, 0)) z67_ hb)
    have n14_ := q_ (below_step z10_ hb)
    clear HO276
    clear HO279
    clear HO282
    clear HO285
    clear HO290
    clear HO293
    clear HO296
    clear HO299
    clear HO305
    clear HO308
    clear HO311
    clear HO314
    clear BK271
    clear BK300
    clear HB
    have HO276 := n0_
    have HO279 := n1_
    have HO282 := n2_
    have HO285 := n3_
    have HO290 := n4_
    have HO293 := n5_
    have HO296 := n6_
    have HO299 := n7_
    have HO305 := n8_
    have HO308 := n9_
    have HO311 := n10_
    have HO314 := n11_
    have BK271 := n12_
    have BK300 := n13_
    have HB := n14_
    clear n0_ n1_ n2_ n3_ n4_ n5_ n6_ n7_ n8_ n9_ n10_ n11_ n12_ n13_ n14_
    (try clear hb)
    (try clear hb2)
    (try clear hk)
    (try clear hi)
    refine hK.out _ _ ⟨(blk_cell BK300.out 0).trans rfl, (blk_cell BK300.out 1).trans rfl, (blk_cell BK300.out 2).trans rfl, (blk_cell BK300.out 3).trans rfl, (blk_cell BK300.out 4).trans rfl, (blk_cell BK271.out 0).trans rfl, (blk_cell BK271.out 1).trans rfl, (blk_cell BK271.out 2).trans rfl, (blk_cell BK271.out 3).trans rfl, (blk_cell BK271.out 4).trans rfl⟩ (fun hHeld => ?_)
    clear hK K
    refine norm_ (a' := ?_) ?_ ?_
    rotate_left
    ·show Act.put _ (some 29) _ = _
     simp only [Act.put, List.setIfInBounds_toArray, List.set_cons_zero, List.set_cons_succ, i64_w, i32_w]
     rfl
    refine pure_ (i := 4) (N := some 30) (v := ?_) (a' := ?_) #[true, true, true, true, true] rfl rfl (by kernel_rfl) (fun _ _ _ h => h) (Or.inl ⟨by rfl, ?_⟩) ?_ ?_
    rotate_left
    ·intro w'
     go_simp
     with_reducible rfl
    rotate_left
    ·simp only [Act.put, List.setIfInBounds_toArray, List.set_cons_zero, List.set_cons_succ, i64_w, i32_w]
     rfl
    refine done_ (by kernel_rfl) ?_
    try go_wp2
    go_ret
    exact ⟨z2_, z10_⟩
   ·replace c15 := Bool.eq_false_iff.mpr c15
    subst c15
    have H1 : (some false) = some r := by rw [if_neg (show ¬ (false = true) by decide)] at H; exact H
    clear H
    have H := H1
    clear H1
    obtain rfl := Option.some.inj H
    go_enter Try.func5, Try.ntmps5
    try go_wp2_with (first | ((with_reducible refine gate_dst (N := 2) rfl ?_); refine box_event ?hg (N := 2) ?hd (cs := #[.bool a0_0, .slice A0_1 l0_1.length c0_1, .slice A0_2 l0_2.length c0_2, .slice A0_3 l0_3.length c0_3, .slice A0_4 l0_4.length c0_4]) (t := 27) ?hr ?_; (case hd => rfl); (case hg => rfl); (case hr => exact z146_); intro gb271 hg w43 hbox hb; have n0_ := q_ (below_step z0_ hb); have n1_ := q_ (hbox); have n2_ := q_ ((z107_ : w.heap.size ≤ gb271)); have n3_ := q_ ((z107_ : w.heap.size ≤ gb271)); clear HB; have HB := n0_; have BK271 := n1_; have GW271 := n2_; have GE271 := n3_; clear n0_ n1_ n2_ n3_; clear hb hbox hg; obtain ⟨hcz44_0, hcz44_1, hcz44_2, hcz44_3, hcz44_4, hfz44_0, hfz44_1, hfz44_2, hfz44_3, hfz44_4⟩ := cs5_ BK271.out) | ((with_reducible refine gate_callee (f := 15) rfl ?_); refine goesL_ (some 11) rfl rfl Try.func15 (by kernel_rfl) rfl #[.agg #[.bool a0_0, .slice A0_1 l0_1.length c0_1, .slice A0_2 l0_2.length c0_2, .slice A0_3 l0_3.length c0_3, .slice A0_4 l0_4.length c0_4], .int .i64 1048576] rfl z1_ ?_; (with_reducible refine (laws_szTree.calls k a0_0 _ _ l0_1 _ _ l0_2 _ _ l0_3 _ _ l0_4 1048576 t272 _ ?side1 ?side2 ?side3 ?side4 ?side5 ?side6 ?side7 ?side8 A3.out).mono ?_); (case side1 => exact z143_); (case side2 => exact z160_); (case side3 => exact z145_); (case side4 => exact z166_); (case side5 => exact z147_); (case side6 => exact z167_); (case side7 => exact z144_); (case side8 => exact z168_); rintro e w45 ⟨rfl, hb⟩; refine ⟨_, rfl, ?_⟩; have n0_ := q_ (blk_below (g := gb271) (o := .cells #[.bool a0_0, .slice A0_1 l0_1.length c0_1, .slice A0_2 l0_2.length c0_2, .slice A0_3 l0_3.length c0_3, .slice A0_4 l0_4.length c0_4] 27 (0, 0)) z17_ hb); have n1_ := q_ (below_step z5_ hb); clear BK271; clear HB; have BK271 := n0_; have HB := n1_; clear n0_ n1_; (try clear hb); (try clear hb2); (try clear hk); (try clear hi); obtain ⟨hcz46_0, hcz46_1, hcz46_2, hcz46_3, hcz46_4, hfz46_0, hfz46_1, hfz46_2, hfz46_3, hfz46_4⟩ := cs5_ BK271.out) | ((with_reducible refine gate_callee (f := 17) rfl ?_); refine goesL_ (some 15) rfl rfl Try.func17 (by kernel_rfl) rfl #[.agg #[.bool a0_0, .slice A0_1 l0_1.length c0_1, .slice A0_2 l0_2.length c0_2, .slice A0_3 l0_3.length c0_3, .slice A0_4 l0_4.length c0_4]] rfl z1_ ?_; (with_reducible refine (laws_toTree.calls k a0_0 _ _ l0_1 _ _ l0_2 _ _ l0_3 _ _ l0_4 t273 t274 t277 t280 t283 _ ?side1 ?side2 ?side3 ?side4 ?side5 ?side6 ?side7 ?side8 A8.out).mono ?_); (case side1 => exact z143_); (case side2 => exact z160_); (case side3 => exact z145_); (case side4 => exact z166_); (case side5 => exact z147_); (case side6 => exact z167_); (case side7 => exact z144_); (case side8 => exact z168_); rintro e w47 ⟨v275, v278, v281, v284, rfl, ho0, ho1, ho2, ho3, hb⟩; refine ⟨_, rfl, ?_⟩; have n0_ := q_ (Kd.R_lower ho0 (below_size z5_)); have n1_ := q_ (Kd.R_lower ho1 (below_size z5_)); have n2_ := q_ (Kd.R_lower ho2 (below_size z5_)); have n3_ := q_ (Kd.R_lower ho3 (below_size z5_)); have n4_ := q_ (blk_below (g := gb271) (o := .cells #[.bool a0_0, .slice A0_1 l0_1.length c0_1, .slice A0_2 l0_2.length c0_2, .slice A0_3 l0_3.length c0_3, .slice A0_4 l0_4.length c0_4] 27 (0, 0)) z17_ hb); have n5_ := q_ (below_step z5_ hb); clear BK271; clear HB; have HO276 := n0_; have HO279 := n1_; have HO282 := n2_; have HO285 := n3_; have BK271 := n4_; have HB := n5_; clear n0_ n1_ n2_ n3_ n4_ n5_; (try clear hb); (try clear hb2); (try clear hk); (try clear hi); (try clear ho0); (try clear ho1); (try clear ho2); (try clear ho3); obtain ⟨Ao48, co48, eo48⟩ := Kd.R_slice HO276.out; subst eo48; obtain ⟨Ao49, co49, eo49⟩ := Kd.R_slice HO279.out; subst eo49; obtain ⟨Ao50, co50, eo50⟩ := Kd.R_slice HO282.out; subst eo50; obtain ⟨Ao51, co51, eo51⟩ := Kd.R_slice HO285.out; subst eo51) | ((with_reducible refine gate_callee (f := 22) rfl ?_); refine goesL_ (some 17) rfl rfl Try.func22 (by kernel_rfl) rfl #[.agg #[.bool t273, .slice Ao48 t274.length co48, .slice Ao49 t277.length co49, .slice Ao50 t280.length co50, .slice Ao51 t283.length co51], .int .i64 a1] rfl z1_ ?_; (with_reducible refine (spec_KidOf.calls k t273 _ _ t274 _ _ t277 _ _ t280 _ _ t283 a1 t286 _ ?side1 ?side2 ?side3 ?side4 ?side5 ?side6 ?side7 ?side8 A9.out).mono ?_); (case side1 => exact z162_); (case side2 => exact (Kd.R_reads' HO276.out).2.1); (case side3 => exact z163_); (case side4 => exact (Kd.R_reads' HO279.out).2.1); (case side5 => exact z164_); (case side6 => exact (Kd.R_reads' HO282.out).2.1); (case side7 => exact z165_); (case side8 => exact (Kd.R_reads' HO285.out).2.1); rintro e w52 ⟨rfl, hb⟩; refine ⟨_, rfl, ?_⟩; have n0_ := q_ (Kd.R_below z18_ hb); have n1_ := q_ (Kd.R_below z19_ hb); have n2_ := q_ (Kd.R_below z26_ hb); have n3_ := q_ (Kd.R_below z20_ hb); have n4_ := q_ (blk_below (g := gb271) (o := .cells #[.bool a0_0, .slice A0_1 l0_1.length c0_1, .slice A0_2 l0_2.length c0_2, .slice A0_3 l0_3.length c0_3, .slice A0_4 l0_4.length c0_4] 27 (0, 0)) z17_ hb); have n5_ := q_ (below_step z5_ hb); clear HO276; clear HO279; clear HO282; clear HO285; clear BK271; clear HB; have HO276 := n0_; have HO279 := n1_; have HO282 := n2_; have HO285 := n3_; have BK271 := n4_; have HB := n5_; clear n0_ n1_ n2_ n3_ n4_ n5_; (try clear hb); (try clear hb2); (try clear hk); (try clear hi); obtain ⟨hcz53_0, hcz53_1, hcz53_2, hcz53_3, hcz53_4, hfz53_0, hfz53_1, hfz53_2, hfz53_3, hfz53_4⟩ := cs5_ BK271.out) | ((with_reducible refine gate_callee (f := 17) rfl ?_); refine goesL_ (some 19) rfl rfl Try.func17 (by kernel_rfl) rfl #[.agg #[.bool a0_0, .slice A0_1 l0_1.length c0_1, .slice A0_2 l0_2.length c0_2, .slice A0_3 l0_3.length c0_3, .slice A0_4 l0_4.length c0_4]] rfl z1_ ?_; (with_reducible refine (laws_toTree.calls k a0_0 _ _ l0_1 _ _ l0_2 _ _ l0_3 _ _ l0_4 t287 t288 t291 t294 t297 _ ?side1 ?side2 ?side3 ?side4 ?side5 ?side6 ?side7 ?side8 A10.out).mono ?_); (case side1 => exact z143_); (case side2 => exact z160_); (case side3 => exact z145_); (case side4 => exact z166_); (case side5 => exact z147_); (case side6 => exact z167_); (case side7 => exact z144_); (case side8 => exact z168_); rintro e w54 ⟨v289, v292, v295, v298, rfl, ho0, ho1, ho2, ho3, hb⟩; refine ⟨_, rfl, ?_⟩; have n0_ := q_ (Kd.R_elder' z18_ (Kd.R_base ho0) hb); have n1_ := q_ (Kd.R_elder' z19_ (Kd.R_base ho1) hb); have n2_ := q_ (Kd.R_mono (Kd.R_told (Kd.R_told (Kd.R_told (Kd.R_told (Kd.R_old z26_ hb) (Kd.R_base ho0)) (Kd.R_base ho1)) (Kd.R_base ho2)) (Kd.R_base ho3)) (fun _ h_ => h_.1)); have n3_ := q_ (Kd.R_elder' z20_ (Kd.R_base ho3) hb); have n4_ := q_ (Kd.R_lower (Kd.R_new' ho0 (Kd.R_lt z18_)) (below_size z5_)); have n5_ := q_ (Kd.R_lower (Kd.R_new' ho1 (Kd.R_lt z19_)) (below_size z5_)); have n6_ := q_ (Kd.R_lower (Kd.R_new' (Kd.R_new' (Kd.R_new' (Kd.R_new' ho2 (Kd.R_lt z18_)) (Kd.R_lt z19_)) (Kd.R_lt z26_)) (Kd.R_lt z20_)) (below_size z5_)); have n7_ := q_ (Kd.R_lower (Kd.R_new' ho3 (Kd.R_lt z20_)) (below_size z5_)); have n8_ := q_ (blk_below (g := gb271) (o := .cells #[.bool a0_0, .slice A0_1 l0_1.length c0_1, .slice A0_2 l0_2.length c0_2, .slice A0_3 l0_3.length c0_3, .slice A0_4 l0_4.length c0_4] 27 (0, 0)) z17_ hb); have n9_ := q_ (below_step z5_ hb); clear HO276; clear HO279; clear HO282; clear HO285; clear BK271; clear HB; have HO276 := n0_; have HO279 := n1_; have HO282 := n2_; have HO285 := n3_; have HO290 := n4_; have HO293 := n5_; have HO296 := n6_; have HO299 := n7_; have BK271 := n8_; have HB := n9_; clear n0_ n1_ n2_ n3_ n4_ n5_ n6_ n7_ n8_ n9_; (try clear hb); (try clear hb2); (try clear hk); (try clear hi); (try clear ho0); (try clear ho1); (try clear ho2); (try clear ho3)) | ((with_reducible refine gate_dst (N := 7) rfl ?_); refine box_event ?hg (N := 7) ?hd (cs := #[.bool false, .slice none 0 0, .slice none 0 0, .slice none 0 0, .slice none 0 0]) (t := 34) ?hr ?_; (case hd => rfl); (case hg => rfl); (case hr => exact z146_); intro gb300 hg w55 hbox hb; have n0_ := q_ (Kd.R_below z18_ hb); have n1_ := q_ (Kd.R_below z19_ hb); have n2_ := q_ (Kd.R_below (Kd.R_elderB z26_ gb300 (Nat.le_of_eq hg.symm)) hb); have n3_ := q_ (Kd.R_below z20_ hb); have n4_ := q_ (Kd.R_below z48_ hb); have n5_ := q_ (Kd.R_below z49_ hb); have n6_ := q_ (Kd.R_below (Kd.R_elderB z54_ gb300 (Nat.le_of_eq hg.symm)) hb); have n7_ := q_ (Kd.R_below z50_ hb); have n8_ := q_ (blk_below (g := gb271) (o := .cells #[.bool a0_0, .slice A0_1 l0_1.length c0_1, .slice A0_2 l0_2.length c0_2, .slice A0_3 l0_3.length c0_3, .slice A0_4 l0_4.length c0_4] 27 (0, 0)) z17_ hb); have n9_ := q_ (below_step z5_ hb); have n10_ := q_ (hbox); have n11_ := q_ ((z142_ : w.heap.size ≤ gb300)); have n12_ := q_ ((z142_ : w.heap.size ≤ gb300)); have n13_ := q_ ((z122_ : gb271 ≠ gb300)); have n14_ := q_ ((z123_ : gb300 ≠ gb271)); clear HO276; clear HO279; clear HO282; clear HO285; clear HO290; clear HO293; clear HO296; clear HO299; clear BK271; clear HB; have HO276 := n0_; have HO279 := n1_; have HO282 := n2_; have HO285 := n3_; have HO290 := n4_; have HO293 := n5_; have HO296 := n6_; have HO299 := n7_; have BK271 := n8_; have HB := n9_; have BK300 := n10_; have GW300 := n11_; have GE300 := n12_; have NB271_300 := n13_; have NB300_271 := n14_; clear n0_ n1_ n2_ n3_ n4_ n5_ n6_ n7_ n8_ n9_ n10_ n11_ n12_ n13_ n14_; clear hb hbox hg; have hnb56 := NB300_271.out; have hnc56 := NB271_300.out; obtain ⟨hcz57_0, hcz57_1, hcz57_2, hcz57_3, hcz57_4, hfz57_0, hfz57_1, hfz57_2, hfz57_3, hfz57_4⟩ := cs5_ BK300.out; obtain ⟨Ao58, co58, eo58⟩ := Kd.R_slice HO290.out; subst eo58; obtain ⟨Ao59, co59, eo59⟩ := Kd.R_slice HO293.out; subst eo59; obtain ⟨Ao60, co60, eo60⟩ := Kd.R_slice HO296.out; subst eo60; obtain ⟨Ao61, co61, eo61⟩ := Kd.R_slice HO299.out; subst eo61) | ((with_reducible refine gate_callee (f := 23) rfl ?_); refine goesL_ (some 22) rfl rfl Try.func23 (by kernel_rfl) rfl #[.agg #[.bool t287, .slice Ao58 t288.length co58, .slice Ao59 t291.length co59, .slice Ao60 t294.length co60, .slice Ao61 t297.length co61], .int .i64 a1] rfl z1_ ?_; (with_reducible refine (impl_KidOf.calls k t287 _ _ t288 _ _ t291 _ _ t294 _ _ t297 a1 t301 _ ?side1 ?side2 ?side3 ?side4 ?side5 ?side6 ?side7 ?side8 A11.out).mono ?_); (case side1 => refine (Kd.R_reads' (e := 92) (base := w.heap.size) (ok := fun k_ => (True ∧ some k_ ≠ (.slice Ao48 t274.length co48 : Value).ownBlock)) (n := t288.length) (c := co58) ?_).2.2; exact (by (with_reducible repeat (first | apply Kd.R_alloc | apply Kd.R_drewN | apply Kd.R_drew)); exact (Kd.R_mono (Kd.R_far (p := ⟨gb300, 4, none⟩) (Kd.R_far (p := ⟨gb300, 3, none⟩) (Kd.R_far (p := ⟨gb300, 2, none⟩) (Kd.R_far (p := ⟨gb300, 1, none⟩) (Kd.R_far (p := ⟨gb300, 0, none⟩) (Kd.R_types HO290.out BK300.out (by decide)) (fun _ hk => hk.2) (.bool t287)) (fun _ hk => hk.2) (.slice Ao58 t288.length co58)) (fun _ hk => hk.2) (.slice Ao59 t291.length co59)) (fun _ hk => hk.2) (.slice Ao60 t294.length co60)) (fun _ hk => hk.2) (.slice Ao61 t297.length co61)) (fun _ h_ => h_.1)))); (case side2 => exact z205_); (case side3 => refine (Kd.R_reads' (e := 3) (base := w.heap.size) (ok := fun k_ => (True ∧ some k_ ≠ (.slice Ao49 t277.length co49 : Value).ownBlock)) (n := t291.length) (c := co59) ?_).2.2; exact (by (with_reducible repeat (first | apply Kd.R_alloc | apply Kd.R_drewN | apply Kd.R_drew)); exact (Kd.R_mono (Kd.R_far (p := ⟨gb300, 4, none⟩) (Kd.R_far (p := ⟨gb300, 3, none⟩) (Kd.R_far (p := ⟨gb300, 2, none⟩) (Kd.R_far (p := ⟨gb300, 1, none⟩) (Kd.R_far (p := ⟨gb300, 0, none⟩) (Kd.R_types HO293.out BK300.out (by decide)) (fun _ hk => hk.2) (.bool t287)) (fun _ hk => hk.2) (.slice Ao58 t288.length co58)) (fun _ hk => hk.2) (.slice Ao59 t291.length co59)) (fun _ hk => hk.2) (.slice Ao60 t294.length co60)) (fun _ hk => hk.2) (.slice Ao61 t297.length co61)) (fun _ h_ => h_.1)))); (case side4 => exact z206_); (case side5 => refine (Kd.R_reads' (e := 34) (base := w.heap.size) (ok := fun k_ => ((((((some k_ ≠ (.slice Ao58 t288.length co58 : Value).ownBlock ∧ (some k_ ≠ (.slice Ao59 t291.length co59 : Value).ownBlock ∧ some k_ ≠ (.slice Ao61 t297.length co61 : Value).ownBlock)) ∧ some k_ ≠ (.slice Ao48 t274.length co48 : Value).ownBlock) ∧ some k_ ≠ (.slice Ao49 t277.length co49 : Value).ownBlock) ∧ some k_ ≠ (.slice Ao50 t280.length co50 : Value).ownBlock) ∧ some k_ ≠ (.slice Ao51 t283.length co51 : Value).ownBlock) ∧ k_ ≠ gb300)) (n := t294.length) (c := co60) ?_).2.2; exact z44_); (case side6 => exact z207_); (case side7 => refine (Kd.R_reads' (e := 72) (base := w.heap.size) (ok := fun k_ => (True ∧ some k_ ≠ (.slice Ao51 t283.length co51 : Value).ownBlock)) (n := t297.length) (c := co61) ?_).2.2; exact (by (with_reducible repeat (first | apply Kd.R_alloc | apply Kd.R_drewN | apply Kd.R_drew)); exact (Kd.R_mono (Kd.R_far (p := ⟨gb300, 4, none⟩) (Kd.R_far (p := ⟨gb300, 3, none⟩) (Kd.R_far (p := ⟨gb300, 2, none⟩) (Kd.R_far (p := ⟨gb300, 1, none⟩) (Kd.R_far (p := ⟨gb300, 0, none⟩) (Kd.R_types HO299.out BK300.out (by decide)) (fun _ hk => hk.2) (.bool t287)) (fun _ hk => hk.2) (.slice Ao58 t288.length co58)) (fun _ hk => hk.2) (.slice Ao59 t291.length co59)) (fun _ hk => hk.2) (.slice Ao60 t294.length co60)) (fun _ hk => hk.2) (.slice Ao61 t297.length co61)) (fun _ h_ => h_.1)))); (case side8 => exact z208_); rintro e w62 ⟨rfl, hb⟩; refine ⟨_, rfl, ?_⟩; have n0_ := q_ (Kd.R_below (by (with_reducible repeat (first | apply Kd.R_alloc | apply Kd.R_drewN | apply Kd.R_drew)); exact (Kd.R_mono (Kd.R_far (p := ⟨gb300, 4, none⟩) (Kd.R_far (p := ⟨gb300, 3, none⟩) (Kd.R_far (p := ⟨gb300, 2, none⟩) (Kd.R_far (p := ⟨gb300, 1, none⟩) (Kd.R_far (p := ⟨gb300, 0, none⟩) (Kd.R_types HO276.out BK300.out (by decide)) (fun _ hk => hk.2) (.bool t287)) (fun _ hk => hk.2) (.slice Ao58 t288.length co58)) (fun _ hk => hk.2) (.slice Ao59 t291.length co59)) (fun _ hk => hk.2) (.slice Ao60 t294.length co60)) (fun _ hk => hk.2) (.slice Ao61 t297.length co61)) (fun _ h_ => h_.1))) hb); have n1_ := q_ (Kd.R_below (by (with_reducible repeat (first | apply Kd.R_alloc | apply Kd.R_drewN | apply Kd.R_drew)); exact (Kd.R_mono (Kd.R_far (p := ⟨gb300, 4, none⟩) (Kd.R_far (p := ⟨gb300, 3, none⟩) (Kd.R_far (p := ⟨gb300, 2, none⟩) (Kd.R_far (p := ⟨gb300, 1, none⟩) (Kd.R_far (p := ⟨gb300, 0, none⟩) (Kd.R_types HO279.out BK300.out (by decide)) (fun _ hk => hk.2) (.bool t287)) (fun _ hk => hk.2) (.slice Ao58 t288.length co58)) (fun _ hk => hk.2) (.slice Ao59 t291.length co59)) (fun _ hk => hk.2) (.slice Ao60 t294.length co60)) (fun _ hk => hk.2) (.slice Ao61 t297.length co61)) (fun _ h_ => h_.1))) hb); have n2_ := q_ (Kd.R_below (by (with_reducible repeat (first | apply Kd.R_alloc | apply Kd.R_drewN | apply Kd.R_drew)); exact (Kd.R_mono (Kd.R_far (p := ⟨gb300, 4, none⟩) (Kd.R_far (p := ⟨gb300, 3, none⟩) (Kd.R_far (p := ⟨gb300, 2, none⟩) (Kd.R_far (p := ⟨gb300, 1, none⟩) (Kd.R_far (p := ⟨gb300, 0, none⟩) (Kd.R_mono HO282.out (fun k_ hk => (⟨hk, hk.2⟩ : _ ∧ k_ ≠ gb300))) (fun _ hk => hk.2) (.bool t287)) (fun _ hk => hk.2) (.slice Ao58 t288.length co58)) (fun _ hk => hk.2) (.slice Ao59 t291.length co59)) (fun _ hk => hk.2) (.slice Ao60 t294.length co60)) (fun _ hk => hk.2) (.slice Ao61 t297.length co61)) (fun _ h_ => h_.1))) hb); have n3_ := q_ (Kd.R_below (by (with_reducible repeat (first | apply Kd.R_alloc | apply Kd.R_drewN | apply Kd.R_drew)); exact (Kd.R_mono (Kd.R_far (p := ⟨gb300, 4, none⟩) (Kd.R_far (p := ⟨gb300, 3, none⟩) (Kd.R_far (p := ⟨gb300, 2, none⟩) (Kd.R_far (p := ⟨gb300, 1, none⟩) (Kd.R_far (p := ⟨gb300, 0, none⟩) (Kd.R_types HO285.out BK300.out (by decide)) (fun _ hk => hk.2) (.bool t287)) (fun _ hk => hk.2) (.slice Ao58 t288.length co58)) (fun _ hk => hk.2) (.slice Ao59 t291.length co59)) (fun _ hk => hk.2) (.slice Ao60 t294.length co60)) (fun _ hk => hk.2) (.slice Ao61 t297.length co61)) (fun _ h_ => h_.1))) hb); have n4_ := q_ (Kd.R_below (by (with_reducible repeat (first | apply Kd.R_alloc | apply Kd.R_drewN | apply Kd.R_drew)); exact (Kd.R_mono (Kd.R_far (p := ⟨gb300, 4, none⟩) (Kd.R_far (p := ⟨gb300, 3, none⟩) (Kd.R_far (p := ⟨gb300, 2, none⟩) (Kd.R_far (p := ⟨gb300, 1, none⟩) (Kd.R_far (p := ⟨gb300, 0, none⟩) (Kd.R_types HO290.out BK300.out (by decide)) (fun _ hk => hk.2) (.bool t287)) (fun _ hk => hk.2) (.slice Ao58 t288.length co58)) (fun _ hk => hk.2) (.slice Ao59 t291.length co59)) (fun _ hk => hk.2) (.slice Ao60 t294.length co60)) (fun _ hk => hk.2) (.slice Ao61 t297.length co61)) (fun _ h_ => h_.1))) hb); have n5_ := q_ (Kd.R_below (by (with_reducible repeat (first | apply Kd.R_alloc | apply Kd.R_drewN | apply Kd.R_drew)); exact (Kd.R_mono (Kd.R_far (p := ⟨gb300, 4, none⟩) (Kd.R_far (p := ⟨gb300, 3, none⟩) (Kd.R_far (p := ⟨gb300, 2, none⟩) (Kd.R_far (p := ⟨gb300, 1, none⟩) (Kd.R_far (p := ⟨gb300, 0, none⟩) (Kd.R_types HO293.out BK300.out (by decide)) (fun _ hk => hk.2) (.bool t287)) (fun _ hk => hk.2) (.slice Ao58 t288.length co58)) (fun _ hk => hk.2) (.slice Ao59 t291.length co59)) (fun _ hk => hk.2) (.slice Ao60 t294.length co60)) (fun _ hk => hk.2) (.slice Ao61 t297.length co61)) (fun _ h_ => h_.1))) hb); have n6_ := q_ (Kd.R_below z44_ hb); have n7_ := q_ (Kd.R_below (by (with_reducible repeat (first | apply Kd.R_alloc | apply Kd.R_drewN | apply Kd.R_drew)); exact (Kd.R_mono (Kd.R_far (p := ⟨gb300, 4, none⟩) (Kd.R_far (p := ⟨gb300, 3, none⟩) (Kd.R_far (p := ⟨gb300, 2, none⟩) (Kd.R_far (p := ⟨gb300, 1, none⟩) (Kd.R_far (p := ⟨gb300, 0, none⟩) (Kd.R_types HO299.out BK300.out (by decide)) (fun _ hk => hk.2) (.bool t287)) (fun _ hk => hk.2) (.slice Ao58 t288.length co58)) (fun _ hk => hk.2) (.slice Ao59 t291.length co59)) (fun _ hk => hk.2) (.slice Ao60 t294.length co60)) (fun _ hk => hk.2) (.slice Ao61 t297.length co61)) (fun _ h_ => h_.1))) hb); have n8_ := q_ (blk_below (g := gb271) (o := .cells #[.bool a0_0, .slice A0_1 l0_1.length c0_1, .slice A0_2 l0_2.length c0_2, .slice A0_3 l0_3.length c0_3, .slice A0_4 l0_4.length c0_4] 27 (0, 0)) z33_ hb); have n9_ := q_ (blk_below (g := gb300) (o := .cells #[.bool t287, .slice Ao58 t288.length co58, .slice Ao59 t291.length co59, .slice Ao60 t294.length co60, .slice Ao61 t297.length co61] 34 (0, 0)) (by (with_reducible repeat (first | refine blk_drewN ?_ _ | refine blk_drew ?_ | refine blk_alloc ?_ _)); refine blk_put (cs := #[.bool t287, .slice Ao58 t288.length co58, .slice Ao59 t291.length co59, .slice Ao60 t294.length co60, .slice none 0 0]) ?_ 4 _ rfl; (with_reducible repeat (first | refine blk_drewN ?_ _ | refine blk_drew ?_ | refine blk_alloc ?_ _)); refine blk_put (cs := #[.bool t287, .slice Ao58 t288.length co58, .slice Ao59 t291.length co59, .slice none 0 0, .slice none 0 0]) ?_ 3 _ rfl; (with_reducible repeat (first | refine blk_drewN ?_ _ | refine blk_drew ?_ | refine blk_alloc ?_ _)); refine blk_put (cs := #[.bool t287, .slice Ao58 t288.length co58, .slice none 0 0, .slice none 0 0, .slice none 0 0]) ?_ 2 _ rfl; (with_reducible repeat (first | refine blk_drewN ?_ _ | refine blk_drew ?_ | refine blk_alloc ?_ _)); refine blk_put (cs := #[.bool t287, .slice none 0 0, .slice none 0 0, .slice none 0 0, .slice none 0 0]) ?_ 1 _ rfl; (with_reducible repeat (first | refine blk_drewN ?_ _ | refine blk_drew ?_ | refine blk_alloc ?_ _)); refine blk_put (cs := #[.bool false, .slice none 0 0, .slice none 0 0, .slice none 0 0, .slice none 0 0]) ?_ 0 _ rfl; (with_reducible repeat (first | refine blk_drewN ?_ _ | refine blk_drew ?_ | refine blk_alloc ?_ _)); exact BK300.out) hb); have n10_ := q_ (below_step z10_ hb); clear HO276; clear HO279; clear HO282; clear HO285; clear HO290; clear HO293; clear HO296; clear HO299; clear BK271; clear BK300; clear HB; have HO276 := n0_; have HO279 := n1_; have HO282 := n2_; have HO285 := n3_; have HO290 := n4_; have HO293 := n5_; have HO296 := n6_; have HO299 := n7_; have BK271 := n8_; have BK300 := n9_; have HB := n10_; clear n0_ n1_ n2_ n3_ n4_ n5_ n6_ n7_ n8_ n9_ n10_; (try clear hb); (try clear hb2); (try clear hk); (try clear hi)))
    have n0_ := q_ (Kd.R_drew HO276.out)
    have n1_ := q_ (Kd.R_drew HO279.out)
    have n2_ := q_ (Kd.R_drew HO282.out)
    have n3_ := q_ (Kd.R_drew HO285.out)
    have n4_ := q_ (Kd.R_drew HO290.out)
    have n5_ := q_ (Kd.R_drew HO293.out)
    have n6_ := q_ (Kd.R_drew HO296.out)
    have n7_ := q_ (Kd.R_drew HO299.out)
    have n8_ := q_ (blk_drew BK271.out)
    have n9_ := q_ (blk_drew BK300.out)
    have n10_ := q_ (below_drew1 HB.out)
    clear HO276
    clear HO279
    clear HO282
    clear HO285
    clear HO290
    clear HO293
    clear HO296
    clear HO299
    clear BK271
    clear BK300
    clear HB
    have HO276 := n0_
    have HO279 := n1_
    have HO282 := n2_
    have HO285 := n3_
    have HO290 := n4_
    have HO293 := n5_
    have HO296 := n6_
    have HO299 := n7_
    have BK271 := n8_
    have BK300 := n9_
    have HB := n10_
    clear n0_ n1_ n2_ n3_ n4_ n5_ n6_ n7_ n8_ n9_ n10_
    refine start_ (n := 5) (S := fun w' => w'.cell? ⟨gb300, 0, none⟩ = some (.bool t287) ∧ w'.cell? ⟨gb300, 1, none⟩ = some (.slice Ao58 t288.length co58) ∧ w'.cell? ⟨gb300, 2, none⟩ = some (.slice Ao59 t291.length co59) ∧ w'.cell? ⟨gb300, 3, none⟩ = some (.slice Ao60 t294.length co60) ∧ w'.cell? ⟨gb300, 4, none⟩ = some (.slice Ao61 t297.length co61) ∧ w'.cell? ⟨gb271, 0, none⟩ = some (.bool a0_0) ∧ w'.cell? ⟨gb271, 1, none⟩ = some (.slice A0_1 l0_1.length c0_1) ∧ w'.cell? ⟨gb271, 2, none⟩ = some (.slice A0_2 l0_2.length c0_2) ∧ w'.cell? ⟨gb271, 3, none⟩ = some (.slice A0_3 l0_3.length c0_3) ∧ w'.cell? ⟨gb271, 4, none⟩ = some (.slice A0_4 l0_4.length c0_4)) (ds := []) #[false, false, false, false, false] (by kernel_rfl) rfl rfl ⟨(blk_cell BK300.out 0).trans rfl, (blk_cell BK300.out 1).trans rfl, (blk_cell BK300.out 2).trans rfl, (blk_cell BK300.out 3).trans rfl, (blk_cell BK300.out 4).trans rfl, (blk_cell BK271.out 0).trans rfl, (blk_cell BK271.out 1).trans rfl, (blk_cell BK271.out 2).trans rfl, (blk_cell BK271.out 3).trans rfl, (blk_cell BK271.out 4).trans rfl⟩ (fun hHeld => ?_)
    generalize w62.drew = w63 at HO276 HO279 HO282 HO285 HO290 HO293 HO296 HO299 BK271 BK300 HB hHeld ⊢
    refine take_ (i := 0) (N := some 26) (v := ?_) (a' := ?_) #[true, false, false, false, false] rfl rfl (by kernel_rfl) (fun _ _ _ h => h) (Or.inl ⟨by rfl, ?_⟩) hHeld ?_ ?_
    rotate_left
    ·rintro w' ⟨s0, s1, s2, s3, s4, s5, s6, s7, s8, s9⟩
     go_simp
     with_reducible rfl
    rotate_left
    ·simp only [Act.put, List.setIfInBounds_toArray, List.set_cons_zero, List.set_cons_succ, i64_w, i32_w]
     rfl
    refine take_ (i := 1) (N := some 27) (v := ?_) (a' := ?_) #[true, true, false, false, false] rfl rfl (by kernel_rfl) (fun _ _ _ h => h) (Or.inl ⟨by rfl, ?_⟩) hHeld ?_ ?_
    rotate_left
    ·rintro w' ⟨s0, s1, s2, s3, s4, s5, s6, s7, s8, s9⟩
     go_simp
     with_reducible rfl
    rotate_left
    ·simp only [Act.put, List.setIfInBounds_toArray, List.set_cons_zero, List.set_cons_succ, i64_w, i32_w]
     rfl
    refine one_ (i := 2) (N := some 28) #[true, true, true, false, false] rfl rfl (by kernel_rfl) (by decide) (fun K hK => ?_)
    refine goes_ Try.func17 (by kernel_rfl) rfl #[.agg #[.bool a0_0, .slice A0_1 l0_1.length c0_1, .slice A0_2 l0_2.length c0_2, .slice A0_3 l0_3.length c0_3, .slice A0_4 l0_4.length c0_4]] (by rfl) rfl rfl z1_ ?_
    with_reducible refine (laws_toTree.calls k a0_0 _ _ l0_1 _ _ l0_2 _ _ l0_3 _ _ l0_4 t302 t303 t306 t309 t312 _ ?side1 ?side2 ?side3 ?side4 ?side5 ?side6 ?side7 ?side8 A13.out).mono ?_
    (case side1 => exact z143_)
    (case side2 => exact z160_)
    (case side3 => exact z145_)
    (case side4 => exact z166_)
    (case side5 => exact z147_)
    (case side6 => exact z167_)
    (case side7 => exact z144_)
    (case side8 => exact z168_)
    rintro e w64 ⟨v304, v307, v310, v313, rfl, ho0, ho1, ho2, ho3, hb⟩
    refine ⟨_, rfl, ?_⟩
    have n0_ := q_ (Kd.R_elder' z18_ (Kd.R_base ho0) hb)
    have n1_ := q_ (Kd.R_elder' z19_ (Kd.R_base ho1) hb)
    have n2_ := q_ (Kd.R_mono (Kd.R_told (Kd.R_told (Kd.R_told (Kd.R_told (Kd.R_old z26_ hb) (Kd.R_base ho0)) (Kd.R_base ho1)) (Kd.R_base ho2)) (Kd.R_base ho3)) (fun _ h_ => h_.1))
    have n3_ := q_ (Kd.R_elder' z20_ (Kd.R_base ho3) hb)
    have n4_ := q_ (Kd.R_elder' z48_ (Kd.R_base ho0) hb)
    have n5_ := q_ (Kd.R_elder' z49_ (Kd.R_base ho1) hb)
    have n6_ := q_ (Kd.R_mono (Kd.R_told (Kd.R_told (Kd.R_told (Kd.R_told (Kd.R_old z54_ hb) (Kd.R_base ho0)) (Kd.R_base ho1)) (Kd.R_base ho2)) (Kd.R_base ho3)) (fun _ h_ => h_.1))
    have n7_ := q_ (Kd.R_elder' z50_ (Kd.R_base ho3) hb)
    have n8_ := q_ (Kd.R_lower (Kd.R_new' (Kd.R_new' ho0 (Kd.R_lt z18_)) (Kd.R_lt z48_)) (below_size z10_))
    have n9_ := q_ (Kd.R_lower (Kd.R_new' (Kd.R_new' ho1 (Kd.R_lt z19_)) (Kd.R_lt z49_)) (below_size z10_))
    have n10_ := q_ (Kd.R_lower (Kd.R_newB (Kd.R_new' (Kd.R_new' (Kd.R_new' (Kd.R_new' (Kd.R_new' (Kd.R_new' (Kd.R_new' (Kd.R_new' ho2 (Kd.R_lt z18_)) (Kd.R_lt z19_)) (Kd.R_lt z26_)) (Kd.R_lt z20_)) (Kd.R_lt z48_)) (Kd.R_lt z49_)) (Kd.R_lt z54_)) (Kd.R_lt z50_)) (g := gb300) (o := .cells #[.bool t287, .slice Ao58 t288.length co58, .slice Ao59 t291.length co59, .slice Ao60 t294.length co60, .slice Ao61 t297.length co61] 34 (0, 0)) z67_) (below_size z10_))
    have n11_ := q_ (Kd.R_lower (Kd.R_new' (Kd.R_new' ho3 (Kd.R_lt z20_)) (Kd.R_lt z50_)) (below_size z10_))
    have n12_ := q_ (blk_below (g := gb271) (o := .cells #[.bool a0_0, .slice A0_1 l0_1.length c0_1, .slice A0_2 l0_2.length c0_2, .slice A0_3 l0_3.length c0_3, .slice A0_4 l0_4.length c0_4] 27 (0, 0)) z17_ hb)
    have n13_ := q_ (blk_below (g := gb300) (o := .cells #[.bool t287, .slice Ao58 t288.length co58, .slice Ao59 t291.length co59, .slice Ao60 t294.length co60, .slice Ao61 t297.length co61] 34 (0, 0)) z67_ hb)
    have n14_ := q_ (below_step z10_ hb)
    clear HO276
    clear HO279
    clear HO282
    clear HO285
    clear HO290
    clear HO293
    clear HO296
    clear HO299
    clear BK271
    clear BK300
    clear HB
    have HO276 := n0_
    have HO279 := n1_
    have HO282 := n2_
    have HO285 := n3_
    have HO290 := n4_
    have HO293 := n5_
    have HO296 := n6_
    have HO299 := n7_
    have HO305 := n8_
    have HO308 := n9_
    have HO311 := n10_
    have HO314 := n11_
    have BK271 := n12_
    have BK300 := n13_
    have HB := n14_
    clear n0_ n1_ n2_ n3_ n4_ n5_ n6_ n7_ n8_ n9_ n10_ n11_ n12_ n13_ n14_
    (try clear hb)
    (try clear hb2)
    (try clear hk)
    (try clear hi)
    (try clear ho0)
    (try clear ho1)
    (try clear ho2)
    (try clear ho3)
    obtain ⟨Ao65, co65, eo65⟩ := Kd.R_slice HO305.out
    (first | subst eo65 | (injection eo65 with f1_ f2_ f3_; have f4_ := f1_.symm; have f5_ := f3_.symm; clear f1_ f2_ f3_; subst f4_; subst f5_))
    obtain ⟨Ao66, co66, eo66⟩ := Kd.R_slice HO308.out
    (first | subst eo66 | (injection eo66 with f1_ f2_ f3_; have f4_ := f1_.symm; have f5_ := f3_.symm; clear f1_ f2_ f3_; subst f4_; subst f5_))
    obtain ⟨Ao67, co67, eo67⟩ := Kd.R_slice HO311.out
    (first | subst eo67 | (injection eo67 with f1_ f2_ f3_; have f4_ := f1_.symm; have f5_ := f3_.symm; clear f1_ f2_ f3_; subst f4_; subst f5_))
    obtain ⟨Ao68, co68, eo68⟩ := Kd.R_slice HO314.out
    (first | subst eo68 | (injection eo68 with f1_ f2_ f3_; have f4_ := f1_.symm; have f5_ := f3_.symm; clear f1_ f2_ f3_; subst f4_; subst f5_))
    refine hK.out _ _ ⟨(blk_cell BK300.out 0).trans rfl, (blk_cell BK300.out 1).trans rfl, (blk_cell BK300.out 2).trans rfl, (blk_cell BK300.out 3).trans rfl, (blk_cell BK300.out 4).trans rfl, (blk_cell BK271.out 0).trans rfl, (blk_cell BK271.out 1).trans rfl, (blk_cell BK271.out 2).trans rfl, (blk_cell BK271.out 3).trans rfl, (blk_cell BK271.out 4).trans rfl⟩ (fun hHeld => ?_)
    clear hK K
    refine norm_ (a' := ?_) ?_ ?_
    rotate_left
    ·show Act.put _ (some 28) _ = _
     simp only [Act.put, List.setIfInBounds_toArray, List.set_cons_zero, List.set_cons_succ, i64_w, i32_w]
     rfl
    refine one_ (i := 3) (N := some 29) #[true, true, true, true, false] rfl rfl (by kernel_rfl) (by decide) (fun K hK => ?_)
    refine goes_ Try.func19 (by kernel_rfl) rfl #[.agg #[.bool t287, .slice Ao58 t288.length co58, .slice Ao59 t291.length co59, .slice Ao60 t294.length co60, .slice Ao61 t297.length co61], .agg #[.bool t302, .slice Ao65 t303.length co65, .slice Ao66 t306.length co66, .slice Ao67 t309.length co67, .slice Ao68 t312.length co68]] (by rfl) rfl rfl z1_ ?_
    with_reducible refine (laws_eqTree.calls k t287 _ _ t288 _ _ t291 _ _ t294 _ _ t297 t302 _ _ t303 _ _ t306 _ _ t309 _ _ t312 false _ ?side1 ?side2 ?side3 ?side4 ?side5 ?side6 ?side7 ?side8 ?side9 ?side10 ?side11 ?side12 ?side13 ?side14 ?side15 ?side16 A14.out).mono ?_
    (case side1 => exact z193_)
    (case side2 => exact z205_)
    (case side3 => exact z194_)
    (case side4 => exact z206_)
    (case side5 => exact z195_)
    (case side6 => exact z207_)
    (case side7 => exact z196_)
    (case side8 => exact z208_)
    (case side9 => exact z197_)
    (case side10 => exact (Kd.R_reads' HO305.out).2.1)
    (case side11 => exact z198_)
    (case side12 => exact (Kd.R_reads' HO308.out).2.1)
    (case side13 => exact z199_)
    (case side14 => exact (Kd.R_reads' HO311.out).2.1)
    (case side15 => exact z200_)
    (case side16 => exact (Kd.R_reads' HO314.out).2.1)
    rintro e w69 ⟨rfl, hb⟩
    refine ⟨_, rfl, ?_⟩
    have n0_ := q_ (Kd.R_below z18_ hb)
    have n1_ := q_ (Kd.R_below z19_ hb)
    have n2_ := q_ (Kd.R_below z26_ hb)
    have n3_ := q_ (Kd.R_below z20_ hb)
    have n4_ := q_ (Kd.R_below z48_ hb)
    have n5_ := q_ (Kd.R_below z49_ hb)
    have n6_ := q_ (Kd.R_below z54_ hb)
    have n7_ := q_ (Kd.R_below z50_ hb)
    have n8_ := q_ (Kd.R_below z100_ hb)
    have n9_ := q_ (Kd.R_below z101_ hb)
    have n10_ := q_ (Kd.R_below z102_ hb)
    have n11_ := q_ (Kd.R_below z103_ hb)
    have n12_ := q_ (blk_below (g := gb271) (o := .cells #[.bool a0_0, .slice A0_1 l0_1.length c0_1, .slice A0_2 l0_2.length c0_2, .slice A0_3 l0_3.length c0_3, .slice A0_4 l0_4.length c0_4] 27 (0, 0)) z17_ hb)
    have n13_ := q_ (blk_below (g := gb300) (o := .cells #[.bool t287, .slice Ao58 t288.length co58, .slice Ao59 t291.length co59, .slice Ao60 t294.length co60, .slice Ao61 t297.length co61] 34 (0, 0)) z67_ hb)
    have n14_ := q_ (below_step z10_ hb)
    clear HO276
    clear HO279
    clear HO282
    clear HO285
    clear HO290
    clear HO293
    clear HO296
    clear HO299
    clear HO305
    clear HO308
    clear HO311
    clear HO314
    clear BK271
    clear BK300
    clear HB
    have HO276 := n0_
    have HO279 := n1_
    have HO282 := n2_
    have HO285 := n3_
    have HO290 := n4_
    have HO293 := n5_
    have HO296 := n6_
    have HO299 := n7_
    have HO305 := n8_
    have HO308 := n9_
    have HO311 := n10_
    have HO314 := n11_
    have BK271 := n12_
    have BK300 := n13_
    have HB := n14_
    clear n0_ n1_ n2_ n3_ n4_ n5_ n6_ n7_ n8_ n9_ n10_ n11_ n12_ n13_ n14_
    (try clear hb)
    (try clear hb2)
    (try clear hk)
    (try clear hi)
    refine hK.out _ _ ⟨(blk_cell BK300.out 0).trans rfl, (blk_cell BK300.out 1).trans rfl, (blk_cell BK300.out 2).trans rfl, (blk_cell BK300.out 3).trans rfl, (blk_cell BK300.out 4).trans rfl, (blk_cell BK271.out 0).trans rfl, (blk_cell BK271.out 1).trans rfl, (blk_cell BK271.out 2).trans rfl, (blk_cell BK271.out 3).trans rfl, (blk_cell BK271.out 4).trans rfl⟩ (fun hHeld => ?_)
    clear hK K
    refine norm_ (a' := ?_) ?_ ?_
    rotate_left
    ·show Act.put _ (some 29) _ = _
     simp only [Act.put, List.setIfInBounds_toArray, List.set_cons_zero, List.set_cons_succ, i64_w, i32_w]
     rfl
    refine pure_ (i := 4) (N := some 30) (v := ?_) (a' := ?_) #[true, true, true, true, true] rfl rfl (by kernel_rfl) (fun _ _ _ h => h) (Or.inl ⟨by rfl, ?_⟩) ?_ ?_
    rotate_left
    ·intro w'
     go_simp
     with_reducible rfl
    rotate_left
    ·simp only [Act.put, List.setIfInBounds_toArray, List.set_cons_zero, List.set_cons_succ, i64_w, i32_w]
     rfl
    refine done_ (by kernel_rfl) ?_
    try go_wp2
    go_ret
    exact ⟨z2_, z10_⟩
  ·rw [if_neg c12] at H
   have c12b0 : (t301 == t286) = false := beq_eq_false_iff_ne.mpr c12
   have c12b1 : (t301 != t286) = true := bne_iff_ne.mpr c12
   obtain rfl := Option.some.inj H
   go_enter Try.func5, Try.ntmps5
   go_wp2_with (first | ((with_reducible refine gate_dst (N := 2) rfl ?_); refine box_event ?hg (N := 2) ?hd (cs := #[.bool a0_0, .slice A0_1 l0_1.length c0_1, .slice A0_2 l0_2.length c0_2, .slice A0_3 l0_3.length c0_3, .slice A0_4 l0_4.length c0_4]) (t := 27) ?hr ?_; (case hd => rfl); (case hg => rfl); (case hr => exact z146_); intro gb271 hg w70 hbox hb; have n0_ := q_ (below_step z0_ hb); have n1_ := q_ (hbox); have n2_ := q_ ((z107_ : w.heap.size ≤ gb271)); have n3_ := q_ ((z107_ : w.heap.size ≤ gb271)); clear HB; have HB := n0_; have BK271 := n1_; have GW271 := n2_; have GE271 := n3_; clear n0_ n1_ n2_ n3_; clear hb hbox hg; obtain ⟨hcz71_0, hcz71_1, hcz71_2, hcz71_3, hcz71_4, hfz71_0, hfz71_1, hfz71_2, hfz71_3, hfz71_4⟩ := cs5_ BK271.out) | ((with_reducible refine gate_callee (f := 15) rfl ?_); refine goesL_ (some 11) rfl rfl Try.func15 (by kernel_rfl) rfl #[.agg #[.bool a0_0, .slice A0_1 l0_1.length c0_1, .slice A0_2 l0_2.length c0_2, .slice A0_3 l0_3.length c0_3, .slice A0_4 l0_4.length c0_4], .int .i64 1048576] rfl z1_ ?_; (with_reducible refine (laws_szTree.calls k a0_0 _ _ l0_1 _ _ l0_2 _ _ l0_3 _ _ l0_4 1048576 t272 _ ?side1 ?side2 ?side3 ?side4 ?side5 ?side6 ?side7 ?side8 A3.out).mono ?_); (case side1 => exact z143_); (case side2 => exact z160_); (case side3 => exact z145_); (case side4 => exact z166_); (case side5 => exact z147_); (case side6 => exact z167_); (case side7 => exact z144_); (case side8 => exact z168_); rintro e w72 ⟨rfl, hb⟩; refine ⟨_, rfl, ?_⟩; have n0_ := q_ (blk_below (g := gb271) (o := .cells #[.bool a0_0, .slice A0_1 l0_1.length c0_1, .slice A0_2 l0_2.length c0_2, .slice A0_3 l0_3.length c0_3, .slice A0_4 l0_4.length c0_4] 27 (0, 0)) z17_ hb); have n1_ := q_ (below_step z5_ hb); clear BK271; clear HB; have BK271 := n0_; have HB := n1_; clear n0_ n1_; (try clear hb); (try clear hb2); (try clear hk); (try clear hi); obtain ⟨hcz73_0, hcz73_1, hcz73_2, hcz73_3, hcz73_4, hfz73_0, hfz73_1, hfz73_2, hfz73_3, hfz73_4⟩ := cs5_ BK271.out) | ((with_reducible refine gate_callee (f := 17) rfl ?_); refine goesL_ (some 15) rfl rfl Try.func17 (by kernel_rfl) rfl #[.agg #[.bool a0_0, .slice A0_1 l0_1.length c0_1, .slice A0_2 l0_2.length c0_2, .slice A0_3 l0_3.length c0_3, .slice A0_4 l0_4.length c0_4]] rfl z1_ ?_; (with_reducible refine (laws_toTree.calls k a0_0 _ _ l0_1 _ _ l0_2 _ _ l0_3 _ _ l0_4 t273 t274 t277 t280 t283 _ ?side1 ?side2 ?side3 ?side4 ?side5 ?side6 ?side7 ?side8 A8.out).mono ?_); (case side1 => exact z143_); (case side2 => exact z160_); (case side3 => exact z145_); (case side4 => exact z166_); (case side5 => exact z147_); (case side6 => exact z167_); (case side7 => exact z144_); (case side8 => exact z168_); rintro e w74 ⟨v275, v278, v281, v284, rfl, ho0, ho1, ho2, ho3, hb⟩; refine ⟨_, rfl, ?_⟩; have n0_ := q_ (Kd.R_lower ho0 (below_size z5_)); have n1_ := q_ (Kd.R_lower ho1 (below_size z5_)); have n2_ := q_ (Kd.R_lower ho2 (below_size z5_)); have n3_ := q_ (Kd.R_lower ho3 (below_size z5_)); have n4_ := q_ (blk_below (g := gb271) (o := .cells #[.bool a0_0, .slice A0_1 l0_1.length c0_1, .slice A0_2 l0_2.length c0_2, .slice A0_3 l0_3.length c0_3, .slice A0_4 l0_4.length c0_4] 27 (0, 0)) z17_ hb); have n5_ := q_ (below_step z5_ hb); clear BK271; clear HB; have HO276 := n0_; have HO279 := n1_; have HO282 := n2_; have HO285 := n3_; have BK271 := n4_; have HB := n5_; clear n0_ n1_ n2_ n3_ n4_ n5_; (try clear hb); (try clear hb2); (try clear hk); (try clear hi); (try clear ho0); (try clear ho1); (try clear ho2); (try clear ho3); obtain ⟨Ao75, co75, eo75⟩ := Kd.R_slice HO276.out; subst eo75; obtain ⟨Ao76, co76, eo76⟩ := Kd.R_slice HO279.out; subst eo76; obtain ⟨Ao77, co77, eo77⟩ := Kd.R_slice HO282.out; subst eo77; obtain ⟨Ao78, co78, eo78⟩ := Kd.R_slice HO285.out; subst eo78) | ((with_reducible refine gate_callee (f := 22) rfl ?_); refine goesL_ (some 17) rfl rfl Try.func22 (by kernel_rfl) rfl #[.agg #[.bool t273, .slice Ao75 t274.length co75, .slice Ao76 t277.length co76, .slice Ao77 t280.length co77, .slice Ao78 t283.length co78], .int .i64 a1] rfl z1_ ?_; (with_reducible refine (spec_KidOf.calls k t273 _ _ t274 _ _ t277 _ _ t280 _ _ t283 a1 t286 _ ?side1 ?side2 ?side3 ?side4 ?side5 ?side6 ?side7 ?side8 A9.out).mono ?_); (case side1 => exact z162_); (case side2 => exact (Kd.R_reads' HO276.out).2.1); (case side3 => exact z163_); (case side4 => exact (Kd.R_reads' HO279.out).2.1); (case side5 => exact z164_); (case side6 => exact (Kd.R_reads' HO282.out).2.1); (case side7 => exact z165_); (case side8 => exact (Kd.R_reads' HO285.out).2.1); rintro e w79 ⟨rfl, hb⟩; refine ⟨_, rfl, ?_⟩; have n0_ := q_ (Kd.R_below z18_ hb); have n1_ := q_ (Kd.R_below z19_ hb); have n2_ := q_ (Kd.R_below z26_ hb); have n3_ := q_ (Kd.R_below z20_ hb); have n4_ := q_ (blk_below (g := gb271) (o := .cells #[.bool a0_0, .slice A0_1 l0_1.length c0_1, .slice A0_2 l0_2.length c0_2, .slice A0_3 l0_3.length c0_3, .slice A0_4 l0_4.length c0_4] 27 (0, 0)) z17_ hb); have n5_ := q_ (below_step z5_ hb); clear HO276; clear HO279; clear HO282; clear HO285; clear BK271; clear HB; have HO276 := n0_; have HO279 := n1_; have HO282 := n2_; have HO285 := n3_; have BK271 := n4_; have HB := n5_; clear n0_ n1_ n2_ n3_ n4_ n5_; (try clear hb); (try clear hb2); (try clear hk); (try clear hi); obtain ⟨hcz80_0, hcz80_1, hcz80_2, hcz80_3, hcz80_4, hfz80_0, hfz80_1, hfz80_2, hfz80_3, hfz80_4⟩ := cs5_ BK271.out) | ((with_reducible refine gate_callee (f := 17) rfl ?_); refine goesL_ (some 19) rfl rfl Try.func17 (by kernel_rfl) rfl #[.agg #[.bool a0_0, .slice A0_1 l0_1.length c0_1, .slice A0_2 l0_2.length c0_2, .slice A0_3 l0_3.length c0_3, .slice A0_4 l0_4.length c0_4]] rfl z1_ ?_; (with_reducible refine (laws_toTree.calls k a0_0 _ _ l0_1 _ _ l0_2 _ _ l0_3 _ _ l0_4 t287 t288 t291 t294 t297 _ ?side1 ?side2 ?side3 ?side4 ?side5 ?side6 ?side7 ?side8 A10.out).mono ?_); (case side1 => exact z143_); (case side2 => exact z160_); (case side3 => exact z145_); (case side4 => exact z166_); (case side5 => exact z147_); (case side6 => exact z167_); (case side7 => exact z144_); (case side8 => exact z168_); rintro e w81 ⟨v289, v292, v295, v298, rfl, ho0, ho1, ho2, ho3, hb⟩; refine ⟨_, rfl, ?_⟩; have n0_ := q_ (Kd.R_elder' z18_ (Kd.R_base ho0) hb); have n1_ := q_ (Kd.R_elder' z19_ (Kd.R_base ho1) hb); have n2_ := q_ (Kd.R_mono (Kd.R_told (Kd.R_told (Kd.R_told (Kd.R_told (Kd.R_old z26_ hb) (Kd.R_base ho0)) (Kd.R_base ho1)) (Kd.R_base ho2)) (Kd.R_base ho3)) (fun _ h_ => h_.1)); have n3_ := q_ (Kd.R_elder' z20_ (Kd.R_base ho3) hb); have n4_ := q_ (Kd.R_lower (Kd.R_new' ho0 (Kd.R_lt z18_)) (below_size z0_)); have n5_ := q_ (Kd.R_lower (Kd.R_new' ho1 (Kd.R_lt z19_)) (below_size z0_)); have n6_ := q_ (Kd.R_lower (Kd.R_new' (Kd.R_new' (Kd.R_new' (Kd.R_new' ho2 (Kd.R_lt z18_)) (Kd.R_lt z19_)) (Kd.R_lt z26_)) (Kd.R_lt z20_)) (below_size z0_)); have n7_ := q_ (Kd.R_lower (Kd.R_new' ho3 (Kd.R_lt z20_)) (below_size z0_)); have n8_ := q_ (below_step z0_ hb); clear HO276; clear HO279; clear HO282; clear HO285; clear HB; have HO276 := n0_; have HO279 := n1_; have HO282 := n2_; have HO285 := n3_; have HO290 := n4_; have HO293 := n5_; have HO296 := n6_; have HO299 := n7_; have HB := n8_; clear n0_ n1_ n2_ n3_ n4_ n5_ n6_ n7_ n8_; (try clear hb); (try clear hb2); (try clear hk); (try clear hi); (try clear ho0); (try clear ho1); (try clear ho2); (try clear ho3)) | ((with_reducible refine gate_dst (N := 7) rfl ?_); refine box_event ?hg (N := 7) ?hd (cs := #[.bool false, .slice none 0 0, .slice none 0 0, .slice none 0 0, .slice none 0 0]) (t := 34) ?hr ?_; (case hd => rfl); (case hg => rfl); (case hr => exact z146_); intro gb300 hg w82 hbox hb; have n0_ := q_ (Kd.R_below z18_ hb); have n1_ := q_ (Kd.R_below z19_ hb); have n2_ := q_ (Kd.R_below (Kd.R_elderB z26_ gb300 (Nat.le_of_eq hg.symm)) hb); have n3_ := q_ (Kd.R_below z20_ hb); have n4_ := q_ (Kd.R_below z48_ hb); have n5_ := q_ (Kd.R_below z49_ hb); have n6_ := q_ (Kd.R_below (Kd.R_elderB z54_ gb300 (Nat.le_of_eq hg.symm)) hb); have n7_ := q_ (Kd.R_below z50_ hb); have n8_ := q_ (below_step z0_ hb); have n9_ := q_ (hbox); have n10_ := q_ ((z107_ : w.heap.size ≤ gb300)); have n11_ := q_ ((z107_ : w.heap.size ≤ gb300)); clear HO276; clear HO279; clear HO282; clear HO285; clear HO290; clear HO293; clear HO296; clear HO299; clear HB; have HO276 := n0_; have HO279 := n1_; have HO282 := n2_; have HO285 := n3_; have HO290 := n4_; have HO293 := n5_; have HO296 := n6_; have HO299 := n7_; have HB := n8_; have BK300 := n9_; have GW300 := n10_; have GE300 := n11_; clear n0_ n1_ n2_ n3_ n4_ n5_ n6_ n7_ n8_ n9_ n10_ n11_; clear hb hbox hg; obtain ⟨hcz83_0, hcz83_1, hcz83_2, hcz83_3, hcz83_4, hfz83_0, hfz83_1, hfz83_2, hfz83_3, hfz83_4⟩ := cs5_ BK300.out; obtain ⟨Ao84, co84, eo84⟩ := Kd.R_slice HO290.out; subst eo84; obtain ⟨Ao85, co85, eo85⟩ := Kd.R_slice HO293.out; subst eo85; obtain ⟨Ao86, co86, eo86⟩ := Kd.R_slice HO296.out; subst eo86; obtain ⟨Ao87, co87, eo87⟩ := Kd.R_slice HO299.out; subst eo87) | ((with_reducible refine gate_callee (f := 23) rfl ?_); refine goesL_ (some 22) rfl rfl Try.func23 (by kernel_rfl) rfl #[.agg #[.bool t287, .slice Ao84 t288.length co84, .slice Ao85 t291.length co85, .slice Ao86 t294.length co86, .slice Ao87 t297.length co87], .int .i64 a1] rfl z1_ ?_; (with_reducible refine (impl_KidOf.calls k t287 _ _ t288 _ _ t291 _ _ t294 _ _ t297 a1 t301 _ ?side1 ?side2 ?side3 ?side4 ?side5 ?side6 ?side7 ?side8 A11.out).mono ?_); (case side1 => refine (Kd.R_reads' (e := 92) (base := w.heap.size) (ok := fun k_ => (True ∧ some k_ ≠ (.slice Ao75 t274.length co75 : Value).ownBlock)) (n := t288.length) (c := co84) ?_).2.2; exact (by (with_reducible repeat (first | apply Kd.R_alloc | apply Kd.R_drewN | apply Kd.R_drew)); exact (Kd.R_mono (Kd.R_far (p := ⟨gb300, 4, none⟩) (Kd.R_far (p := ⟨gb300, 3, none⟩) (Kd.R_far (p := ⟨gb300, 2, none⟩) (Kd.R_far (p := ⟨gb300, 1, none⟩) (Kd.R_far (p := ⟨gb300, 0, none⟩) (Kd.R_types HO290.out BK300.out (by decide)) (fun _ hk => hk.2) (.bool t287)) (fun _ hk => hk.2) (.slice Ao84 t288.length co84)) (fun _ hk => hk.2) (.slice Ao85 t291.length co85)) (fun _ hk => hk.2) (.slice Ao86 t294.length co86)) (fun _ hk => hk.2) (.slice Ao87 t297.length co87)) (fun _ h_ => h_.1)))); (case side2 => exact z205_); (case side3 => refine (Kd.R_reads' (e := 3) (base := w.heap.size) (ok := fun k_ => (True ∧ some k_ ≠ (.slice Ao76 t277.length co76 : Value).ownBlock)) (n := t291.length) (c := co85) ?_).2.2; exact (by (with_reducible repeat (first | apply Kd.R_alloc | apply Kd.R_drewN | apply Kd.R_drew)); exact (Kd.R_mono (Kd.R_far (p := ⟨gb300, 4, none⟩) (Kd.R_far (p := ⟨gb300, 3, none⟩) (Kd.R_far (p := ⟨gb300, 2, none⟩) (Kd.R_far (p := ⟨gb300, 1, none⟩) (Kd.R_far (p := ⟨gb300, 0, none⟩) (Kd.R_types HO293.out BK300.out (by decide)) (fun _ hk => hk.2) (.bool t287)) (fun _ hk => hk.2) (.slice Ao84 t288.length co84)) (fun _ hk => hk.2) (.slice Ao85 t291.length co85)) (fun _ hk => hk.2) (.slice Ao86 t294.length co86)) (fun _ hk => hk.2) (.slice Ao87 t297.length co87)) (fun _ h_ => h_.1)))); (case side4 => exact z206_); (case side5 => refine (Kd.R_reads' (e := 34) (base := w.heap.size) (ok := fun k_ => ((((((some k_ ≠ (.slice Ao84 t288.length co84 : Value).ownBlock ∧ (some k_ ≠ (.slice Ao85 t291.length co85 : Value).ownBlock ∧ some k_ ≠ (.slice Ao87 t297.length co87 : Value).ownBlock)) ∧ some k_ ≠ (.slice Ao75 t274.length co75 : Value).ownBlock) ∧ some k_ ≠ (.slice Ao76 t277.length co76 : Value).ownBlock) ∧ some k_ ≠ (.slice Ao77 t280.length co77 : Value).ownBlock) ∧ some k_ ≠ (.slice Ao78 t283.length co78 : Value).ownBlock) ∧ k_ ≠ gb300)) (n := t294.length) (c := co86) ?_).2.2; exact z45_); (case side6 => exact z207_); (case side7 => refine (Kd.R_reads' (e := 72) (base := w.heap.size) (ok := fun k_ => (True ∧ some k_ ≠ (.slice Ao78 t283.length co78 : Value).ownBlock)) (n := t297.length) (c := co87) ?_).2.2; exact (by (with_reducible repeat (first | apply Kd.R_alloc | apply Kd.R_drewN | apply Kd.R_drew)); exact (Kd.R_mono (Kd.R_far (p := ⟨gb300, 4, none⟩) (Kd.R_far (p := ⟨gb300, 3, none⟩) (Kd.R_far (p := ⟨gb300, 2, none⟩) (Kd.R_far (p := ⟨gb300, 1, none⟩) (Kd.R_far (p := ⟨gb300, 0, none⟩) (Kd.R_types HO299.out BK300.out (by decide)) (fun _ hk => hk.2) (.bool t287)) (fun _ hk => hk.2) (.slice Ao84 t288.length co84)) (fun _ hk => hk.2) (.slice Ao85 t291.length co85)) (fun _ hk => hk.2) (.slice Ao86 t294.length co86)) (fun _ hk => hk.2) (.slice Ao87 t297.length co87)) (fun _ h_ => h_.1)))); (case side8 => exact z208_); rintro e w88 ⟨rfl, hb⟩; refine ⟨_, rfl, ?_⟩; have n0_ := q_ (Kd.R_below (by (with_reducible repeat (first | apply Kd.R_alloc | apply Kd.R_drewN | apply Kd.R_drew)); exact (Kd.R_mono (Kd.R_far (p := ⟨gb300, 4, none⟩) (Kd.R_far (p := ⟨gb300, 3, none⟩) (Kd.R_far (p := ⟨gb300, 2, none⟩) (Kd.R_far (p := ⟨gb300, 1, none⟩) (Kd.R_far (p := ⟨gb300, 0, none⟩) (Kd.R_types HO276.out BK300.out (by decide)) (fun _ hk => hk.2) (.bool t287)) (fun _ hk => hk.2) (.slice Ao84 t288.length co84)) (fun _ hk => hk.2) (.slice Ao85 t291.length co85)) (fun _ hk => hk.2) (.slice Ao86 t294.length co86)) (fun _ hk => hk.2) (.slice Ao87 t297.length co87)) (fun _ h_ => h_.1))) hb); have n1_ := q_ (Kd.R_below (by (with_reducible repeat (first | apply Kd.R_alloc | apply Kd.R_drewN | apply Kd.R_drew)); exact (Kd.R_mono (Kd.R_far (p := ⟨gb300, 4, none⟩) (Kd.R_far (p := ⟨gb300, 3, none⟩) (Kd.R_far (p := ⟨gb300, 2, none⟩) (Kd.R_far (p := ⟨gb300, 1, none⟩) (Kd.R_far (p := ⟨gb300, 0, none⟩) (Kd.R_types HO279.out BK300.out (by decide)) (fun _ hk => hk.2) (.bool t287)) (fun _ hk => hk.2) (.slice Ao84 t288.length co84)) (fun _ hk => hk.2) (.slice Ao85 t291.length co85)) (fun _ hk => hk.2) (.slice Ao86 t294.length co86)) (fun _ hk => hk.2) (.slice Ao87 t297.length co87)) (fun _ h_ => h_.1))) hb); have n2_ := q_ (Kd.R_below (by (with_reducible repeat (first | apply Kd.R_alloc | apply Kd.R_drewN | apply Kd.R_drew)); exact (Kd.R_mono (Kd.R_far (p := ⟨gb300, 4, none⟩) (Kd.R_far (p := ⟨gb300, 3, none⟩) (Kd.R_far (p := ⟨gb300, 2, none⟩) (Kd.R_far (p := ⟨gb300, 1, none⟩) (Kd.R_far (p := ⟨gb300, 0, none⟩) (Kd.R_mono HO282.out (fun k_ hk => (⟨hk, hk.2⟩ : _ ∧ k_ ≠ gb300))) (fun _ hk => hk.2) (.bool t287)) (fun _ hk => hk.2) (.slice Ao84 t288.length co84)) (fun _ hk => hk.2) (.slice Ao85 t291.length co85)) (fun _ hk => hk.2) (.slice Ao86 t294.length co86)) (fun _ hk => hk.2) (.slice Ao87 t297.length co87)) (fun _ h_ => h_.1))) hb); have n3_ := q_ (Kd.R_below (by (with_reducible repeat (first | apply Kd.R_alloc | apply Kd.R_drewN | apply Kd.R_drew)); exact (Kd.R_mono (Kd.R_far (p := ⟨gb300, 4, none⟩) (Kd.R_far (p := ⟨gb300, 3, none⟩) (Kd.R_far (p := ⟨gb300, 2, none⟩) (Kd.R_far (p := ⟨gb300, 1, none⟩) (Kd.R_far (p := ⟨gb300, 0, none⟩) (Kd.R_types HO285.out BK300.out (by decide)) (fun _ hk => hk.2) (.bool t287)) (fun _ hk => hk.2) (.slice Ao84 t288.length co84)) (fun _ hk => hk.2) (.slice Ao85 t291.length co85)) (fun _ hk => hk.2) (.slice Ao86 t294.length co86)) (fun _ hk => hk.2) (.slice Ao87 t297.length co87)) (fun _ h_ => h_.1))) hb); have n4_ := q_ (Kd.R_below (by (with_reducible repeat (first | apply Kd.R_alloc | apply Kd.R_drewN | apply Kd.R_drew)); exact (Kd.R_mono (Kd.R_far (p := ⟨gb300, 4, none⟩) (Kd.R_far (p := ⟨gb300, 3, none⟩) (Kd.R_far (p := ⟨gb300, 2, none⟩) (Kd.R_far (p := ⟨gb300, 1, none⟩) (Kd.R_far (p := ⟨gb300, 0, none⟩) (Kd.R_types HO290.out BK300.out (by decide)) (fun _ hk => hk.2) (.bool t287)) (fun _ hk => hk.2) (.slice Ao84 t288.length co84)) (fun _ hk => hk.2) (.slice Ao85 t291.length co85)) (fun _ hk => hk.2) (.slice Ao86 t294.length co86)) (fun _ hk => hk.2) (.slice Ao87 t297.length co87)) (fun _ h_ => h_.1))) hb); have n5_ := q_ (Kd.R_below (by (with_reducible repeat (first | apply Kd.R_alloc | apply Kd.R_drewN | apply Kd.R_drew)); exact (Kd.R_mono (Kd.R_far (p := ⟨gb300, 4, none⟩) (Kd.R_far (p := ⟨gb300, 3, none⟩) (Kd.R_far (p := ⟨gb300, 2, none⟩) (Kd.R_far (p := ⟨gb300, 1, none⟩) (Kd.R_far (p := ⟨gb300, 0, none⟩) (Kd.R_types HO293.out BK300.out (by decide)) (fun _ hk => hk.2) (.bool t287)) (fun _ hk => hk.2) (.slice Ao84 t288.length co84)) (fun _ hk => hk.2) (.slice Ao85 t291.length co85)) (fun _ hk => hk.2) (.slice Ao86 t294.length co86)) (fun _ hk => hk.2) (.slice Ao87 t297.length co87)) (fun _ h_ => h_.1))) hb); have n6_ := q_ (Kd.R_below z45_ hb); have n7_ := q_ (Kd.R_below (by (with_reducible repeat (first | apply Kd.R_alloc | apply Kd.R_drewN | apply Kd.R_drew)); exact (Kd.R_mono (Kd.R_far (p := ⟨gb300, 4, none⟩) (Kd.R_far (p := ⟨gb300, 3, none⟩) (Kd.R_far (p := ⟨gb300, 2, none⟩) (Kd.R_far (p := ⟨gb300, 1, none⟩) (Kd.R_far (p := ⟨gb300, 0, none⟩) (Kd.R_types HO299.out BK300.out (by decide)) (fun _ hk => hk.2) (.bool t287)) (fun _ hk => hk.2) (.slice Ao84 t288.length co84)) (fun _ hk => hk.2) (.slice Ao85 t291.length co85)) (fun _ hk => hk.2) (.slice Ao86 t294.length co86)) (fun _ hk => hk.2) (.slice Ao87 t297.length co87)) (fun _ h_ => h_.1))) hb); have n8_ := q_ (blk_below (g := gb300) (o := .cells #[.bool t287, .slice Ao84 t288.length co84, .slice Ao85 t291.length co85, .slice Ao86 t294.length co86, .slice Ao87 t297.length co87] 34 (0, 0)) (by (with_reducible repeat (first | refine blk_drewN ?_ _ | refine blk_drew ?_ | refine blk_alloc ?_ _)); refine blk_put (cs := #[.bool t287, .slice Ao84 t288.length co84, .slice Ao85 t291.length co85, .slice Ao86 t294.length co86, .slice none 0 0]) ?_ 4 _ rfl; (with_reducible repeat (first | refine blk_drewN ?_ _ | refine blk_drew ?_ | refine blk_alloc ?_ _)); refine blk_put (cs := #[.bool t287, .slice Ao84 t288.length co84, .slice Ao85 t291.length co85, .slice none 0 0, .slice none 0 0]) ?_ 3 _ rfl; (with_reducible repeat (first | refine blk_drewN ?_ _ | refine blk_drew ?_ | refine blk_alloc ?_ _)); refine blk_put (cs := #[.bool t287, .slice Ao84 t288.length co84, .slice none 0 0, .slice none 0 0, .slice none 0 0]) ?_ 2 _ rfl; (with_reducible repeat (first | refine blk_drewN ?_ _ | refine blk_drew ?_ | refine blk_alloc ?_ _)); refine blk_put (cs := #[.bool t287, .slice none 0 0, .slice none 0 0, .slice none 0 0, .slice none 0 0]) ?_ 1 _ rfl; (with_reducible repeat (first | refine blk_drewN ?_ _ | refine blk_drew ?_ | refine blk_alloc ?_ _)); refine blk_put (cs := #[.bool false, .slice none 0 0, .slice none 0 0, .slice none 0 0, .slice none 0 0]) ?_ 0 _ rfl; (with_reducible repeat (first | refine blk_drewN ?_ _ | refine blk_drew ?_ | refine blk_alloc ?_ _)); exact BK300.out) hb); have n9_ := q_ (below_step z93_ hb); clear HO276; clear HO279; clear HO282; clear HO285; clear HO290; clear HO293; clear HO296; clear HO299; clear BK300; clear HB; have HO276 := n0_; have HO279 := n1_; have HO282 := n2_; have HO285 := n3_; have HO290 := n4_; have HO293 := n5_; have HO296 := n6_; have HO299 := n7_; have BK300 := n8_; have HB := n9_; clear n0_ n1_ n2_ n3_ n4_ n5_ n6_ n7_ n8_ n9_; (try clear hb); (try clear hb2); (try clear hk); (try clear hi)))
   go_ret
   exact ⟨z2_, z93_⟩

end Go.Proofs.Ytfnndcpaldkkoaa.PFnExactKidOf
