-- Written by a program of this session, which goes by the kit's print. Not trusted: Lean checks it.
import Derived.Test.YtfnndcpaldkkoaaPFnExactTreeCountx0
import Derived.Test.YtfnndcpaldkkoaaPFnExactTreeCountx4
import Derived.Test.YtfnndcpaldkkoaaPFnExactTreeCountx6
namespace Go.Proofs.Ytfnndcpaldkkoaa.PFnExactTreeCount
open Go.RowKit Go.Proofs.YtfnndcpaldkkoaaW.PrintWords Go.Proofs.YtfnndcpaldkkoaaW.PrintLast Go.Proofs.YtfnndcpaldkkoaaW.PrintMore
attribute [local go_sem] max2_int min2_int max_two min_two max_three min_three max_four min_four   -- for this text's walks alone
set_option linter.unusedVariables false
set_option linter.unusedSimpArgs false

/-! ### spec_l2Depth: function 59 -/
mutual
def spec_l2Depth.j0 : Nat → Int → Int → Int → Int → Bool → Bool → List (S92) → List Int → List (S34) → List (S72) → Option (Int)
 | 0, _, _, _, _, _, _, _, _, _, _ => none
 | k + 1, x1, x2, x3, x9, x49, x204000, x204001, x204002, x204003, x204004 => if x49 = true then (some 0) else (spec_l2Depth.l0 k x1 x2 x3 x9 0 x204000 x204001 x204002 x204003 x204004)
def spec_l2Depth.l0 : Nat → Int → Int → Int → Int → Int → Bool → List (S92) → List Int → List (S34) → List (S72) → Option (Int)
 | 0, _, _, _, _, _, _, _, _, _, _ => none
 | k + 1, x1, x2, x3, x9, x10, x204000, x204001, x204002, x204003, x204004 => if x10 < (x204004.length : Int) then (if 0 ≤ x10 then ((spec_MsgOk.f ((rd_T72 x204004 x10).f0) ((rd_T72 x204004 x10).f1) ((rd_T72 x204004 x10).f2)).bind fun t207 => (if t207 = true then (if ((rd_T72 x204004 x10).f0) = 4 then (some 0) else ((spec_l1In.f ((rd_T72 x204004 x10).f1) x1 (wrap64 (x2 - 1))).bind fun t210 => (if t210 = true then (spec_l2Depth.l0 k x1 x2 x3 x9 (wrap64 (x10 + 1)) x204000 x204001 x204002 x204003 x204004) else (some 0)))) else (some 0))) else (none)) else (spec_l2Depth.l1 k x2 x3 x9 0 x1 0 x204000 x204001 x204002 x204003 x204004)
def spec_l2Depth.l1 : Nat → Int → Int → Int → Int → Int → Int → Bool → List (S92) → List Int → List (S34) → List (S72) → Option (Int)
 | 0, _, _, _, _, _, _, _, _, _, _, _ => none
 | k + 1, x2, x3, x9, x11, x12, x13, x204000, x204001, x204002, x204003, x204004 => if x13 < x9 then (if x13 < (wrap64 (x9 - 1)) then (if 0 ≤ x13 then (if x13 < (x204002.length : Int) then ((spec_l1In.f (rd x204002 x13) (wrap64 (x12 + 1)) (wrap64 (x2 - 1))).bind fun t212 => (if t212 = true then (if x13 < (x204003.length : Int) then ((spec_l2Depth.f k ((rd_T34 x204003 x13).f0) ((rd_T34 x204003 x13).f1) ((rd_T34 x204003 x13).f2) ((rd_T34 x204003 x13).f3) ((rd_T34 x204003 x13).f4) x12 (rd x204002 x13) (wrap64 (x3 - 1))).bind fun t214 => (if t214 = 0 then (some 0) else (if x13 > 0 then (if t214 = x11 then (spec_l2Depth.l1 k x2 x3 x9 t214 (rd x204002 x13) (wrap64 (x13 + 1)) x204000 x204001 x204002 x204003 x204004) else (some 0)) else (spec_l2Depth.l1 k x2 x3 x9 t214 (rd x204002 x13) (wrap64 (x13 + 1)) x204000 x204001 x204002 x204003 x204004)))) else (none)) else (some 0))) else (none)) else (none)) else (if 0 ≤ x13 then (if x13 < (x204003.length : Int) then ((spec_l2Depth.f k ((rd_T34 x204003 x13).f0) ((rd_T34 x204003 x13).f1) ((rd_T34 x204003 x13).f2) ((rd_T34 x204003 x13).f3) ((rd_T34 x204003 x13).f4) x12 x2 (wrap64 (x3 - 1))).bind fun t216 => (if t216 = 0 then (some 0) else (if x13 > 0 then (if t216 = x11 then (spec_l2Depth.l1 k x2 x3 x9 t216 x2 (wrap64 (x13 + 1)) x204000 x204001 x204002 x204003 x204004) else (some 0)) else (spec_l2Depth.l1 k x2 x3 x9 t216 x2 (wrap64 (x13 + 1)) x204000 x204001 x204002 x204003 x204004)))) else (none)) else (none))) else (some (wrap64 (x11 + 1)))
def spec_l2Depth.f : Nat → Bool → List (S92) → List Int → List (S34) → List (S72) → Int → Int → Int → Option (Int)
 | 0, _, _, _, _, _, _, _, _ => none
 | k + 1, a0_0, l0_1, l0_2, l0_3, l0_4, a1, a2, a3 => if a3 = 0 then (some 0) else (if a0_0 = true then ((spec_l2Leaf.f k a0_0 l0_1 l0_2 l0_3 l0_4 a1 a2).bind fun t204 => (some t204)) else (if (l0_1.length : Int) > 0 then (spec_l2Depth.j0 k a1 a2 a3 (l0_3.length : Int) true a0_0 l0_1 l0_2 l0_3 l0_4) else ((spec_l1In.f (l0_3.length : Int) 2 4).bind fun t205 => (if t205 = true then (if (l0_2.length : Int) = (wrap64 ((l0_3.length : Int) - 1)) then (spec_l2Depth.j0 k a1 a2 a3 (l0_3.length : Int) (decide ((l0_4.length : Int) > 6)) a0_0 l0_1 l0_2 l0_3 l0_4) else (spec_l2Depth.j0 k a1 a2 a3 (l0_3.length : Int) true a0_0 l0_1 l0_2 l0_3 l0_4)) else (spec_l2Depth.j0 k a1 a2 a3 (l0_3.length : Int) true a0_0 l0_1 l0_2 l0_3 l0_4)))))
end
theorem spec_l2Depth.mono_l : ∀ k, (∀ y0 y1 y2 y3 y4 y5 y6 y7, LeO (spec_l2Depth.f k y0 y1 y2 y3 y4 y5 y6 y7) (spec_l2Depth.f (k + 1) y0 y1 y2 y3 y4 y5 y6 y7)) ∧ (∀ y0 y1 y2 y3 y4 y5 y6 y7 y8 y9, LeO (spec_l2Depth.j0 k y0 y1 y2 y3 y4 y5 y6 y7 y8 y9) (spec_l2Depth.j0 (k + 1) y0 y1 y2 y3 y4 y5 y6 y7 y8 y9)) ∧ (∀ y0 y1 y2 y3 y4 y5 y6 y7 y8 y9, LeO (spec_l2Depth.l0 k y0 y1 y2 y3 y4 y5 y6 y7 y8 y9) (spec_l2Depth.l0 (k + 1) y0 y1 y2 y3 y4 y5 y6 y7 y8 y9)) ∧ (∀ y0 y1 y2 y3 y4 y5 y6 y7 y8 y9 y10, LeO (spec_l2Depth.l1 k y0 y1 y2 y3 y4 y5 y6 y7 y8 y9 y10) (spec_l2Depth.l1 (k + 1) y0 y1 y2 y3 y4 y5 y6 y7 y8 y9 y10))
 | 0 => ⟨fun _ _ _ _ _ _ _ _ r h => by simp [spec_l2Depth.f] at h, fun _ _ _ _ _ _ _ _ _ _ r h => by simp [spec_l2Depth.j0] at h, fun _ _ _ _ _ _ _ _ _ _ r h => by simp [spec_l2Depth.l0] at h, fun _ _ _ _ _ _ _ _ _ _ _ r h => by simp [spec_l2Depth.l1] at h⟩
 | k + 1 => by
  obtain ⟨ih0, ih1, ih2, ih3⟩ := spec_l2Depth.mono_l k
  refine ⟨?_, ?_, ?_, ?_⟩
  ·intro y0 y1 y2 y3 y4 y5 y6 y7
   unfold spec_l2Depth.f
   repeat' first
   | (with_reducible exact ih0 _ _ _ _ _ _ _ _)
   | (with_reducible exact ih1 _ _ _ _ _ _ _ _ _ _)
   | (with_reducible exact ih2 _ _ _ _ _ _ _ _ _ _)
   | (with_reducible exact ih3 _ _ _ _ _ _ _ _ _ _ _)
   | (with_reducible exact spec_l2Leaf.mono _ _ _ _ _ _ _ _)
   | (with_reducible exact LeO.refl _)
   | (with_reducible exact LeO.none _)
   | (with_reducible refine LeO.ite ?_ ?_)
   | (with_reducible refine LeO.bind ?_ (fun _ => ?_))
   | exact ih0 _ _ _ _ _ _ _ _
   | exact ih1 _ _ _ _ _ _ _ _ _ _
   | exact ih2 _ _ _ _ _ _ _ _ _ _
   | exact ih3 _ _ _ _ _ _ _ _ _ _ _
   | exact spec_l2Leaf.mono _ _ _ _ _ _ _ _
   | exact LeO.none _
   | refine LeO.ite ?_ ?_
   | refine LeO.bind ?_ (fun _ => ?_)
  ·intro y0 y1 y2 y3 y4 y5 y6 y7 y8 y9
   unfold spec_l2Depth.j0
   repeat' first
   | (with_reducible exact ih0 _ _ _ _ _ _ _ _)
   | (with_reducible exact ih1 _ _ _ _ _ _ _ _ _ _)
   | (with_reducible exact ih2 _ _ _ _ _ _ _ _ _ _)
   | (with_reducible exact ih3 _ _ _ _ _ _ _ _ _ _ _)
   | (with_reducible exact spec_l2Leaf.mono _ _ _ _ _ _ _ _)
   | (with_reducible exact LeO.refl _)
   | (with_reducible exact LeO.none _)
   | (with_reducible refine LeO.ite ?_ ?_)
   | (with_reducible refine LeO.bind ?_ (fun _ => ?_))
   | exact ih0 _ _ _ _ _ _ _ _
   | exact ih1 _ _ _ _ _ _ _ _ _ _
   | exact ih2 _ _ _ _ _ _ _ _ _ _
   | exact ih3 _ _ _ _ _ _ _ _ _ _ _
   | exact spec_l2Leaf.mono _ _ _ _ _ _ _ _
   | exact LeO.none _
   | refine LeO.ite ?_ ?_
   | refine LeO.bind ?_ (fun _ => ?_)
  ·intro y0 y1 y2 y3 y4 y5 y6 y7 y8 y9
   unfold spec_l2Depth.l0
   repeat' first
   | (with_reducible exact ih0 _ _ _ _ _ _ _ _)
   | (with_reducible exact ih1 _ _ _ _ _ _ _ _ _ _)
   | (with_reducible exact ih2 _ _ _ _ _ _ _ _ _ _)
   | (with_reducible exact ih3 _ _ _ _ _ _ _ _ _ _ _)
   | (with_reducible exact spec_l2Leaf.mono _ _ _ _ _ _ _ _)
   | (with_reducible exact LeO.refl _)
   | (with_reducible exact LeO.none _)
   | (with_reducible refine LeO.ite ?_ ?_)
   | (with_reducible refine LeO.bind ?_ (fun _ => ?_))
   | exact ih0 _ _ _ _ _ _ _ _
   | exact ih1 _ _ _ _ _ _ _ _ _ _
   | exact ih2 _ _ _ _ _ _ _ _ _ _
   | exact ih3 _ _ _ _ _ _ _ _ _ _ _
   | exact spec_l2Leaf.mono _ _ _ _ _ _ _ _
   | exact LeO.none _
   | refine LeO.ite ?_ ?_
   | refine LeO.bind ?_ (fun _ => ?_)
  ·intro y0 y1 y2 y3 y4 y5 y6 y7 y8 y9 y10
   unfold spec_l2Depth.l1
   repeat' first
   | (with_reducible exact ih0 _ _ _ _ _ _ _ _)
   | (with_reducible exact ih1 _ _ _ _ _ _ _ _ _ _)
   | (with_reducible exact ih2 _ _ _ _ _ _ _ _ _ _)
   | (with_reducible exact ih3 _ _ _ _ _ _ _ _ _ _ _)
   | (with_reducible exact spec_l2Leaf.mono _ _ _ _ _ _ _ _)
   | (with_reducible exact LeO.refl _)
   | (with_reducible exact LeO.none _)
   | (with_reducible refine LeO.ite ?_ ?_)
   | (with_reducible refine LeO.bind ?_ (fun _ => ?_))
   | exact ih0 _ _ _ _ _ _ _ _
   | exact ih1 _ _ _ _ _ _ _ _ _ _
   | exact ih2 _ _ _ _ _ _ _ _ _ _
   | exact ih3 _ _ _ _ _ _ _ _ _ _ _
   | exact spec_l2Leaf.mono _ _ _ _ _ _ _ _
   | exact LeO.none _
   | refine LeO.ite ?_ ?_
   | refine LeO.bind ?_ (fun _ => ?_)
theorem spec_l2Depth.mono : ∀ a0 a1 a2 a3 a4 a5 a6 a7 k, LeO (spec_l2Depth.f k a0 a1 a2 a3 a4 a5 a6 a7) (spec_l2Depth.f (k + 1) a0 a1 a2 a3 a4 a5 a6 a7) := by
 intro a0 a1 a2 a3 a4 a5 a6 a7 k
 obtain ⟨ih0, ih1, ih2, ih3⟩ := spec_l2Depth.mono_l k
 exact ih0 a0 a1 a2 a3 a4 a5 a6 a7
set_option maxHeartbeats 8000000 in
set_option maxRecDepth 100000 in
theorem spec_l2Depth.calls (k : Nat) : ∀ (a0_0 : Bool) (A0_1 : Option Addr) (c0_1 : Nat) (l0_1 : List (S92)) (A0_2 : Option Addr) (c0_2 : Nat) (l0_2 : List Int) (A0_3 : Option Addr) (c0_3 : Nat) (l0_3 : List (S34)) (A0_4 : Option Addr) (c0_4 : Nat) (l0_4 : List (S72)) (a1 : Int) (a2 : Int) (a3 : Int) (r : Int) (w : World) (hr0_1 : Kd.C k92 w A0_1 l0_1.length l0_1) (hc0_1 : l0_1.length ≤ c0_1) (hr0_2 : Kd.C (Kd.int .i64) w A0_2 l0_2.length l0_2) (hc0_2 : l0_2.length ≤ c0_2) (hr0_3 : Kd.C k34 w A0_3 l0_3.length l0_3) (hc0_3 : l0_3.length ≤ c0_3) (hr0_4 : Kd.C k72 w A0_4 l0_4.length l0_4) (hc0_4 : l0_4.length ≤ c0_4) (h : spec_l2Depth.f k a0_0 l0_1 l0_2 l0_3 l0_4 a1 a2 a3 = some r),
  Calls Try.prog 59 #[.agg #[.bool a0_0, .slice A0_1 l0_1.length c0_1, .slice A0_2 l0_2.length c0_2, .slice A0_3 l0_3.length c0_3, .slice A0_4 l0_4.length c0_4], .int .i64 a1, .int .i64 a2, .int .i64 a3] w fun e w' => e = .returned (.int .i64 r) ∧ Below w.heap.size w w' := by
 induction k using Nat.strongRecOn with
 | _ k ih =>
 intro a0_0 A0_1 c0_1 l0_1 A0_2 c0_2 l0_2 A0_3 c0_3 l0_3 A0_4 c0_4 l0_4 a1 a2 a3 r w hr0_1 hc0_1 hr0_2 hc0_2 hr0_3 hc0_3 hr0_4 hc0_4 h
 cases k with
 | zero => exact absurd h (by simp [spec_l2Depth.f])
 | succ k =>
 simp only [spec_l2Depth.f] at h
 have hu34 := Try.underlying34
 have hu72 := Try.underlying72
 have HR0_1 := q_ hr0_1
 have HC0_1 := q_ hc0_1
 clear hr0_1 hc0_1
 have HR0_2 := q_ hr0_2
 have HC0_2 := q_ hc0_2
 clear hr0_2 hc0_2
 have HR0_3 := q_ hr0_3
 have HC0_3 := q_ hc0_3
 clear hr0_3 hc0_3
 have HR0_4 := q_ hr0_4
 have HC0_4 := q_ hc0_4
 clear hr0_4 hc0_4
 have HB := q_ (Below.refl w.heap.size w)
 have H : (if a3 = 0 then (some 0) else (if a0_0 = true then ((spec_l2Leaf.f k a0_0 l0_1 l0_2 l0_3 l0_4 a1 a2).bind fun t204 => (some t204)) else (if (l0_1.length : Int) > 0 then (spec_l2Depth.j0 k a1 a2 a3 (l0_3.length : Int) true a0_0 l0_1 l0_2 l0_3 l0_4) else ((spec_l1In.f (l0_3.length : Int) 2 4).bind fun t205 => (if t205 = true then (if (l0_2.length : Int) = (wrap64 ((l0_3.length : Int) - 1)) then (spec_l2Depth.j0 k a1 a2 a3 (l0_3.length : Int) (decide ((l0_4.length : Int) > 6)) a0_0 l0_1 l0_2 l0_3 l0_4) else (spec_l2Depth.j0 k a1 a2 a3 (l0_3.length : Int) true a0_0 l0_1 l0_2 l0_3 l0_4)) else (spec_l2Depth.j0 k a1 a2 a3 (l0_3.length : Int) true a0_0 l0_1 l0_2 l0_3 l0_4)))))) = some r := h
 clear h
 by_cases c5 : a3 = 0
 ·rw [if_pos c5] at H
  have c5b0 : (a3 == 0) = true := beq_iff_eq.mpr c5
  have c5b1 : (a3 != 0) = false := bne_eq_false_iff_eq.mpr c5
  clear c5
  obtain rfl := Option.some.inj H
  go_enter Try.func59, Try.ntmps59
  go_wp2_with (first | ((with_reducible refine gate_dst (N := 4) rfl ?_); (try (refine gate_guard (by rfl) ?_; dsimp only)); refine box_event ?hg (N := 4) ?hd (cs := #[.bool a0_0, .slice A0_1 l0_1.length c0_1, .slice A0_2 l0_2.length c0_2, .slice A0_3 l0_3.length c0_3, .slice A0_4 l0_4.length c0_4]) (t := 34) ?hr ?_; (case hd => rfl); (case hg => rfl); (case hr => exact z141_); intro gb203 hg w6 hbox hb; have n0_ := q_ (below_step z0_ hb); have n1_ := q_ (hbox); have n2_ := q_ ((z107_ : w.heap.size ≤ gb203)); have n3_ := q_ ((z107_ : w.heap.size ≤ gb203)); clear HB; have HB := n0_; have BK203 := n1_; have GW203 := n2_; have GE203 := n3_; clear n0_ n1_ n2_ n3_; clear hb hbox hg))
  go_ret
  exact ⟨z2_, z6_⟩
 ·rw [if_neg c5] at H
  have c5b0 : (a3 == 0) = false := beq_eq_false_iff_ne.mpr c5
  have c5b1 : (a3 != 0) = true := bne_iff_ne.mpr c5
  by_cases c7 : a0_0 = true
  ·subst c7
   have H1 : ((spec_l2Leaf.f k true l0_1 l0_2 l0_3 l0_4 a1 a2).bind fun t204 => (some t204)) = some r := z38_
   clear H
   have H := H1
   clear H1
   replace H := Option.bind_eq_some_iff.mp H
   obtain ⟨t204, A80, H⟩ := H
   replace H : (some t204) = some r := H
   have A8 := q_ A80
   clear A80
   obtain rfl := Option.some.inj H
   go_enter Try.func59, Try.ntmps59
   go_wp2_with (first | ((with_reducible refine gate_dst (N := 4) rfl ?_); (try (refine gate_guard (by rfl) ?_; dsimp only)); refine box_event ?hg (N := 4) ?hd (cs := #[.bool true, .slice A0_1 l0_1.length c0_1, .slice A0_2 l0_2.length c0_2, .slice A0_3 l0_3.length c0_3, .slice A0_4 l0_4.length c0_4]) (t := 34) ?hr ?_; (case hd => rfl); (case hg => rfl); (case hr => exact z141_); intro gb203 hg w9 hbox hb; have n0_ := q_ (below_step z0_ hb); have n1_ := q_ (hbox); have n2_ := q_ ((z107_ : w.heap.size ≤ gb203)); have n3_ := q_ ((z107_ : w.heap.size ≤ gb203)); clear HB; have HB := n0_; have BK203 := n1_; have GW203 := n2_; have GE203 := n3_; clear n0_ n1_ n2_ n3_; clear hb hbox hg; obtain ⟨hcz10_0, hcz10_1, hcz10_2, hcz10_3, hcz10_4, hfz10_0, hfz10_1, hfz10_2, hfz10_3, hfz10_4⟩ := cs5_ BK203.out) | ((with_reducible refine gate_callee (f := 96) rfl ?_); refine goesL_ (some 23) rfl rfl Try.func96 (by kernel_rfl) rfl #[.agg #[.bool true, .slice A0_1 l0_1.length c0_1, .slice A0_2 l0_2.length c0_2, .slice A0_3 l0_3.length c0_3, .slice A0_4 l0_4.length c0_4], .int .i64 a1, .int .i64 a2] rfl z1_ ?_; (with_reducible refine (spec_l2Leaf.calls k true _ _ l0_1 _ _ l0_2 _ _ l0_3 _ _ l0_4 a1 a2 t204 _ ?side1 ?side2 ?side3 ?side4 ?side5 ?side6 ?side7 ?side8 A8.out).mono ?_); (case side1 => exact z140_); (case side2 => exact z157_); (case side3 => exact z143_); (case side4 => exact z163_); (case side5 => exact z144_); (case side6 => exact z164_); (case side7 => exact z142_); (case side8 => exact z165_); rintro e w11 ⟨rfl, hb⟩; refine ⟨_, rfl, ?_⟩; have n0_ := q_ (below_step z0_ hb); clear HB; have HB := n0_; clear n0_; (try clear hb); (try clear hb2); (try clear hk); (try clear hi)))
   go_ret
   exact ⟨z2_, z0_⟩
  ·replace c7 := Bool.eq_false_iff.mpr c7
   subst c7
   have H1 : (if (l0_1.length : Int) > 0 then (spec_l2Depth.j0 k a1 a2 a3 (l0_3.length : Int) true false l0_1 l0_2 l0_3 l0_4) else ((spec_l1In.f (l0_3.length : Int) 2 4).bind fun t205 => (if t205 = true then (if (l0_2.length : Int) = (wrap64 ((l0_3.length : Int) - 1)) then (spec_l2Depth.j0 k a1 a2 a3 (l0_3.length : Int) (decide ((l0_4.length : Int) > 6)) false l0_1 l0_2 l0_3 l0_4) else (spec_l2Depth.j0 k a1 a2 a3 (l0_3.length : Int) true false l0_1 l0_2 l0_3 l0_4)) else (spec_l2Depth.j0 k a1 a2 a3 (l0_3.length : Int) true false l0_1 l0_2 l0_3 l0_4)))) = some r := by rw [if_neg (show ¬ (false = true) by decide)] at H; exact H
   clear H
   have H := H1
   clear H1
   have HC12 := q_ H
   clear H
   go_enter Try.func59, Try.ntmps59
   go_upto_region 6 with (first | ((with_reducible refine gate_dst (N := 4) rfl ?_); (try (refine gate_guard (by rfl) ?_; dsimp only)); refine box_event ?hg (N := 4) ?hd (cs := #[.bool false, .slice A0_1 l0_1.length c0_1, .slice A0_2 l0_2.length c0_2, .slice A0_3 l0_3.length c0_3, .slice A0_4 l0_4.length c0_4]) (t := 34) ?hr ?_; (case hd => rfl); (case hg => rfl); (case hr => exact z141_); intro gb203 hg w13 hbox hb; have n0_ := q_ (below_step z0_ hb); have n1_ := q_ (hbox); have n2_ := q_ ((z107_ : w.heap.size ≤ gb203)); have n3_ := q_ ((z107_ : w.heap.size ≤ gb203)); clear HB; have HB := n0_; have BK203 := n1_; have GW203 := n2_; have GE203 := n3_; clear n0_ n1_ n2_ n3_; clear hb hbox hg; obtain ⟨hcz14_0, hcz14_1, hcz14_2, hcz14_3, hcz14_4, hfz14_0, hfz14_1, hfz14_2, hfz14_3, hfz14_4⟩ := cs5_ BK203.out))
   (try simp only [Act.put, List.setIfInBounds_toArray, List.set_cons_zero, List.set_cons_succ])
   go_cut [49] (fun v49 wc => ∃ (kq : Nat) (x49_11 : Bool), v49 = .bool x49_11 ∧ Aside0 (spec_l2Depth.j0 kq a1 a2 a3 (l0_3.length : Int) x49_11 false l0_1 l0_2 l0_3 l0_4 = some r) ∧ Aside0 (kq ≤ k) ∧ Aside0 (wc.heap[gb203]? = some (.cells #[.bool false, (.slice A0_1 l0_1.length c0_1), (.slice A0_2 l0_2.length c0_2), (.slice A0_3 l0_3.length c0_3), (.slice A0_4 l0_4.length c0_4)] 34 (0, 0))) ∧ Aside0 (Below w.heap.size w wc))
   case first =>
    have H := HC12.out
    clear HC12
    by_cases c15 : (l0_1.length : Int) > 0
    ·rw [if_pos c15] at H
     have c15b0 : decide (0 < (l0_1.length : Int)) = true := decide_eq_true c15
     have c15b1 : decide (0 < l0_1.length) = true := decide_eq_true (by omega)
     clear c15
     (first | rw [c15b0] | (simp only [i64_w, i32_w]; rw [c15b0]) | skip)
     have H' := q_ H
     clear H
     obtain ⟨hcz16_0, hcz16_1, hcz16_2, hcz16_3, hcz16_4, hfz16_0, hfz16_1, hfz16_2, hfz16_3, hfz16_4⟩ := cs5_ BK203.out
     go_wp2
     go_meet
     case rel => exact ⟨_, (true), z5_, H', ⟨z73_⟩, ⟨z20_⟩, ⟨z6_⟩⟩
    ·rw [if_neg c15] at H
     have c15b0 : decide (0 < (l0_1.length : Int)) = false := decide_eq_false c15
     have c15b1 : decide (0 < l0_1.length) = false := decide_eq_false (by omega)
     clear c15
     (first | rw [c15b0] | (simp only [i64_w, i32_w]; rw [c15b0]) | skip)
     replace H := Option.bind_eq_some_iff.mp H
     obtain ⟨t205, A170, H⟩ := H
     replace H : (if t205 = true then (if (l0_2.length : Int) = (wrap64 ((l0_3.length : Int) - 1)) then (spec_l2Depth.j0 k a1 a2 a3 (l0_3.length : Int) (decide ((l0_4.length : Int) > 6)) false l0_1 l0_2 l0_3 l0_4) else (spec_l2Depth.j0 k a1 a2 a3 (l0_3.length : Int) true false l0_1 l0_2 l0_3 l0_4)) else (spec_l2Depth.j0 k a1 a2 a3 (l0_3.length : Int) true false l0_1 l0_2 l0_3 l0_4)) = some r := H
     have A17 := q_ A170
     clear A170
     by_cases c18 : t205 = true
     ·subst c18
      have H1 : (if (l0_2.length : Int) = (wrap64 ((l0_3.length : Int) - 1)) then (spec_l2Depth.j0 k a1 a2 a3 (l0_3.length : Int) (decide ((l0_4.length : Int) > 6)) false l0_1 l0_2 l0_3 l0_4) else (spec_l2Depth.j0 k a1 a2 a3 (l0_3.length : Int) true false l0_1 l0_2 l0_3 l0_4)) = some r := z38_
      clear H
      have H := H1
      clear H1
      by_cases c19 : (l0_2.length : Int) = (wrap64 ((l0_3.length : Int) - 1))
      ·rw [if_pos c19] at H
       have c19b0 : ((l0_2.length : Int) == (wrap64 ((l0_3.length : Int) - 1))) = true := beq_iff_eq.mpr c19
       have c19b1 : ((l0_2.length : Int) != (wrap64 ((l0_3.length : Int) - 1))) = false := bne_eq_false_iff_eq.mpr c19
       clear c19
       have H' := q_ H
       clear H
       obtain ⟨hcz20_0, hcz20_1, hcz20_2, hcz20_3, hcz20_4, hfz20_0, hfz20_1, hfz20_2, hfz20_3, hfz20_4⟩ := cs5_ BK203.out
       go_wp2_with (first | (go_at_call 97; (with_reducible refine (spec_l1In.calls (l0_3.length : Int) 2 4 true _ A17.out).mono ?_); rintro e w' ⟨rfl, ⟨nd, rfl⟩⟩))
       go_meet
       case rel => exact ⟨_, (decide ((l0_4.length : Int) > 6)), z5_, H', ⟨z73_⟩, ⟨z20_⟩, ⟨z6_⟩⟩
      ·rw [if_neg c19] at H
       have c19b0 : ((l0_2.length : Int) == (wrap64 ((l0_3.length : Int) - 1))) = false := beq_eq_false_iff_ne.mpr c19
       have c19b1 : ((l0_2.length : Int) != (wrap64 ((l0_3.length : Int) - 1))) = true := bne_iff_ne.mpr c19
       have H' := q_ H
       clear H
       obtain ⟨hcz21_0, hcz21_1, hcz21_2, hcz21_3, hcz21_4, hfz21_0, hfz21_1, hfz21_2, hfz21_3, hfz21_4⟩ := cs5_ BK203.out
       go_wp2_with (first | (go_at_call 97; (with_reducible refine (spec_l1In.calls (l0_3.length : Int) 2 4 true _ A17.out).mono ?_); rintro e w' ⟨rfl, ⟨nd, rfl⟩⟩))
       go_meet
       case rel => exact ⟨_, (true), z5_, H', ⟨z73_⟩, ⟨z20_⟩, ⟨z6_⟩⟩
     ·replace c18 := Bool.eq_false_iff.mpr c18
      subst c18
      have H1 : (spec_l2Depth.j0 k a1 a2 a3 (l0_3.length : Int) true false l0_1 l0_2 l0_3 l0_4) = some r := by rw [if_neg (show ¬ (false = true) by decide)] at H; exact H
      clear H
      have H := H1
      clear H1
      have H' := q_ H
      clear H
      obtain ⟨hcz22_0, hcz22_1, hcz22_2, hcz22_3, hcz22_4, hfz22_0, hfz22_1, hfz22_2, hfz22_3, hfz22_4⟩ := cs5_ BK203.out
      go_wp2_with (first | (go_at_call 97; (with_reducible refine (spec_l1In.calls (l0_3.length : Int) 2 4 false _ A17.out).mono ?_); rintro e w' ⟨rfl, ⟨nd, rfl⟩⟩))
      go_meet
      case rel => exact ⟨_, (true), z5_, H', ⟨z73_⟩, ⟨z20_⟩, ⟨z6_⟩⟩
   case rest =>
    clear HC12
    try clear c1
    try clear p2
    try clear c5
    try clear c5b0
    try clear c5b1
    try clear p6
    try clear c7
    try clear c9
    try clear c15
    try clear c15b0
    try clear c15b1
    try clear c18
    try clear c19
    try clear c19b0
    try clear c19b1
    try clear hcz10_0
    try clear hcz10_1
    try clear hcz10_2
    try clear hcz10_3
    try clear hcz10_4
    try clear hcz14_0
    try clear hcz14_1
    try clear hcz14_2
    try clear hcz14_3
    try clear hcz14_4
    try clear hcz16_0
    try clear hcz16_1
    try clear hcz16_2
    try clear hcz16_3
    try clear hcz16_4
    try clear hcz20_0
    try clear hcz20_1
    try clear hcz20_2
    try clear hcz20_3
    try clear hcz20_4
    try clear hcz21_0
    try clear hcz21_1
    try clear hcz21_2
    try clear hcz21_3
    try clear hcz21_4
    try clear hcz22_0
    try clear hcz22_1
    try clear hcz22_2
    try clear hcz22_3
    try clear hcz22_4
    try clear hfz10_0
    try clear hfz10_1
    try clear hfz10_2
    try clear hfz10_3
    try clear hfz10_4
    try clear hfz14_0
    try clear hfz14_1
    try clear hfz14_2
    try clear hfz14_3
    try clear hfz14_4
    try clear hfz16_0
    try clear hfz16_1
    try clear hfz16_2
    try clear hfz16_3
    try clear hfz16_4
    try clear hfz20_0
    try clear hfz20_1
    try clear hfz20_2
    try clear hfz20_3
    try clear hfz20_4
    try clear hfz21_0
    try clear hfz21_1
    try clear hfz21_2
    try clear hfz21_3
    try clear hfz21_4
    try clear hfz22_0
    try clear hfz22_1
    try clear hfz22_2
    try clear hfz22_3
    try clear hfz22_4
    obtain ⟨kq, x49_11, rfl, HA, HJ11, BK203, HB⟩ := hcut
    cases kq with
    | zero => exact absurd HA.out (by simp [spec_l2Depth.j0])
    | succ kj11 =>
     have H := HA.out
     clear HA
     simp only [spec_l2Depth.j0] at H
     by_cases c23 : x49_11 = true
     ·subst c23
      have H1 : (some 0) = some r := z38_
      clear H
      have H := H1
      clear H1
      obtain rfl := Option.some.inj H
      go_wp2
      go_ret
      exact ⟨z2_, z6_⟩
     ·replace c23 := Bool.eq_false_iff.mpr c23
      subst c23
      have H1 : (spec_l2Depth.l0 kj11 a1 a2 a3 (l0_3.length : Int) 0 false l0_1 l0_2 l0_3 l0_4) = some r := by rw [if_neg (show ¬ (false = true) by decide)] at H; exact H
      clear H
      have H := H1
      clear H1
      have H' := q_ H
      clear H
      go_wp2
      go_loopg [10] kj11 (fun kq v10 w' => ∃ (x10_2 : Int), v10 = .int .i64 x10_2 ∧ Aside0 (spec_l2Depth.l0 kq a1 a2 a3 (l0_3.length : Int) x10_2 false l0_1 l0_2 l0_3 l0_4 = some r) ∧ Aside0 (kq ≤ kj11) ∧ Aside0 (w'.heap[gb203]? = some (.cells #[.bool false, (.slice A0_1 l0_1.length c0_1), (.slice A0_2 l0_2.length c0_2), (.slice A0_3 l0_3.length c0_3), (.slice A0_4 l0_4.length c0_4)] 34 (0, 0))) ∧ Aside0 (Below w.heap.size w w'))
      case atStart => exact ⟨(0), z5_, H', ⟨Nat.le_refl _⟩, ⟨z20_⟩, ⟨z6_⟩⟩
      case round =>
       clear H'
       try clear c1
       try clear c2
       try clear p2
       try clear c5
       try clear c5b0
       try clear c5b1
       try clear p6
       try clear c7
       try clear c9
       try clear c15
       try clear c15b0
       try clear c15b1
       try clear c18
       try clear c19
       try clear c19b0
       try clear c19b1
       try clear c23
       try clear hcz10_0
       try clear hcz10_1
       try clear hcz10_2
       try clear hcz10_3
       try clear hcz10_4
       try clear hcz14_0
       try clear hcz14_1
       try clear hcz14_2
       try clear hcz14_3
       try clear hcz14_4
       try clear hcz16_0
       try clear hcz16_1
       try clear hcz16_2
       try clear hcz16_3
       try clear hcz16_4
       try clear hcz20_0
       try clear hcz20_1
       try clear hcz20_2
       try clear hcz20_3
       try clear hcz20_4
       try clear hcz21_0
       try clear hcz21_1
       try clear hcz21_2
       try clear hcz21_3
       try clear hcz21_4
       try clear hcz22_0
       try clear hcz22_1
       try clear hcz22_2
       try clear hcz22_3
       try clear hcz22_4
       try clear hfz10_0
       try clear hfz10_1
       try clear hfz10_2
       try clear hfz10_3
       try clear hfz10_4
       try clear hfz14_0
       try clear hfz14_1
       try clear hfz14_2
       try clear hfz14_3
       try clear hfz14_4
       try clear hfz16_0
       try clear hfz16_1
       try clear hfz16_2
       try clear hfz16_3
       try clear hfz16_4
       try clear hfz20_0
       try clear hfz20_1
       try clear hfz20_2
       try clear hfz20_3
       try clear hfz20_4
       try clear hfz21_0
       try clear hfz21_1
       try clear hfz21_2
       try clear hfz21_3
       try clear hfz21_4
       try clear hfz22_0
       try clear hfz22_1
       try clear hfz22_2
       try clear hfz22_3
       try clear hfz22_4
       try clear p2
       try clear p6
       obtain ⟨x10_2, rfl, HA, HK2, BK203, HB⟩ := hrel
       cases gk with
       | zero => exact absurd HA.out (by simp [spec_l2Depth.l0])
       | succ k2 =>
        have H := HA.out
        clear HA
        simp only [spec_l2Depth.l0] at H
        by_cases c24 : x10_2 < (l0_4.length : Int)
        ·rw [if_pos c24] at H
         have c24b0 : decide (x10_2 < (l0_4.length : Int)) = true := decide_eq_true c24
         clear c24
         by_cases c25 : 0 ≤ x10_2
         ·rw [if_pos c25] at H
          have c25b0 : decide (0 ≤ x10_2) = true := decide_eq_true c25
          clear c25
          replace H := Option.bind_eq_some_iff.mp H
          obtain ⟨t207, A260, H⟩ := H
          replace H : (if t207 = true then (if ((rd_T72 l0_4 x10_2).f0) = 4 then (some 0) else ((spec_l1In.f ((rd_T72 l0_4 x10_2).f1) a1 (wrap64 (a2 - 1))).bind fun t210 => (if t210 = true then (spec_l2Depth.l0 k2 a1 a2 a3 (l0_3.length : Int) (wrap64 (x10_2 + 1)) false l0_1 l0_2 l0_3 l0_4) else (some 0)))) else (some 0)) = some r := H
          have A26 := q_ A260
          clear A260
          by_cases c27 : t207 = true
          ·subst c27
           have H1 : (if ((rd_T72 l0_4 x10_2).f0) = 4 then (some 0) else ((spec_l1In.f ((rd_T72 l0_4 x10_2).f1) a1 (wrap64 (a2 - 1))).bind fun t210 => (if t210 = true then (spec_l2Depth.l0 k2 a1 a2 a3 (l0_3.length : Int) (wrap64 (x10_2 + 1)) false l0_1 l0_2 l0_3 l0_4) else (some 0)))) = some r := z38_
           clear H
           have H := H1
           clear H1
           by_cases c28 : ((rd_T72 l0_4 x10_2).f0) = 4
           ·rw [if_pos c28] at H
            have c28b0 : (((rd_T72 l0_4 x10_2).f0) == 4) = true := beq_iff_eq.mpr c28
            have c28b1 : (((rd_T72 l0_4 x10_2).f0) != 4) = false := bne_eq_false_iff_eq.mpr c28
            clear c28
            obtain rfl := Option.some.inj H
            obtain ⟨hcz29_0, hcz29_1, hcz29_2, hcz29_3, hcz29_4, hfz29_0, hfz29_1, hfz29_2, hfz29_3, hfz29_4⟩ := cs5_ BK203.out
            have p206 : 0 ≤ (x10_2 : Int) := of_decide_eq_true z3_
            have q206 : x10_2 < (l0_4.length : Int) := of_decide_eq_true z3_
            obtain ⟨ad206, e206, hx206_0, hx206_1, hx206_2⟩ := at_T72 HR0_4.out x10_2 p206 q206
            cases e206
            replace hx206_0 := up_ HB hx206_0
            replace hx206_1 := up_ HB hx206_1
            replace hx206_2 := up_ HB hx206_2
            replace p206 := eq_true p206
            replace q206 := eq_true q206
            go_wp2_with (first | ((with_reducible refine gate_callee (f := 98) rfl ?_); refine goesL_ (some 62) rfl rfl Try.func98 (by kernel_rfl) rfl #[.agg #[.int .i64 ((rd_T72 l0_4 x10_2).f0), .int .i64 ((rd_T72 l0_4 x10_2).f1), .int .i64 ((rd_T72 l0_4 x10_2).f2)]] rfl z1_ ?_; (with_reducible refine (spec_MsgOk.calls ((rd_T72 l0_4 x10_2).f0) ((rd_T72 l0_4 x10_2).f1) ((rd_T72 l0_4 x10_2).f2) true _ A26.out).mono ?_); rintro e w30 ⟨rfl, hb⟩; refine ⟨_, rfl, ?_⟩; have n0_ := q_ (blk_below (g := gb203) (o := .cells #[.bool false, .slice A0_1 l0_1.length c0_1, .slice A0_2 l0_2.length c0_2, .slice A0_3 l0_3.length c0_3, .slice (some ad206) l0_4.length c0_4] 34 (0, 0)) z20_ hb); have n1_ := q_ (below_step z6_ hb); clear BK203; clear HB; have BK203 := n0_; have HB := n1_; clear n0_ n1_; (try clear hb); (try clear hb2); (try clear hk); (try clear hi); obtain ⟨hcz31_0, hcz31_1, hcz31_2, hcz31_3, hcz31_4, hfz31_0, hfz31_1, hfz31_2, hfz31_3, hfz31_4⟩ := cs5_ BK203.out; have p208 : 0 ≤ (x10_2 : Int) := of_decide_eq_true z3_; have q208 : x10_2 < (l0_4.length : Int) := of_decide_eq_true z3_; obtain ⟨ad208, e208, hx208_0, hx208_1, hx208_2⟩ := at_T72 HR0_4.out x10_2 p208 q208; obtain rfl : ad206 = ad208 := (by injection e208); replace hx208_0 := up_ HB hx208_0; replace hx208_1 := up_ HB hx208_1; replace hx208_2 := up_ HB hx208_2; replace p208 := eq_true p208; replace q208 := eq_true q208))
            go_ret
            exact ⟨z2_, z6_⟩
           ·rw [if_neg c28] at H
            have c28b0 : (((rd_T72 l0_4 x10_2).f0) == 4) = false := beq_eq_false_iff_ne.mpr c28
            have c28b1 : (((rd_T72 l0_4 x10_2).f0) != 4) = true := bne_iff_ne.mpr c28
            replace H := Option.bind_eq_some_iff.mp H
            obtain ⟨t210, A320, H⟩ := H
            replace H : (if t210 = true then (spec_l2Depth.l0 k2 a1 a2 a3 (l0_3.length : Int) (wrap64 (x10_2 + 1)) false l0_1 l0_2 l0_3 l0_4) else (some 0)) = some r := H
            have A32 := q_ A320
            clear A320
            by_cases c33 : t210 = true
            ·subst c33
             have H1 : (spec_l2Depth.l0 k2 a1 a2 a3 (l0_3.length : Int) (wrap64 (x10_2 + 1)) false l0_1 l0_2 l0_3 l0_4) = some r := z38_
             clear H
             have H := H1
             clear H1
             have H' := q_ H
             clear H
             obtain ⟨hcz34_0, hcz34_1, hcz34_2, hcz34_3, hcz34_4, hfz34_0, hfz34_1, hfz34_2, hfz34_3, hfz34_4⟩ := cs5_ BK203.out
             have p206 : 0 ≤ (x10_2 : Int) := of_decide_eq_true z3_
             have q206 : x10_2 < (l0_4.length : Int) := of_decide_eq_true z3_
             obtain ⟨ad206, e206, hx206_0, hx206_1, hx206_2⟩ := at_T72 HR0_4.out x10_2 p206 q206
             cases e206
             replace hx206_0 := up_ HB hx206_0
             replace hx206_1 := up_ HB hx206_1
             replace hx206_2 := up_ HB hx206_2
             replace p206 := eq_true p206
             replace q206 := eq_true q206
             go_wp2_with (first | ((with_reducible refine gate_callee (f := 98) rfl ?_); refine goesL_ (some 62) rfl rfl Try.func98 (by kernel_rfl) rfl #[.agg #[.int .i64 ((rd_T72 l0_4 x10_2).f0), .int .i64 ((rd_T72 l0_4 x10_2).f1), .int .i64 ((rd_T72 l0_4 x10_2).f2)]] rfl z1_ ?_; (with_reducible refine (spec_MsgOk.calls ((rd_T72 l0_4 x10_2).f0) ((rd_T72 l0_4 x10_2).f1) ((rd_T72 l0_4 x10_2).f2) true _ A26.out).mono ?_); rintro e w35 ⟨rfl, hb⟩; refine ⟨_, rfl, ?_⟩; have n0_ := q_ (blk_below (g := gb203) (o := .cells #[.bool false, .slice A0_1 l0_1.length c0_1, .slice A0_2 l0_2.length c0_2, .slice A0_3 l0_3.length c0_3, .slice (some ad206) l0_4.length c0_4] 34 (0, 0)) z20_ hb); have n1_ := q_ (below_step z6_ hb); clear BK203; clear HB; have BK203 := n0_; have HB := n1_; clear n0_ n1_; (try clear hb); (try clear hb2); (try clear hk); (try clear hi); obtain ⟨hcz36_0, hcz36_1, hcz36_2, hcz36_3, hcz36_4, hfz36_0, hfz36_1, hfz36_2, hfz36_3, hfz36_4⟩ := cs5_ BK203.out; have p208 : 0 ≤ (x10_2 : Int) := of_decide_eq_true z3_; have q208 : x10_2 < (l0_4.length : Int) := of_decide_eq_true z3_; obtain ⟨ad208, e208, hx208_0, hx208_1, hx208_2⟩ := at_T72 HR0_4.out x10_2 p208 q208; obtain rfl : ad206 = ad208 := (by injection e208); replace hx208_0 := up_ HB hx208_0; replace hx208_1 := up_ HB hx208_1; replace hx208_2 := up_ HB hx208_2; replace p208 := eq_true p208; replace q208 := eq_true q208; have p209 : 0 ≤ (x10_2 : Int) := of_decide_eq_true z3_; have q209 : x10_2 < (l0_4.length : Int) := of_decide_eq_true z3_; obtain ⟨ad209, e209, hx209_0, hx209_1, hx209_2⟩ := at_T72 HR0_4.out x10_2 p209 q209; obtain rfl : ad206 = ad209 := (by injection e209); replace hx209_0 := up_ HB hx209_0; replace hx209_1 := up_ HB hx209_1; replace hx209_2 := up_ HB hx209_2; replace p209 := eq_true p209; replace q209 := eq_true q209) | (go_at_call 97; (with_reducible refine (spec_l1In.calls ((rd_T72 l0_4 x10_2).f1) a1 (wrap64 (a2 - 1)) true _ A32.out).mono ?_); rintro e w' ⟨rfl, ⟨nd, rfl⟩⟩))
             go_roundg k2
             case measure => have := HJ11.out; have := HK2.out; omega
             case rel => exact ⟨(wrap64 (x10_2 + 1)), z5_, H', ⟨by have := HJ11.out; have := HK2.out; omega⟩, ⟨z20_⟩, ⟨z6_⟩⟩
            ·replace c33 := Bool.eq_false_iff.mpr c33
             subst c33
             have H1 : (some 0) = some r := by rw [if_neg (show ¬ (false = true) by decide)] at H; exact H
             clear H
             have H := H1
             clear H1
             obtain rfl := Option.some.inj H
             obtain ⟨hcz37_0, hcz37_1, hcz37_2, hcz37_3, hcz37_4, hfz37_0, hfz37_1, hfz37_2, hfz37_3, hfz37_4⟩ := cs5_ BK203.out
             have p206 : 0 ≤ (x10_2 : Int) := of_decide_eq_true z3_
             have q206 : x10_2 < (l0_4.length : Int) := of_decide_eq_true z3_
             obtain ⟨ad206, e206, hx206_0, hx206_1, hx206_2⟩ := at_T72 HR0_4.out x10_2 p206 q206
             cases e206
             replace hx206_0 := up_ HB hx206_0
             replace hx206_1 := up_ HB hx206_1
             replace hx206_2 := up_ HB hx206_2
             replace p206 := eq_true p206
             replace q206 := eq_true q206
             go_wp2_with (first | ((with_reducible refine gate_callee (f := 98) rfl ?_); refine goesL_ (some 62) rfl rfl Try.func98 (by kernel_rfl) rfl #[.agg #[.int .i64 ((rd_T72 l0_4 x10_2).f0), .int .i64 ((rd_T72 l0_4 x10_2).f1), .int .i64 ((rd_T72 l0_4 x10_2).f2)]] rfl z1_ ?_; (with_reducible refine (spec_MsgOk.calls ((rd_T72 l0_4 x10_2).f0) ((rd_T72 l0_4 x10_2).f1) ((rd_T72 l0_4 x10_2).f2) true _ A26.out).mono ?_); rintro e w38 ⟨rfl, hb⟩; refine ⟨_, rfl, ?_⟩; have n0_ := q_ (blk_below (g := gb203) (o := .cells #[.bool false, .slice A0_1 l0_1.length c0_1, .slice A0_2 l0_2.length c0_2, .slice A0_3 l0_3.length c0_3, .slice (some ad206) l0_4.length c0_4] 34 (0, 0)) z20_ hb); have n1_ := q_ (below_step z6_ hb); clear BK203; clear HB; have BK203 := n0_; have HB := n1_; clear n0_ n1_; (try clear hb); (try clear hb2); (try clear hk); (try clear hi); obtain ⟨hcz39_0, hcz39_1, hcz39_2, hcz39_3, hcz39_4, hfz39_0, hfz39_1, hfz39_2, hfz39_3, hfz39_4⟩ := cs5_ BK203.out; have p208 : 0 ≤ (x10_2 : Int) := of_decide_eq_true z3_; have q208 : x10_2 < (l0_4.length : Int) := of_decide_eq_true z3_; obtain ⟨ad208, e208, hx208_0, hx208_1, hx208_2⟩ := at_T72 HR0_4.out x10_2 p208 q208; obtain rfl : ad206 = ad208 := (by injection e208); replace hx208_0 := up_ HB hx208_0; replace hx208_1 := up_ HB hx208_1; replace hx208_2 := up_ HB hx208_2; replace p208 := eq_true p208; replace q208 := eq_true q208; have p209 : 0 ≤ (x10_2 : Int) := of_decide_eq_true z3_; have q209 : x10_2 < (l0_4.length : Int) := of_decide_eq_true z3_; obtain ⟨ad209, e209, hx209_0, hx209_1, hx209_2⟩ := at_T72 HR0_4.out x10_2 p209 q209; obtain rfl : ad206 = ad209 := (by injection e209); replace hx209_0 := up_ HB hx209_0; replace hx209_1 := up_ HB hx209_1; replace hx209_2 := up_ HB hx209_2; replace p209 := eq_true p209; replace q209 := eq_true q209) | (go_at_call 97; (with_reducible refine (spec_l1In.calls ((rd_T72 l0_4 x10_2).f1) a1 (wrap64 (a2 - 1)) false _ A32.out).mono ?_); rintro e w' ⟨rfl, ⟨nd, rfl⟩⟩))
             go_ret
             exact ⟨z2_, z0_⟩
          ·replace c27 := Bool.eq_false_iff.mpr c27
           subst c27
           have H1 : (some 0) = some r := by rw [if_neg (show ¬ (false = true) by decide)] at H; exact H
           clear H
           have H := H1
           clear H1
           obtain rfl := Option.some.inj H
           obtain ⟨hcz40_0, hcz40_1, hcz40_2, hcz40_3, hcz40_4, hfz40_0, hfz40_1, hfz40_2, hfz40_3, hfz40_4⟩ := cs5_ BK203.out
           have p206 : 0 ≤ (x10_2 : Int) := of_decide_eq_true z3_
           have q206 : x10_2 < (l0_4.length : Int) := of_decide_eq_true z3_
           obtain ⟨ad206, e206, hx206_0, hx206_1, hx206_2⟩ := at_T72 HR0_4.out x10_2 p206 q206
           cases e206
           replace hx206_0 := up_ HB hx206_0
           replace hx206_1 := up_ HB hx206_1
           replace hx206_2 := up_ HB hx206_2
           replace p206 := eq_true p206
           replace q206 := eq_true q206
           go_wp2_with (first | ((with_reducible refine gate_callee (f := 98) rfl ?_); refine goesL_ (some 62) rfl rfl Try.func98 (by kernel_rfl) rfl #[.agg #[.int .i64 ((rd_T72 l0_4 x10_2).f0), .int .i64 ((rd_T72 l0_4 x10_2).f1), .int .i64 ((rd_T72 l0_4 x10_2).f2)]] rfl z1_ ?_; (with_reducible refine (spec_MsgOk.calls ((rd_T72 l0_4 x10_2).f0) ((rd_T72 l0_4 x10_2).f1) ((rd_T72 l0_4 x10_2).f2) false _ A26.out).mono ?_); rintro e w41 ⟨rfl, hb⟩; refine ⟨_, rfl, ?_⟩; have n0_ := q_ (below_step z0_ hb); clear HB; have HB := n0_; clear n0_; (try clear hb); (try clear hb2); (try clear hk); (try clear hi)))
           go_ret
           exact ⟨z2_, z0_⟩
         ·rw [if_neg c25] at H
          exact absurd H (by simp)
        ·rw [if_neg c24] at H
         have c24b0 : decide (x10_2 < (l0_4.length : Int)) = false := decide_eq_false c24
         clear c24
         have H' := q_ H
         clear H
         obtain ⟨hcz42_0, hcz42_1, hcz42_2, hcz42_3, hcz42_4, hfz42_0, hfz42_1, hfz42_2, hfz42_3, hfz42_4⟩ := cs5_ BK203.out
         go_wp2
         go_loopg [11, 12, 13] k2 (fun kq v11 v12 v13 w' => ∃ (x11_3 : Int) (x12_3 : Int) (x13_3 : Int), v11 = .int .i64 x11_3 ∧ v12 = .int .i64 x12_3 ∧ v13 = .int .i64 x13_3 ∧ Aside0 (spec_l2Depth.l1 kq a2 a3 (l0_3.length : Int) x11_3 x12_3 x13_3 false l0_1 l0_2 l0_3 l0_4 = some r) ∧ Aside0 (kq ≤ k2) ∧ Aside0 (w'.heap[gb203]? = some (.cells #[.bool false, (.slice A0_1 l0_1.length c0_1), (.slice A0_2 l0_2.length c0_2), (.slice A0_3 l0_3.length c0_3), (.slice A0_4 l0_4.length c0_4)] 34 (0, 0))) ∧ Aside0 (Below w.heap.size w w'))
         case atStart => exact ⟨(0), (a1), (0), z5_, z5_, z5_, H', ⟨Nat.le_refl _⟩, ⟨z20_⟩, ⟨z6_⟩⟩
         case round =>
          clear H'
          try clear c1
          try clear c2
          try clear p2
          try clear q2
          try clear hx2
          try clear c3
          try clear c5
          try clear c5b0
          try clear c5b1
          try clear p6
          try clear c7
          try clear c9
          try clear c15
          try clear c15b0
          try clear c15b1
          try clear c18
          try clear c19
          try clear c19b0
          try clear c19b1
          try clear p20
          try clear q20
          try clear hx20
          try clear c23
          try clear c24
          try clear c24b0
          try clear c25
          try clear c25b0
          try clear c27
          try clear c28
          try clear c28b0
          try clear c28b1
          try clear c33
          try clear hcz10_0
          try clear hcz10_1
          try clear hcz10_2
          try clear hcz10_3
          try clear hcz10_4
          try clear hcz14_0
          try clear hcz14_1
          try clear hcz14_2
          try clear hcz14_3
          try clear hcz14_4
          try clear hcz16_0
          try clear hcz16_1
          try clear hcz16_2
          try clear hcz16_3
          try clear hcz16_4
          try clear hcz20_0
          try clear hcz20_1
          try clear hcz20_2
          try clear hcz20_3
          try clear hcz20_4
          try clear hcz21_0
          try clear hcz21_1
          try clear hcz21_2
          try clear hcz21_3
          try clear hcz21_4
          try clear hcz22_0
          try clear hcz22_1
          try clear hcz22_2
          try clear hcz22_3
          try clear hcz22_4
          try clear hcz29_0
          try clear hcz29_1
          try clear hcz29_2
          try clear hcz29_3
          try clear hcz29_4
          try clear hcz31_0
          try clear hcz31_1
          try clear hcz31_2
          try clear hcz31_3
          try clear hcz31_4
          try clear hcz34_0
          try clear hcz34_1
          try clear hcz34_2
          try clear hcz34_3
          try clear hcz34_4
          try clear hcz36_0
          try clear hcz36_1
          try clear hcz36_2
          try clear hcz36_3
          try clear hcz36_4
          try clear hcz37_0
          try clear hcz37_1
          try clear hcz37_2
          try clear hcz37_3
          try clear hcz37_4
          try clear hcz39_0
          try clear hcz39_1
          try clear hcz39_2
          try clear hcz39_3
          try clear hcz39_4
          try clear hcz40_0
          try clear hcz40_1
          try clear hcz40_2
          try clear hcz40_3
          try clear hcz40_4
          try clear hcz42_0
          try clear hcz42_1
          try clear hcz42_2
          try clear hcz42_3
          try clear hcz42_4
          try clear hfz10_0
          try clear hfz10_1
          try clear hfz10_2
          try clear hfz10_3
          try clear hfz10_4
          try clear hfz14_0
          try clear hfz14_1
          try clear hfz14_2
          try clear hfz14_3
          try clear hfz14_4
          try clear hfz16_0
          try clear hfz16_1
          try clear hfz16_2
          try clear hfz16_3
          try clear hfz16_4
          try clear hfz20_0
          try clear hfz20_1
          try clear hfz20_2
          try clear hfz20_3
          try clear hfz20_4
          try clear hfz21_0
          try clear hfz21_1
          try clear hfz21_2
          try clear hfz21_3
          try clear hfz21_4
          try clear hfz22_0
          try clear hfz22_1
          try clear hfz22_2
          try clear hfz22_3
          try clear hfz22_4
          try clear hfz29_0
          try clear hfz29_1
          try clear hfz29_2
          try clear hfz29_3
          try clear hfz29_4
          try clear hfz31_0
          try clear hfz31_1
          try clear hfz31_2
          try clear hfz31_3
          try clear hfz31_4
          try clear hfz34_0
          try clear hfz34_1
          try clear hfz34_2
          try clear hfz34_3
          try clear hfz34_4
          try clear hfz36_0
          try clear hfz36_1
          try clear hfz36_2
          try clear hfz36_3
          try clear hfz36_4
          try clear hfz37_0
          try clear hfz37_1
          try clear hfz37_2
          try clear hfz37_3
          try clear hfz37_4
          try clear hfz39_0
          try clear hfz39_1
          try clear hfz39_2
          try clear hfz39_3
          try clear hfz39_4
          try clear hfz40_0
          try clear hfz40_1
          try clear hfz40_2
          try clear hfz40_3
          try clear hfz40_4
          try clear hfz42_0
          try clear hfz42_1
          try clear hfz42_2
          try clear hfz42_3
          try clear hfz42_4
          try clear hx206_0
          try clear hx206_1
          try clear hx206_2
          try clear hx208_0
          try clear hx208_1
          try clear hx208_2
          try clear hx209_0
          try clear hx209_1
          try clear hx209_2
          try clear p2
          try clear p206
          try clear p208
          try clear p209
          try clear p6
          try clear q206
          try clear q208
          try clear q209
          obtain ⟨x11_3, x12_3, x13_3, rfl, rfl, rfl, HA, HK3, BK203, HB⟩ := hrel
          cases gk with
          | zero => exact absurd HA.out (by simp [spec_l2Depth.l1])
          | succ k3 =>
           have H := HA.out
           clear HA
           simp only [spec_l2Depth.l1] at H
           by_cases c43 : x13_3 < (l0_3.length : Int)
           ·rw [if_pos c43] at H
            have c43b0 : decide (x13_3 < (l0_3.length : Int)) = true := decide_eq_true c43
            clear c43
            by_cases c44 : x13_3 < (wrap64 ((l0_3.length : Int) - 1))
            ·rw [if_pos c44] at H
             have c44b0 : decide (x13_3 < (wrap64 ((l0_3.length : Int) - 1))) = true := decide_eq_true c44
             clear c44
             by_cases c45 : 0 ≤ x13_3
             ·rw [if_pos c45] at H
              have c45b0 : decide (0 ≤ x13_3) = true := decide_eq_true c45
              clear c45
              by_cases c46 : x13_3 < (l0_2.length : Int)
              ·rw [if_pos c46] at H
               have c46b0 : decide (x13_3 < (l0_2.length : Int)) = true := decide_eq_true c46
               clear c46
               replace H := Option.bind_eq_some_iff.mp H
               obtain ⟨t212, A470, H⟩ := H
               replace H : (if t212 = true then (if x13_3 < (l0_3.length : Int) then ((spec_l2Depth.f k3 ((rd_T34 l0_3 x13_3).f0) ((rd_T34 l0_3 x13_3).f1) ((rd_T34 l0_3 x13_3).f2) ((rd_T34 l0_3 x13_3).f3) ((rd_T34 l0_3 x13_3).f4) x12_3 (rd l0_2 x13_3) (wrap64 (a3 - 1))).bind fun t214 => (if t214 = 0 then (some 0) else (if x13_3 > 0 then (if t214 = x11_3 then (spec_l2Depth.l1 k3 a2 a3 (l0_3.length : Int) t214 (rd l0_2 x13_3) (wrap64 (x13_3 + 1)) false l0_1 l0_2 l0_3 l0_4) else (some 0)) else (spec_l2Depth.l1 k3 a2 a3 (l0_3.length : Int) t214 (rd l0_2 x13_3) (wrap64 (x13_3 + 1)) false l0_1 l0_2 l0_3 l0_4)))) else (none)) else (some 0)) = some r := H
               have A47 := q_ A470
               clear A470
               by_cases c48 : t212 = true
               ·subst c48
                have H1 : (if x13_3 < (l0_3.length : Int) then ((spec_l2Depth.f k3 ((rd_T34 l0_3 x13_3).f0) ((rd_T34 l0_3 x13_3).f1) ((rd_T34 l0_3 x13_3).f2) ((rd_T34 l0_3 x13_3).f3) ((rd_T34 l0_3 x13_3).f4) x12_3 (rd l0_2 x13_3) (wrap64 (a3 - 1))).bind fun t214 => (if t214 = 0 then (some 0) else (if x13_3 > 0 then (if t214 = x11_3 then (spec_l2Depth.l1 k3 a2 a3 (l0_3.length : Int) t214 (rd l0_2 x13_3) (wrap64 (x13_3 + 1)) false l0_1 l0_2 l0_3 l0_4) else (some 0)) else (spec_l2Depth.l1 k3 a2 a3 (l0_3.length : Int) t214 (rd l0_2 x13_3) (wrap64 (x13_3 + 1)) false l0_1 l0_2 l0_3 l0_4)))) else (none)) = some r := z38_
                clear H
                have H := H1
                clear H1
                by_cases c49 : x13_3 < (l0_3.length : Int)
                ·rw [if_pos c49] at H
                 have c49b0 : decide (x13_3 < (l0_3.length : Int)) = true := decide_eq_true c49
                 clear c49
                 replace H := Option.bind_eq_some_iff.mp H
                 obtain ⟨t214, A500, H⟩ := H
                 replace H : (if t214 = 0 then (some 0) else (if x13_3 > 0 then (if t214 = x11_3 then (spec_l2Depth.l1 k3 a2 a3 (l0_3.length : Int) t214 (rd l0_2 x13_3) (wrap64 (x13_3 + 1)) false l0_1 l0_2 l0_3 l0_4) else (some 0)) else (spec_l2Depth.l1 k3 a2 a3 (l0_3.length : Int) t214 (rd l0_2 x13_3) (wrap64 (x13_3 + 1)) false l0_1 l0_2 l0_3 l0_4))) = some r := H
                 have A50 := q_ A500
                 clear A500
                 by_cases c51 : t214 = 0
                 ·rw [if_pos c51] at H
                  have c51b0 : (t214 == 0) = true := beq_iff_eq.mpr c51
                  have c51b1 : (t214 != 0) = false := bne_eq_false_iff_eq.mpr c51
                  clear c51
                  obtain rfl := Option.some.inj H
                  obtain ⟨hcz52_0, hcz52_1, hcz52_2, hcz52_3, hcz52_4, hfz52_0, hfz52_1, hfz52_2, hfz52_3, hfz52_4⟩ := cs5_ BK203.out
                  have p211 : 0 ≤ (x13_3 : Int) := of_decide_eq_true z3_
                  have q211 : x13_3 < (l0_2.length : Int) := of_decide_eq_true z3_
                  obtain ⟨ad211, e211, hx211_0⟩ := Kd.at_int HR0_2.out x13_3 p211 q211
                  cases e211
                  replace hx211_0 := up_ HB hx211_0
                  replace p211 := eq_true p211
                  replace q211 := eq_true q211
                  go_wp2_with (first | ((with_reducible refine gate_callee (f := 97) rfl ?_); refine goesL_ (some 107) rfl rfl Try.func97 (by kernel_rfl) rfl #[.int .i64 (rd l0_2 x13_3), .int .i64 (wrap64 (x12_3 + 1)), .int .i64 (wrap64 (a2 - 1))] rfl z1_ ?_; (with_reducible refine (spec_l1In.calls (rd l0_2 x13_3) (wrap64 (x12_3 + 1)) (wrap64 (a2 - 1)) true _ A47.out).mono ?_); rintro e w' ⟨rfl, ⟨nd, rfl⟩⟩; refine ⟨_, rfl, ?_⟩; have p213 : 0 ≤ (x13_3 : Int) := of_decide_eq_true z3_; have q213 : x13_3 < (l0_3.length : Int) := of_decide_eq_true z3_; obtain ⟨ad213, A213_1, c213_1, A213_2, c213_2, A213_3, c213_3, A213_4, c213_4, e213, hx213_0, hx213_1, hx213_2, hx213_3, hx213_4, hl213_1, hi213_1, hl213_2, hi213_2, hl213_3, hi213_3, hl213_4, hi213_4⟩ := at_T34 HR0_3.out x13_3 p213 q213; cases e213; replace hx213_0 := up_ HB hx213_0; replace hx213_1 := up_ HB hx213_1; replace hx213_2 := up_ HB hx213_2; replace hx213_3 := up_ HB hx213_3; replace hx213_4 := up_ HB hx213_4; have HR213_1 := q_ hi213_1; have HC213_1 := q_ hl213_1; clear hi213_1 hl213_1; have HR213_2 := q_ hi213_2; have HC213_2 := q_ hl213_2; clear hi213_2 hl213_2; have HR213_3 := q_ hi213_3; have HC213_3 := q_ hl213_3; clear hi213_3 hl213_3; have HR213_4 := q_ hi213_4; have HC213_4 := q_ hl213_4; clear hi213_4 hl213_4; replace p213 := eq_true p213; replace q213 := eq_true q213) | ((with_reducible refine gate_callee (f := 59) rfl ?_); refine goesL_ (some 118) rfl rfl Try.func59 (by kernel_rfl) rfl #[.agg #[.bool ((rd_T34 l0_3 x13_3).f0), .slice A213_1 ((rd_T34 l0_3 x13_3).f1).length c213_1, .slice A213_2 ((rd_T34 l0_3 x13_3).f2).length c213_2, .slice A213_3 ((rd_T34 l0_3 x13_3).f3).length c213_3, .slice A213_4 ((rd_T34 l0_3 x13_3).f4).length c213_4], .int .i64 x12_3, .int .i64 (rd l0_2 x13_3), .int .i64 (wrap64 (a3 - 1))] rfl z1_ ?_; (with_reducible refine (ih k3 z61_ ((rd_T34 l0_3 x13_3).f0) _ _ ((rd_T34 l0_3 x13_3).f1) _ _ ((rd_T34 l0_3 x13_3).f2) _ _ ((rd_T34 l0_3 x13_3).f3) _ _ ((rd_T34 l0_3 x13_3).f4) x12_3 (rd l0_2 x13_3) (wrap64 (a3 - 1)) t214 _ ?side1 ?side2 ?side3 ?side4 ?side5 ?side6 ?side7 ?side8 A50.out).mono ?_); (case side1 => exact z183_); (case side2 => exact HC213_1.out); (case side3 => exact z184_); (case side4 => exact HC213_2.out); (case side5 => exact z185_); (case side6 => exact HC213_3.out); (case side7 => exact z186_); (case side8 => exact HC213_4.out); rintro e w53 ⟨rfl, hb⟩; refine ⟨_, rfl, ?_⟩; have n0_ := q_ (below_step z0_ hb); clear HB; have HB := n0_; clear n0_; (try clear hb); (try clear hb2); (try clear hk); (try clear hi)))
                  go_ret
                  exact ⟨z2_, z0_⟩
                 ·rw [if_neg c51] at H
                  have c51b0 : (t214 == 0) = false := beq_eq_false_iff_ne.mpr c51
                  have c51b1 : (t214 != 0) = true := bne_iff_ne.mpr c51
                  by_cases c54 : x13_3 > 0
                  ·rw [if_pos c54] at H
                   have c54b0 : decide (0 < x13_3) = true := decide_eq_true c54
                   clear c54
                   by_cases c55 : t214 = x11_3
                   ·rw [if_pos c55] at H
                    have c55b0 : (t214 == x11_3) = true := beq_iff_eq.mpr c55
                    have c55b1 : (t214 != x11_3) = false := bne_eq_false_iff_eq.mpr c55
                    clear c55
                    have H' := q_ H
                    clear H
                    obtain ⟨hcz56_0, hcz56_1, hcz56_2, hcz56_3, hcz56_4, hfz56_0, hfz56_1, hfz56_2, hfz56_3, hfz56_4⟩ := cs5_ BK203.out
                    have p211 : 0 ≤ (x13_3 : Int) := of_decide_eq_true z3_
                    have q211 : x13_3 < (l0_2.length : Int) := of_decide_eq_true z3_
                    obtain ⟨ad211, e211, hx211_0⟩ := Kd.at_int HR0_2.out x13_3 p211 q211
                    cases e211
                    replace hx211_0 := up_ HB hx211_0
                    replace p211 := eq_true p211
                    replace q211 := eq_true q211
                    go_wp2_with (first | ((with_reducible refine gate_callee (f := 97) rfl ?_); refine goesL_ (some 107) rfl rfl Try.func97 (by kernel_rfl) rfl #[.int .i64 (rd l0_2 x13_3), .int .i64 (wrap64 (x12_3 + 1)), .int .i64 (wrap64 (a2 - 1))] rfl z1_ ?_; (with_reducible refine (spec_l1In.calls (rd l0_2 x13_3) (wrap64 (x12_3 + 1)) (wrap64 (a2 - 1)) true _ A47.out).mono ?_); rintro e w' ⟨rfl, ⟨nd, rfl⟩⟩; refine ⟨_, rfl, ?_⟩; have p213 : 0 ≤ (x13_3 : Int) := of_decide_eq_true z3_; have q213 : x13_3 < (l0_3.length : Int) := of_decide_eq_true z3_; obtain ⟨ad213, A213_1, c213_1, A213_2, c213_2, A213_3, c213_3, A213_4, c213_4, e213, hx213_0, hx213_1, hx213_2, hx213_3, hx213_4, hl213_1, hi213_1, hl213_2, hi213_2, hl213_3, hi213_3, hl213_4, hi213_4⟩ := at_T34 HR0_3.out x13_3 p213 q213; cases e213; replace hx213_0 := up_ HB hx213_0; replace hx213_1 := up_ HB hx213_1; replace hx213_2 := up_ HB hx213_2; replace hx213_3 := up_ HB hx213_3; replace hx213_4 := up_ HB hx213_4; have HR213_1 := q_ hi213_1; have HC213_1 := q_ hl213_1; clear hi213_1 hl213_1; have HR213_2 := q_ hi213_2; have HC213_2 := q_ hl213_2; clear hi213_2 hl213_2; have HR213_3 := q_ hi213_3; have HC213_3 := q_ hl213_3; clear hi213_3 hl213_3; have HR213_4 := q_ hi213_4; have HC213_4 := q_ hl213_4; clear hi213_4 hl213_4; replace p213 := eq_true p213; replace q213 := eq_true q213) | ((with_reducible refine gate_callee (f := 59) rfl ?_); refine goesL_ (some 118) rfl rfl Try.func59 (by kernel_rfl) rfl #[.agg #[.bool ((rd_T34 l0_3 x13_3).f0), .slice A213_1 ((rd_T34 l0_3 x13_3).f1).length c213_1, .slice A213_2 ((rd_T34 l0_3 x13_3).f2).length c213_2, .slice A213_3 ((rd_T34 l0_3 x13_3).f3).length c213_3, .slice A213_4 ((rd_T34 l0_3 x13_3).f4).length c213_4], .int .i64 x12_3, .int .i64 (rd l0_2 x13_3), .int .i64 (wrap64 (a3 - 1))] rfl z1_ ?_; (with_reducible refine (ih k3 z61_ ((rd_T34 l0_3 x13_3).f0) _ _ ((rd_T34 l0_3 x13_3).f1) _ _ ((rd_T34 l0_3 x13_3).f2) _ _ ((rd_T34 l0_3 x13_3).f3) _ _ ((rd_T34 l0_3 x13_3).f4) x12_3 (rd l0_2 x13_3) (wrap64 (a3 - 1)) t214 _ ?side1 ?side2 ?side3 ?side4 ?side5 ?side6 ?side7 ?side8 A50.out).mono ?_); (case side1 => exact z187_); (case side2 => exact HC213_1.out); (case side3 => exact z188_); (case side4 => exact HC213_2.out); (case side5 => exact z189_); (case side6 => exact HC213_3.out); (case side7 => exact z190_); (case side8 => exact HC213_4.out); rintro e w57 ⟨rfl, hb⟩; refine ⟨_, rfl, ?_⟩; have n0_ := q_ (blk_below (g := gb203) (o := .cells #[.bool false, .slice A0_1 l0_1.length c0_1, .slice (some ad211) l0_2.length c0_2, .slice (some ad213) l0_3.length c0_3, .slice A0_4 l0_4.length c0_4] 34 (0, 0)) z20_ hb); have n1_ := q_ (below_step z6_ hb); clear BK203; clear HB; have BK203 := n0_; have HB := n1_; clear n0_ n1_; (try clear hb); (try clear hb2); (try clear hk); (try clear hi)))
                    go_roundg k3
                    case measure => have := HJ11.out; have := HK2.out; have := HK3.out; omega
                    case rel => exact ⟨(t214), (rd l0_2 x13_3), (wrap64 (x13_3 + 1)), z5_, z5_, z5_, H', ⟨z61_⟩, ⟨z20_⟩, ⟨z6_⟩⟩
                   ·rw [if_neg c55] at H
                    have c55b0 : (t214 == x11_3) = false := beq_eq_false_iff_ne.mpr c55
                    have c55b1 : (t214 != x11_3) = true := bne_iff_ne.mpr c55
                    obtain rfl := Option.some.inj H
                    obtain ⟨hcz58_0, hcz58_1, hcz58_2, hcz58_3, hcz58_4, hfz58_0, hfz58_1, hfz58_2, hfz58_3, hfz58_4⟩ := cs5_ BK203.out
                    have p211 : 0 ≤ (x13_3 : Int) := of_decide_eq_true z3_
                    have q211 : x13_3 < (l0_2.length : Int) := of_decide_eq_true z3_
                    obtain ⟨ad211, e211, hx211_0⟩ := Kd.at_int HR0_2.out x13_3 p211 q211
                    cases e211
                    replace hx211_0 := up_ HB hx211_0
                    replace p211 := eq_true p211
                    replace q211 := eq_true q211
                    go_wp2_with (first | ((with_reducible refine gate_callee (f := 97) rfl ?_); refine goesL_ (some 107) rfl rfl Try.func97 (by kernel_rfl) rfl #[.int .i64 (rd l0_2 x13_3), .int .i64 (wrap64 (x12_3 + 1)), .int .i64 (wrap64 (a2 - 1))] rfl z1_ ?_; (with_reducible refine (spec_l1In.calls (rd l0_2 x13_3) (wrap64 (x12_3 + 1)) (wrap64 (a2 - 1)) true _ A47.out).mono ?_); rintro e w' ⟨rfl, ⟨nd, rfl⟩⟩; refine ⟨_, rfl, ?_⟩; have p213 : 0 ≤ (x13_3 : Int) := of_decide_eq_true z3_; have q213 : x13_3 < (l0_3.length : Int) := of_decide_eq_true z3_; obtain ⟨ad213, A213_1, c213_1, A213_2, c213_2, A213_3, c213_3, A213_4, c213_4, e213, hx213_0, hx213_1, hx213_2, hx213_3, hx213_4, hl213_1, hi213_1, hl213_2, hi213_2, hl213_3, hi213_3, hl213_4, hi213_4⟩ := at_T34 HR0_3.out x13_3 p213 q213; cases e213; replace hx213_0 := up_ HB hx213_0; replace hx213_1 := up_ HB hx213_1; replace hx213_2 := up_ HB hx213_2; replace hx213_3 := up_ HB hx213_3; replace hx213_4 := up_ HB hx213_4; have HR213_1 := q_ hi213_1; have HC213_1 := q_ hl213_1; clear hi213_1 hl213_1; have HR213_2 := q_ hi213_2; have HC213_2 := q_ hl213_2; clear hi213_2 hl213_2; have HR213_3 := q_ hi213_3; have HC213_3 := q_ hl213_3; clear hi213_3 hl213_3; have HR213_4 := q_ hi213_4; have HC213_4 := q_ hl213_4; clear hi213_4 hl213_4; replace p213 := eq_true p213; replace q213 := eq_true q213) | ((with_reducible refine gate_callee (f := 59) rfl ?_); refine goesL_ (some 118) rfl rfl Try.func59 (by kernel_rfl) rfl #[.agg #[.bool ((rd_T34 l0_3 x13_3).f0), .slice A213_1 ((rd_T34 l0_3 x13_3).f1).length c213_1, .slice A213_2 ((rd_T34 l0_3 x13_3).f2).length c213_2, .slice A213_3 ((rd_T34 l0_3 x13_3).f3).length c213_3, .slice A213_4 ((rd_T34 l0_3 x13_3).f4).length c213_4], .int .i64 x12_3, .int .i64 (rd l0_2 x13_3), .int .i64 (wrap64 (a3 - 1))] rfl z1_ ?_; (with_reducible refine (ih k3 z61_ ((rd_T34 l0_3 x13_3).f0) _ _ ((rd_T34 l0_3 x13_3).f1) _ _ ((rd_T34 l0_3 x13_3).f2) _ _ ((rd_T34 l0_3 x13_3).f3) _ _ ((rd_T34 l0_3 x13_3).f4) x12_3 (rd l0_2 x13_3) (wrap64 (a3 - 1)) t214 _ ?side1 ?side2 ?side3 ?side4 ?side5 ?side6 ?side7 ?side8 A50.out).mono ?_); (case side1 => exact z183_); (case side2 => exact HC213_1.out); (case side3 => exact z184_); (case side4 => exact HC213_2.out); (case side5 => exact z185_); (case side6 => exact HC213_3.out); (case side7 => exact z186_); (case side8 => exact HC213_4.out); rintro e w59 ⟨rfl, hb⟩; refine ⟨_, rfl, ?_⟩; have n0_ := q_ (below_step z0_ hb); clear HB; have HB := n0_; clear n0_; (try clear hb); (try clear hb2); (try clear hk); (try clear hi)))
                    go_ret
                    exact ⟨z2_, z0_⟩
                  ·rw [if_neg c54] at H
                   have c54b0 : decide (0 < x13_3) = false := decide_eq_false c54
                   clear c54
                   have H' := q_ H
                   clear H
                   obtain ⟨hcz60_0, hcz60_1, hcz60_2, hcz60_3, hcz60_4, hfz60_0, hfz60_1, hfz60_2, hfz60_3, hfz60_4⟩ := cs5_ BK203.out
                   have p211 : 0 ≤ (x13_3 : Int) := of_decide_eq_true z3_
                   have q211 : x13_3 < (l0_2.length : Int) := of_decide_eq_true z3_
                   obtain ⟨ad211, e211, hx211_0⟩ := Kd.at_int HR0_2.out x13_3 p211 q211
                   cases e211
                   replace hx211_0 := up_ HB hx211_0
                   replace p211 := eq_true p211
                   replace q211 := eq_true q211
                   go_wp2_with (first | ((with_reducible refine gate_callee (f := 97) rfl ?_); refine goesL_ (some 107) rfl rfl Try.func97 (by kernel_rfl) rfl #[.int .i64 (rd l0_2 x13_3), .int .i64 (wrap64 (x12_3 + 1)), .int .i64 (wrap64 (a2 - 1))] rfl z1_ ?_; (with_reducible refine (spec_l1In.calls (rd l0_2 x13_3) (wrap64 (x12_3 + 1)) (wrap64 (a2 - 1)) true _ A47.out).mono ?_); rintro e w' ⟨rfl, ⟨nd, rfl⟩⟩; refine ⟨_, rfl, ?_⟩; have p213 : 0 ≤ (x13_3 : Int) := of_decide_eq_true z3_; have q213 : x13_3 < (l0_3.length : Int) := of_decide_eq_true z3_; obtain ⟨ad213, A213_1, c213_1, A213_2, c213_2, A213_3, c213_3, A213_4, c213_4, e213, hx213_0, hx213_1, hx213_2, hx213_3, hx213_4, hl213_1, hi213_1, hl213_2, hi213_2, hl213_3, hi213_3, hl213_4, hi213_4⟩ := at_T34 HR0_3.out x13_3 p213 q213; cases e213; replace hx213_0 := up_ HB hx213_0; replace hx213_1 := up_ HB hx213_1; replace hx213_2 := up_ HB hx213_2; replace hx213_3 := up_ HB hx213_3; replace hx213_4 := up_ HB hx213_4; have HR213_1 := q_ hi213_1; have HC213_1 := q_ hl213_1; clear hi213_1 hl213_1; have HR213_2 := q_ hi213_2; have HC213_2 := q_ hl213_2; clear hi213_2 hl213_2; have HR213_3 := q_ hi213_3; have HC213_3 := q_ hl213_3; clear hi213_3 hl213_3; have HR213_4 := q_ hi213_4; have HC213_4 := q_ hl213_4; clear hi213_4 hl213_4; replace p213 := eq_true p213; replace q213 := eq_true q213) | ((with_reducible refine gate_callee (f := 59) rfl ?_); refine goesL_ (some 118) rfl rfl Try.func59 (by kernel_rfl) rfl #[.agg #[.bool ((rd_T34 l0_3 x13_3).f0), .slice A213_1 ((rd_T34 l0_3 x13_3).f1).length c213_1, .slice A213_2 ((rd_T34 l0_3 x13_3).f2).length c213_2, .slice A213_3 ((rd_T34 l0_3 x13_3).f3).length c213_3, .slice A213_4 ((rd_T34 l0_3 x13_3).f4).length c213_4], .int .i64 x12_3, .int .i64 (rd l0_2 x13_3), .int .i64 (wrap64 (a3 - 1))] rfl z1_ ?_; (with_reducible refine (ih k3 z61_ ((rd_T34 l0_3 x13_3).f0) _ _ ((rd_T34 l0_3 x13_3).f1) _ _ ((rd_T34 l0_3 x13_3).f2) _ _ ((rd_T34 l0_3 x13_3).f3) _ _ ((rd_T34 l0_3 x13_3).f4) x12_3 (rd l0_2 x13_3) (wrap64 (a3 - 1)) t214 _ ?side1 ?side2 ?side3 ?side4 ?side5 ?side6 ?side7 ?side8 A50.out).mono ?_); (case side1 => exact z187_); (case side2 => exact HC213_1.out); (case side3 => exact z188_); (case side4 => exact HC213_2.out); (case side5 => exact z189_); (case side6 => exact HC213_3.out); (case side7 => exact z190_); (case side8 => exact HC213_4.out); rintro e w61 ⟨rfl, hb⟩; refine ⟨_, rfl, ?_⟩; have n0_ := q_ (blk_below (g := gb203) (o := .cells #[.bool false, .slice A0_1 l0_1.length c0_1, .slice (some ad211) l0_2.length c0_2, .slice (some ad213) l0_3.length c0_3, .slice A0_4 l0_4.length c0_4] 34 (0, 0)) z20_ hb); have n1_ := q_ (below_step z6_ hb); clear BK203; clear HB; have BK203 := n0_; have HB := n1_; clear n0_ n1_; (try clear hb); (try clear hb2); (try clear hk); (try clear hi)))
                   go_roundg k3
                   case measure => have := HJ11.out; have := HK2.out; have := HK3.out; omega
                   case rel => exact ⟨(t214), (rd l0_2 x13_3), (wrap64 (x13_3 + 1)), z5_, z5_, z5_, H', ⟨z61_⟩, ⟨z20_⟩, ⟨z6_⟩⟩
                ·rw [if_neg c49] at H
                 exact absurd H (by simp)
               ·replace c48 := Bool.eq_false_iff.mpr c48
                subst c48
                have H1 : (some 0) = some r := by rw [if_neg (show ¬ (false = true) by decide)] at H; exact H
                clear H
                have H := H1
                clear H1
                obtain rfl := Option.some.inj H
                obtain ⟨hcz62_0, hcz62_1, hcz62_2, hcz62_3, hcz62_4, hfz62_0, hfz62_1, hfz62_2, hfz62_3, hfz62_4⟩ := cs5_ BK203.out
                have p211 : 0 ≤ (x13_3 : Int) := of_decide_eq_true z3_
                have q211 : x13_3 < (l0_2.length : Int) := of_decide_eq_true z3_
                obtain ⟨ad211, e211, hx211_0⟩ := Kd.at_int HR0_2.out x13_3 p211 q211
                cases e211
                replace hx211_0 := up_ HB hx211_0
                replace p211 := eq_true p211
                replace q211 := eq_true q211
                go_wp2_with (first | ((with_reducible refine gate_callee (f := 97) rfl ?_); refine goesL_ (some 107) rfl rfl Try.func97 (by kernel_rfl) rfl #[.int .i64 (rd l0_2 x13_3), .int .i64 (wrap64 (x12_3 + 1)), .int .i64 (wrap64 (a2 - 1))] rfl z1_ ?_; (with_reducible refine (spec_l1In.calls (rd l0_2 x13_3) (wrap64 (x12_3 + 1)) (wrap64 (a2 - 1)) false _ A47.out).mono ?_); rintro e w' ⟨rfl, ⟨nd, rfl⟩⟩; refine ⟨_, rfl, ?_⟩))
                go_ret
                exact ⟨z2_, z0_⟩
              ·rw [if_neg c46] at H
               exact absurd H (by simp)
             ·rw [if_neg c45] at H
              exact absurd H (by simp)
            ·rw [if_neg c44] at H
             have c44b0 : decide (x13_3 < (wrap64 ((l0_3.length : Int) - 1))) = false := decide_eq_false c44
             clear c44
             by_cases c63 : 0 ≤ x13_3
             ·rw [if_pos c63] at H
              have c63b0 : decide (0 ≤ x13_3) = true := decide_eq_true c63
              clear c63
              by_cases c64 : x13_3 < (l0_3.length : Int)
              ·rw [if_pos c64] at H
               have c64b0 : decide (x13_3 < (l0_3.length : Int)) = true := decide_eq_true c64
               clear c64
               replace H := Option.bind_eq_some_iff.mp H
               obtain ⟨t216, A650, H⟩ := H
               replace H : (if t216 = 0 then (some 0) else (if x13_3 > 0 then (if t216 = x11_3 then (spec_l2Depth.l1 k3 a2 a3 (l0_3.length : Int) t216 a2 (wrap64 (x13_3 + 1)) false l0_1 l0_2 l0_3 l0_4) else (some 0)) else (spec_l2Depth.l1 k3 a2 a3 (l0_3.length : Int) t216 a2 (wrap64 (x13_3 + 1)) false l0_1 l0_2 l0_3 l0_4))) = some r := H
               have A65 := q_ A650
               clear A650
               by_cases c66 : t216 = 0
               ·rw [if_pos c66] at H
                have c66b0 : (t216 == 0) = true := beq_iff_eq.mpr c66
                have c66b1 : (t216 != 0) = false := bne_eq_false_iff_eq.mpr c66
                clear c66
                obtain rfl := Option.some.inj H
                obtain ⟨hcz67_0, hcz67_1, hcz67_2, hcz67_3, hcz67_4, hfz67_0, hfz67_1, hfz67_2, hfz67_3, hfz67_4⟩ := cs5_ BK203.out
                have p215 : 0 ≤ (x13_3 : Int) := of_decide_eq_true z3_
                have q215 : x13_3 < (l0_3.length : Int) := of_decide_eq_true z3_
                obtain ⟨ad215, A215_1, c215_1, A215_2, c215_2, A215_3, c215_3, A215_4, c215_4, e215, hx215_0, hx215_1, hx215_2, hx215_3, hx215_4, hl215_1, hi215_1, hl215_2, hi215_2, hl215_3, hi215_3, hl215_4, hi215_4⟩ := at_T34 HR0_3.out x13_3 p215 q215
                cases e215
                replace hx215_0 := up_ HB hx215_0
                replace hx215_1 := up_ HB hx215_1
                replace hx215_2 := up_ HB hx215_2
                replace hx215_3 := up_ HB hx215_3
                replace hx215_4 := up_ HB hx215_4
                have HR215_1 := q_ hi215_1
                have HC215_1 := q_ hl215_1
                clear hi215_1 hl215_1
                have HR215_2 := q_ hi215_2
                have HC215_2 := q_ hl215_2
                clear hi215_2 hl215_2
                have HR215_3 := q_ hi215_3
                have HC215_3 := q_ hl215_3
                clear hi215_3 hl215_3
                have HR215_4 := q_ hi215_4
                have HC215_4 := q_ hl215_4
                clear hi215_4 hl215_4
                replace p215 := eq_true p215
                replace q215 := eq_true q215
                go_wp2_with (first | ((with_reducible refine gate_callee (f := 59) rfl ?_); refine goesL_ (some 118) rfl rfl Try.func59 (by kernel_rfl) rfl #[.agg #[.bool ((rd_T34 l0_3 x13_3).f0), .slice A215_1 ((rd_T34 l0_3 x13_3).f1).length c215_1, .slice A215_2 ((rd_T34 l0_3 x13_3).f2).length c215_2, .slice A215_3 ((rd_T34 l0_3 x13_3).f3).length c215_3, .slice A215_4 ((rd_T34 l0_3 x13_3).f4).length c215_4], .int .i64 x12_3, .int .i64 a2, .int .i64 (wrap64 (a3 - 1))] rfl z1_ ?_; (with_reducible refine (ih k3 z61_ ((rd_T34 l0_3 x13_3).f0) _ _ ((rd_T34 l0_3 x13_3).f1) _ _ ((rd_T34 l0_3 x13_3).f2) _ _ ((rd_T34 l0_3 x13_3).f3) _ _ ((rd_T34 l0_3 x13_3).f4) x12_3 a2 (wrap64 (a3 - 1)) t216 _ ?side1 ?side2 ?side3 ?side4 ?side5 ?side6 ?side7 ?side8 A65.out).mono ?_); (case side1 => exact z146_); (case side2 => exact HC215_1.out); (case side3 => exact z147_); (case side4 => exact HC215_2.out); (case side5 => exact z148_); (case side6 => exact HC215_3.out); (case side7 => exact z149_); (case side8 => exact HC215_4.out); rintro e w68 ⟨rfl, hb⟩; refine ⟨_, rfl, ?_⟩; have n0_ := q_ (below_step z0_ hb); clear HB; have HB := n0_; clear n0_; (try clear hb); (try clear hb2); (try clear hk); (try clear hi)))
                go_ret
                exact ⟨z2_, z0_⟩
               ·rw [if_neg c66] at H
                have c66b0 : (t216 == 0) = false := beq_eq_false_iff_ne.mpr c66
                have c66b1 : (t216 != 0) = true := bne_iff_ne.mpr c66
                by_cases c69 : x13_3 > 0
                ·rw [if_pos c69] at H
                 have c69b0 : decide (0 < x13_3) = true := decide_eq_true c69
                 clear c69
                 by_cases c70 : t216 = x11_3
                 ·rw [if_pos c70] at H
                  have c70b0 : (t216 == x11_3) = true := beq_iff_eq.mpr c70
                  have c70b1 : (t216 != x11_3) = false := bne_eq_false_iff_eq.mpr c70
                  clear c70
                  have H' := q_ H
                  clear H
                  obtain ⟨hcz71_0, hcz71_1, hcz71_2, hcz71_3, hcz71_4, hfz71_0, hfz71_1, hfz71_2, hfz71_3, hfz71_4⟩ := cs5_ BK203.out
                  have p215 : 0 ≤ (x13_3 : Int) := of_decide_eq_true z3_
                  have q215 : x13_3 < (l0_3.length : Int) := of_decide_eq_true z3_
                  obtain ⟨ad215, A215_1, c215_1, A215_2, c215_2, A215_3, c215_3, A215_4, c215_4, e215, hx215_0, hx215_1, hx215_2, hx215_3, hx215_4, hl215_1, hi215_1, hl215_2, hi215_2, hl215_3, hi215_3, hl215_4, hi215_4⟩ := at_T34 HR0_3.out x13_3 p215 q215
                  cases e215
                  replace hx215_0 := up_ HB hx215_0
                  replace hx215_1 := up_ HB hx215_1
                  replace hx215_2 := up_ HB hx215_2
                  replace hx215_3 := up_ HB hx215_3
                  replace hx215_4 := up_ HB hx215_4
                  have HR215_1 := q_ hi215_1
                  have HC215_1 := q_ hl215_1
                  clear hi215_1 hl215_1
                  have HR215_2 := q_ hi215_2
                  have HC215_2 := q_ hl215_2
                  clear hi215_2 hl215_2
                  have HR215_3 := q_ hi215_3
                  have HC215_3 := q_ hl215_3
                  clear hi215_3 hl215_3
                  have HR215_4 := q_ hi215_4
                  have HC215_4 := q_ hl215_4
                  clear hi215_4 hl215_4
                  replace p215 := eq_true p215
                  replace q215 := eq_true q215
                  go_wp2_with (first | ((with_reducible refine gate_callee (f := 59) rfl ?_); refine goesL_ (some 118) rfl rfl Try.func59 (by kernel_rfl) rfl #[.agg #[.bool ((rd_T34 l0_3 x13_3).f0), .slice A215_1 ((rd_T34 l0_3 x13_3).f1).length c215_1, .slice A215_2 ((rd_T34 l0_3 x13_3).f2).length c215_2, .slice A215_3 ((rd_T34 l0_3 x13_3).f3).length c215_3, .slice A215_4 ((rd_T34 l0_3 x13_3).f4).length c215_4], .int .i64 x12_3, .int .i64 a2, .int .i64 (wrap64 (a3 - 1))] rfl z1_ ?_; (with_reducible refine (ih k3 z61_ ((rd_T34 l0_3 x13_3).f0) _ _ ((rd_T34 l0_3 x13_3).f1) _ _ ((rd_T34 l0_3 x13_3).f2) _ _ ((rd_T34 l0_3 x13_3).f3) _ _ ((rd_T34 l0_3 x13_3).f4) x12_3 a2 (wrap64 (a3 - 1)) t216 _ ?side1 ?side2 ?side3 ?side4 ?side5 ?side6 ?side7 ?side8 A65.out).mono ?_); (case side1 => exact z146_); (case side2 => exact HC215_1.out); (case side3 => exact z147_); (case side4 => exact HC215_2.out); (case side5 => exact z148_); (case side6 => exact HC215_3.out); (case side7 => exact z149_); (case side8 => exact HC215_4.out); rintro e w72 ⟨rfl, hb⟩; refine ⟨_, rfl, ?_⟩; have n0_ := q_ (blk_below (g := gb203) (o := .cells #[.bool false, .slice A0_1 l0_1.length c0_1, .slice A0_2 l0_2.length c0_2, .slice (some ad215) l0_3.length c0_3, .slice A0_4 l0_4.length c0_4] 34 (0, 0)) z20_ hb); have n1_ := q_ (below_step z6_ hb); clear BK203; clear HB; have BK203 := n0_; have HB := n1_; clear n0_ n1_; (try clear hb); (try clear hb2); (try clear hk); (try clear hi)))
                  go_roundg k3
                  case measure => have := HJ11.out; have := HK2.out; have := HK3.out; omega
                  case rel => exact ⟨(t216), (a2), (wrap64 (x13_3 + 1)), z5_, z5_, z5_, H', ⟨z61_⟩, ⟨z20_⟩, ⟨z6_⟩⟩
                 ·rw [if_neg c70] at H
                  have c70b0 : (t216 == x11_3) = false := beq_eq_false_iff_ne.mpr c70
                  have c70b1 : (t216 != x11_3) = true := bne_iff_ne.mpr c70
                  obtain rfl := Option.some.inj H
                  obtain ⟨hcz73_0, hcz73_1, hcz73_2, hcz73_3, hcz73_4, hfz73_0, hfz73_1, hfz73_2, hfz73_3, hfz73_4⟩ := cs5_ BK203.out
                  have p215 : 0 ≤ (x13_3 : Int) := of_decide_eq_true z3_
                  have q215 : x13_3 < (l0_3.length : Int) := of_decide_eq_true z3_
                  obtain ⟨ad215, A215_1, c215_1, A215_2, c215_2, A215_3, c215_3, A215_4, c215_4, e215, hx215_0, hx215_1, hx215_2, hx215_3, hx215_4, hl215_1, hi215_1, hl215_2, hi215_2, hl215_3, hi215_3, hl215_4, hi215_4⟩ := at_T34 HR0_3.out x13_3 p215 q215
                  cases e215
                  replace hx215_0 := up_ HB hx215_0
                  replace hx215_1 := up_ HB hx215_1
                  replace hx215_2 := up_ HB hx215_2
                  replace hx215_3 := up_ HB hx215_3
                  replace hx215_4 := up_ HB hx215_4
                  have HR215_1 := q_ hi215_1
                  have HC215_1 := q_ hl215_1
                  clear hi215_1 hl215_1
                  have HR215_2 := q_ hi215_2
                  have HC215_2 := q_ hl215_2
                  clear hi215_2 hl215_2
                  have HR215_3 := q_ hi215_3
                  have HC215_3 := q_ hl215_3
                  clear hi215_3 hl215_3
                  have HR215_4 := q_ hi215_4
                  have HC215_4 := q_ hl215_4
                  clear hi215_4 hl215_4
                  replace p215 := eq_true p215
                  replace q215 := eq_true q215
                  go_wp2_with (first | ((with_reducible refine gate_callee (f := 59) rfl ?_); refine goesL_ (some 118) rfl rfl Try.func59 (by kernel_rfl) rfl #[.agg #[.bool ((rd_T34 l0_3 x13_3).f0), .slice A215_1 ((rd_T34 l0_3 x13_3).f1).length c215_1, .slice A215_2 ((rd_T34 l0_3 x13_3).f2).length c215_2, .slice A215_3 ((rd_T34 l0_3 x13_3).f3).length c215_3, .slice A215_4 ((rd_T34 l0_3 x13_3).f4).length c215_4], .int .i64 x12_3, .int .i64 a2, .int .i64 (wrap64 (a3 - 1))] rfl z1_ ?_; (with_reducible refine (ih k3 z61_ ((rd_T34 l0_3 x13_3).f0) _ _ ((rd_T34 l0_3 x13_3).f1) _ _ ((rd_T34 l0_3 x13_3).f2) _ _ ((rd_T34 l0_3 x13_3).f3) _ _ ((rd_T34 l0_3 x13_3).f4) x12_3 a2 (wrap64 (a3 - 1)) t216 _ ?side1 ?side2 ?side3 ?side4 ?side5 ?side6 ?side7 ?side8 A65.out).mono ?_); (case side1 => exact z146_); (case side2 => exact HC215_1.out); (case side3 => exact z147_); (case side4 => exact HC215_2.out); (case side5 => exact z148_); (case side6 => exact HC215_3.out); (case side7 => exact z149_); (case side8 => exact HC215_4.out); rintro e w74 ⟨rfl, hb⟩; refine ⟨_, rfl, ?_⟩; have n0_ := q_ (below_step z0_ hb); clear HB; have HB := n0_; clear n0_; (try clear hb); (try clear hb2); (try clear hk); (try clear hi)))
                  go_ret
                  exact ⟨z2_, z0_⟩
                ·rw [if_neg c69] at H
                 have c69b0 : decide (0 < x13_3) = false := decide_eq_false c69
                 clear c69
                 have H' := q_ H
                 clear H
                 obtain ⟨hcz75_0, hcz75_1, hcz75_2, hcz75_3, hcz75_4, hfz75_0, hfz75_1, hfz75_2, hfz75_3, hfz75_4⟩ := cs5_ BK203.out
                 have p215 : 0 ≤ (x13_3 : Int) := of_decide_eq_true z3_
                 have q215 : x13_3 < (l0_3.length : Int) := of_decide_eq_true z3_
                 obtain ⟨ad215, A215_1, c215_1, A215_2, c215_2, A215_3, c215_3, A215_4, c215_4, e215, hx215_0, hx215_1, hx215_2, hx215_3, hx215_4, hl215_1, hi215_1, hl215_2, hi215_2, hl215_3, hi215_3, hl215_4, hi215_4⟩ := at_T34 HR0_3.out x13_3 p215 q215
                 cases e215
                 replace hx215_0 := up_ HB hx215_0
                 replace hx215_1 := up_ HB hx215_1
                 replace hx215_2 := up_ HB hx215_2
                 replace hx215_3 := up_ HB hx215_3
                 replace hx215_4 := up_ HB hx215_4
                 have HR215_1 := q_ hi215_1
                 have HC215_1 := q_ hl215_1
                 clear hi215_1 hl215_1
                 have HR215_2 := q_ hi215_2
                 have HC215_2 := q_ hl215_2
                 clear hi215_2 hl215_2
                 have HR215_3 := q_ hi215_3
                 have HC215_3 := q_ hl215_3
                 clear hi215_3 hl215_3
                 have HR215_4 := q_ hi215_4
                 have HC215_4 := q_ hl215_4
                 clear hi215_4 hl215_4
                 replace p215 := eq_true p215
                 replace q215 := eq_true q215
                 go_wp2_with (first | ((with_reducible refine gate_callee (f := 59) rfl ?_); refine goesL_ (some 118) rfl rfl Try.func59 (by kernel_rfl) rfl #[.agg #[.bool ((rd_T34 l0_3 x13_3).f0), .slice A215_1 ((rd_T34 l0_3 x13_3).f1).length c215_1, .slice A215_2 ((rd_T34 l0_3 x13_3).f2).length c215_2, .slice A215_3 ((rd_T34 l0_3 x13_3).f3).length c215_3, .slice A215_4 ((rd_T34 l0_3 x13_3).f4).length c215_4], .int .i64 x12_3, .int .i64 a2, .int .i64 (wrap64 (a3 - 1))] rfl z1_ ?_; (with_reducible refine (ih k3 z61_ ((rd_T34 l0_3 x13_3).f0) _ _ ((rd_T34 l0_3 x13_3).f1) _ _ ((rd_T34 l0_3 x13_3).f2) _ _ ((rd_T34 l0_3 x13_3).f3) _ _ ((rd_T34 l0_3 x13_3).f4) x12_3 a2 (wrap64 (a3 - 1)) t216 _ ?side1 ?side2 ?side3 ?side4 ?side5 ?side6 ?side7 ?side8 A65.out).mono ?_); (case side1 => exact z146_); (case side2 => exact HC215_1.out); (case side3 => exact z147_); (case side4 => exact HC215_2.out); (case side5 => exact z148_); (case side6 => exact HC215_3.out); (case side7 => exact z149_); (case side8 => exact HC215_4.out); rintro e w76 ⟨rfl, hb⟩; refine ⟨_, rfl, ?_⟩; have n0_ := q_ (blk_below (g := gb203) (o := .cells #[.bool false, .slice A0_1 l0_1.length c0_1, .slice A0_2 l0_2.length c0_2, .slice (some ad215) l0_3.length c0_3, .slice A0_4 l0_4.length c0_4] 34 (0, 0)) z20_ hb); have n1_ := q_ (below_step z6_ hb); clear BK203; clear HB; have BK203 := n0_; have HB := n1_; clear n0_ n1_; (try clear hb); (try clear hb2); (try clear hk); (try clear hi)))
                 go_roundg k3
                 case measure => have := HJ11.out; have := HK2.out; have := HK3.out; omega
                 case rel => exact ⟨(t216), (a2), (wrap64 (x13_3 + 1)), z5_, z5_, z5_, H', ⟨z61_⟩, ⟨z20_⟩, ⟨z6_⟩⟩
              ·rw [if_neg c64] at H
               exact absurd H (by simp)
             ·rw [if_neg c63] at H
              exact absurd H (by simp)
           ·rw [if_neg c43] at H
            have c43b0 : decide (x13_3 < (l0_3.length : Int)) = false := decide_eq_false c43
            clear c43
            obtain rfl := Option.some.inj H
            go_wp2
            go_ret
            exact ⟨z2_, z6_⟩

end Go.Proofs.Ytfnndcpaldkkoaa.PFnExactTreeCount
