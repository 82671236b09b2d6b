-- Written by a program of this session, which goes by the kit's print. Not trusted: Lean checks it.
import Derived.Test.YtfnndcpaldkkoaaPFnExactTreeCountx0
import Derived.Test.YtfnndcpaldkkoaaPFnExactTreeCountx8
import Derived.Test.YtfnndcpaldkkoaaPFnExactTreeCountx9
namespace Go.Proofs.Ytfnndcpaldkkoaa.PFnExactTreeCount
open Go.RowKit Go.Proofs.YtfnndcpaldkkoaaW.PrintWords Go.Proofs.YtfnndcpaldkkoaaW.PrintLast Go.Proofs.YtfnndcpaldkkoaaW.PrintMore
attribute [local go_sem] max2_int min2_int max_two min_two max_three min_three max_four min_four   -- for this text's walks alone
set_option linter.unusedVariables false
set_option linter.unusedSimpArgs false

/-! ### impl_depthOf: function 64 -/
mutual
def impl_depthOf.j0 : Nat → Int → Bool → Bool → List (S92) → List Int → List (S34) → List (S72) → Int → Int → Option (Int)
 | 0, _, _, _, _, _, _, _, _, _ => none
 | k + 1, x3, x50, x256000, x256001, x256002, x256003, x256004, x257000, x258000 => if x50 = true then (some 0) else ((slices_ContainsFunc_Msg_104.f k x256004 x257000 x258000).bind fun t260 => (if t260 = true then (some 0) else (impl_depthOf.l0 k x3 0 x257000 x256003 (x256003.length : Int) 0 x256000 x256001 x256002 x256003 x256004 x258000)))
def impl_depthOf.l0 : Nat → Int → Int → Int → List (S34) → Int → Int → Bool → List (S92) → List Int → List (S34) → List (S72) → Int → Option (Int)
 | 0, _, _, _, _, _, _, _, _, _, _, _, _ => none
 | k + 1, x3, x9, x10, x57, x58, x59, x256000, x256001, x256002, x256003, x256004, x258000 => if x59 < x58 then (if 0 ≤ x59 then (if x59 < (x57.length : Int) then (if x59 < (x256002.length : Int) then (impl_depthOf.j2 k x3 x9 x10 x59 (rd x256002 x59) x57 x58 x59 x256000 x256001 x256002 x256003 x256004 x258000 ((rd_T34 x57 x59).f0) ((rd_T34 x57 x59).f1) ((rd_T34 x57 x59).f2) ((rd_T34 x57 x59).f3) ((rd_T34 x57 x59).f4)) else (impl_depthOf.j2 k x3 x9 x10 x59 x258000 x57 x58 x59 x256000 x256001 x256002 x256003 x256004 x258000 ((rd_T34 x57 x59).f0) ((rd_T34 x57 x59).f1) ((rd_T34 x57 x59).f2) ((rd_T34 x57 x59).f3) ((rd_T34 x57 x59).f4))) else (none)) else (none)) else (some (wrap64 (x9 + 1)))
def impl_depthOf.j2 : Nat → Int → Int → Int → Int → Int → List (S34) → Int → Int → Bool → List (S92) → List Int → List (S34) → List (S72) → Int → Bool → List (S92) → List Int → List (S34) → List (S72) → Option (Int)
 | 0, _, _, _, _, _, _, _, _, _, _, _, _, _, _, _, _, _, _, _ => none
 | k + 1, x3, x9, x10, x11, x13, x57, x58, x59, x256000, x256001, x256002, x256003, x256004, x258000, x263000, x263001, x263002, x263003, x263004 => if x11 < (x256002.length : Int) then ((impl_within.f x13 1 999).bind fun t264 => (if t264 = true then (if x13 ≤ x10 then (impl_depthOf.j3 k x3 x9 x10 x11 x13 x57 x58 x59 true x256000 x256001 x256002 x256003 x256004 x258000 x263000 x263001 x263002 x263003 x263004) else (impl_depthOf.j3 k x3 x9 x10 x11 x13 x57 x58 x59 (decide (x13 ≥ x258000)) x256000 x256001 x256002 x256003 x256004 x258000 x263000 x263001 x263002 x263003 x263004)) else (impl_depthOf.j3 k x3 x9 x10 x11 x13 x57 x58 x59 true x256000 x256001 x256002 x256003 x256004 x258000 x263000 x263001 x263002 x263003 x263004))) else (impl_depthOf.j3 k x3 x9 x10 x11 x13 x57 x58 x59 false x256000 x256001 x256002 x256003 x256004 x258000 x263000 x263001 x263002 x263003 x263004)
def impl_depthOf.j3 : Nat → Int → Int → Int → Int → Int → List (S34) → Int → Int → Bool → Bool → List (S92) → List Int → List (S34) → List (S72) → Int → Bool → List (S92) → List Int → List (S34) → List (S72) → Option (Int)
 | 0, _, _, _, _, _, _, _, _, _, _, _, _, _, _, _, _, _, _, _, _ => none
 | k + 1, x3, x9, x10, x11, x13, x57, x58, x59, x94, x256000, x256001, x256002, x256003, x256004, x258000, x263000, x263001, x263002, x263003, x263004 => if x94 = true then (some 0) else ((impl_depthOf.f k x263000 x263001 x263002 x263003 x263004 x10 x13 (wrap64 (x3 - 1))).bind fun t265 => (if t265 = 0 then (some 0) else (if x11 > 0 then (if t265 = x9 then (impl_depthOf.l0 k x3 t265 x13 x57 x58 (wrap64 (x59 + 1)) x256000 x256001 x256002 x256003 x256004 x258000) else (some 0)) else (impl_depthOf.l0 k x3 t265 x13 x57 x58 (wrap64 (x59 + 1)) x256000 x256001 x256002 x256003 x256004 x258000))))
def impl_depthOf.f : Nat → Bool → List (S92) → List Int → List (S34) → List (S72) → Int → Int → Int → Option (Int)
 | 0, _, _, _, _, _, _, _, _ => none
 | k + 1, a0_0, l0_1, l0_2, l0_3, l0_4, a1, a2, a3 => if a3 = 0 then (some 0) else (if a0_0 = true then ((impl_leafOk.f k a0_0 l0_1 l0_2 l0_3 l0_4 a1 a2).bind fun t258 => (if t258 = true then (some 1) else (some 0))) else ((impl_within.f (l0_3.length : Int) 2 4).bind fun t259 => (if t259 = true then (if (l0_2.length : Int) = (wrap64 ((l0_3.length : Int) - 1)) then (if (l0_4.length : Int) > 6 then (impl_depthOf.j0 k a3 true a0_0 l0_1 l0_2 l0_3 l0_4 a1 a2) else (impl_depthOf.j0 k a3 (decide ((l0_1.length : Int) > 0)) a0_0 l0_1 l0_2 l0_3 l0_4 a1 a2)) else (impl_depthOf.j0 k a3 true a0_0 l0_1 l0_2 l0_3 l0_4 a1 a2)) else (impl_depthOf.j0 k a3 true a0_0 l0_1 l0_2 l0_3 l0_4 a1 a2))))
end
theorem impl_depthOf.mono_l : ∀ k, (∀ y0 y1 y2 y3 y4 y5 y6 y7, LeO (impl_depthOf.f k y0 y1 y2 y3 y4 y5 y6 y7) (impl_depthOf.f (k + 1) y0 y1 y2 y3 y4 y5 y6 y7)) ∧ (∀ y0 y1 y2 y3 y4 y5 y6 y7 y8, LeO (impl_depthOf.j0 k y0 y1 y2 y3 y4 y5 y6 y7 y8) (impl_depthOf.j0 (k + 1) y0 y1 y2 y3 y4 y5 y6 y7 y8)) ∧ (∀ y0 y1 y2 y3 y4 y5 y6 y7 y8 y9 y10 y11, LeO (impl_depthOf.l0 k y0 y1 y2 y3 y4 y5 y6 y7 y8 y9 y10 y11) (impl_depthOf.l0 (k + 1) y0 y1 y2 y3 y4 y5 y6 y7 y8 y9 y10 y11)) ∧ (∀ y0 y1 y2 y3 y4 y5 y6 y7 y8 y9 y10 y11 y12 y13 y14 y15 y16 y17 y18, LeO (impl_depthOf.j2 k y0 y1 y2 y3 y4 y5 y6 y7 y8 y9 y10 y11 y12 y13 y14 y15 y16 y17 y18) (impl_depthOf.j2 (k + 1) y0 y1 y2 y3 y4 y5 y6 y7 y8 y9 y10 y11 y12 y13 y14 y15 y16 y17 y18)) ∧ (∀ y0 y1 y2 y3 y4 y5 y6 y7 y8 y9 y10 y11 y12 y13 y14 y15 y16 y17 y18 y19, LeO (impl_depthOf.j3 k y0 y1 y2 y3 y4 y5 y6 y7 y8 y9 y10 y11 y12 y13 y14 y15 y16 y17 y18 y19) (impl_depthOf.j3 (k + 1) y0 y1 y2 y3 y4 y5 y6 y7 y8 y9 y10 y11 y12 y13 y14 y15 y16 y17 y18 y19))
 | 0 => ⟨fun _ _ _ _ _ _ _ _ r h => by simp [impl_depthOf.f] at h, fun _ _ _ _ _ _ _ _ _ r h => by simp [impl_depthOf.j0] at h, fun _ _ _ _ _ _ _ _ _ _ _ _ r h => by simp [impl_depthOf.l0] at h, fun _ _ _ _ _ _ _ _ _ _ _ _ _ _ _ _ _ _ _ r h => by simp [impl_depthOf.j2] at h, fun _ _ _ _ _ _ _ _ _ _ _ _ _ _ _ _ _ _ _ _ r h => by simp [impl_depthOf.j3] at h⟩
 | k + 1 => by
  obtain ⟨ih0, ih1, ih2, ih3, ih4⟩ := impl_depthOf.mono_l k
  refine ⟨?_, ?_, ?_, ?_, ?_⟩
  ·intro y0 y1 y2 y3 y4 y5 y6 y7
   unfold impl_depthOf.f
   repeat' first
   | (with_reducible exact ih0 _ _ _ _ _ _ _ _)
   | (with_reducible exact ih1 _ _ _ _ _ _ _ _ _)
   | (with_reducible exact ih2 _ _ _ _ _ _ _ _ _ _ _ _)
   | (with_reducible exact ih3 _ _ _ _ _ _ _ _ _ _ _ _ _ _ _ _ _ _ _)
   | (with_reducible exact ih4 _ _ _ _ _ _ _ _ _ _ _ _ _ _ _ _ _ _ _ _)
   | (with_reducible exact impl_leafOk.mono _ _ _ _ _ _ _ _)
   | (with_reducible exact slices_ContainsFunc_Msg_104.mono _ _ _ _)
   | (with_reducible exact LeO.refl _)
   | (with_reducible exact LeO.none _)
   | (with_reducible refine LeO.ite ?_ ?_)
   | (with_reducible refine LeO.bind ?_ (fun _ => ?_))
   | exact ih0 _ _ _ _ _ _ _ _
   | exact ih1 _ _ _ _ _ _ _ _ _
   | exact ih2 _ _ _ _ _ _ _ _ _ _ _ _
   | exact ih3 _ _ _ _ _ _ _ _ _ _ _ _ _ _ _ _ _ _ _
   | exact ih4 _ _ _ _ _ _ _ _ _ _ _ _ _ _ _ _ _ _ _ _
   | exact impl_leafOk.mono _ _ _ _ _ _ _ _
   | exact slices_ContainsFunc_Msg_104.mono _ _ _ _
   | exact LeO.none _
   | refine LeO.ite ?_ ?_
   | refine LeO.bind ?_ (fun _ => ?_)
  ·intro y0 y1 y2 y3 y4 y5 y6 y7 y8
   unfold impl_depthOf.j0
   repeat' first
   | (with_reducible exact ih0 _ _ _ _ _ _ _ _)
   | (with_reducible exact ih1 _ _ _ _ _ _ _ _ _)
   | (with_reducible exact ih2 _ _ _ _ _ _ _ _ _ _ _ _)
   | (with_reducible exact ih3 _ _ _ _ _ _ _ _ _ _ _ _ _ _ _ _ _ _ _)
   | (with_reducible exact ih4 _ _ _ _ _ _ _ _ _ _ _ _ _ _ _ _ _ _ _ _)
   | (with_reducible exact impl_leafOk.mono _ _ _ _ _ _ _ _)
   | (with_reducible exact slices_ContainsFunc_Msg_104.mono _ _ _ _)
   | (with_reducible exact LeO.refl _)
   | (with_reducible exact LeO.none _)
   | (with_reducible refine LeO.ite ?_ ?_)
   | (with_reducible refine LeO.bind ?_ (fun _ => ?_))
   | exact ih0 _ _ _ _ _ _ _ _
   | exact ih1 _ _ _ _ _ _ _ _ _
   | exact ih2 _ _ _ _ _ _ _ _ _ _ _ _
   | exact ih3 _ _ _ _ _ _ _ _ _ _ _ _ _ _ _ _ _ _ _
   | exact ih4 _ _ _ _ _ _ _ _ _ _ _ _ _ _ _ _ _ _ _ _
   | exact impl_leafOk.mono _ _ _ _ _ _ _ _
   | exact slices_ContainsFunc_Msg_104.mono _ _ _ _
   | exact LeO.none _
   | refine LeO.ite ?_ ?_
   | refine LeO.bind ?_ (fun _ => ?_)
  ·intro y0 y1 y2 y3 y4 y5 y6 y7 y8 y9 y10 y11
   unfold impl_depthOf.l0
   repeat' first
   | (with_reducible exact ih0 _ _ _ _ _ _ _ _)
   | (with_reducible exact ih1 _ _ _ _ _ _ _ _ _)
   | (with_reducible exact ih2 _ _ _ _ _ _ _ _ _ _ _ _)
   | (with_reducible exact ih3 _ _ _ _ _ _ _ _ _ _ _ _ _ _ _ _ _ _ _)
   | (with_reducible exact ih4 _ _ _ _ _ _ _ _ _ _ _ _ _ _ _ _ _ _ _ _)
   | (with_reducible exact impl_leafOk.mono _ _ _ _ _ _ _ _)
   | (with_reducible exact slices_ContainsFunc_Msg_104.mono _ _ _ _)
   | (with_reducible exact LeO.refl _)
   | (with_reducible exact LeO.none _)
   | (with_reducible refine LeO.ite ?_ ?_)
   | (with_reducible refine LeO.bind ?_ (fun _ => ?_))
   | exact ih0 _ _ _ _ _ _ _ _
   | exact ih1 _ _ _ _ _ _ _ _ _
   | exact ih2 _ _ _ _ _ _ _ _ _ _ _ _
   | exact ih3 _ _ _ _ _ _ _ _ _ _ _ _ _ _ _ _ _ _ _
   | exact ih4 _ _ _ _ _ _ _ _ _ _ _ _ _ _ _ _ _ _ _ _
   | exact impl_leafOk.mono _ _ _ _ _ _ _ _
   | exact slices_ContainsFunc_Msg_104.mono _ _ _ _
   | exact LeO.none _
   | refine LeO.ite ?_ ?_
   | refine LeO.bind ?_ (fun _ => ?_)
  ·intro y0 y1 y2 y3 y4 y5 y6 y7 y8 y9 y10 y11 y12 y13 y14 y15 y16 y17 y18
   unfold impl_depthOf.j2
   repeat' first
   | (with_reducible exact ih0 _ _ _ _ _ _ _ _)
   | (with_reducible exact ih1 _ _ _ _ _ _ _ _ _)
   | (with_reducible exact ih2 _ _ _ _ _ _ _ _ _ _ _ _)
   | (with_reducible exact ih3 _ _ _ _ _ _ _ _ _ _ _ _ _ _ _ _ _ _ _)
   | (with_reducible exact ih4 _ _ _ _ _ _ _ _ _ _ _ _ _ _ _ _ _ _ _ _)
   | (with_reducible exact impl_leafOk.mono _ _ _ _ _ _ _ _)
   | (with_reducible exact slices_ContainsFunc_Msg_104.mono _ _ _ _)
   | (with_reducible exact LeO.refl _)
   | (with_reducible exact LeO.none _)
   | (with_reducible refine LeO.ite ?_ ?_)
   | (with_reducible refine LeO.bind ?_ (fun _ => ?_))
   | exact ih0 _ _ _ _ _ _ _ _
   | exact ih1 _ _ _ _ _ _ _ _ _
   | exact ih2 _ _ _ _ _ _ _ _ _ _ _ _
   | exact ih3 _ _ _ _ _ _ _ _ _ _ _ _ _ _ _ _ _ _ _
   | exact ih4 _ _ _ _ _ _ _ _ _ _ _ _ _ _ _ _ _ _ _ _
   | exact impl_leafOk.mono _ _ _ _ _ _ _ _
   | exact slices_ContainsFunc_Msg_104.mono _ _ _ _
   | exact LeO.none _
   | refine LeO.ite ?_ ?_
   | refine LeO.bind ?_ (fun _ => ?_)
  ·intro y0 y1 y2 y3 y4 y5 y6 y7 y8 y9 y10 y11 y12 y13 y14 y15 y16 y17 y18 y19
   unfold impl_depthOf.j3
   repeat' first
   | (with_reducible exact ih0 _ _ _ _ _ _ _ _)
   | (with_reducible exact ih1 _ _ _ _ _ _ _ _ _)
   | (with_reducible exact ih2 _ _ _ _ _ _ _ _ _ _ _ _)
   | (with_reducible exact ih3 _ _ _ _ _ _ _ _ _ _ _ _ _ _ _ _ _ _ _)
   | (with_reducible exact ih4 _ _ _ _ _ _ _ _ _ _ _ _ _ _ _ _ _ _ _ _)
   | (with_reducible exact impl_leafOk.mono _ _ _ _ _ _ _ _)
   | (with_reducible exact slices_ContainsFunc_Msg_104.mono _ _ _ _)
   | (with_reducible exact LeO.refl _)
   | (with_reducible exact LeO.none _)
   | (with_reducible refine LeO.ite ?_ ?_)
   | (with_reducible refine LeO.bind ?_ (fun _ => ?_))
   | exact ih0 _ _ _ _ _ _ _ _
   | exact ih1 _ _ _ _ _ _ _ _ _
   | exact ih2 _ _ _ _ _ _ _ _ _ _ _ _
   | exact ih3 _ _ _ _ _ _ _ _ _ _ _ _ _ _ _ _ _ _ _
   | exact ih4 _ _ _ _ _ _ _ _ _ _ _ _ _ _ _ _ _ _ _ _
   | exact impl_leafOk.mono _ _ _ _ _ _ _ _
   | exact slices_ContainsFunc_Msg_104.mono _ _ _ _
   | exact LeO.none _
   | refine LeO.ite ?_ ?_
   | refine LeO.bind ?_ (fun _ => ?_)
theorem impl_depthOf.mono : ∀ a0 a1 a2 a3 a4 a5 a6 a7 k, LeO (impl_depthOf.f k a0 a1 a2 a3 a4 a5 a6 a7) (impl_depthOf.f (k + 1) a0 a1 a2 a3 a4 a5 a6 a7) := by
 intro a0 a1 a2 a3 a4 a5 a6 a7 k
 obtain ⟨ih0, ih1, ih2, ih3, ih4⟩ := impl_depthOf.mono_l k
 exact ih0 a0 a1 a2 a3 a4 a5 a6 a7
set_option maxHeartbeats 8000000 in
set_option maxRecDepth 100000 in
theorem impl_depthOf.calls (k : Nat) : ∀ (a0_0 : Bool) (A0_1 : Option Addr) (c0_1 : Nat) (l0_1 : List (S92)) (A0_2 : Option Addr) (c0_2 : Nat) (l0_2 : List Int) (A0_3 : Option Addr) (c0_3 : Nat) (l0_3 : List (S34)) (A0_4 : Option Addr) (c0_4 : Nat) (l0_4 : List (S72)) (a1 : Int) (a2 : Int) (a3 : Int) (r : Int) (w : World) (hr0_1 : Kd.C k92 w A0_1 l0_1.length l0_1) (hc0_1 : l0_1.length ≤ c0_1) (hr0_2 : Kd.C (Kd.int .i64) w A0_2 l0_2.length l0_2) (hc0_2 : l0_2.length ≤ c0_2) (hr0_3 : Kd.C k34 w A0_3 l0_3.length l0_3) (hc0_3 : l0_3.length ≤ c0_3) (hr0_4 : Kd.C k72 w A0_4 l0_4.length l0_4) (hc0_4 : l0_4.length ≤ c0_4) (h : impl_depthOf.f k a0_0 l0_1 l0_2 l0_3 l0_4 a1 a2 a3 = some r),
  Calls Try.prog 64 #[.agg #[.bool a0_0, .slice A0_1 l0_1.length c0_1, .slice A0_2 l0_2.length c0_2, .slice A0_3 l0_3.length c0_3, .slice A0_4 l0_4.length c0_4], .int .i64 a1, .int .i64 a2, .int .i64 a3] w fun e w' => e = .returned (.int .i64 r) ∧ Below w.heap.size w w' := by
 induction k using Nat.strongRecOn with
 | _ k ih =>
 intro a0_0 A0_1 c0_1 l0_1 A0_2 c0_2 l0_2 A0_3 c0_3 l0_3 A0_4 c0_4 l0_4 a1 a2 a3 r w hr0_1 hc0_1 hr0_2 hc0_2 hr0_3 hc0_3 hr0_4 hc0_4 h
 cases k with
 | zero => exact absurd h (by simp [impl_depthOf.f])
 | succ k =>
 simp only [impl_depthOf.f] at h
 have hu34 := Try.underlying34
 have HR0_1 := q_ hr0_1
 have HC0_1 := q_ hc0_1
 clear hr0_1 hc0_1
 have HR0_2 := q_ hr0_2
 have HC0_2 := q_ hc0_2
 clear hr0_2 hc0_2
 have HR0_3 := q_ hr0_3
 have HC0_3 := q_ hc0_3
 clear hr0_3 hc0_3
 have HR0_4 := q_ hr0_4
 have HC0_4 := q_ hc0_4
 clear hr0_4 hc0_4
 have HB := q_ (Below.refl w.heap.size w)
 have H : (if a3 = 0 then (some 0) else (if a0_0 = true then ((impl_leafOk.f k a0_0 l0_1 l0_2 l0_3 l0_4 a1 a2).bind fun t258 => (if t258 = true then (some 1) else (some 0))) else ((impl_within.f (l0_3.length : Int) 2 4).bind fun t259 => (if t259 = true then (if (l0_2.length : Int) = (wrap64 ((l0_3.length : Int) - 1)) then (if (l0_4.length : Int) > 6 then (impl_depthOf.j0 k a3 true a0_0 l0_1 l0_2 l0_3 l0_4 a1 a2) else (impl_depthOf.j0 k a3 (decide ((l0_1.length : Int) > 0)) a0_0 l0_1 l0_2 l0_3 l0_4 a1 a2)) else (impl_depthOf.j0 k a3 true a0_0 l0_1 l0_2 l0_3 l0_4 a1 a2)) else (impl_depthOf.j0 k a3 true a0_0 l0_1 l0_2 l0_3 l0_4 a1 a2))))) = some r := h
 clear h
 by_cases c5 : a3 = 0
 ·rw [if_pos c5] at H
  have c5b0 : (a3 == 0) = true := beq_iff_eq.mpr c5
  have c5b1 : (a3 != 0) = false := bne_eq_false_iff_eq.mpr c5
  clear c5
  obtain rfl := Option.some.inj H
  go_enter Try.func64, Try.ntmps64
  go_wp2_with (first | ((with_reducible refine gate_dst (N := 4) rfl ?_); (try (refine gate_guard (by rfl) ?_; dsimp only)); refine box_event ?hg (N := 4) ?hd (cs := #[.bool a0_0, .slice A0_1 l0_1.length c0_1, .slice A0_2 l0_2.length c0_2, .slice A0_3 l0_3.length c0_3, .slice A0_4 l0_4.length c0_4]) (t := 34) ?hr ?_; (case hd => rfl); (case hg => rfl); (case hr => exact z141_); intro gb255 hg w6 hbox hb; have n0_ := q_ (below_step z0_ hb); have n1_ := q_ (hbox); have n2_ := q_ ((z107_ : w.heap.size ≤ gb255)); have n3_ := q_ ((z107_ : w.heap.size ≤ gb255)); clear HB; have HB := n0_; have BK255 := n1_; have GW255 := n2_; have GE255 := n3_; clear n0_ n1_ n2_ n3_; clear hb hbox hg) | ((with_reducible refine gate_dst (N := 5) rfl ?_); (try (refine gate_guard (by rfl) ?_; dsimp only)); refine box_event ?hg (N := 5) ?hd (cs := #[.int .i64 a1]) (t := 3) ?hr ?_; (case hd => rfl); (case hg => rfl); (case hr => exact z141_); intro gb256 hg w7 hbox hb; have n0_ := q_ (below_step z0_ hb); have n1_ := q_ (hbox); have n2_ := q_ ((z107_ : w.heap.size ≤ gb256)); have n3_ := q_ ((z107_ : w.heap.size ≤ gb256)); clear HB; have HB := n0_; have BK256 := n1_; have GW256 := n2_; have GE256 := n3_; clear n0_ n1_ n2_ n3_; clear hb hbox hg) | ((with_reducible refine gate_dst (N := 6) rfl ?_); (try (refine gate_guard (by rfl) ?_; dsimp only)); refine box_event ?hg (N := 6) ?hd (cs := #[.int .i64 a2]) (t := 3) ?hr ?_; (case hd => rfl); (case hg => rfl); (case hr => exact z141_); intro gb257 hg w8 hbox hb; have n0_ := q_ (below_step z0_ hb); have n1_ := q_ (hbox); have n2_ := q_ ((z107_ : w.heap.size ≤ gb257)); have n3_ := q_ ((z107_ : w.heap.size ≤ gb257)); clear HB; have HB := n0_; have BK257 := n1_; have GW257 := n2_; have GE257 := n3_; clear n0_ n1_ n2_ n3_; clear hb hbox hg))
  go_ret
  exact ⟨z2_, by repeat (first | (with_reducible first | exact HB.out | apply below_alloc | apply pw_below_drewN | apply below_drew1 | refine below_set ?_ GE257.out) | exact HB.out)⟩
 ·rw [if_neg c5] at H
  have c5b0 : (a3 == 0) = false := beq_eq_false_iff_ne.mpr c5
  have c5b1 : (a3 != 0) = true := bne_iff_ne.mpr c5
  by_cases c9 : a0_0 = true
  ·subst c9
   have H1 : ((impl_leafOk.f k true l0_1 l0_2 l0_3 l0_4 a1 a2).bind fun t258 => (if t258 = true then (some 1) else (some 0))) = some r := z38_
   clear H
   have H := H1
   clear H1
   replace H := Option.bind_eq_some_iff.mp H
   obtain ⟨t258, A100, H⟩ := H
   replace H : (if t258 = true then (some 1) else (some 0)) = some r := H
   have A10 := q_ A100
   clear A100
   by_cases c11 : t258 = true
   ·subst c11
    have H1 : (some 1) = some r := z38_
    clear H
    have H := H1
    clear H1
    obtain rfl := Option.some.inj H
    go_enter Try.func64, Try.ntmps64
    go_wp2_with (first | ((with_reducible refine gate_dst (N := 4) rfl ?_); (try (refine gate_guard (by rfl) ?_; dsimp only)); refine box_event ?hg (N := 4) ?hd (cs := #[.bool true, .slice A0_1 l0_1.length c0_1, .slice A0_2 l0_2.length c0_2, .slice A0_3 l0_3.length c0_3, .slice A0_4 l0_4.length c0_4]) (t := 34) ?hr ?_; (case hd => rfl); (case hg => rfl); (case hr => exact z141_); intro gb255 hg w12 hbox hb; have n0_ := q_ (below_step z0_ hb); have n1_ := q_ (hbox); have n2_ := q_ ((z107_ : w.heap.size ≤ gb255)); have n3_ := q_ ((z107_ : w.heap.size ≤ gb255)); clear HB; have HB := n0_; have BK255 := n1_; have GW255 := n2_; have GE255 := n3_; clear n0_ n1_ n2_ n3_; clear hb hbox hg) | ((with_reducible refine gate_dst (N := 5) rfl ?_); (try (refine gate_guard (by rfl) ?_; dsimp only)); refine box_event ?hg (N := 5) ?hd (cs := #[.int .i64 a1]) (t := 3) ?hr ?_; (case hd => rfl); (case hg => rfl); (case hr => exact z141_); intro gb256 hg w13 hbox hb; have n0_ := q_ (blk_below (g := gb255) (o := .cells #[.bool true, .slice A0_1 l0_1.length c0_1, .slice A0_2 l0_2.length c0_2, .slice A0_3 l0_3.length c0_3, .slice A0_4 l0_4.length c0_4] 34 (0, 0)) z9_ hb); have n1_ := q_ (below_step z32_ hb); have n2_ := q_ (hbox); have n3_ := q_ ((z133_ : w.heap.size ≤ gb256)); have n4_ := q_ ((z133_ : w.heap.size ≤ gb256)); have n5_ := q_ ((z113_ : gb255 ≠ gb256)); have n6_ := q_ ((z114_ : gb256 ≠ gb255)); clear BK255; clear HB; have BK255 := n0_; have HB := n1_; have BK256 := n2_; have GW256 := n3_; have GE256 := n4_; have NB255_256 := n5_; have NB256_255 := n6_; clear n0_ n1_ n2_ n3_ n4_ n5_ n6_; clear hb hbox hg) | ((with_reducible refine gate_dst (N := 6) rfl ?_); (try (refine gate_guard (by rfl) ?_; dsimp only)); refine box_event ?hg (N := 6) ?hd (cs := #[.int .i64 a2]) (t := 3) ?hr ?_; (case hd => rfl); (case hg => rfl); (case hr => exact z141_); intro gb257 hg w14 hbox hb; have n0_ := q_ (blk_below (g := gb255) (o := .cells #[.bool true, .slice A0_1 l0_1.length c0_1, .slice A0_2 l0_2.length c0_2, .slice A0_3 l0_3.length c0_3, .slice A0_4 l0_4.length c0_4] 34 (0, 0)) z9_ hb); have n1_ := q_ (blk_below (g := gb256) (o := .cells #[.int .i64 a1] 3 (0, 0)) z24_ hb); have n2_ := q_ (below_step z25_ hb); have n3_ := q_ (hbox); have n4_ := q_ ((z134_ : w.heap.size ≤ gb257)); have n5_ := q_ ((z134_ : w.heap.size ≤ gb257)); have n6_ := q_ ((z113_ : gb255 ≠ gb257)); have n7_ := q_ ((z114_ : gb257 ≠ gb255)); have n8_ := q_ ((z125_ : gb256 ≠ gb257)); have n9_ := q_ ((z126_ : gb257 ≠ gb256)); clear BK255; clear BK256; clear HB; have BK255 := n0_; have BK256 := n1_; have HB := n2_; have BK257 := n3_; have GW257 := n4_; have GE257 := n5_; have NB255_257 := n6_; have NB257_255 := n7_; have NB256_257 := n8_; have NB257_256 := n9_; clear n0_ n1_ n2_ n3_ n4_ n5_ n6_ n7_ n8_ n9_; clear hb hbox hg; have hnb15 := NB255_256.out; have hnc15 := NB256_255.out; have hnb16 := NB255_257.out; have hnc16 := NB257_255.out; obtain ⟨hcz17_0, hcz17_1, hcz17_2, hcz17_3, hcz17_4, hfz17_0, hfz17_1, hfz17_2, hfz17_3, hfz17_4⟩ := cs5_ BK255.out; have hnb18 := NB256_257.out; have hnc18 := NB257_256.out; have hcz19_0 : w14.cell? ⟨gb256, 0, none⟩ = some (.int .i64 a1) := (blk_cell BK256.out 0).trans rfl; have hfz19_0 := blk_frozen BK256.out 0; have hcz20_0 : w14.cell? ⟨gb257, 0, none⟩ = some (.int .i64 a2) := (blk_cell BK257.out 0).trans rfl; have hfz20_0 := blk_frozen BK257.out 0) | ((with_reducible refine gate_callee (f := 101) rfl ?_); refine goesL_ (some 22) rfl rfl Try.func101 (by kernel_rfl) rfl #[.agg #[.bool true, .slice A0_1 l0_1.length c0_1, .slice A0_2 l0_2.length c0_2, .slice A0_3 l0_3.length c0_3, .slice A0_4 l0_4.length c0_4], .int .i64 a1, .int .i64 a2] rfl z1_ ?_; (with_reducible refine (impl_leafOk.calls k true _ _ l0_1 _ _ l0_2 _ _ l0_3 _ _ l0_4 a1 a2 true _ ?side1 ?side2 ?side3 ?side4 ?side5 ?side6 ?side7 ?side8 A10.out).mono ?_); (case side1 => exact z140_); (case side2 => exact z157_); (case side3 => exact z143_); (case side4 => exact z163_); (case side5 => exact z144_); (case side6 => exact z164_); (case side7 => exact z142_); (case side8 => exact z165_); rintro e w21 ⟨rfl, hb⟩; refine ⟨_, rfl, ?_⟩; have n0_ := q_ (below_step z0_ hb); clear HB; have HB := n0_; clear n0_; (try clear hb); (try clear hb2); (try clear hk); (try clear hi)))
    go_ret
    exact ⟨z2_, z0_⟩
   ·replace c11 := Bool.eq_false_iff.mpr c11
    subst c11
    have H1 : (some 0) = some r := by rw [if_neg (show ¬ (false = true) by decide)] at H; exact H
    clear H
    have H := H1
    clear H1
    obtain rfl := Option.some.inj H
    go_enter Try.func64, Try.ntmps64
    go_wp2_with (first | ((with_reducible refine gate_dst (N := 4) rfl ?_); (try (refine gate_guard (by rfl) ?_; dsimp only)); refine box_event ?hg (N := 4) ?hd (cs := #[.bool true, .slice A0_1 l0_1.length c0_1, .slice A0_2 l0_2.length c0_2, .slice A0_3 l0_3.length c0_3, .slice A0_4 l0_4.length c0_4]) (t := 34) ?hr ?_; (case hd => rfl); (case hg => rfl); (case hr => exact z141_); intro gb255 hg w22 hbox hb; have n0_ := q_ (below_step z0_ hb); have n1_ := q_ (hbox); have n2_ := q_ ((z107_ : w.heap.size ≤ gb255)); have n3_ := q_ ((z107_ : w.heap.size ≤ gb255)); clear HB; have HB := n0_; have BK255 := n1_; have GW255 := n2_; have GE255 := n3_; clear n0_ n1_ n2_ n3_; clear hb hbox hg) | ((with_reducible refine gate_dst (N := 5) rfl ?_); (try (refine gate_guard (by rfl) ?_; dsimp only)); refine box_event ?hg (N := 5) ?hd (cs := #[.int .i64 a1]) (t := 3) ?hr ?_; (case hd => rfl); (case hg => rfl); (case hr => exact z141_); intro gb256 hg w23 hbox hb; have n0_ := q_ (blk_below (g := gb255) (o := .cells #[.bool true, .slice A0_1 l0_1.length c0_1, .slice A0_2 l0_2.length c0_2, .slice A0_3 l0_3.length c0_3, .slice A0_4 l0_4.length c0_4] 34 (0, 0)) z9_ hb); have n1_ := q_ (below_step z32_ hb); have n2_ := q_ (hbox); have n3_ := q_ ((z133_ : w.heap.size ≤ gb256)); have n4_ := q_ ((z133_ : w.heap.size ≤ gb256)); have n5_ := q_ ((z113_ : gb255 ≠ gb256)); have n6_ := q_ ((z114_ : gb256 ≠ gb255)); clear BK255; clear HB; have BK255 := n0_; have HB := n1_; have BK256 := n2_; have GW256 := n3_; have GE256 := n4_; have NB255_256 := n5_; have NB256_255 := n6_; clear n0_ n1_ n2_ n3_ n4_ n5_ n6_; clear hb hbox hg) | ((with_reducible refine gate_dst (N := 6) rfl ?_); (try (refine gate_guard (by rfl) ?_; dsimp only)); refine box_event ?hg (N := 6) ?hd (cs := #[.int .i64 a2]) (t := 3) ?hr ?_; (case hd => rfl); (case hg => rfl); (case hr => exact z141_); intro gb257 hg w24 hbox hb; have n0_ := q_ (blk_below (g := gb255) (o := .cells #[.bool true, .slice A0_1 l0_1.length c0_1, .slice A0_2 l0_2.length c0_2, .slice A0_3 l0_3.length c0_3, .slice A0_4 l0_4.length c0_4] 34 (0, 0)) z9_ hb); have n1_ := q_ (blk_below (g := gb256) (o := .cells #[.int .i64 a1] 3 (0, 0)) z24_ hb); have n2_ := q_ (below_step z25_ hb); have n3_ := q_ (hbox); have n4_ := q_ ((z134_ : w.heap.size ≤ gb257)); have n5_ := q_ ((z134_ : w.heap.size ≤ gb257)); have n6_ := q_ ((z113_ : gb255 ≠ gb257)); have n7_ := q_ ((z114_ : gb257 ≠ gb255)); have n8_ := q_ ((z125_ : gb256 ≠ gb257)); have n9_ := q_ ((z126_ : gb257 ≠ gb256)); clear BK255; clear BK256; clear HB; have BK255 := n0_; have BK256 := n1_; have HB := n2_; have BK257 := n3_; have GW257 := n4_; have GE257 := n5_; have NB255_257 := n6_; have NB257_255 := n7_; have NB256_257 := n8_; have NB257_256 := n9_; clear n0_ n1_ n2_ n3_ n4_ n5_ n6_ n7_ n8_ n9_; clear hb hbox hg; have hnb25 := NB255_256.out; have hnc25 := NB256_255.out; have hnb26 := NB255_257.out; have hnc26 := NB257_255.out; obtain ⟨hcz27_0, hcz27_1, hcz27_2, hcz27_3, hcz27_4, hfz27_0, hfz27_1, hfz27_2, hfz27_3, hfz27_4⟩ := cs5_ BK255.out; have hnb28 := NB256_257.out; have hnc28 := NB257_256.out; have hcz29_0 : w24.cell? ⟨gb256, 0, none⟩ = some (.int .i64 a1) := (blk_cell BK256.out 0).trans rfl; have hfz29_0 := blk_frozen BK256.out 0; have hcz30_0 : w24.cell? ⟨gb257, 0, none⟩ = some (.int .i64 a2) := (blk_cell BK257.out 0).trans rfl; have hfz30_0 := blk_frozen BK257.out 0) | ((with_reducible refine gate_callee (f := 101) rfl ?_); refine goesL_ (some 22) rfl rfl Try.func101 (by kernel_rfl) rfl #[.agg #[.bool true, .slice A0_1 l0_1.length c0_1, .slice A0_2 l0_2.length c0_2, .slice A0_3 l0_3.length c0_3, .slice A0_4 l0_4.length c0_4], .int .i64 a1, .int .i64 a2] rfl z1_ ?_; (with_reducible refine (impl_leafOk.calls k true _ _ l0_1 _ _ l0_2 _ _ l0_3 _ _ l0_4 a1 a2 false _ ?side1 ?side2 ?side3 ?side4 ?side5 ?side6 ?side7 ?side8 A10.out).mono ?_); (case side1 => exact z140_); (case side2 => exact z157_); (case side3 => exact z143_); (case side4 => exact z163_); (case side5 => exact z144_); (case side6 => exact z164_); (case side7 => exact z142_); (case side8 => exact z165_); rintro e w31 ⟨rfl, hb⟩; refine ⟨_, rfl, ?_⟩; have n0_ := q_ (below_step z0_ hb); clear HB; have HB := n0_; clear n0_; (try clear hb); (try clear hb2); (try clear hk); (try clear hi)))
    go_ret
    exact ⟨z2_, z0_⟩
  ·replace c9 := Bool.eq_false_iff.mpr c9
   subst c9
   have H1 : ((impl_within.f (l0_3.length : Int) 2 4).bind fun t259 => (if t259 = true then (if (l0_2.length : Int) = (wrap64 ((l0_3.length : Int) - 1)) then (if (l0_4.length : Int) > 6 then (impl_depthOf.j0 k a3 true false l0_1 l0_2 l0_3 l0_4 a1 a2) else (impl_depthOf.j0 k a3 (decide ((l0_1.length : Int) > 0)) false l0_1 l0_2 l0_3 l0_4 a1 a2)) else (impl_depthOf.j0 k a3 true false l0_1 l0_2 l0_3 l0_4 a1 a2)) else (impl_depthOf.j0 k a3 true false l0_1 l0_2 l0_3 l0_4 a1 a2))) = some r := by rw [if_neg (show ¬ (false = true) by decide)] at H; exact H
   clear H
   have H := H1
   clear H1
   have HC32 := q_ H
   clear H
   go_enter Try.func64, Try.ntmps64
   go_upto_region 7 with (first | ((with_reducible refine gate_dst (N := 4) rfl ?_); (try (refine gate_guard (by rfl) ?_; dsimp only)); refine box_event ?hg (N := 4) ?hd (cs := #[.bool false, .slice A0_1 l0_1.length c0_1, .slice A0_2 l0_2.length c0_2, .slice A0_3 l0_3.length c0_3, .slice A0_4 l0_4.length c0_4]) (t := 34) ?hr ?_; (case hd => rfl); (case hg => rfl); (case hr => exact z141_); intro gb255 hg w33 hbox hb; have n0_ := q_ (below_step z0_ hb); have n1_ := q_ (hbox); have n2_ := q_ ((z107_ : w.heap.size ≤ gb255)); have n3_ := q_ ((z107_ : w.heap.size ≤ gb255)); clear HB; have HB := n0_; have BK255 := n1_; have GW255 := n2_; have GE255 := n3_; clear n0_ n1_ n2_ n3_; clear hb hbox hg) | ((with_reducible refine gate_dst (N := 5) rfl ?_); (try (refine gate_guard (by rfl) ?_; dsimp only)); refine box_event ?hg (N := 5) ?hd (cs := #[.int .i64 a1]) (t := 3) ?hr ?_; (case hd => rfl); (case hg => rfl); (case hr => exact z141_); intro gb256 hg w34 hbox hb; have n0_ := q_ (blk_below (g := gb255) (o := .cells #[.bool false, .slice A0_1 l0_1.length c0_1, .slice A0_2 l0_2.length c0_2, .slice A0_3 l0_3.length c0_3, .slice A0_4 l0_4.length c0_4] 34 (0, 0)) z9_ hb); have n1_ := q_ (below_step z32_ hb); have n2_ := q_ (hbox); have n3_ := q_ ((z133_ : w.heap.size ≤ gb256)); have n4_ := q_ ((z133_ : w.heap.size ≤ gb256)); have n5_ := q_ ((z120_ : gb255 ≠ gb256)); have n6_ := q_ ((z121_ : gb256 ≠ gb255)); clear BK255; clear HB; have BK255 := n0_; have HB := n1_; have BK256 := n2_; have GW256 := n3_; have GE256 := n4_; have NB255_256 := n5_; have NB256_255 := n6_; clear n0_ n1_ n2_ n3_ n4_ n5_ n6_; clear hb hbox hg) | ((with_reducible refine gate_dst (N := 6) rfl ?_); (try (refine gate_guard (by rfl) ?_; dsimp only)); refine box_event ?hg (N := 6) ?hd (cs := #[.int .i64 a2]) (t := 3) ?hr ?_; (case hd => rfl); (case hg => rfl); (case hr => exact z141_); intro gb257 hg w35 hbox hb; have n0_ := q_ (blk_below (g := gb255) (o := .cells #[.bool false, .slice A0_1 l0_1.length c0_1, .slice A0_2 l0_2.length c0_2, .slice A0_3 l0_3.length c0_3, .slice A0_4 l0_4.length c0_4] 34 (0, 0)) z9_ hb); have n1_ := q_ (blk_below (g := gb256) (o := .cells #[.int .i64 a1] 3 (0, 0)) z24_ hb); have n2_ := q_ (below_step z25_ hb); have n3_ := q_ (hbox); have n4_ := q_ ((z134_ : w.heap.size ≤ gb257)); have n5_ := q_ ((z134_ : w.heap.size ≤ gb257)); have n6_ := q_ ((z120_ : gb255 ≠ gb257)); have n7_ := q_ ((z121_ : gb257 ≠ gb255)); have n8_ := q_ ((z125_ : gb256 ≠ gb257)); have n9_ := q_ ((z126_ : gb257 ≠ gb256)); clear BK255; clear BK256; clear HB; have BK255 := n0_; have BK256 := n1_; have HB := n2_; have BK257 := n3_; have GW257 := n4_; have GE257 := n5_; have NB255_257 := n6_; have NB257_255 := n7_; have NB256_257 := n8_; have NB257_256 := n9_; clear n0_ n1_ n2_ n3_ n4_ n5_ n6_ n7_ n8_ n9_; clear hb hbox hg; have hnb36 := NB255_256.out; have hnc36 := NB256_255.out; have hnb37 := NB255_257.out; have hnc37 := NB257_255.out; obtain ⟨hcz38_0, hcz38_1, hcz38_2, hcz38_3, hcz38_4, hfz38_0, hfz38_1, hfz38_2, hfz38_3, hfz38_4⟩ := cs5_ BK255.out))
   (try simp only [Act.put, List.setIfInBounds_toArray, List.set_cons_zero, List.set_cons_succ])
   go_cut [50] (fun v50 wc => ∃ (kq : Nat) (x50_31 : Bool), v50 = .bool x50_31 ∧ Aside0 (impl_depthOf.j0 kq a3 x50_31 false l0_1 l0_2 l0_3 l0_4 a1 a2 = some r) ∧ Aside0 (kq ≤ k) ∧ Aside0 (wc.heap[gb255]? = some (.cells #[.bool false, (.slice A0_1 l0_1.length c0_1), (.slice A0_2 l0_2.length c0_2), (.slice A0_3 l0_3.length c0_3), (.slice A0_4 l0_4.length c0_4)] 34 (0, 0))) ∧ Aside0 (wc.heap[gb256]? = some (.cells #[.int .i64 a1] 3 (0, 0))) ∧ Aside0 (wc.heap[gb257]? = some (.cells #[.int .i64 a2] 3 (0, 0))) ∧ Aside0 (Below w.heap.size w wc))
   case first =>
    have H := HC32.out
    clear HC32
    replace H := Option.bind_eq_some_iff.mp H
    obtain ⟨t259, A390, H⟩ := H
    replace H : (if t259 = true then (if (l0_2.length : Int) = (wrap64 ((l0_3.length : Int) - 1)) then (if (l0_4.length : Int) > 6 then (impl_depthOf.j0 k a3 true false l0_1 l0_2 l0_3 l0_4 a1 a2) else (impl_depthOf.j0 k a3 (decide ((l0_1.length : Int) > 0)) false l0_1 l0_2 l0_3 l0_4 a1 a2)) else (impl_depthOf.j0 k a3 true false l0_1 l0_2 l0_3 l0_4 a1 a2)) else (impl_depthOf.j0 k a3 true false l0_1 l0_2 l0_3 l0_4 a1 a2)) = some r := H
    have A39 := q_ A390
    clear A390
    by_cases c40 : t259 = true
    ·subst c40
     have H1 : (if (l0_2.length : Int) = (wrap64 ((l0_3.length : Int) - 1)) then (if (l0_4.length : Int) > 6 then (impl_depthOf.j0 k a3 true false l0_1 l0_2 l0_3 l0_4 a1 a2) else (impl_depthOf.j0 k a3 (decide ((l0_1.length : Int) > 0)) false l0_1 l0_2 l0_3 l0_4 a1 a2)) else (impl_depthOf.j0 k a3 true false l0_1 l0_2 l0_3 l0_4 a1 a2)) = some r := z38_
     clear H
     have H := H1
     clear H1
     by_cases c41 : (l0_2.length : Int) = (wrap64 ((l0_3.length : Int) - 1))
     ·rw [if_pos c41] at H
      have c41b0 : ((l0_2.length : Int) == (wrap64 ((l0_3.length : Int) - 1))) = true := beq_iff_eq.mpr c41
      have c41b1 : ((l0_2.length : Int) != (wrap64 ((l0_3.length : Int) - 1))) = false := bne_eq_false_iff_eq.mpr c41
      clear c41
      (first | rw [c41b0] | (simp only [i64_w, i32_w]; rw [c41b0]) | skip)
      by_cases c42 : (l0_4.length : Int) > 6
      ·rw [if_pos c42] at H
       have c42b0 : decide (6 < (l0_4.length : Int)) = true := decide_eq_true c42
       have c42b1 : decide (6 < l0_4.length) = true := decide_eq_true (by omega)
       clear c42
       have H' := q_ H
       clear H
       have hnb43 := NB255_256.out
       have hnc43 := NB256_255.out
       have hnb44 := NB255_257.out
       have hnc44 := NB257_255.out
       obtain ⟨hcz45_0, hcz45_1, hcz45_2, hcz45_3, hcz45_4, hfz45_0, hfz45_1, hfz45_2, hfz45_3, hfz45_4⟩ := cs5_ BK255.out
       go_wp2_with (first | ((with_reducible refine gate_callee (f := 102) rfl ?_); refine goesL_ (some 27) rfl rfl Try.func102 (by kernel_rfl) rfl #[.int .i64 (l0_3.length : Int), .int .i64 2, .int .i64 4] rfl z1_ ?_; (with_reducible refine (impl_within.calls (l0_3.length : Int) 2 4 true _ A39.out).mono ?_); rintro e w' ⟨rfl, ⟨nd, rfl⟩⟩; refine ⟨_, rfl, ?_⟩))
       go_meet
       case rel => exact ⟨_, (true), z5_, H', ⟨z73_⟩, ⟨z9_⟩, ⟨z24_⟩, ⟨z21_⟩, ⟨z27_⟩⟩
      ·rw [if_neg c42] at H
       have c42b0 : decide (6 < (l0_4.length : Int)) = false := decide_eq_false c42
       have c42b1 : decide (6 < l0_4.length) = false := decide_eq_false (by omega)
       clear c42
       have H' := q_ H
       clear H
       have hnb46 := NB255_256.out
       have hnc46 := NB256_255.out
       have hnb47 := NB255_257.out
       have hnc47 := NB257_255.out
       obtain ⟨hcz48_0, hcz48_1, hcz48_2, hcz48_3, hcz48_4, hfz48_0, hfz48_1, hfz48_2, hfz48_3, hfz48_4⟩ := cs5_ BK255.out
       go_wp2_with (first | ((with_reducible refine gate_callee (f := 102) rfl ?_); refine goesL_ (some 27) rfl rfl Try.func102 (by kernel_rfl) rfl #[.int .i64 (l0_3.length : Int), .int .i64 2, .int .i64 4] rfl z1_ ?_; (with_reducible refine (impl_within.calls (l0_3.length : Int) 2 4 true _ A39.out).mono ?_); rintro e w' ⟨rfl, ⟨nd, rfl⟩⟩; refine ⟨_, rfl, ?_⟩))
       go_meet
       case rel => exact ⟨_, (decide ((l0_1.length : Int) > 0)), z5_, H', ⟨z73_⟩, ⟨z9_⟩, ⟨z24_⟩, ⟨z21_⟩, ⟨z27_⟩⟩
     ·rw [if_neg c41] at H
      have c41b0 : ((l0_2.length : Int) == (wrap64 ((l0_3.length : Int) - 1))) = false := beq_eq_false_iff_ne.mpr c41
      have c41b1 : ((l0_2.length : Int) != (wrap64 ((l0_3.length : Int) - 1))) = true := bne_iff_ne.mpr c41
      (first | rw [c41b0] | (simp only [i64_w, i32_w]; rw [c41b0]) | skip)
      have H' := q_ H
      clear H
      have hnb49 := NB255_256.out
      have hnc49 := NB256_255.out
      have hnb50 := NB255_257.out
      have hnc50 := NB257_255.out
      obtain ⟨hcz51_0, hcz51_1, hcz51_2, hcz51_3, hcz51_4, hfz51_0, hfz51_1, hfz51_2, hfz51_3, hfz51_4⟩ := cs5_ BK255.out
      go_wp2_with (first | ((with_reducible refine gate_callee (f := 102) rfl ?_); refine goesL_ (some 27) rfl rfl Try.func102 (by kernel_rfl) rfl #[.int .i64 (l0_3.length : Int), .int .i64 2, .int .i64 4] rfl z1_ ?_; (with_reducible refine (impl_within.calls (l0_3.length : Int) 2 4 true _ A39.out).mono ?_); rintro e w' ⟨rfl, ⟨nd, rfl⟩⟩; refine ⟨_, rfl, ?_⟩))
      go_meet
      case rel => exact ⟨_, (true), z5_, H', ⟨z73_⟩, ⟨z9_⟩, ⟨z24_⟩, ⟨z21_⟩, ⟨z27_⟩⟩
    ·replace c40 := Bool.eq_false_iff.mpr c40
     subst c40
     have H1 : (impl_depthOf.j0 k a3 true false l0_1 l0_2 l0_3 l0_4 a1 a2) = some r := by rw [if_neg (show ¬ (false = true) by decide)] at H; exact H
     clear H
     have H := H1
     clear H1
     have H' := q_ H
     clear H
     have hnb52 := NB255_256.out
     have hnc52 := NB256_255.out
     have hnb53 := NB255_257.out
     have hnc53 := NB257_255.out
     obtain ⟨hcz54_0, hcz54_1, hcz54_2, hcz54_3, hcz54_4, hfz54_0, hfz54_1, hfz54_2, hfz54_3, hfz54_4⟩ := cs5_ BK255.out
     go_wp2_with (first | ((with_reducible refine gate_callee (f := 102) rfl ?_); refine goesL_ (some 27) rfl rfl Try.func102 (by kernel_rfl) rfl #[.int .i64 (l0_3.length : Int), .int .i64 2, .int .i64 4] rfl z1_ ?_; (with_reducible refine (impl_within.calls (l0_3.length : Int) 2 4 false _ A39.out).mono ?_); rintro e w' ⟨rfl, ⟨nd, rfl⟩⟩; refine ⟨_, rfl, ?_⟩))
     go_meet
     case rel => exact ⟨_, (true), z5_, H', ⟨z73_⟩, ⟨z9_⟩, ⟨z24_⟩, ⟨z21_⟩, ⟨z27_⟩⟩
   case rest =>
    clear HC32
    try clear c1
    try clear c2
    try clear p2
    try clear c3
    try clear c4
    try clear c5
    try clear c5b0
    try clear c5b1
    try clear c6
    try clear p6
    try clear c9
    try clear c10
    try clear c11
    try clear c15
    try clear c16
    try clear c18
    try clear c25
    try clear c26
    try clear c28
    try clear c36
    try clear c37
    try clear c40
    try clear c41
    try clear c41b0
    try clear c41b1
    try clear c42
    try clear c42b0
    try clear c42b1
    try clear c43
    try clear c44
    try clear c46
    try clear c47
    try clear c49
    try clear c50
    try clear c52
    try clear c53
    try clear hcz17_0
    try clear hcz17_1
    try clear hcz17_2
    try clear hcz17_3
    try clear hcz17_4
    try clear hcz19_0
    try clear hcz20_0
    try clear hcz27_0
    try clear hcz27_1
    try clear hcz27_2
    try clear hcz27_3
    try clear hcz27_4
    try clear hcz29_0
    try clear hcz30_0
    try clear hcz38_0
    try clear hcz38_1
    try clear hcz38_2
    try clear hcz38_3
    try clear hcz38_4
    try clear hcz45_0
    try clear hcz45_1
    try clear hcz45_2
    try clear hcz45_3
    try clear hcz45_4
    try clear hcz48_0
    try clear hcz48_1
    try clear hcz48_2
    try clear hcz48_3
    try clear hcz48_4
    try clear hcz51_0
    try clear hcz51_1
    try clear hcz51_2
    try clear hcz51_3
    try clear hcz51_4
    try clear hcz54_0
    try clear hcz54_1
    try clear hcz54_2
    try clear hcz54_3
    try clear hcz54_4
    try clear hfz17_0
    try clear hfz17_1
    try clear hfz17_2
    try clear hfz17_3
    try clear hfz17_4
    try clear hfz19_0
    try clear hfz20_0
    try clear hfz27_0
    try clear hfz27_1
    try clear hfz27_2
    try clear hfz27_3
    try clear hfz27_4
    try clear hfz29_0
    try clear hfz30_0
    try clear hfz38_0
    try clear hfz38_1
    try clear hfz38_2
    try clear hfz38_3
    try clear hfz38_4
    try clear hfz45_0
    try clear hfz45_1
    try clear hfz45_2
    try clear hfz45_3
    try clear hfz45_4
    try clear hfz48_0
    try clear hfz48_1
    try clear hfz48_2
    try clear hfz48_3
    try clear hfz48_4
    try clear hfz51_0
    try clear hfz51_1
    try clear hfz51_2
    try clear hfz51_3
    try clear hfz51_4
    try clear hfz54_0
    try clear hfz54_1
    try clear hfz54_2
    try clear hfz54_3
    try clear hfz54_4
    obtain ⟨kq, x50_31, rfl, HA, HJ31, BK255, BK256, BK257, HB⟩ := hcut
    cases kq with
    | zero => exact absurd HA.out (by simp [impl_depthOf.j0])
    | succ kj31 =>
     have H := HA.out
     clear HA
     simp only [impl_depthOf.j0] at H
     by_cases c55 : x50_31 = true
     ·subst c55
      have H1 : (some 0) = some r := z38_
      clear H
      have H := H1
      clear H1
      obtain rfl := Option.some.inj H
      go_wp2
      go_ret
      exact ⟨z2_, z27_⟩
     ·replace c55 := Bool.eq_false_iff.mpr c55
      subst c55
      have H1 : ((slices_ContainsFunc_Msg_104.f kj31 l0_4 a1 a2).bind fun t260 => (if t260 = true then (some 0) else (impl_depthOf.l0 kj31 a3 0 a1 l0_3 (l0_3.length : Int) 0 false l0_1 l0_2 l0_3 l0_4 a2))) = some r := by rw [if_neg (show ¬ (false = true) by decide)] at H; exact H
      clear H
      have H := H1
      clear H1
      replace H := Option.bind_eq_some_iff.mp H
      obtain ⟨t260, A560, H⟩ := H
      replace H : (if t260 = true then (some 0) else (impl_depthOf.l0 kj31 a3 0 a1 l0_3 (l0_3.length : Int) 0 false l0_1 l0_2 l0_3 l0_4 a2)) = some r := H
      have A56 := q_ A560
      clear A560
      by_cases c57 : t260 = true
      ·subst c57
       have H1 : (some 0) = some r := z38_
       clear H
       have H := H1
       clear H1
       obtain rfl := Option.some.inj H
       have hnb58 := NB255_256.out
       have hnc58 := NB256_255.out
       have hnb59 := NB255_257.out
       have hnc59 := NB257_255.out
       obtain ⟨hcz60_0, hcz60_1, hcz60_2, hcz60_3, hcz60_4, hfz60_0, hfz60_1, hfz60_2, hfz60_3, hfz60_4⟩ := cs5_ BK255.out
       go_wp2_with (first | ((with_reducible refine gate_callee (f := 103) rfl ?_); refine goesL_ (some 54) rfl rfl Try.func103 (by kernel_rfl) rfl #[.slice A0_4 l0_4.length c0_4, .func (.func 104) #[] #[.pointer (some ⟨gb256, 0, none⟩), .pointer (some ⟨gb257, 0, none⟩)]] rfl z1_ ?_; (with_reducible refine (slices_ContainsFunc_Msg_104.calls kj31 _ _ l0_4 gb256 gb257 a1 a2 true _ ?side1 ?side2 ?side3 ?side4 A56.out).mono ?_); (case side1 => exact z142_); (case side2 => exact z165_); (case side3 => exact z200_); (case side4 => exact z201_); rintro e w61 ⟨rfl, hb⟩; refine ⟨_, rfl, ?_⟩; have n0_ := q_ (blk_below (g := gb256) (o := .cells #[.int .i64 a1] 3 (0, 0)) z24_ hb); have n1_ := q_ (blk_below (g := gb257) (o := .cells #[.int .i64 a2] 3 (0, 0)) z21_ hb); have n2_ := q_ (below_step z84_ hb); clear BK256; clear BK257; clear HB; have BK256 := n0_; have BK257 := n1_; have HB := n2_; clear n0_ n1_ n2_; (try clear hb); (try clear hb2); (try clear hk); (try clear hi)))
       go_ret
       exact ⟨z2_, z84_⟩
      ·replace c57 := Bool.eq_false_iff.mpr c57
       subst c57
       have H1 : (impl_depthOf.l0 kj31 a3 0 a1 l0_3 (l0_3.length : Int) 0 false l0_1 l0_2 l0_3 l0_4 a2) = some r := by rw [if_neg (show ¬ (false = true) by decide)] at H; exact H
       clear H
       have H := H1
       clear H1
       have H' := q_ H
       clear H
       have hnb62 := NB255_256.out
       have hnc62 := NB256_255.out
       have hnb63 := NB255_257.out
       have hnc63 := NB257_255.out
       obtain ⟨hcz64_0, hcz64_1, hcz64_2, hcz64_3, hcz64_4, hfz64_0, hfz64_1, hfz64_2, hfz64_3, hfz64_4⟩ := cs5_ BK255.out
       go_wp2_with (first | ((with_reducible refine gate_callee (f := 103) rfl ?_); refine goesL_ (some 54) rfl rfl Try.func103 (by kernel_rfl) rfl #[.slice A0_4 l0_4.length c0_4, .func (.func 104) #[] #[.pointer (some ⟨gb256, 0, none⟩), .pointer (some ⟨gb257, 0, none⟩)]] rfl z1_ ?_; (with_reducible refine (slices_ContainsFunc_Msg_104.calls kj31 _ _ l0_4 gb256 gb257 a1 a2 false _ ?side1 ?side2 ?side3 ?side4 A56.out).mono ?_); (case side1 => exact z142_); (case side2 => exact z165_); (case side3 => exact z200_); (case side4 => exact z201_); rintro e w65 ⟨rfl, hb⟩; refine ⟨_, rfl, ?_⟩; have n0_ := q_ (blk_below (g := gb255) (o := .cells #[.bool false, .slice A0_1 l0_1.length c0_1, .slice A0_2 l0_2.length c0_2, .slice A0_3 l0_3.length c0_3, .slice A0_4 l0_4.length c0_4] 34 (0, 0)) z9_ hb); have n1_ := q_ (blk_below (g := gb256) (o := .cells #[.int .i64 a1] 3 (0, 0)) z24_ hb); have n2_ := q_ (blk_below (g := gb257) (o := .cells #[.int .i64 a2] 3 (0, 0)) z21_ hb); have n3_ := q_ (below_step z27_ hb); clear BK255; clear BK256; clear BK257; clear HB; have BK255 := n0_; have BK256 := n1_; have BK257 := n2_; have HB := n3_; clear n0_ n1_ n2_ n3_; (try clear hb); (try clear hb2); (try clear hk); (try clear hi); have hnb66 := NB256_257.out; have hnc66 := NB257_256.out; have hcz67_0 : w65.cell? ⟨gb256, 0, none⟩ = some (.int .i64 a1) := (blk_cell BK256.out 0).trans rfl; have hfz67_0 := blk_frozen BK256.out 0; obtain ⟨hcz68_0, hcz68_1, hcz68_2, hcz68_3, hcz68_4, hfz68_0, hfz68_1, hfz68_2, hfz68_3, hfz68_4⟩ := cs5_ BK255.out))
       go_loopg [9, 10, 59] kj31 (fun kq v9 v10 v59 w' => ∃ (x9_2 : Int) (x10_2 : Int) (x59_2 : Int), v9 = .int .i64 x9_2 ∧ v10 = .int .i64 x10_2 ∧ v59 = .int .i64 x59_2 ∧ Aside0 (impl_depthOf.l0 kq a3 x9_2 x10_2 l0_3 (l0_3.length : Int) x59_2 false l0_1 l0_2 l0_3 l0_4 a2 = some r) ∧ Aside0 (kq ≤ kj31) ∧ Aside0 (w'.heap[gb255]? = some (.cells #[.bool false, (.slice A0_1 l0_1.length c0_1), (.slice A0_2 l0_2.length c0_2), (.slice A0_3 l0_3.length c0_3), (.slice A0_4 l0_4.length c0_4)] 34 (0, 0))) ∧ Aside0 (w'.heap[gb257]? = some (.cells #[.int .i64 a2] 3 (0, 0))) ∧ Aside0 (Below w.heap.size w w'))
       case atStart => exact ⟨(0), (a1), (0), z5_, z5_, z5_, H', ⟨Nat.le_refl _⟩, ⟨z9_⟩, ⟨z21_⟩, ⟨z27_⟩⟩
       case round =>
        clear H'
        try clear c1
        try clear c2
        try clear p2
        try clear c3
        try clear c4
        try clear c5
        try clear c5b0
        try clear c5b1
        try clear c6
        try clear p6
        try clear c9
        try clear c10
        try clear c11
        try clear c15
        try clear c16
        try clear c18
        try clear c25
        try clear c26
        try clear c28
        try clear c36
        try clear c37
        try clear c40
        try clear c41
        try clear c41b0
        try clear c41b1
        try clear c42
        try clear c42b0
        try clear c42b1
        try clear c43
        try clear c44
        try clear c46
        try clear c47
        try clear c49
        try clear c50
        try clear c52
        try clear c53
        try clear c55
        try clear c57
        try clear c58
        try clear c59
        try clear c62
        try clear c63
        try clear c64
        try clear p64
        try clear c66
        try clear hcz17_0
        try clear hcz17_1
        try clear hcz17_2
        try clear hcz17_3
        try clear hcz17_4
        try clear hcz19_0
        try clear hcz20_0
        try clear hcz27_0
        try clear hcz27_1
        try clear hcz27_2
        try clear hcz27_3
        try clear hcz27_4
        try clear hcz29_0
        try clear hcz30_0
        try clear hcz38_0
        try clear hcz38_1
        try clear hcz38_2
        try clear hcz38_3
        try clear hcz38_4
        try clear hcz45_0
        try clear hcz45_1
        try clear hcz45_2
        try clear hcz45_3
        try clear hcz45_4
        try clear hcz48_0
        try clear hcz48_1
        try clear hcz48_2
        try clear hcz48_3
        try clear hcz48_4
        try clear hcz51_0
        try clear hcz51_1
        try clear hcz51_2
        try clear hcz51_3
        try clear hcz51_4
        try clear hcz54_0
        try clear hcz54_1
        try clear hcz54_2
        try clear hcz54_3
        try clear hcz54_4
        try clear hcz60_0
        try clear hcz60_1
        try clear hcz60_2
        try clear hcz60_3
        try clear hcz60_4
        try clear hcz64_0
        try clear hcz64_1
        try clear hcz64_2
        try clear hcz64_3
        try clear hcz64_4
        try clear hcz67_0
        try clear hcz68_0
        try clear hcz68_1
        try clear hcz68_2
        try clear hcz68_3
        try clear hcz68_4
        try clear hfz17_0
        try clear hfz17_1
        try clear hfz17_2
        try clear hfz17_3
        try clear hfz17_4
        try clear hfz19_0
        try clear hfz20_0
        try clear hfz27_0
        try clear hfz27_1
        try clear hfz27_2
        try clear hfz27_3
        try clear hfz27_4
        try clear hfz29_0
        try clear hfz30_0
        try clear hfz38_0
        try clear hfz38_1
        try clear hfz38_2
        try clear hfz38_3
        try clear hfz38_4
        try clear hfz45_0
        try clear hfz45_1
        try clear hfz45_2
        try clear hfz45_3
        try clear hfz45_4
        try clear hfz48_0
        try clear hfz48_1
        try clear hfz48_2
        try clear hfz48_3
        try clear hfz48_4
        try clear hfz51_0
        try clear hfz51_1
        try clear hfz51_2
        try clear hfz51_3
        try clear hfz51_4
        try clear hfz54_0
        try clear hfz54_1
        try clear hfz54_2
        try clear hfz54_3
        try clear hfz54_4
        try clear hfz60_0
        try clear hfz60_1
        try clear hfz60_2
        try clear hfz60_3
        try clear hfz60_4
        try clear hfz64_0
        try clear hfz64_1
        try clear hfz64_2
        try clear hfz64_3
        try clear hfz64_4
        try clear hfz67_0
        try clear hfz68_0
        try clear hfz68_1
        try clear hfz68_2
        try clear hfz68_3
        try clear hfz68_4
        try clear p2
        try clear p6
        obtain ⟨x9_2, x10_2, x59_2, rfl, rfl, rfl, HA, HK2, BK255, BK257, HB⟩ := hrel
        cases gk with
        | zero => exact absurd HA.out (by simp [impl_depthOf.l0])
        | succ k2 =>
         have H := HA.out
         clear HA
         simp only [impl_depthOf.l0] at H
         by_cases c69 : x59_2 < (l0_3.length : Int)
         ·rw [if_pos c69] at H
          have c69b0 : decide (x59_2 < (l0_3.length : Int)) = true := decide_eq_true c69
          clear c69
          by_cases c70 : 0 ≤ x59_2
          ·rw [if_pos c70] at H
           have c70b0 : decide (0 ≤ x59_2) = true := decide_eq_true c70
           clear c70
           by_cases c71 : x59_2 < (l0_3.length : Int)
           ·rw [if_pos c71] at H
            have c71b0 : decide (x59_2 < (l0_3.length : Int)) = true := decide_eq_true c71
            clear c71
            have HC72 := q_ H
            clear H
            have p261 : 0 ≤ (x59_2 : Int) := of_decide_eq_true z3_
            have q261 : x59_2 < (l0_3.length : Int) := of_decide_eq_true z3_
            obtain ⟨ad261, A261_1, c261_1, A261_2, c261_2, A261_3, c261_3, A261_4, c261_4, e261, hx261_0, hx261_1, hx261_2, hx261_3, hx261_4, hl261_1, hi261_1, hl261_2, hi261_2, hl261_3, hi261_3, hl261_4, hi261_4⟩ := at_T34 HR0_3.out x59_2 p261 q261
            cases e261
            replace hx261_0 := up_ HB hx261_0
            replace hx261_1 := up_ HB hx261_1
            replace hx261_2 := up_ HB hx261_2
            replace hx261_3 := up_ HB hx261_3
            replace hx261_4 := up_ HB hx261_4
            have HR261_1 := q_ hi261_1
            have HC261_1 := q_ hl261_1
            clear hi261_1 hl261_1
            have HR261_2 := q_ hi261_2
            have HC261_2 := q_ hl261_2
            clear hi261_2 hl261_2
            have HR261_3 := q_ hi261_3
            have HC261_3 := q_ hl261_3
            clear hi261_3 hl261_3
            have HR261_4 := q_ hi261_4
            have HC261_4 := q_ hl261_4
            clear hi261_4 hl261_4
            replace p261 := eq_true p261
            replace q261 := eq_true q261
            go_upto_if 69 with (first | ((with_reducible refine gate_dst (N := 12) rfl ?_); (try (refine gate_guard (by rfl) ?_; dsimp only)); refine box_event ?hg (N := 12) ?hd (cs := #[.bool false, .slice none 0 0, .slice none 0 0, .slice none 0 0, .slice none 0 0]) (t := 34) ?hr ?_; (case hd => rfl); (case hg => rfl); (case hr => exact z141_); intro gb262 hg w73 hbox hb; have n0_ := q_ (blk_below (g := gb255) (o := .cells #[.bool false, .slice A0_1 l0_1.length c0_1, .slice A0_2 l0_2.length c0_2, .slice (some ad261) l0_3.length c0_3, .slice A0_4 l0_4.length c0_4] 34 (0, 0)) z9_ hb); have n1_ := q_ (blk_below (g := gb257) (o := .cells #[.int .i64 a2] 3 (0, 0)) z21_ hb); have n2_ := q_ (below_step z56_ hb); have n3_ := q_ (hbox); have n4_ := q_ ((by rw [hg]; exact (below_size z56_) : w.heap.size ≤ gb262)); have n5_ := q_ ((by rw [hg]; exact (below_size z56_) : w.heap.size ≤ gb262)); have n6_ := q_ ((by rw [hg]; exact Nat.ne_of_lt (blk_lt (g := gb255) (o := .cells #[.bool false, .slice A0_1 l0_1.length c0_1, .slice A0_2 l0_2.length c0_2, .slice (some ad261) l0_3.length c0_3, .slice A0_4 l0_4.length c0_4] 34 (0, 0)) z9_) : gb255 ≠ gb262)); have n7_ := q_ ((by rw [hg]; exact Nat.ne_of_gt (blk_lt (g := gb255) (o := .cells #[.bool false, .slice A0_1 l0_1.length c0_1, .slice A0_2 l0_2.length c0_2, .slice (some ad261) l0_3.length c0_3, .slice A0_4 l0_4.length c0_4] 34 (0, 0)) z9_) : gb262 ≠ gb255)); have n8_ := q_ ((by rw [hg]; exact Nat.ne_of_lt (blk_lt (g := gb257) (o := .cells #[.int .i64 a2] 3 (0, 0)) z21_) : gb257 ≠ gb262)); have n9_ := q_ ((by rw [hg]; exact Nat.ne_of_gt (blk_lt (g := gb257) (o := .cells #[.int .i64 a2] 3 (0, 0)) z21_) : gb262 ≠ gb257)); clear BK255; clear BK257; clear HB; have BK255 := n0_; have BK257 := n1_; have HB := n2_; have BK262 := n3_; have GW262 := n4_; have GE262 := n5_; have NB255_262 := n6_; have NB262_255 := n7_; have NB257_262 := n8_; have NB262_257 := n9_; clear n0_ n1_ n2_ n3_ n4_ n5_ n6_ n7_ n8_ n9_; clear hb hbox hg; have hnb74 := NB262_255.out; have hnc74 := NB255_262.out; have hnb75 := NB262_257.out; have hnc75 := NB257_262.out; obtain ⟨hcz76_0, hcz76_1, hcz76_2, hcz76_3, hcz76_4, hfz76_0, hfz76_1, hfz76_2, hfz76_3, hfz76_4⟩ := cs5_ BK262.out; have hnb77 := NB257_255.out; have hnc77 := NB255_257.out; have hcz78_0 : w73.cell? ⟨gb257, 0, none⟩ = some (.int .i64 a2) := (blk_cell BK257.out 0).trans rfl; have hfz78_0 := blk_frozen BK257.out 0; obtain ⟨hcz79_0, hcz79_1, hcz79_2, hcz79_3, hcz79_4, hfz79_0, hfz79_1, hfz79_2, hfz79_3, hfz79_4⟩ := cs5_ BK255.out))
            (try simp only [Act.put, List.setIfInBounds_toArray, List.set_cons_zero, List.set_cons_succ])
            go_cut [13] (fun v13 wc => ∃ (kq : Nat) (x13_71 : Int), v13 = .int .i64 x13_71 ∧ Aside0 (impl_depthOf.j2 kq a3 x9_2 x10_2 x59_2 x13_71 l0_3 (l0_3.length : Int) x59_2 false l0_1 l0_2 l0_3 l0_4 a2 ((rd_T34 l0_3 x59_2).f0) ((rd_T34 l0_3 x59_2).f1) ((rd_T34 l0_3 x59_2).f2) ((rd_T34 l0_3 x59_2).f3) ((rd_T34 l0_3 x59_2).f4) = some r) ∧ Aside0 (kq ≤ k2) ∧ Aside0 (wc.heap[gb255]? = some (.cells #[.bool false, (.slice A0_1 l0_1.length c0_1), (.slice A0_2 l0_2.length c0_2), (.slice (some ad261) l0_3.length c0_3), (.slice A0_4 l0_4.length c0_4)] 34 (0, 0))) ∧ Aside0 (wc.heap[gb257]? = some (.cells #[.int .i64 a2] 3 (0, 0))) ∧ Aside0 (wc.heap[gb262]? = some (.cells #[.bool ((rd_T34 l0_3 x59_2).f0), (.slice A261_1 ((rd_T34 l0_3 x59_2).f1).length c261_1), (.slice A261_2 ((rd_T34 l0_3 x59_2).f2).length c261_2), (.slice A261_3 ((rd_T34 l0_3 x59_2).f3).length c261_3), (.slice A261_4 ((rd_T34 l0_3 x59_2).f4).length c261_4)] 34 (0, 0))) ∧ Aside0 (Below w.heap.size w wc))
            case first =>
             have H := HC72.out
             clear HC72
             by_cases c80 : x59_2 < (l0_2.length : Int)
             ·rw [if_pos c80] at H
              have c80b0 : decide (x59_2 < (l0_2.length : Int)) = true := decide_eq_true c80
              clear c80
              (first | rw [c80b0] | (simp only [i64_w, i32_w]; rw [c80b0]) | skip)
              have H' := q_ H
              clear H
              have hnb81 := NB255_257.out
              have hnc81 := NB257_255.out
              have hnb82 := NB255_262.out
              have hnc82 := NB262_255.out
              obtain ⟨hcz83_0, hcz83_1, hcz83_2, hcz83_3, hcz83_4, hfz83_0, hfz83_1, hfz83_2, hfz83_3, hfz83_4⟩ := cs5_ BK255.out
              have p263 : 0 ≤ (x59_2 : Int) := of_decide_eq_true z3_
              have q263 : x59_2 < (l0_2.length : Int) := of_decide_eq_true z3_
              obtain ⟨ad263, e263, hx263_0⟩ := Kd.at_int HR0_2.out x59_2 p263 q263
              cases e263
              have hn263_0 : ad263.block ≠ gb262 := Nat.ne_of_lt (Nat.lt_of_lt_of_le (by have := World.block_lt_of_cell? _ _ hx263_0; first | rwa [add_block] at this | exact this) GW262.out)
              have hn263_1 : ad263.block ≠ gb262 := Nat.ne_of_lt (Nat.lt_of_lt_of_le (by have := World.block_lt_of_cell? _ _ hx263_0; first | rwa [add_block] at this | exact this) GW262.out)
              have hn263_2 : ad263.block ≠ gb262 := Nat.ne_of_lt (Nat.lt_of_lt_of_le (by have := World.block_lt_of_cell? _ _ hx263_0; first | rwa [add_block] at this | exact this) GW262.out)
              have hn263_3 : ad263.block ≠ gb262 := Nat.ne_of_lt (Nat.lt_of_lt_of_le (by have := World.block_lt_of_cell? _ _ hx263_0; first | rwa [add_block] at this | exact this) GW262.out)
              have hn263_4 : ad263.block ≠ gb262 := Nat.ne_of_lt (Nat.lt_of_lt_of_le (by have := World.block_lt_of_cell? _ _ hx263_0; first | rwa [add_block] at this | exact this) GW262.out)
              replace hx263_0 := up_ HB hx263_0
              replace hx263_0 := (cell_far (p := ⟨gb262, 0, none⟩) (by first | (rw [add_block]; exact hn263_0) | (show (Addr.add _ _).block ≠ _; rw [add_block]; exact hn263_0) | exact hn263_0) (.bool ((rd_T34 l0_3 x59_2).f0))).trans hx263_0
              replace hx263_0 := (cell_far (p := ⟨gb262, 1, none⟩) (by first | (rw [add_block]; exact hn263_1) | (show (Addr.add _ _).block ≠ _; rw [add_block]; exact hn263_1) | exact hn263_1) (.slice A261_1 ((rd_T34 l0_3 x59_2).f1).length c261_1)).trans hx263_0
              replace hx263_0 := (cell_far (p := ⟨gb262, 2, none⟩) (by first | (rw [add_block]; exact hn263_2) | (show (Addr.add _ _).block ≠ _; rw [add_block]; exact hn263_2) | exact hn263_2) (.slice A261_2 ((rd_T34 l0_3 x59_2).f2).length c261_2)).trans hx263_0
              replace hx263_0 := (cell_far (p := ⟨gb262, 3, none⟩) (by first | (rw [add_block]; exact hn263_3) | (show (Addr.add _ _).block ≠ _; rw [add_block]; exact hn263_3) | exact hn263_3) (.slice A261_3 ((rd_T34 l0_3 x59_2).f3).length c261_3)).trans hx263_0
              replace hx263_0 := (cell_far (p := ⟨gb262, 4, none⟩) (by first | (rw [add_block]; exact hn263_4) | (show (Addr.add _ _).block ≠ _; rw [add_block]; exact hn263_4) | exact hn263_4) (.slice A261_4 ((rd_T34 l0_3 x59_2).f4).length c261_4)).trans hx263_0
              clear hn263_0
              clear hn263_1
              clear hn263_2
              clear hn263_3
              clear hn263_4
              replace p263 := eq_true p263
              replace q263 := eq_true q263
              go_wp2
              go_meet
              case rel => exact ⟨_, (rd l0_2 x59_2), z5_, H', ⟨z104_⟩, ⟨z28_⟩, ⟨z29_⟩, ⟨z12_⟩, ⟨z17_⟩⟩
             ·rw [if_neg c80] at H
              have c80b0 : decide (x59_2 < (l0_2.length : Int)) = false := decide_eq_false c80
              clear c80
              (first | rw [c80b0] | (simp only [i64_w, i32_w]; rw [c80b0]) | skip)
              have H' := q_ H
              clear H
              go_wp2
              go_meet
              case rel => exact ⟨_, (a2), z5_, H', ⟨z104_⟩, ⟨z28_⟩, ⟨z29_⟩, ⟨z12_⟩, ⟨z17_⟩⟩
            case rest =>
             clear HC72
             try clear c1
             try clear c2
             try clear p2
             try clear q2
             try clear hx2
             try clear c3
             try clear c4
             try clear c5
             try clear c5b0
             try clear c5b1
             try clear c6
             try clear p6
             try clear c7
             try clear c8
             try clear c9
             try clear c10
             try clear c11
             try clear c15
             try clear c16
             try clear c18
             try clear c25
             try clear c26
             try clear p26
             try clear q26
             try clear hx26
             try clear c28
             try clear c36
             try clear c37
             try clear c40
             try clear c41
             try clear c41b0
             try clear c41b1
             try clear c42
             try clear c42b0
             try clear c42b1
             try clear c43
             try clear c44
             try clear c46
             try clear c47
             try clear c49
             try clear c50
             try clear c52
             try clear c53
             try clear c55
             try clear c57
             try clear c58
             try clear c59
             try clear c62
             try clear c63
             try clear c64
             try clear p64
             try clear c66
             try clear c69
             try clear c69b0
             try clear c70
             try clear c70b0
             try clear c71
             try clear c71b0
             try clear c74
             try clear c75
             try clear c77
             try clear c80
             try clear c80b0
             try clear c81
             try clear c82
             try clear hcz17_0
             try clear hcz17_1
             try clear hcz17_2
             try clear hcz17_3
             try clear hcz17_4
             try clear hcz19_0
             try clear hcz20_0
             try clear hcz27_0
             try clear hcz27_1
             try clear hcz27_2
             try clear hcz27_3
             try clear hcz27_4
             try clear hcz29_0
             try clear hcz30_0
             try clear hcz38_0
             try clear hcz38_1
             try clear hcz38_2
             try clear hcz38_3
             try clear hcz38_4
             try clear hcz45_0
             try clear hcz45_1
             try clear hcz45_2
             try clear hcz45_3
             try clear hcz45_4
             try clear hcz48_0
             try clear hcz48_1
             try clear hcz48_2
             try clear hcz48_3
             try clear hcz48_4
             try clear hcz51_0
             try clear hcz51_1
             try clear hcz51_2
             try clear hcz51_3
             try clear hcz51_4
             try clear hcz54_0
             try clear hcz54_1
             try clear hcz54_2
             try clear hcz54_3
             try clear hcz54_4
             try clear hcz60_0
             try clear hcz60_1
             try clear hcz60_2
             try clear hcz60_3
             try clear hcz60_4
             try clear hcz64_0
             try clear hcz64_1
             try clear hcz64_2
             try clear hcz64_3
             try clear hcz64_4
             try clear hcz67_0
             try clear hcz68_0
             try clear hcz68_1
             try clear hcz68_2
             try clear hcz68_3
             try clear hcz68_4
             try clear hcz76_0
             try clear hcz76_1
             try clear hcz76_2
             try clear hcz76_3
             try clear hcz76_4
             try clear hcz78_0
             try clear hcz79_0
             try clear hcz79_1
             try clear hcz79_2
             try clear hcz79_3
             try clear hcz79_4
             try clear hcz83_0
             try clear hcz83_1
             try clear hcz83_2
             try clear hcz83_3
             try clear hcz83_4
             try clear hfz17_0
             try clear hfz17_1
             try clear hfz17_2
             try clear hfz17_3
             try clear hfz17_4
             try clear hfz19_0
             try clear hfz20_0
             try clear hfz27_0
             try clear hfz27_1
             try clear hfz27_2
             try clear hfz27_3
             try clear hfz27_4
             try clear hfz29_0
             try clear hfz30_0
             try clear hfz38_0
             try clear hfz38_1
             try clear hfz38_2
             try clear hfz38_3
             try clear hfz38_4
             try clear hfz45_0
             try clear hfz45_1
             try clear hfz45_2
             try clear hfz45_3
             try clear hfz45_4
             try clear hfz48_0
             try clear hfz48_1
             try clear hfz48_2
             try clear hfz48_3
             try clear hfz48_4
             try clear hfz51_0
             try clear hfz51_1
             try clear hfz51_2
             try clear hfz51_3
             try clear hfz51_4
             try clear hfz54_0
             try clear hfz54_1
             try clear hfz54_2
             try clear hfz54_3
             try clear hfz54_4
             try clear hfz60_0
             try clear hfz60_1
             try clear hfz60_2
             try clear hfz60_3
             try clear hfz60_4
             try clear hfz64_0
             try clear hfz64_1
             try clear hfz64_2
             try clear hfz64_3
             try clear hfz64_4
             try clear hfz67_0
             try clear hfz68_0
             try clear hfz68_1
             try clear hfz68_2
             try clear hfz68_3
             try clear hfz68_4
             try clear hfz76_0
             try clear hfz76_1
             try clear hfz76_2
             try clear hfz76_3
             try clear hfz76_4
             try clear hfz78_0
             try clear hfz79_0
             try clear hfz79_1
             try clear hfz79_2
             try clear hfz79_3
             try clear hfz79_4
             try clear hfz83_0
             try clear hfz83_1
             try clear hfz83_2
             try clear hfz83_3
             try clear hfz83_4
             try clear hx261_0
             try clear hx261_1
             try clear hx261_2
             try clear hx261_3
             try clear hx261_4
             try clear hx263_0
             try clear p2
             try clear p261
             try clear p263
             try clear p6
             try clear p64
             try clear q261
             try clear q263
             obtain ⟨kq, x13_71, rfl, HA, HJ71, BK255, BK257, BK262, HB⟩ := hcut
             cases kq with
             | zero => exact absurd HA.out (by simp [impl_depthOf.j2])
             | succ kj71 =>
              have H := HA.out
              clear HA
              simp only [impl_depthOf.j2] at H
              have HC84 := q_ H
              clear H
              go_upto_region 19 with (fail)
              go_cut [94] (fun v94 wc => ∃ (kq : Nat) (x94_83 : Bool), v94 = .bool x94_83 ∧ Aside0 (impl_depthOf.j3 kq a3 x9_2 x10_2 x59_2 x13_71 l0_3 (l0_3.length : Int) x59_2 x94_83 false l0_1 l0_2 l0_3 l0_4 a2 ((rd_T34 l0_3 x59_2).f0) ((rd_T34 l0_3 x59_2).f1) ((rd_T34 l0_3 x59_2).f2) ((rd_T34 l0_3 x59_2).f3) ((rd_T34 l0_3 x59_2).f4) = some r) ∧ Aside0 (kq ≤ kj71) ∧ Aside0 (wc.heap[gb255]? = some (.cells #[.bool false, (.slice A0_1 l0_1.length c0_1), (.slice A0_2 l0_2.length c0_2), (.slice (some ad261) l0_3.length c0_3), (.slice A0_4 l0_4.length c0_4)] 34 (0, 0))) ∧ Aside0 (wc.heap[gb257]? = some (.cells #[.int .i64 a2] 3 (0, 0))) ∧ Aside0 (wc.heap[gb262]? = some (.cells #[.bool ((rd_T34 l0_3 x59_2).f0), (.slice A261_1 ((rd_T34 l0_3 x59_2).f1).length c261_1), (.slice A261_2 ((rd_T34 l0_3 x59_2).f2).length c261_2), (.slice A261_3 ((rd_T34 l0_3 x59_2).f3).length c261_3), (.slice A261_4 ((rd_T34 l0_3 x59_2).f4).length c261_4)] 34 (0, 0))) ∧ Aside0 (Below w.heap.size w wc))
              case first =>
               have H := HC84.out
               clear HC84
               by_cases c85 : x59_2 < (l0_2.length : Int)
               ·rw [if_pos c85] at H
                have c85b0 : decide (x59_2 < (l0_2.length : Int)) = true := decide_eq_true c85
                clear c85
                (first | rw [c85b0] | (simp only [i64_w, i32_w]; rw [c85b0]) | skip)
                replace H := Option.bind_eq_some_iff.mp H
                obtain ⟨t264, A860, H⟩ := H
                replace H : (if t264 = true then (if x13_71 ≤ x10_2 then (impl_depthOf.j3 kj71 a3 x9_2 x10_2 x59_2 x13_71 l0_3 (l0_3.length : Int) x59_2 true false l0_1 l0_2 l0_3 l0_4 a2 ((rd_T34 l0_3 x59_2).f0) ((rd_T34 l0_3 x59_2).f1) ((rd_T34 l0_3 x59_2).f2) ((rd_T34 l0_3 x59_2).f3) ((rd_T34 l0_3 x59_2).f4)) else (impl_depthOf.j3 kj71 a3 x9_2 x10_2 x59_2 x13_71 l0_3 (l0_3.length : Int) x59_2 (decide (x13_71 ≥ a2)) false l0_1 l0_2 l0_3 l0_4 a2 ((rd_T34 l0_3 x59_2).f0) ((rd_T34 l0_3 x59_2).f1) ((rd_T34 l0_3 x59_2).f2) ((rd_T34 l0_3 x59_2).f3) ((rd_T34 l0_3 x59_2).f4))) else (impl_depthOf.j3 kj71 a3 x9_2 x10_2 x59_2 x13_71 l0_3 (l0_3.length : Int) x59_2 true false l0_1 l0_2 l0_3 l0_4 a2 ((rd_T34 l0_3 x59_2).f0) ((rd_T34 l0_3 x59_2).f1) ((rd_T34 l0_3 x59_2).f2) ((rd_T34 l0_3 x59_2).f3) ((rd_T34 l0_3 x59_2).f4))) = some r := H
                have A86 := q_ A860
                clear A860
                by_cases c87 : t264 = true
                ·subst c87
                 have H1 : (if x13_71 ≤ x10_2 then (impl_depthOf.j3 kj71 a3 x9_2 x10_2 x59_2 x13_71 l0_3 (l0_3.length : Int) x59_2 true false l0_1 l0_2 l0_3 l0_4 a2 ((rd_T34 l0_3 x59_2).f0) ((rd_T34 l0_3 x59_2).f1) ((rd_T34 l0_3 x59_2).f2) ((rd_T34 l0_3 x59_2).f3) ((rd_T34 l0_3 x59_2).f4)) else (impl_depthOf.j3 kj71 a3 x9_2 x10_2 x59_2 x13_71 l0_3 (l0_3.length : Int) x59_2 (decide (x13_71 ≥ a2)) false l0_1 l0_2 l0_3 l0_4 a2 ((rd_T34 l0_3 x59_2).f0) ((rd_T34 l0_3 x59_2).f1) ((rd_T34 l0_3 x59_2).f2) ((rd_T34 l0_3 x59_2).f3) ((rd_T34 l0_3 x59_2).f4))) = some r := z38_
                 clear H
                 have H := H1
                 clear H1
                 by_cases c88 : x13_71 ≤ x10_2
                 ·rw [if_pos c88] at H
                  have c88b0 : decide (x13_71 ≤ x10_2) = true := decide_eq_true c88
                  clear c88
                  have H' := q_ H
                  clear H
                  have hnb89 := NB255_257.out
                  have hnc89 := NB257_255.out
                  have hnb90 := NB255_262.out
                  have hnc90 := NB262_255.out
                  obtain ⟨hcz91_0, hcz91_1, hcz91_2, hcz91_3, hcz91_4, hfz91_0, hfz91_1, hfz91_2, hfz91_3, hfz91_4⟩ := cs5_ BK255.out
                  go_wp2_with (first | (go_at_call 102; (with_reducible refine (impl_within.calls x13_71 1 999 true _ A86.out).mono ?_); rintro e w' ⟨rfl, ⟨nd, rfl⟩⟩))
                  go_meet
                  case rel => exact ⟨_, (true), z5_, H', ⟨z87_⟩, ⟨z9_⟩, ⟨z21_⟩, ⟨z62_⟩, ⟨z17_⟩⟩
                 ·rw [if_neg c88] at H
                  have c88b0 : decide (x13_71 ≤ x10_2) = false := decide_eq_false c88
                  clear c88
                  have H' := q_ H
                  clear H
                  have hnb92 := NB255_257.out
                  have hnc92 := NB257_255.out
                  have hnb93 := NB255_262.out
                  have hnc93 := NB262_255.out
                  obtain ⟨hcz94_0, hcz94_1, hcz94_2, hcz94_3, hcz94_4, hfz94_0, hfz94_1, hfz94_2, hfz94_3, hfz94_4⟩ := cs5_ BK255.out
                  go_wp2_with (first | (go_at_call 102; (with_reducible refine (impl_within.calls x13_71 1 999 true _ A86.out).mono ?_); rintro e w' ⟨rfl, ⟨nd, rfl⟩⟩; have hnb95 := NB257_262.out; have hnc95 := NB262_257.out; have hcz96_0 : wc.cell? ⟨gb257, 0, none⟩ = some (.int .i64 a2) := (blk_cell BK257.out 0).trans rfl; have hfz96_0 := blk_frozen BK257.out 0))
                  go_meet
                  case rel => exact ⟨_, (decide (x13_71 ≥ a2)), z5_, H', ⟨z87_⟩, ⟨z9_⟩, ⟨z21_⟩, ⟨z62_⟩, ⟨z17_⟩⟩
                ·replace c87 := Bool.eq_false_iff.mpr c87
                 subst c87
                 have H1 : (impl_depthOf.j3 kj71 a3 x9_2 x10_2 x59_2 x13_71 l0_3 (l0_3.length : Int) x59_2 true false l0_1 l0_2 l0_3 l0_4 a2 ((rd_T34 l0_3 x59_2).f0) ((rd_T34 l0_3 x59_2).f1) ((rd_T34 l0_3 x59_2).f2) ((rd_T34 l0_3 x59_2).f3) ((rd_T34 l0_3 x59_2).f4)) = some r := by rw [if_neg (show ¬ (false = true) by decide)] at H; exact H
                 clear H
                 have H := H1
                 clear H1
                 have H' := q_ H
                 clear H
                 have hnb97 := NB255_257.out
                 have hnc97 := NB257_255.out
                 have hnb98 := NB255_262.out
                 have hnc98 := NB262_255.out
                 obtain ⟨hcz99_0, hcz99_1, hcz99_2, hcz99_3, hcz99_4, hfz99_0, hfz99_1, hfz99_2, hfz99_3, hfz99_4⟩ := cs5_ BK255.out
                 go_wp2_with (first | (go_at_call 102; (with_reducible refine (impl_within.calls x13_71 1 999 false _ A86.out).mono ?_); rintro e w' ⟨rfl, ⟨nd, rfl⟩⟩))
                 go_meet
                 case rel => exact ⟨_, (true), z5_, H', ⟨z87_⟩, ⟨z9_⟩, ⟨z21_⟩, ⟨z62_⟩, ⟨z17_⟩⟩
               ·rw [if_neg c85] at H
                have c85b0 : decide (x59_2 < (l0_2.length : Int)) = false := decide_eq_false c85
                clear c85
                (first | rw [c85b0] | (simp only [i64_w, i32_w]; rw [c85b0]) | skip)
                have H' := q_ H
                clear H
                have hnb100 := NB255_257.out
                have hnc100 := NB257_255.out
                have hnb101 := NB255_262.out
                have hnc101 := NB262_255.out
                obtain ⟨hcz102_0, hcz102_1, hcz102_2, hcz102_3, hcz102_4, hfz102_0, hfz102_1, hfz102_2, hfz102_3, hfz102_4⟩ := cs5_ BK255.out
                go_wp2
                go_meet
                case rel => exact ⟨_, (false), z5_, H', ⟨z87_⟩, ⟨z9_⟩, ⟨z21_⟩, ⟨z62_⟩, ⟨z17_⟩⟩
              case rest =>
               clear HC84
               try clear c1
               try clear c2
               try clear p2
               try clear q2
               try clear hx2
               try clear c3
               try clear c4
               try clear c5
               try clear c5b0
               try clear c5b1
               try clear c6
               try clear p6
               try clear c7
               try clear c8
               try clear c9
               try clear c10
               try clear c11
               try clear c15
               try clear c16
               try clear c18
               try clear c25
               try clear c26
               try clear p26
               try clear q26
               try clear hx26
               try clear c28
               try clear c36
               try clear c37
               try clear c40
               try clear c41
               try clear c41b0
               try clear c41b1
               try clear c42
               try clear c42b0
               try clear c42b1
               try clear c43
               try clear c44
               try clear c46
               try clear c47
               try clear c49
               try clear c50
               try clear c52
               try clear c53
               try clear c55
               try clear c57
               try clear c58
               try clear c59
               try clear c62
               try clear c63
               try clear c64
               try clear p64
               try clear c66
               try clear c69
               try clear c69b0
               try clear c70
               try clear c70b0
               try clear c71
               try clear c71b0
               try clear c74
               try clear c75
               try clear c77
               try clear c80
               try clear c80b0
               try clear c81
               try clear c82
               try clear c85
               try clear c85b0
               try clear c87
               try clear c88
               try clear c88b0
               try clear c89
               try clear c90
               try clear c92
               try clear c93
               try clear c95
               try clear c97
               try clear c98
               try clear c100
               try clear c101
               try clear hcz102_0
               try clear hcz102_1
               try clear hcz102_2
               try clear hcz102_3
               try clear hcz102_4
               try clear hcz17_0
               try clear hcz17_1
               try clear hcz17_2
               try clear hcz17_3
               try clear hcz17_4
               try clear hcz19_0
               try clear hcz20_0
               try clear hcz27_0
               try clear hcz27_1
               try clear hcz27_2
               try clear hcz27_3
               try clear hcz27_4
               try clear hcz29_0
               try clear hcz30_0
               try clear hcz38_0
               try clear hcz38_1
               try clear hcz38_2
               try clear hcz38_3
               try clear hcz38_4
               try clear hcz45_0
               try clear hcz45_1
               try clear hcz45_2
               try clear hcz45_3
               try clear hcz45_4
               try clear hcz48_0
               try clear hcz48_1
               try clear hcz48_2
               try clear hcz48_3
               try clear hcz48_4
               try clear hcz51_0
               try clear hcz51_1
               try clear hcz51_2
               try clear hcz51_3
               try clear hcz51_4
               try clear hcz54_0
               try clear hcz54_1
               try clear hcz54_2
               try clear hcz54_3
               try clear hcz54_4
               try clear hcz60_0
               try clear hcz60_1
               try clear hcz60_2
               try clear hcz60_3
               try clear hcz60_4
               try clear hcz64_0
               try clear hcz64_1
               try clear hcz64_2
               try clear hcz64_3
               try clear hcz64_4
               try clear hcz67_0
               try clear hcz68_0
               try clear hcz68_1
               try clear hcz68_2
               try clear hcz68_3
               try clear hcz68_4
               try clear hcz76_0
               try clear hcz76_1
               try clear hcz76_2
               try clear hcz76_3
               try clear hcz76_4
               try clear hcz78_0
               try clear hcz79_0
               try clear hcz79_1
               try clear hcz79_2
               try clear hcz79_3
               try clear hcz79_4
               try clear hcz83_0
               try clear hcz83_1
               try clear hcz83_2
               try clear hcz83_3
               try clear hcz83_4
               try clear hcz91_0
               try clear hcz91_1
               try clear hcz91_2
               try clear hcz91_3
               try clear hcz91_4
               try clear hcz94_0
               try clear hcz94_1
               try clear hcz94_2
               try clear hcz94_3
               try clear hcz94_4
               try clear hcz96_0
               try clear hcz99_0
               try clear hcz99_1
               try clear hcz99_2
               try clear hcz99_3
               try clear hcz99_4
               try clear hfz102_0
               try clear hfz102_1
               try clear hfz102_2
               try clear hfz102_3
               try clear hfz102_4
               try clear hfz17_0
               try clear hfz17_1
               try clear hfz17_2
               try clear hfz17_3
               try clear hfz17_4
               try clear hfz19_0
               try clear hfz20_0
               try clear hfz27_0
               try clear hfz27_1
               try clear hfz27_2
               try clear hfz27_3
               try clear hfz27_4
               try clear hfz29_0
               try clear hfz30_0
               try clear hfz38_0
               try clear hfz38_1
               try clear hfz38_2
               try clear hfz38_3
               try clear hfz38_4
               try clear hfz45_0
               try clear hfz45_1
               try clear hfz45_2
               try clear hfz45_3
               try clear hfz45_4
               try clear hfz48_0
               try clear hfz48_1
               try clear hfz48_2
               try clear hfz48_3
               try clear hfz48_4
               try clear hfz51_0
               try clear hfz51_1
               try clear hfz51_2
               try clear hfz51_3
               try clear hfz51_4
               try clear hfz54_0
               try clear hfz54_1
               try clear hfz54_2
               try clear hfz54_3
               try clear hfz54_4
               try clear hfz60_0
               try clear hfz60_1
               try clear hfz60_2
               try clear hfz60_3
               try clear hfz60_4
               try clear hfz64_0
               try clear hfz64_1
               try clear hfz64_2
               try clear hfz64_3
               try clear hfz64_4
               try clear hfz67_0
               try clear hfz68_0
               try clear hfz68_1
               try clear hfz68_2
               try clear hfz68_3
               try clear hfz68_4
               try clear hfz76_0
               try clear hfz76_1
               try clear hfz76_2
               try clear hfz76_3
               try clear hfz76_4
               try clear hfz78_0
               try clear hfz79_0
               try clear hfz79_1
               try clear hfz79_2
               try clear hfz79_3
               try clear hfz79_4
               try clear hfz83_0
               try clear hfz83_1
               try clear hfz83_2
               try clear hfz83_3
               try clear hfz83_4
               try clear hfz91_0
               try clear hfz91_1
               try clear hfz91_2
               try clear hfz91_3
               try clear hfz91_4
               try clear hfz94_0
               try clear hfz94_1
               try clear hfz94_2
               try clear hfz94_3
               try clear hfz94_4
               try clear hfz96_0
               try clear hfz99_0
               try clear hfz99_1
               try clear hfz99_2
               try clear hfz99_3
               try clear hfz99_4
               try clear hx261_0
               try clear hx261_1
               try clear hx261_2
               try clear hx261_3
               try clear hx261_4
               try clear hx263_0
               try clear p2
               try clear p26
               try clear p261
               try clear p263
               try clear p6
               try clear p64
               try clear q2
               try clear q26
               try clear q261
               try clear q263
               obtain ⟨kq, x94_83, rfl, HA, HJ83, BK255, BK257, BK262, HB⟩ := hcut
               cases kq with
               | zero => exact absurd HA.out (by simp [impl_depthOf.j3])
               | succ kj83 =>
                have H := HA.out
                clear HA
                simp only [impl_depthOf.j3] at H
                by_cases c103 : x94_83 = true
                ·subst c103
                 have H1 : (some 0) = some r := z38_
                 clear H
                 have H := H1
                 clear H1
                 obtain rfl := Option.some.inj H
                 go_wp2
                 go_ret
                 exact ⟨z2_, z17_⟩
                ·replace c103 := Bool.eq_false_iff.mpr c103
                 subst c103
                 have H1 : ((impl_depthOf.f kj83 ((rd_T34 l0_3 x59_2).f0) ((rd_T34 l0_3 x59_2).f1) ((rd_T34 l0_3 x59_2).f2) ((rd_T34 l0_3 x59_2).f3) ((rd_T34 l0_3 x59_2).f4) x10_2 x13_71 (wrap64 (a3 - 1))).bind fun t265 => (if t265 = 0 then (some 0) else (if x59_2 > 0 then (if t265 = x9_2 then (impl_depthOf.l0 kj83 a3 t265 x13_71 l0_3 (l0_3.length : Int) (wrap64 (x59_2 + 1)) false l0_1 l0_2 l0_3 l0_4 a2) else (some 0)) else (impl_depthOf.l0 kj83 a3 t265 x13_71 l0_3 (l0_3.length : Int) (wrap64 (x59_2 + 1)) false l0_1 l0_2 l0_3 l0_4 a2)))) = some r := by rw [if_neg (show ¬ (false = true) by decide)] at H; exact H
                 clear H
                 have H := H1
                 clear H1
                 replace H := Option.bind_eq_some_iff.mp H
                 obtain ⟨t265, A1040, H⟩ := H
                 replace H : (if t265 = 0 then (some 0) else (if x59_2 > 0 then (if t265 = x9_2 then (impl_depthOf.l0 kj83 a3 t265 x13_71 l0_3 (l0_3.length : Int) (wrap64 (x59_2 + 1)) false l0_1 l0_2 l0_3 l0_4 a2) else (some 0)) else (impl_depthOf.l0 kj83 a3 t265 x13_71 l0_3 (l0_3.length : Int) (wrap64 (x59_2 + 1)) false l0_1 l0_2 l0_3 l0_4 a2))) = some r := H
                 have A104 := q_ A1040
                 clear A1040
                 by_cases c105 : t265 = 0
                 ·rw [if_pos c105] at H
                  have c105b0 : (t265 == 0) = true := beq_iff_eq.mpr c105
                  have c105b1 : (t265 != 0) = false := bne_eq_false_iff_eq.mpr c105
                  clear c105
                  obtain rfl := Option.some.inj H
                  have hnb106 := NB262_255.out
                  have hnc106 := NB255_262.out
                  have hnb107 := NB262_257.out
                  have hnc107 := NB257_262.out
                  obtain ⟨hcz108_0, hcz108_1, hcz108_2, hcz108_3, hcz108_4, hfz108_0, hfz108_1, hfz108_2, hfz108_3, hfz108_4⟩ := cs5_ BK262.out
                  go_wp2_with (first | ((with_reducible refine gate_callee (f := 64) rfl ?_); refine goesL_ (some 100) rfl rfl Try.func64 (by kernel_rfl) rfl #[.agg #[.bool ((rd_T34 l0_3 x59_2).f0), .slice A261_1 ((rd_T34 l0_3 x59_2).f1).length c261_1, .slice A261_2 ((rd_T34 l0_3 x59_2).f2).length c261_2, .slice A261_3 ((rd_T34 l0_3 x59_2).f3).length c261_3, .slice A261_4 ((rd_T34 l0_3 x59_2).f4).length c261_4], .int .i64 x10_2, .int .i64 x13_71, .int .i64 (wrap64 (a3 - 1))] rfl z1_ ?_; (with_reducible refine (ih kj83 z81_ ((rd_T34 l0_3 x59_2).f0) _ _ ((rd_T34 l0_3 x59_2).f1) _ _ ((rd_T34 l0_3 x59_2).f2) _ _ ((rd_T34 l0_3 x59_2).f3) _ _ ((rd_T34 l0_3 x59_2).f4) x10_2 x13_71 (wrap64 (a3 - 1)) t265 _ ?side1 ?side2 ?side3 ?side4 ?side5 ?side6 ?side7 ?side8 A104.out).mono ?_); (case side1 => exact z150_); (case side2 => exact HC261_1.out); (case side3 => exact z151_); (case side4 => exact HC261_2.out); (case side5 => exact z152_); (case side6 => exact HC261_3.out); (case side7 => exact z153_); (case side8 => exact HC261_4.out); rintro e w109 ⟨rfl, hb⟩; refine ⟨_, rfl, ?_⟩; have n0_ := q_ (below_step z0_ hb); clear HB; have HB := n0_; clear n0_; (try clear hb); (try clear hb2); (try clear hk); (try clear hi)))
                  go_ret
                  exact ⟨z2_, z0_⟩
                 ·rw [if_neg c105] at H
                  have c105b0 : (t265 == 0) = false := beq_eq_false_iff_ne.mpr c105
                  have c105b1 : (t265 != 0) = true := bne_iff_ne.mpr c105
                  by_cases c110 : x59_2 > 0
                  ·rw [if_pos c110] at H
                   have c110b0 : decide (0 < x59_2) = true := decide_eq_true c110
                   clear c110
                   by_cases c111 : t265 = x9_2
                   ·rw [if_pos c111] at H
                    have c111b0 : (t265 == x9_2) = true := beq_iff_eq.mpr c111
                    have c111b1 : (t265 != x9_2) = false := bne_eq_false_iff_eq.mpr c111
                    clear c111
                    have H' := q_ H
                    clear H
                    have hnb112 := NB262_255.out
                    have hnc112 := NB255_262.out
                    have hnb113 := NB262_257.out
                    have hnc113 := NB257_262.out
                    obtain ⟨hcz114_0, hcz114_1, hcz114_2, hcz114_3, hcz114_4, hfz114_0, hfz114_1, hfz114_2, hfz114_3, hfz114_4⟩ := cs5_ BK262.out
                    go_wp2_with (first | ((with_reducible refine gate_callee (f := 64) rfl ?_); refine goesL_ (some 100) rfl rfl Try.func64 (by kernel_rfl) rfl #[.agg #[.bool ((rd_T34 l0_3 x59_2).f0), .slice A261_1 ((rd_T34 l0_3 x59_2).f1).length c261_1, .slice A261_2 ((rd_T34 l0_3 x59_2).f2).length c261_2, .slice A261_3 ((rd_T34 l0_3 x59_2).f3).length c261_3, .slice A261_4 ((rd_T34 l0_3 x59_2).f4).length c261_4], .int .i64 x10_2, .int .i64 x13_71, .int .i64 (wrap64 (a3 - 1))] rfl z1_ ?_; (with_reducible refine (ih kj83 z81_ ((rd_T34 l0_3 x59_2).f0) _ _ ((rd_T34 l0_3 x59_2).f1) _ _ ((rd_T34 l0_3 x59_2).f2) _ _ ((rd_T34 l0_3 x59_2).f3) _ _ ((rd_T34 l0_3 x59_2).f4) x10_2 x13_71 (wrap64 (a3 - 1)) t265 _ ?side1 ?side2 ?side3 ?side4 ?side5 ?side6 ?side7 ?side8 A104.out).mono ?_); (case side1 => exact z150_); (case side2 => exact HC261_1.out); (case side3 => exact z151_); (case side4 => exact HC261_2.out); (case side5 => exact z152_); (case side6 => exact HC261_3.out); (case side7 => exact z153_); (case side8 => exact HC261_4.out); rintro e w115 ⟨rfl, hb⟩; refine ⟨_, rfl, ?_⟩; have n0_ := q_ (blk_below (g := gb255) (o := .cells #[.bool false, .slice A0_1 l0_1.length c0_1, .slice A0_2 l0_2.length c0_2, .slice (some ad261) l0_3.length c0_3, .slice A0_4 l0_4.length c0_4] 34 (0, 0)) z9_ hb); have n1_ := q_ (blk_below (g := gb257) (o := .cells #[.int .i64 a2] 3 (0, 0)) z21_ hb); have n2_ := q_ (blk_below (g := gb262) (o := .cells #[.bool ((rd_T34 l0_3 x59_2).f0), .slice A261_1 ((rd_T34 l0_3 x59_2).f1).length c261_1, .slice A261_2 ((rd_T34 l0_3 x59_2).f2).length c261_2, .slice A261_3 ((rd_T34 l0_3 x59_2).f3).length c261_3, .slice A261_4 ((rd_T34 l0_3 x59_2).f4).length c261_4] 34 (0, 0)) z62_ hb); have n3_ := q_ (below_step z17_ hb); clear BK255; clear BK257; clear BK262; clear HB; have BK255 := n0_; have BK257 := n1_; have BK262 := n2_; have HB := n3_; clear n0_ n1_ n2_ n3_; (try clear hb); (try clear hb2); (try clear hk); (try clear hi)))
                    go_roundg kj83
                    case measure => have := HJ31.out; have := HK2.out; have := HJ71.out; have := HJ83.out; omega
                    case rel => exact ⟨(t265), (x13_71), (wrap64 (x59_2 + 1)), z5_, z5_, z5_, H', ⟨z81_⟩, ⟨z9_⟩, ⟨z21_⟩, ⟨z17_⟩⟩
                   ·rw [if_neg c111] at H
                    have c111b0 : (t265 == x9_2) = false := beq_eq_false_iff_ne.mpr c111
                    have c111b1 : (t265 != x9_2) = true := bne_iff_ne.mpr c111
                    obtain rfl := Option.some.inj H
                    have hnb116 := NB262_255.out
                    have hnc116 := NB255_262.out
                    have hnb117 := NB262_257.out
                    have hnc117 := NB257_262.out
                    obtain ⟨hcz118_0, hcz118_1, hcz118_2, hcz118_3, hcz118_4, hfz118_0, hfz118_1, hfz118_2, hfz118_3, hfz118_4⟩ := cs5_ BK262.out
                    go_wp2_with (first | ((with_reducible refine gate_callee (f := 64) rfl ?_); refine goesL_ (some 100) rfl rfl Try.func64 (by kernel_rfl) rfl #[.agg #[.bool ((rd_T34 l0_3 x59_2).f0), .slice A261_1 ((rd_T34 l0_3 x59_2).f1).length c261_1, .slice A261_2 ((rd_T34 l0_3 x59_2).f2).length c261_2, .slice A261_3 ((rd_T34 l0_3 x59_2).f3).length c261_3, .slice A261_4 ((rd_T34 l0_3 x59_2).f4).length c261_4], .int .i64 x10_2, .int .i64 x13_71, .int .i64 (wrap64 (a3 - 1))] rfl z1_ ?_; (with_reducible refine (ih kj83 z81_ ((rd_T34 l0_3 x59_2).f0) _ _ ((rd_T34 l0_3 x59_2).f1) _ _ ((rd_T34 l0_3 x59_2).f2) _ _ ((rd_T34 l0_3 x59_2).f3) _ _ ((rd_T34 l0_3 x59_2).f4) x10_2 x13_71 (wrap64 (a3 - 1)) t265 _ ?side1 ?side2 ?side3 ?side4 ?side5 ?side6 ?side7 ?side8 A104.out).mono ?_); (case side1 => exact z150_); (case side2 => exact HC261_1.out); (case side3 => exact z151_); (case side4 => exact HC261_2.out); (case side5 => exact z152_); (case side6 => exact HC261_3.out); (case side7 => exact z153_); (case side8 => exact HC261_4.out); rintro e w119 ⟨rfl, hb⟩; refine ⟨_, rfl, ?_⟩; have n0_ := q_ (below_step z0_ hb); clear HB; have HB := n0_; clear n0_; (try clear hb); (try clear hb2); (try clear hk); (try clear hi)))
                    go_ret
                    exact ⟨z2_, z0_⟩
                  ·rw [if_neg c110] at H
                   have c110b0 : decide (0 < x59_2) = false := decide_eq_false c110
                   clear c110
                   have H' := q_ H
                   clear H
                   have hnb120 := NB262_255.out
                   have hnc120 := NB255_262.out
                   have hnb121 := NB262_257.out
                   have hnc121 := NB257_262.out
                   obtain ⟨hcz122_0, hcz122_1, hcz122_2, hcz122_3, hcz122_4, hfz122_0, hfz122_1, hfz122_2, hfz122_3, hfz122_4⟩ := cs5_ BK262.out
                   go_wp2_with (first | ((with_reducible refine gate_callee (f := 64) rfl ?_); refine goesL_ (some 100) rfl rfl Try.func64 (by kernel_rfl) rfl #[.agg #[.bool ((rd_T34 l0_3 x59_2).f0), .slice A261_1 ((rd_T34 l0_3 x59_2).f1).length c261_1, .slice A261_2 ((rd_T34 l0_3 x59_2).f2).length c261_2, .slice A261_3 ((rd_T34 l0_3 x59_2).f3).length c261_3, .slice A261_4 ((rd_T34 l0_3 x59_2).f4).length c261_4], .int .i64 x10_2, .int .i64 x13_71, .int .i64 (wrap64 (a3 - 1))] rfl z1_ ?_; (with_reducible refine (ih kj83 z81_ ((rd_T34 l0_3 x59_2).f0) _ _ ((rd_T34 l0_3 x59_2).f1) _ _ ((rd_T34 l0_3 x59_2).f2) _ _ ((rd_T34 l0_3 x59_2).f3) _ _ ((rd_T34 l0_3 x59_2).f4) x10_2 x13_71 (wrap64 (a3 - 1)) t265 _ ?side1 ?side2 ?side3 ?side4 ?side5 ?side6 ?side7 ?side8 A104.out).mono ?_); (case side1 => exact z150_); (case side2 => exact HC261_1.out); (case side3 => exact z151_); (case side4 => exact HC261_2.out); (case side5 => exact z152_); (case side6 => exact HC261_3.out); (case side7 => exact z153_); (case side8 => exact HC261_4.out); rintro e w123 ⟨rfl, hb⟩; refine ⟨_, rfl, ?_⟩; have n0_ := q_ (blk_below (g := gb255) (o := .cells #[.bool false, .slice A0_1 l0_1.length c0_1, .slice A0_2 l0_2.length c0_2, .slice (some ad261) l0_3.length c0_3, .slice A0_4 l0_4.length c0_4] 34 (0, 0)) z9_ hb); have n1_ := q_ (blk_below (g := gb257) (o := .cells #[.int .i64 a2] 3 (0, 0)) z21_ hb); have n2_ := q_ (blk_below (g := gb262) (o := .cells #[.bool ((rd_T34 l0_3 x59_2).f0), .slice A261_1 ((rd_T34 l0_3 x59_2).f1).length c261_1, .slice A261_2 ((rd_T34 l0_3 x59_2).f2).length c261_2, .slice A261_3 ((rd_T34 l0_3 x59_2).f3).length c261_3, .slice A261_4 ((rd_T34 l0_3 x59_2).f4).length c261_4] 34 (0, 0)) z62_ hb); have n3_ := q_ (below_step z17_ hb); clear BK255; clear BK257; clear BK262; clear HB; have BK255 := n0_; have BK257 := n1_; have BK262 := n2_; have HB := n3_; clear n0_ n1_ n2_ n3_; (try clear hb); (try clear hb2); (try clear hk); (try clear hi)))
                   go_roundg kj83
                   case measure => have := HJ31.out; have := HK2.out; have := HJ71.out; have := HJ83.out; omega
                   case rel => exact ⟨(t265), (x13_71), (wrap64 (x59_2 + 1)), z5_, z5_, z5_, H', ⟨z81_⟩, ⟨z9_⟩, ⟨z21_⟩, ⟨z17_⟩⟩
           ·rw [if_neg c71] at H
            exact absurd H (by simp)
          ·rw [if_neg c70] at H
           exact absurd H (by simp)
         ·rw [if_neg c69] at H
          have c69b0 : decide (x59_2 < (l0_3.length : Int)) = false := decide_eq_false c69
          clear c69
          obtain rfl := Option.some.inj H
          go_wp2
          go_ret
          exact ⟨z2_, z56_⟩

end Go.Proofs.Ytfnndcpaldkkoaa.PFnExactTreeCount
