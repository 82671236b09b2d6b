-- Written by a program of this session, which goes by the kit's print. Not trusted: Lean checks it.
import Derived.Test.YtfnndcpaldkkoaaPFnExactTreeCountx0
import Derived.Test.YtfnndcpaldkkoaaPFnExactTreeCountx4
import Derived.Test.YtfnndcpaldkkoaaPFnExactTreeCountx5
namespace Go.Proofs.Ytfnndcpaldkkoaa.PFnExactTreeCount
open Go.RowKit Go.Proofs.YtfnndcpaldkkoaaW.PrintWords Go.Proofs.YtfnndcpaldkkoaaW.PrintLast Go.Proofs.YtfnndcpaldkkoaaW.PrintMore
attribute [local go_sem] max2_int min2_int max_two min_two max_three min_three max_four min_four   -- for this text's walks alone
set_option linter.unusedVariables false
set_option linter.unusedSimpArgs false

/-! ### spec_l2Leaf: function 96 -/
mutual
def spec_l2Leaf.j0 : Nat → Int → Int → Bool → Bool → List (S92) → List Int → List (S34) → List (S72) → Option (Int)
 | 0, _, _, _, _, _, _, _, _ => none
 | k + 1, x1, x2, x31, x196000, x196001, x196002, x196003, x196004 => if x31 = true then (some 0) else (spec_l2Leaf.l0 k x1 x2 0 x196000 x196001 x196002 x196003 x196004)
def spec_l2Leaf.l0 : Nat → Int → Int → Int → Bool → List (S92) → List Int → List (S34) → List (S72) → Option (Int)
 | 0, _, _, _, _, _, _, _, _ => none
 | k + 1, x1, x2, x7, x196000, x196001, x196002, x196003, x196004 => if x7 < (x196001.length : Int) then (if 0 ≤ x7 then ((spec_l1In.f ((rd_T92 x196001 x7).f0) x1 (wrap64 (x2 - 1))).bind fun t198 => (if t198 = true then (spec_l2Leaf.l0 k x1 x2 (wrap64 (x7 + 1)) x196000 x196001 x196002 x196003 x196004) else (some 0))) else (none)) else (some 1)
end
def spec_l2Leaf.f (k : Nat) (a0_0 : Bool) (l0_1 : List (S92)) (l0_2 : List Int) (l0_3 : List (S34)) (l0_4 : List (S72)) (a1 : Int) (a2 : Int) : Option (Int) := (spec_MapOk.f k l0_1).bind fun t196 => (if t196 = true then (if (l0_1.length : Int) > 4 then (spec_l2Leaf.j0 k a1 a2 true a0_0 l0_1 l0_2 l0_3 l0_4) else (spec_l2Leaf.j0 k a1 a2 (decide ((wrap64 ((wrap64 ((l0_2.length : Int) + (l0_3.length : Int))) + (l0_4.length : Int))) > 0)) a0_0 l0_1 l0_2 l0_3 l0_4)) else (spec_l2Leaf.j0 k a1 a2 true a0_0 l0_1 l0_2 l0_3 l0_4))
theorem spec_l2Leaf.mono_l : ∀ k, (∀ y0 y1 y2 y3 y4 y5 y6 y7, LeO (spec_l2Leaf.j0 k y0 y1 y2 y3 y4 y5 y6 y7) (spec_l2Leaf.j0 (k + 1) y0 y1 y2 y3 y4 y5 y6 y7)) ∧ (∀ y0 y1 y2 y3 y4 y5 y6 y7, LeO (spec_l2Leaf.l0 k y0 y1 y2 y3 y4 y5 y6 y7) (spec_l2Leaf.l0 (k + 1) y0 y1 y2 y3 y4 y5 y6 y7))
 | 0 => ⟨fun _ _ _ _ _ _ _ _ r h => by simp [spec_l2Leaf.j0] at h, fun _ _ _ _ _ _ _ _ r h => by simp [spec_l2Leaf.l0] at h⟩
 | k + 1 => by
  obtain ⟨ih0, ih1⟩ := spec_l2Leaf.mono_l k
  refine ⟨?_, ?_⟩
  ·intro y0 y1 y2 y3 y4 y5 y6 y7
   unfold spec_l2Leaf.j0
   repeat' first
   | (with_reducible exact ih0 _ _ _ _ _ _ _ _)
   | (with_reducible exact ih1 _ _ _ _ _ _ _ _)
   | (with_reducible exact spec_MapOk.mono _ _)
   | (with_reducible exact LeO.refl _)
   | (with_reducible exact LeO.none _)
   | (with_reducible refine LeO.ite ?_ ?_)
   | (with_reducible refine LeO.bind ?_ (fun _ => ?_))
   | exact ih0 _ _ _ _ _ _ _ _
   | exact ih1 _ _ _ _ _ _ _ _
   | exact spec_MapOk.mono _ _
   | exact LeO.none _
   | refine LeO.ite ?_ ?_
   | refine LeO.bind ?_ (fun _ => ?_)
  ·intro y0 y1 y2 y3 y4 y5 y6 y7
   unfold spec_l2Leaf.l0
   repeat' first
   | (with_reducible exact ih0 _ _ _ _ _ _ _ _)
   | (with_reducible exact ih1 _ _ _ _ _ _ _ _)
   | (with_reducible exact spec_MapOk.mono _ _)
   | (with_reducible exact LeO.refl _)
   | (with_reducible exact LeO.none _)
   | (with_reducible refine LeO.ite ?_ ?_)
   | (with_reducible refine LeO.bind ?_ (fun _ => ?_))
   | exact ih0 _ _ _ _ _ _ _ _
   | exact ih1 _ _ _ _ _ _ _ _
   | exact spec_MapOk.mono _ _
   | exact LeO.none _
   | refine LeO.ite ?_ ?_
   | refine LeO.bind ?_ (fun _ => ?_)
theorem spec_l2Leaf.mono : ∀ a0 a1 a2 a3 a4 a5 a6 k, LeO (spec_l2Leaf.f k a0 a1 a2 a3 a4 a5 a6) (spec_l2Leaf.f (k + 1) a0 a1 a2 a3 a4 a5 a6) := by
 intro a0 a1 a2 a3 a4 a5 a6 k
 obtain ⟨ih0, ih1⟩ := spec_l2Leaf.mono_l k
 unfold spec_l2Leaf.f
 repeat' first
   | (with_reducible exact ih0 _ _ _ _ _ _ _ _)
   | (with_reducible exact ih1 _ _ _ _ _ _ _ _)
   | (with_reducible exact spec_MapOk.mono _ _)
   | (with_reducible exact LeO.refl _)
   | (with_reducible exact LeO.none _)
   | (with_reducible refine LeO.ite ?_ ?_)
   | (with_reducible refine LeO.bind ?_ (fun _ => ?_))
   | exact ih0 _ _ _ _ _ _ _ _
   | exact ih1 _ _ _ _ _ _ _ _
   | exact spec_MapOk.mono _ _
   | exact LeO.none _
   | refine LeO.ite ?_ ?_
   | refine LeO.bind ?_ (fun _ => ?_)
set_option maxHeartbeats 8000000 in
set_option maxRecDepth 100000 in
theorem spec_l2Leaf.calls (k : Nat) (a0_0 : Bool) (A0_1 : Option Addr) (c0_1 : Nat) (l0_1 : List (S92)) (A0_2 : Option Addr) (c0_2 : Nat) (l0_2 : List Int) (A0_3 : Option Addr) (c0_3 : Nat) (l0_3 : List (S34)) (A0_4 : Option Addr) (c0_4 : Nat) (l0_4 : List (S72)) (a1 : Int) (a2 : Int) (r : Int) (w : World) (hr0_1 : Kd.C k92 w A0_1 l0_1.length l0_1) (hc0_1 : l0_1.length ≤ c0_1) (hr0_2 : Kd.C (Kd.int .i64) w A0_2 l0_2.length l0_2) (hc0_2 : l0_2.length ≤ c0_2) (hr0_3 : Kd.C k34 w A0_3 l0_3.length l0_3) (hc0_3 : l0_3.length ≤ c0_3) (hr0_4 : Kd.C k72 w A0_4 l0_4.length l0_4) (hc0_4 : l0_4.length ≤ c0_4) (h : spec_l2Leaf.f k a0_0 l0_1 l0_2 l0_3 l0_4 a1 a2 = some r) :
  Calls Try.prog 96 #[.agg #[.bool a0_0, .slice A0_1 l0_1.length c0_1, .slice A0_2 l0_2.length c0_2, .slice A0_3 l0_3.length c0_3, .slice A0_4 l0_4.length c0_4], .int .i64 a1, .int .i64 a2] w fun e w' => e = .returned (.int .i64 r) ∧ Below w.heap.size w w' := by
 have hu34 := Try.underlying34
 have HR0_1 := q_ hr0_1
 have HC0_1 := q_ hc0_1
 clear hr0_1 hc0_1
 have HR0_2 := q_ hr0_2
 have HC0_2 := q_ hc0_2
 clear hr0_2 hc0_2
 have HR0_3 := q_ hr0_3
 have HC0_3 := q_ hc0_3
 clear hr0_3 hc0_3
 have HR0_4 := q_ hr0_4
 have HC0_4 := q_ hc0_4
 clear hr0_4 hc0_4
 have HB := q_ (Below.refl w.heap.size w)
 have H : ((spec_MapOk.f k l0_1).bind fun t196 => (if t196 = true then (if (l0_1.length : Int) > 4 then (spec_l2Leaf.j0 k a1 a2 true a0_0 l0_1 l0_2 l0_3 l0_4) else (spec_l2Leaf.j0 k a1 a2 (decide ((wrap64 ((wrap64 ((l0_2.length : Int) + (l0_3.length : Int))) + (l0_4.length : Int))) > 0)) a0_0 l0_1 l0_2 l0_3 l0_4)) else (spec_l2Leaf.j0 k a1 a2 true a0_0 l0_1 l0_2 l0_3 l0_4))) = some r := h
 clear h
 have HC4 := q_ H
 clear H
 go_enter Try.func96, Try.ntmps96
 go_upto_region 1 with (first | ((with_reducible refine gate_dst (N := 3) rfl ?_); (try (refine gate_guard (by rfl) ?_; dsimp only)); refine box_event ?hg (N := 3) ?hd (cs := #[.bool a0_0, .slice A0_1 l0_1.length c0_1, .slice A0_2 l0_2.length c0_2, .slice A0_3 l0_3.length c0_3, .slice A0_4 l0_4.length c0_4]) (t := 34) ?hr ?_; (case hd => rfl); (case hg => rfl); (case hr => exact z141_); intro gb195 hg w5 hbox hb; have n0_ := q_ (below_step z0_ hb); have n1_ := q_ (hbox); have n2_ := q_ ((z107_ : w.heap.size ≤ gb195)); have n3_ := q_ ((z107_ : w.heap.size ≤ gb195)); clear HB; have HB := n0_; have BK195 := n1_; have GW195 := n2_; have GE195 := n3_; clear n0_ n1_ n2_ n3_; clear hb hbox hg))
 (try simp only [Act.put, List.setIfInBounds_toArray, List.set_cons_zero, List.set_cons_succ])
 go_cut [31] (fun v31 wc => ∃ (kq : Nat) (x31_3 : Bool), v31 = .bool x31_3 ∧ Aside0 (spec_l2Leaf.j0 kq a1 a2 x31_3 a0_0 l0_1 l0_2 l0_3 l0_4 = some r) ∧ Aside0 (kq ≤ k) ∧ Aside0 (wc.heap[gb195]? = some (.cells #[.bool a0_0, (.slice A0_1 l0_1.length c0_1), (.slice A0_2 l0_2.length c0_2), (.slice A0_3 l0_3.length c0_3), (.slice A0_4 l0_4.length c0_4)] 34 (0, 0))) ∧ Aside0 (Below w.heap.size w wc))
 case first =>
  have H := HC4.out
  clear HC4
  replace H := Option.bind_eq_some_iff.mp H
  obtain ⟨t196, A60, H⟩ := H
  replace H : (if t196 = true then (if (l0_1.length : Int) > 4 then (spec_l2Leaf.j0 k a1 a2 true a0_0 l0_1 l0_2 l0_3 l0_4) else (spec_l2Leaf.j0 k a1 a2 (decide ((wrap64 ((wrap64 ((l0_2.length : Int) + (l0_3.length : Int))) + (l0_4.length : Int))) > 0)) a0_0 l0_1 l0_2 l0_3 l0_4)) else (spec_l2Leaf.j0 k a1 a2 true a0_0 l0_1 l0_2 l0_3 l0_4)) = some r := H
  have A6 := q_ A60
  clear A60
  by_cases c7 : t196 = true
  ·subst c7
   have H1 : (if (l0_1.length : Int) > 4 then (spec_l2Leaf.j0 k a1 a2 true a0_0 l0_1 l0_2 l0_3 l0_4) else (spec_l2Leaf.j0 k a1 a2 (decide ((wrap64 ((wrap64 ((l0_2.length : Int) + (l0_3.length : Int))) + (l0_4.length : Int))) > 0)) a0_0 l0_1 l0_2 l0_3 l0_4)) = some r := z38_
   clear H
   have H := H1
   clear H1
   by_cases c8 : (l0_1.length : Int) > 4
   ·rw [if_pos c8] at H
    have c8b0 : decide (4 < (l0_1.length : Int)) = true := decide_eq_true c8
    have c8b1 : decide (4 < l0_1.length) = true := decide_eq_true (by omega)
    clear c8
    (first | rw [c8b0] | (simp only [i64_w, i32_w]; rw [c8b0]) | skip)
    have H' := q_ H
    clear H
    obtain ⟨hcz9_0, hcz9_1, hcz9_2, hcz9_3, hcz9_4, hfz9_0, hfz9_1, hfz9_2, hfz9_3, hfz9_4⟩ := cs5_ BK195.out
    go_wp2_with (first | ((with_reducible refine gate_callee (f := 120) rfl ?_); refine goesL_ (some 10) rfl rfl Try.func120 (by kernel_rfl) rfl #[.slice A0_1 l0_1.length c0_1] rfl z1_ ?_; (with_reducible refine (spec_MapOk.calls k _ _ l0_1 true _ ?side1 ?side2 A6.out).mono ?_); (case side1 => exact z140_); (case side2 => exact z157_); rintro e w10 ⟨rfl, hb⟩; refine ⟨_, rfl, ?_⟩; have n0_ := q_ (blk_below (g := gb195) (o := .cells #[.bool a0_0, .slice A0_1 l0_1.length c0_1, .slice A0_2 l0_2.length c0_2, .slice A0_3 l0_3.length c0_3, .slice A0_4 l0_4.length c0_4] 34 (0, 0)) z47_ hb); have n1_ := q_ (below_step z26_ hb); clear BK195; clear HB; have BK195 := n0_; have HB := n1_; clear n0_ n1_; (try clear hb); (try clear hb2); (try clear hk); (try clear hi); obtain ⟨hcz11_0, hcz11_1, hcz11_2, hcz11_3, hcz11_4, hfz11_0, hfz11_1, hfz11_2, hfz11_3, hfz11_4⟩ := cs5_ BK195.out))
    go_meet
    case rel => exact ⟨_, (true), z5_, H', ⟨z73_⟩, ⟨z47_⟩, ⟨z26_⟩⟩
   ·rw [if_neg c8] at H
    have c8b0 : decide (4 < (l0_1.length : Int)) = false := decide_eq_false c8
    have c8b1 : decide (4 < l0_1.length) = false := decide_eq_false (by omega)
    clear c8
    (first | rw [c8b0] | (simp only [i64_w, i32_w]; rw [c8b0]) | skip)
    have H' := q_ H
    clear H
    obtain ⟨hcz12_0, hcz12_1, hcz12_2, hcz12_3, hcz12_4, hfz12_0, hfz12_1, hfz12_2, hfz12_3, hfz12_4⟩ := cs5_ BK195.out
    go_wp2_with (first | ((with_reducible refine gate_callee (f := 120) rfl ?_); refine goesL_ (some 10) rfl rfl Try.func120 (by kernel_rfl) rfl #[.slice A0_1 l0_1.length c0_1] rfl z1_ ?_; (with_reducible refine (spec_MapOk.calls k _ _ l0_1 true _ ?side1 ?side2 A6.out).mono ?_); (case side1 => exact z140_); (case side2 => exact z157_); rintro e w13 ⟨rfl, hb⟩; refine ⟨_, rfl, ?_⟩; have n0_ := q_ (blk_below (g := gb195) (o := .cells #[.bool a0_0, .slice A0_1 l0_1.length c0_1, .slice A0_2 l0_2.length c0_2, .slice A0_3 l0_3.length c0_3, .slice A0_4 l0_4.length c0_4] 34 (0, 0)) z47_ hb); have n1_ := q_ (below_step z26_ hb); clear BK195; clear HB; have BK195 := n0_; have HB := n1_; clear n0_ n1_; (try clear hb); (try clear hb2); (try clear hk); (try clear hi); obtain ⟨hcz14_0, hcz14_1, hcz14_2, hcz14_3, hcz14_4, hfz14_0, hfz14_1, hfz14_2, hfz14_3, hfz14_4⟩ := cs5_ BK195.out))
    go_meet
    case rel => exact ⟨_, (decide ((wrap64 ((wrap64 ((l0_2.length : Int) + (l0_3.length : Int))) + (l0_4.length : Int))) > 0)), z5_, H', ⟨z73_⟩, ⟨z47_⟩, ⟨z26_⟩⟩
  ·replace c7 := Bool.eq_false_iff.mpr c7
   subst c7
   have H1 : (spec_l2Leaf.j0 k a1 a2 true a0_0 l0_1 l0_2 l0_3 l0_4) = some r := by rw [if_neg (show ¬ (false = true) by decide)] at H; exact H
   clear H
   have H := H1
   clear H1
   have H' := q_ H
   clear H
   obtain ⟨hcz15_0, hcz15_1, hcz15_2, hcz15_3, hcz15_4, hfz15_0, hfz15_1, hfz15_2, hfz15_3, hfz15_4⟩ := cs5_ BK195.out
   go_wp2_with (first | ((with_reducible refine gate_callee (f := 120) rfl ?_); refine goesL_ (some 10) rfl rfl Try.func120 (by kernel_rfl) rfl #[.slice A0_1 l0_1.length c0_1] rfl z1_ ?_; (with_reducible refine (spec_MapOk.calls k _ _ l0_1 false _ ?side1 ?side2 A6.out).mono ?_); (case side1 => exact z140_); (case side2 => exact z157_); rintro e w16 ⟨rfl, hb⟩; refine ⟨_, rfl, ?_⟩; have n0_ := q_ (blk_below (g := gb195) (o := .cells #[.bool a0_0, .slice A0_1 l0_1.length c0_1, .slice A0_2 l0_2.length c0_2, .slice A0_3 l0_3.length c0_3, .slice A0_4 l0_4.length c0_4] 34 (0, 0)) z47_ hb); have n1_ := q_ (below_step z26_ hb); clear BK195; clear HB; have BK195 := n0_; have HB := n1_; clear n0_ n1_; (try clear hb); (try clear hb2); (try clear hk); (try clear hi)))
   go_meet
   case rel => exact ⟨_, (true), z5_, H', ⟨z73_⟩, ⟨z47_⟩, ⟨z26_⟩⟩
 case rest =>
  clear HC4
  try clear c1
  try clear p2
  try clear p6
  try clear c7
  try clear c8
  try clear c8b0
  try clear c8b1
  try clear c9
  try clear c12
  try clear hcz11_0
  try clear hcz11_1
  try clear hcz11_2
  try clear hcz11_3
  try clear hcz11_4
  try clear hcz12_0
  try clear hcz12_1
  try clear hcz12_2
  try clear hcz12_3
  try clear hcz12_4
  try clear hcz14_0
  try clear hcz14_1
  try clear hcz14_2
  try clear hcz14_3
  try clear hcz14_4
  try clear hcz15_0
  try clear hcz15_1
  try clear hcz15_2
  try clear hcz15_3
  try clear hcz15_4
  try clear hcz9_0
  try clear hcz9_1
  try clear hcz9_2
  try clear hcz9_3
  try clear hcz9_4
  try clear hfz11_0
  try clear hfz11_1
  try clear hfz11_2
  try clear hfz11_3
  try clear hfz11_4
  try clear hfz12_0
  try clear hfz12_1
  try clear hfz12_2
  try clear hfz12_3
  try clear hfz12_4
  try clear hfz14_0
  try clear hfz14_1
  try clear hfz14_2
  try clear hfz14_3
  try clear hfz14_4
  try clear hfz15_0
  try clear hfz15_1
  try clear hfz15_2
  try clear hfz15_3
  try clear hfz15_4
  try clear hfz9_0
  try clear hfz9_1
  try clear hfz9_2
  try clear hfz9_3
  try clear hfz9_4
  obtain ⟨kq, x31_3, rfl, HA, HJ3, BK195, HB⟩ := hcut
  cases kq with
  | zero => exact absurd HA.out (by simp [spec_l2Leaf.j0])
  | succ kj3 =>
   have H := HA.out
   clear HA
   simp only [spec_l2Leaf.j0] at H
   by_cases c17 : x31_3 = true
   ·subst c17
    have H1 : (some 0) = some r := z38_
    clear H
    have H := H1
    clear H1
    obtain rfl := Option.some.inj H
    go_wp2
    go_ret
    exact ⟨z2_, z26_⟩
   ·replace c17 := Bool.eq_false_iff.mpr c17
    subst c17
    have H1 : (spec_l2Leaf.l0 kj3 a1 a2 0 a0_0 l0_1 l0_2 l0_3 l0_4) = some r := by rw [if_neg (show ¬ (false = true) by decide)] at H; exact H
    clear H
    have H := H1
    clear H1
    have H' := q_ H
    clear H
    go_wp2
    go_loopg [7] kj3 (fun kq v7 w' => ∃ (x7_2 : Int), v7 = .int .i64 x7_2 ∧ Aside0 (spec_l2Leaf.l0 kq a1 a2 x7_2 a0_0 l0_1 l0_2 l0_3 l0_4 = some r) ∧ Aside0 (kq ≤ kj3) ∧ Aside0 (w'.heap[gb195]? = some (.cells #[.bool a0_0, (.slice A0_1 l0_1.length c0_1), (.slice A0_2 l0_2.length c0_2), (.slice A0_3 l0_3.length c0_3), (.slice A0_4 l0_4.length c0_4)] 34 (0, 0))) ∧ Aside0 (Below w.heap.size w w'))
    case atStart => exact ⟨(0), z5_, H', ⟨Nat.le_refl _⟩, ⟨z47_⟩, ⟨z26_⟩⟩
    case round =>
     clear H'
     try clear c1
     try clear p2
     try clear p6
     try clear c7
     try clear c8
     try clear c8b0
     try clear c8b1
     try clear c9
     try clear c12
     try clear c17
     try clear hcz11_0
     try clear hcz11_1
     try clear hcz11_2
     try clear hcz11_3
     try clear hcz11_4
     try clear hcz12_0
     try clear hcz12_1
     try clear hcz12_2
     try clear hcz12_3
     try clear hcz12_4
     try clear hcz14_0
     try clear hcz14_1
     try clear hcz14_2
     try clear hcz14_3
     try clear hcz14_4
     try clear hcz15_0
     try clear hcz15_1
     try clear hcz15_2
     try clear hcz15_3
     try clear hcz15_4
     try clear hcz9_0
     try clear hcz9_1
     try clear hcz9_2
     try clear hcz9_3
     try clear hcz9_4
     try clear hfz11_0
     try clear hfz11_1
     try clear hfz11_2
     try clear hfz11_3
     try clear hfz11_4
     try clear hfz12_0
     try clear hfz12_1
     try clear hfz12_2
     try clear hfz12_3
     try clear hfz12_4
     try clear hfz14_0
     try clear hfz14_1
     try clear hfz14_2
     try clear hfz14_3
     try clear hfz14_4
     try clear hfz15_0
     try clear hfz15_1
     try clear hfz15_2
     try clear hfz15_3
     try clear hfz15_4
     try clear hfz9_0
     try clear hfz9_1
     try clear hfz9_2
     try clear hfz9_3
     try clear hfz9_4
     try clear p2
     try clear p6
     obtain ⟨x7_2, rfl, HA, HK2, BK195, HB⟩ := hrel
     cases gk with
     | zero => exact absurd HA.out (by simp [spec_l2Leaf.l0])
     | succ k2 =>
      have H := HA.out
      clear HA
      simp only [spec_l2Leaf.l0] at H
      by_cases c18 : x7_2 < (l0_1.length : Int)
      ·rw [if_pos c18] at H
       have c18b0 : decide (x7_2 < (l0_1.length : Int)) = true := decide_eq_true c18
       clear c18
       by_cases c19 : 0 ≤ x7_2
       ·rw [if_pos c19] at H
        have c19b0 : decide (0 ≤ x7_2) = true := decide_eq_true c19
        clear c19
        replace H := Option.bind_eq_some_iff.mp H
        obtain ⟨t198, A200, H⟩ := H
        replace H : (if t198 = true then (spec_l2Leaf.l0 k2 a1 a2 (wrap64 (x7_2 + 1)) a0_0 l0_1 l0_2 l0_3 l0_4) else (some 0)) = some r := H
        have A20 := q_ A200
        clear A200
        by_cases c21 : t198 = true
        ·subst c21
         have H1 : (spec_l2Leaf.l0 k2 a1 a2 (wrap64 (x7_2 + 1)) a0_0 l0_1 l0_2 l0_3 l0_4) = some r := z38_
         clear H
         have H := H1
         clear H1
         have H' := q_ H
         clear H
         obtain ⟨hcz22_0, hcz22_1, hcz22_2, hcz22_3, hcz22_4, hfz22_0, hfz22_1, hfz22_2, hfz22_3, hfz22_4⟩ := cs5_ BK195.out
         have p197 : 0 ≤ (x7_2 : Int) := of_decide_eq_true z3_
         have q197 : x7_2 < (l0_1.length : Int) := of_decide_eq_true z3_
         obtain ⟨ad197, e197, hx197_0, hx197_1⟩ := at_T92 HR0_1.out x7_2 p197 q197
         cases e197
         replace hx197_0 := up_ HB hx197_0
         replace hx197_1 := up_ HB hx197_1
         replace p197 := eq_true p197
         replace q197 := eq_true q197
         go_wp2_with (first | ((with_reducible refine gate_callee (f := 97) rfl ?_); refine goesL_ (some 48) rfl rfl Try.func97 (by kernel_rfl) rfl #[.int .i64 ((rd_T92 l0_1 x7_2).f0), .int .i64 a1, .int .i64 (wrap64 (a2 - 1))] rfl z1_ ?_; (with_reducible refine (spec_l1In.calls ((rd_T92 l0_1 x7_2).f0) a1 (wrap64 (a2 - 1)) true _ A20.out).mono ?_); rintro e w' ⟨rfl, ⟨nd, rfl⟩⟩; refine ⟨_, rfl, ?_⟩))
         go_roundg k2
         case measure => have := HJ3.out; have := HK2.out; omega
         case rel => exact ⟨(wrap64 (x7_2 + 1)), z5_, H', ⟨by have := HJ3.out; have := HK2.out; omega⟩, ⟨z47_⟩, ⟨z26_⟩⟩
        ·replace c21 := Bool.eq_false_iff.mpr c21
         subst c21
         have H1 : (some 0) = some r := by rw [if_neg (show ¬ (false = true) by decide)] at H; exact H
         clear H
         have H := H1
         clear H1
         obtain rfl := Option.some.inj H
         obtain ⟨hcz23_0, hcz23_1, hcz23_2, hcz23_3, hcz23_4, hfz23_0, hfz23_1, hfz23_2, hfz23_3, hfz23_4⟩ := cs5_ BK195.out
         have p197 : 0 ≤ (x7_2 : Int) := of_decide_eq_true z3_
         have q197 : x7_2 < (l0_1.length : Int) := of_decide_eq_true z3_
         obtain ⟨ad197, e197, hx197_0, hx197_1⟩ := at_T92 HR0_1.out x7_2 p197 q197
         cases e197
         replace hx197_0 := up_ HB hx197_0
         replace hx197_1 := up_ HB hx197_1
         replace p197 := eq_true p197
         replace q197 := eq_true q197
         go_wp2_with (first | ((with_reducible refine gate_callee (f := 97) rfl ?_); refine goesL_ (some 48) rfl rfl Try.func97 (by kernel_rfl) rfl #[.int .i64 ((rd_T92 l0_1 x7_2).f0), .int .i64 a1, .int .i64 (wrap64 (a2 - 1))] rfl z1_ ?_; (with_reducible refine (spec_l1In.calls ((rd_T92 l0_1 x7_2).f0) a1 (wrap64 (a2 - 1)) false _ A20.out).mono ?_); rintro e w' ⟨rfl, ⟨nd, rfl⟩⟩; refine ⟨_, rfl, ?_⟩))
         go_ret
         exact ⟨z2_, z0_⟩
       ·rw [if_neg c19] at H
        exact absurd H (by simp)
      ·rw [if_neg c18] at H
       have c18b0 : decide (x7_2 < (l0_1.length : Int)) = false := decide_eq_false c18
       clear c18
       obtain rfl := Option.some.inj H
       obtain ⟨hcz24_0, hcz24_1, hcz24_2, hcz24_3, hcz24_4, hfz24_0, hfz24_1, hfz24_2, hfz24_3, hfz24_4⟩ := cs5_ BK195.out
       go_wp2
       go_ret
       exact ⟨z2_, z26_⟩

/-! ### spec_MsgOk: function 98 -/
def spec_MsgOk.f (a0_0 : Int) (a0_1 : Int) (a0_2 : Int) : Option (Bool) := (spec_l1In.f a0_0 1 4).bind fun t200 => (if t200 = true then ((spec_l1In.f a0_1 0 999).bind fun t201 => (if t201 = true then ((spec_l1Value.f a0_2).bind fun t202 => (if t202 = true then (if a0_2 = 0 then (some true) else (if a0_0 = 1 then (some true) else (some (a0_0 == 3)))) else (some false))) else (some false))) else (some false))
set_option maxHeartbeats 8000000 in
set_option maxRecDepth 100000 in
theorem spec_MsgOk.calls (a0_0 : Int) (a0_1 : Int) (a0_2 : Int) (r : Bool) (w : World) (h : spec_MsgOk.f a0_0 a0_1 a0_2 = some r) :
  Calls Try.prog 98 #[.agg #[.int .i64 a0_0, .int .i64 a0_1, .int .i64 a0_2]] w fun e w' => e = .returned (.bool r) ∧ Below w.heap.size w w' := by
 have hu72 := Try.underlying72
 have HB := q_ (Below.refl w.heap.size w)
 have H : ((spec_l1In.f a0_0 1 4).bind fun t200 => (if t200 = true then ((spec_l1In.f a0_1 0 999).bind fun t201 => (if t201 = true then ((spec_l1Value.f a0_2).bind fun t202 => (if t202 = true then (if a0_2 = 0 then (some true) else (if a0_0 = 1 then (some true) else (some (a0_0 == 3)))) else (some false))) else (some false))) else (some false))) = some r := h
 clear h
 replace H := Option.bind_eq_some_iff.mp H
 obtain ⟨t200, A20, H⟩ := H
 replace H : (if t200 = true then ((spec_l1In.f a0_1 0 999).bind fun t201 => (if t201 = true then ((spec_l1Value.f a0_2).bind fun t202 => (if t202 = true then (if a0_2 = 0 then (some true) else (if a0_0 = 1 then (some true) else (some (a0_0 == 3)))) else (some false))) else (some false))) else (some false)) = some r := H
 have A2 := q_ A20
 clear A20
 by_cases c3 : t200 = true
 ·subst c3
  have H1 : ((spec_l1In.f a0_1 0 999).bind fun t201 => (if t201 = true then ((spec_l1Value.f a0_2).bind fun t202 => (if t202 = true then (if a0_2 = 0 then (some true) else (if a0_0 = 1 then (some true) else (some (a0_0 == 3)))) else (some false))) else (some false))) = some r := z38_
  clear H
  have H := H1
  clear H1
  replace H := Option.bind_eq_some_iff.mp H
  obtain ⟨t201, A40, H⟩ := H
  replace H : (if t201 = true then ((spec_l1Value.f a0_2).bind fun t202 => (if t202 = true then (if a0_2 = 0 then (some true) else (if a0_0 = 1 then (some true) else (some (a0_0 == 3)))) else (some false))) else (some false)) = some r := H
  have A4 := q_ A40
  clear A40
  by_cases c5 : t201 = true
  ·subst c5
   have H1 : ((spec_l1Value.f a0_2).bind fun t202 => (if t202 = true then (if a0_2 = 0 then (some true) else (if a0_0 = 1 then (some true) else (some (a0_0 == 3)))) else (some false))) = some r := z38_
   clear H
   have H := H1
   clear H1
   replace H := Option.bind_eq_some_iff.mp H
   obtain ⟨t202, A60, H⟩ := H
   replace H : (if t202 = true then (if a0_2 = 0 then (some true) else (if a0_0 = 1 then (some true) else (some (a0_0 == 3)))) else (some false)) = some r := H
   have A6 := q_ A60
   clear A60
   by_cases c7 : t202 = true
   ·subst c7
    have H1 : (if a0_2 = 0 then (some true) else (if a0_0 = 1 then (some true) else (some (a0_0 == 3)))) = some r := z38_
    clear H
    have H := H1
    clear H1
    by_cases c8 : a0_2 = 0
    ·rw [if_pos c8] at H
     have c8b0 : (a0_2 == 0) = true := beq_iff_eq.mpr c8
     have c8b1 : (a0_2 != 0) = false := bne_eq_false_iff_eq.mpr c8
     clear c8
     obtain rfl := Option.some.inj H
     go_enter Try.func98, Try.ntmps98
     go_wp2_with (first | ((with_reducible refine gate_dst (N := 1) rfl ?_); refine box_event ?hg (N := 1) ?hd (cs := #[.int .i64 a0_0, .int .i64 a0_1, .int .i64 a0_2]) (t := 72) ?hr ?_; (case hd => rfl); (case hg => rfl); (case hr => exact z141_); intro gb199 hg w9 hbox hb; have n0_ := q_ (below_step z0_ hb); have n1_ := q_ (hbox); have n2_ := q_ ((z107_ : w.heap.size ≤ gb199)); have n3_ := q_ ((z107_ : w.heap.size ≤ gb199)); clear HB; have HB := n0_; have BK199 := n1_; have GW199 := n2_; have GE199 := n3_; clear n0_ n1_ n2_ n3_; clear hb hbox hg; obtain ⟨hcz10_0, hcz10_1, hcz10_2, hfz10_0, hfz10_1, hfz10_2⟩ := cs3_ BK199.out) | ((with_reducible refine gate_callee (f := 97) rfl ?_); refine goesL_ (some 5) rfl rfl Try.func97 (by kernel_rfl) rfl #[.int .i64 a0_0, .int .i64 1, .int .i64 4] rfl z1_ ?_; (with_reducible refine (spec_l1In.calls a0_0 1 4 true _ A2.out).mono ?_); rintro e w' ⟨rfl, ⟨nd, rfl⟩⟩; refine ⟨_, rfl, ?_⟩) | (go_at_call 97; (with_reducible refine (spec_l1In.calls a0_1 0 999 true _ A4.out).mono ?_); rintro e w' ⟨rfl, ⟨nd, rfl⟩⟩) | (go_at_call 121; (with_reducible refine (spec_l1Value.calls a0_2 true _ A6.out).mono ?_); rintro e w' ⟨rfl, ⟨nd, rfl⟩⟩))
     go_ret
     exact ⟨z2_, z80_⟩
    ·rw [if_neg c8] at H
     have c8b0 : (a0_2 == 0) = false := beq_eq_false_iff_ne.mpr c8
     have c8b1 : (a0_2 != 0) = true := bne_iff_ne.mpr c8
     by_cases c11 : a0_0 = 1
     ·rw [if_pos c11] at H
      have c11b0 : (a0_0 == 1) = true := beq_iff_eq.mpr c11
      have c11b1 : (a0_0 != 1) = false := bne_eq_false_iff_eq.mpr c11
      clear c11
      obtain rfl := Option.some.inj H
      go_enter Try.func98, Try.ntmps98
      go_wp2_with (first | ((with_reducible refine gate_dst (N := 1) rfl ?_); refine box_event ?hg (N := 1) ?hd (cs := #[.int .i64 a0_0, .int .i64 a0_1, .int .i64 a0_2]) (t := 72) ?hr ?_; (case hd => rfl); (case hg => rfl); (case hr => exact z141_); intro gb199 hg w12 hbox hb; have n0_ := q_ (below_step z0_ hb); have n1_ := q_ (hbox); have n2_ := q_ ((z107_ : w.heap.size ≤ gb199)); have n3_ := q_ ((z107_ : w.heap.size ≤ gb199)); clear HB; have HB := n0_; have BK199 := n1_; have GW199 := n2_; have GE199 := n3_; clear n0_ n1_ n2_ n3_; clear hb hbox hg; obtain ⟨hcz13_0, hcz13_1, hcz13_2, hfz13_0, hfz13_1, hfz13_2⟩ := cs3_ BK199.out) | ((with_reducible refine gate_callee (f := 97) rfl ?_); refine goesL_ (some 5) rfl rfl Try.func97 (by kernel_rfl) rfl #[.int .i64 a0_0, .int .i64 1, .int .i64 4] rfl z1_ ?_; (with_reducible refine (spec_l1In.calls a0_0 1 4 true _ A2.out).mono ?_); rintro e w' ⟨rfl, ⟨nd, rfl⟩⟩; refine ⟨_, rfl, ?_⟩) | (go_at_call 97; (with_reducible refine (spec_l1In.calls a0_1 0 999 true _ A4.out).mono ?_); rintro e w' ⟨rfl, ⟨nd, rfl⟩⟩) | (go_at_call 121; (with_reducible refine (spec_l1Value.calls a0_2 true _ A6.out).mono ?_); rintro e w' ⟨rfl, ⟨nd, rfl⟩⟩))
      go_ret
      exact ⟨z2_, z80_⟩
     ·rw [if_neg c11] at H
      have c11b0 : (a0_0 == 1) = false := beq_eq_false_iff_ne.mpr c11
      have c11b1 : (a0_0 != 1) = true := bne_iff_ne.mpr c11
      obtain rfl := Option.some.inj H
      go_enter Try.func98, Try.ntmps98
      go_wp2_with (first | ((with_reducible refine gate_dst (N := 1) rfl ?_); refine box_event ?hg (N := 1) ?hd (cs := #[.int .i64 a0_0, .int .i64 a0_1, .int .i64 a0_2]) (t := 72) ?hr ?_; (case hd => rfl); (case hg => rfl); (case hr => exact z141_); intro gb199 hg w14 hbox hb; have n0_ := q_ (below_step z0_ hb); have n1_ := q_ (hbox); have n2_ := q_ ((z107_ : w.heap.size ≤ gb199)); have n3_ := q_ ((z107_ : w.heap.size ≤ gb199)); clear HB; have HB := n0_; have BK199 := n1_; have GW199 := n2_; have GE199 := n3_; clear n0_ n1_ n2_ n3_; clear hb hbox hg; obtain ⟨hcz15_0, hcz15_1, hcz15_2, hfz15_0, hfz15_1, hfz15_2⟩ := cs3_ BK199.out) | ((with_reducible refine gate_callee (f := 97) rfl ?_); refine goesL_ (some 5) rfl rfl Try.func97 (by kernel_rfl) rfl #[.int .i64 a0_0, .int .i64 1, .int .i64 4] rfl z1_ ?_; (with_reducible refine (spec_l1In.calls a0_0 1 4 true _ A2.out).mono ?_); rintro e w' ⟨rfl, ⟨nd, rfl⟩⟩; refine ⟨_, rfl, ?_⟩) | (go_at_call 97; (with_reducible refine (spec_l1In.calls a0_1 0 999 true _ A4.out).mono ?_); rintro e w' ⟨rfl, ⟨nd, rfl⟩⟩) | (go_at_call 121; (with_reducible refine (spec_l1Value.calls a0_2 true _ A6.out).mono ?_); rintro e w' ⟨rfl, ⟨nd, rfl⟩⟩))
      go_ret
      exact ⟨z2_, z80_⟩
   ·replace c7 := Bool.eq_false_iff.mpr c7
    subst c7
    have H1 : (some false) = some r := by rw [if_neg (show ¬ (false = true) by decide)] at H; exact H
    clear H
    have H := H1
    clear H1
    obtain rfl := Option.some.inj H
    go_enter Try.func98, Try.ntmps98
    go_wp2_with (first | ((with_reducible refine gate_dst (N := 1) rfl ?_); refine box_event ?hg (N := 1) ?hd (cs := #[.int .i64 a0_0, .int .i64 a0_1, .int .i64 a0_2]) (t := 72) ?hr ?_; (case hd => rfl); (case hg => rfl); (case hr => exact z141_); intro gb199 hg w16 hbox hb; have n0_ := q_ (below_step z0_ hb); have n1_ := q_ (hbox); have n2_ := q_ ((z107_ : w.heap.size ≤ gb199)); have n3_ := q_ ((z107_ : w.heap.size ≤ gb199)); clear HB; have HB := n0_; have BK199 := n1_; have GW199 := n2_; have GE199 := n3_; clear n0_ n1_ n2_ n3_; clear hb hbox hg; obtain ⟨hcz17_0, hcz17_1, hcz17_2, hfz17_0, hfz17_1, hfz17_2⟩ := cs3_ BK199.out) | ((with_reducible refine gate_callee (f := 97) rfl ?_); refine goesL_ (some 5) rfl rfl Try.func97 (by kernel_rfl) rfl #[.int .i64 a0_0, .int .i64 1, .int .i64 4] rfl z1_ ?_; (with_reducible refine (spec_l1In.calls a0_0 1 4 true _ A2.out).mono ?_); rintro e w' ⟨rfl, ⟨nd, rfl⟩⟩; refine ⟨_, rfl, ?_⟩) | (go_at_call 97; (with_reducible refine (spec_l1In.calls a0_1 0 999 true _ A4.out).mono ?_); rintro e w' ⟨rfl, ⟨nd, rfl⟩⟩) | (go_at_call 121; (with_reducible refine (spec_l1Value.calls a0_2 false _ A6.out).mono ?_); rintro e w' ⟨rfl, ⟨nd, rfl⟩⟩))
    go_ret
    exact ⟨z2_, z0_⟩
  ·replace c5 := Bool.eq_false_iff.mpr c5
   subst c5
   have H1 : (some false) = some r := by rw [if_neg (show ¬ (false = true) by decide)] at H; exact H
   clear H
   have H := H1
   clear H1
   obtain rfl := Option.some.inj H
   go_enter Try.func98, Try.ntmps98
   go_wp2_with (first | ((with_reducible refine gate_dst (N := 1) rfl ?_); refine box_event ?hg (N := 1) ?hd (cs := #[.int .i64 a0_0, .int .i64 a0_1, .int .i64 a0_2]) (t := 72) ?hr ?_; (case hd => rfl); (case hg => rfl); (case hr => exact z141_); intro gb199 hg w18 hbox hb; have n0_ := q_ (below_step z0_ hb); have n1_ := q_ (hbox); have n2_ := q_ ((z107_ : w.heap.size ≤ gb199)); have n3_ := q_ ((z107_ : w.heap.size ≤ gb199)); clear HB; have HB := n0_; have BK199 := n1_; have GW199 := n2_; have GE199 := n3_; clear n0_ n1_ n2_ n3_; clear hb hbox hg; obtain ⟨hcz19_0, hcz19_1, hcz19_2, hfz19_0, hfz19_1, hfz19_2⟩ := cs3_ BK199.out) | ((with_reducible refine gate_callee (f := 97) rfl ?_); refine goesL_ (some 5) rfl rfl Try.func97 (by kernel_rfl) rfl #[.int .i64 a0_0, .int .i64 1, .int .i64 4] rfl z1_ ?_; (with_reducible refine (spec_l1In.calls a0_0 1 4 true _ A2.out).mono ?_); rintro e w' ⟨rfl, ⟨nd, rfl⟩⟩; refine ⟨_, rfl, ?_⟩) | (go_at_call 97; (with_reducible refine (spec_l1In.calls a0_1 0 999 false _ A4.out).mono ?_); rintro e w' ⟨rfl, ⟨nd, rfl⟩⟩))
   go_ret
   exact ⟨z2_, z0_⟩
 ·replace c3 := Bool.eq_false_iff.mpr c3
  subst c3
  have H1 : (some false) = some r := by rw [if_neg (show ¬ (false = true) by decide)] at H; exact H
  clear H
  have H := H1
  clear H1
  obtain rfl := Option.some.inj H
  go_enter Try.func98, Try.ntmps98
  go_wp2_with (first | ((with_reducible refine gate_dst (N := 1) rfl ?_); refine box_event ?hg (N := 1) ?hd (cs := #[.int .i64 a0_0, .int .i64 a0_1, .int .i64 a0_2]) (t := 72) ?hr ?_; (case hd => rfl); (case hg => rfl); (case hr => exact z141_); intro gb199 hg w20 hbox hb; have n0_ := q_ (below_step z0_ hb); have n1_ := q_ (hbox); have n2_ := q_ ((z107_ : w.heap.size ≤ gb199)); have n3_ := q_ ((z107_ : w.heap.size ≤ gb199)); clear HB; have HB := n0_; have BK199 := n1_; have GW199 := n2_; have GE199 := n3_; clear n0_ n1_ n2_ n3_; clear hb hbox hg; obtain ⟨hcz21_0, hcz21_1, hcz21_2, hfz21_0, hfz21_1, hfz21_2⟩ := cs3_ BK199.out) | ((with_reducible refine gate_callee (f := 97) rfl ?_); refine goesL_ (some 5) rfl rfl Try.func97 (by kernel_rfl) rfl #[.int .i64 a0_0, .int .i64 1, .int .i64 4] rfl z1_ ?_; (with_reducible refine (spec_l1In.calls a0_0 1 4 false _ A2.out).mono ?_); rintro e w' ⟨rfl, ⟨nd, rfl⟩⟩; refine ⟨_, rfl, ?_⟩))
  go_ret
  exact ⟨z2_, z0_⟩

end Go.Proofs.Ytfnndcpaldkkoaa.PFnExactTreeCount
