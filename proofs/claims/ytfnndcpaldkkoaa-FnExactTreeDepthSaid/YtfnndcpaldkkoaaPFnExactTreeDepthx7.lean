-- Written by a program of this session, which goes by the kit's print. Not trusted: Lean checks it.
import Derived.Test.YtfnndcpaldkkoaaPFnExactTreeDepthx0
import Derived.Test.YtfnndcpaldkkoaaPFnExactTreeDepthx6
namespace Go.Proofs.Ytfnndcpaldkkoaa.PFnExactTreeDepth
open Go.RowKit Go.Proofs.YtfnndcpaldkkoaaW.PrintWords Go.Proofs.YtfnndcpaldkkoaaW.PrintLast Go.Proofs.YtfnndcpaldkkoaaW.PrintMore
attribute [local go_sem] max2_int min2_int max_two min_two max_three min_three max_four min_four   -- for this text's walks alone
set_option linter.unusedVariables false
set_option linter.unusedSimpArgs false

/-! ### slices_IndexFunc_Msg_104: function 124 -/
def slices_IndexFunc_Msg_104.l0 : Nat → List (S72) → Int → Int → Int → Int → Option (Int)
 | 0, _, _, _, _, _ => none
 | k + 1, x0, x7, x8, x29000, x30000 => if x8 < x7 then (if 0 ≤ x8 then (if x8 < (x0.length : Int) then ((impl_depthOf_f1.f k ((rd_T72 x0 x8).f0) ((rd_T72 x0 x8).f1) ((rd_T72 x0 x8).f2) x29000 x30000).bind fun t222 => (if t222 = true then (some x8) else (slices_IndexFunc_Msg_104.l0 k x0 x7 (wrap64 (x8 + 1)) x29000 x30000))) else (none)) else (none)) else (some (-1))
def slices_IndexFunc_Msg_104.f (k : Nat) (l0 : List (S72)) (a28_0 : Int) (a29_0 : Int) : Option (Int) := slices_IndexFunc_Msg_104.l0 k l0 (l0.length : Int) 0 a28_0 a29_0
theorem slices_IndexFunc_Msg_104.mono_l : ∀ k, (∀ y0 y1 y2 y3 y4, LeO (slices_IndexFunc_Msg_104.l0 k y0 y1 y2 y3 y4) (slices_IndexFunc_Msg_104.l0 (k + 1) y0 y1 y2 y3 y4))
 | 0 => fun _ _ _ _ _ r h => by simp [slices_IndexFunc_Msg_104.l0] at h
 | k + 1 => by
  have ih0 := slices_IndexFunc_Msg_104.mono_l k
  ·intro y0 y1 y2 y3 y4
   unfold slices_IndexFunc_Msg_104.l0
   repeat' first
   | (with_reducible exact ih0 _ _ _ _ _)
   | (with_reducible exact impl_depthOf_f1.mono _ _ _ _ _ _)
   | (with_reducible exact LeO.refl _)
   | (with_reducible exact LeO.none _)
   | (with_reducible refine LeO.ite ?_ ?_)
   | (with_reducible refine LeO.bind ?_ (fun _ => ?_))
   | exact ih0 _ _ _ _ _
   | exact impl_depthOf_f1.mono _ _ _ _ _ _
   | exact LeO.none _
   | refine LeO.ite ?_ ?_
   | refine LeO.bind ?_ (fun _ => ?_)
theorem slices_IndexFunc_Msg_104.mono : ∀ a0 a1 a2 k, LeO (slices_IndexFunc_Msg_104.f k a0 a1 a2) (slices_IndexFunc_Msg_104.f (k + 1) a0 a1 a2) := by
 intro a0 a1 a2 k
 have ih0 := slices_IndexFunc_Msg_104.mono_l k
 unfold slices_IndexFunc_Msg_104.f
 repeat' first
   | (with_reducible exact ih0 _ _ _ _ _)
   | (with_reducible exact impl_depthOf_f1.mono _ _ _ _ _ _)
   | (with_reducible exact LeO.refl _)
   | (with_reducible exact LeO.none _)
   | (with_reducible refine LeO.ite ?_ ?_)
   | (with_reducible refine LeO.bind ?_ (fun _ => ?_))
   | exact ih0 _ _ _ _ _
   | exact impl_depthOf_f1.mono _ _ _ _ _ _
   | exact LeO.none _
   | refine LeO.ite ?_ ?_
   | refine LeO.bind ?_ (fun _ => ?_)
set_option maxHeartbeats 8000000 in
set_option maxRecDepth 100000 in
theorem slices_IndexFunc_Msg_104.calls (k : Nat) (A0 : Option Addr) (c0 : Nat) (l0 : List (S72)) (gc28 : Nat) (gc29 : Nat) (a28_0 : Int) (a29_0 : Int) (r : Int) (w : World) (hr0 : Kd.C k72 w A0 l0.length l0) (hc0 : l0.length ≤ c0) (hb28 : w.heap[gc28]? = some (.cells #[.int .i64 a28_0] 3 (0, 0))) (hb29 : w.heap[gc29]? = some (.cells #[.int .i64 a29_0] 3 (0, 0))) (h : slices_IndexFunc_Msg_104.f k l0 a28_0 a29_0 = some r) :
  Calls Try.prog 124 #[.slice A0 l0.length c0, .func (.func 104) #[] #[.pointer (some ⟨gc28, 0, none⟩), .pointer (some ⟨gc29, 0, none⟩)]] w fun e w' => e = .returned (.int .i64 r) ∧ Below w.heap.size w w' := by
 have hu72 := Try.underlying72
 have HR0 := q_ hr0
 have HC0 := q_ hc0
 clear hr0 hc0
 have BK28 := q_ hb28
 clear hb28
 have BK29 := q_ hb29
 clear hb29
 have HB := q_ (Below.refl w.heap.size w)
 have H : (slices_IndexFunc_Msg_104.l0 k l0 (l0.length : Int) 0 a28_0 a29_0) = some r := h
 clear h
 have H' := q_ H
 clear H
 go_enter Try.func124, Try.ntmps124
 go_wp2
 go_loopg [8] k (fun kq v8 w' => ∃ (x8_1 : Int), v8 = .int .i64 x8_1 ∧ Aside0 (slices_IndexFunc_Msg_104.l0 kq l0 (l0.length : Int) x8_1 a28_0 a29_0 = some r) ∧ Aside0 (kq ≤ k) ∧ Aside0 (w'.heap[gc28]? = some (.cells #[.int .i64 a28_0] 3 (0, 0))) ∧ Aside0 (w'.heap[gc29]? = some (.cells #[.int .i64 a29_0] 3 (0, 0))) ∧ Aside0 (Below w.heap.size w w'))
 case atStart => exact ⟨(0), z8_, H', ⟨Nat.le_refl _⟩, ⟨z24_⟩, ⟨z44_⟩, ⟨z11_⟩⟩
 case round =>
  clear H'
  try clear c1
  try clear c2
  try clear p2
  obtain ⟨x8_1, rfl, HA, HK1, BK28, BK29, HB⟩ := hrel
  cases gk with
  | zero => exact absurd HA.out (by simp [slices_IndexFunc_Msg_104.l0])
  | succ k1 =>
   have H := HA.out
   clear HA
   simp only [slices_IndexFunc_Msg_104.l0] at H
   by_cases c3 : x8_1 < (l0.length : Int)
   ·rw [if_pos c3] at H
    have c3b0 : decide (x8_1 < (l0.length : Int)) = true := decide_eq_true c3
    clear c3
    by_cases c4 : 0 ≤ x8_1
    ·rw [if_pos c4] at H
     have c4b0 : decide (0 ≤ x8_1) = true := decide_eq_true c4
     clear c4
     by_cases c5 : x8_1 < (l0.length : Int)
     ·rw [if_pos c5] at H
      have c5b0 : decide (x8_1 < (l0.length : Int)) = true := decide_eq_true c5
      clear c5
      replace H := Option.bind_eq_some_iff.mp H
      obtain ⟨t222, A60, H⟩ := H
      replace H : (if t222 = true then (some x8_1) else (slices_IndexFunc_Msg_104.l0 k1 l0 (l0.length : Int) (wrap64 (x8_1 + 1)) a28_0 a29_0)) = some r := H
      have A6 := q_ A60
      clear A60
      by_cases c7 : t222 = true
      ·subst c7
       have H1 : (some x8_1) = some r := z45_
       clear H
       have H := H1
       clear H1
       obtain rfl := Option.some.inj H
       have p221 : 0 ≤ (x8_1 : Int) := of_decide_eq_true z3_
       have q221 : x8_1 < (l0.length : Int) := of_decide_eq_true z3_
       obtain ⟨ad221, e221, hx221_0, hx221_1, hx221_2⟩ := at_T72 HR0.out x8_1 p221 q221
       cases e221
       replace hx221_0 := up_ HB hx221_0
       replace hx221_1 := up_ HB hx221_1
       replace hx221_2 := up_ HB hx221_2
       replace p221 := eq_true p221
       replace q221 := eq_true q221
       go_wp2_with (first | (go_at_call 104; refine calls_of_args (args' := #[.agg #[.int .i64 ((rd_T72 l0 x8_1).f0), .int .i64 ((rd_T72 l0 x8_1).f1), .int .i64 ((rd_T72 l0 x8_1).f2)], .pointer (some ⟨gc28, 0, none⟩), .pointer (some ⟨gc29, 0, none⟩)]) (by first | rfl | rfl) ?_; (with_reducible refine (impl_depthOf_f1.calls k1 ((rd_T72 l0 x8_1).f0) ((rd_T72 l0 x8_1).f1) ((rd_T72 l0 x8_1).f2) gc28 a28_0 gc29 a29_0 true _ ?side1 ?side2 A6.out).mono ?_); (case side1 => exact z154_); (case side2 => exact z155_); rintro e w8 ⟨rfl, hb⟩; have n0_ := q_ (blk_below (g := gc28) (o := .cells #[.int .i64 a28_0] 3 (0, 0)) z24_ hb); have n1_ := q_ (blk_below (g := gc29) (o := .cells #[.int .i64 a29_0] 3 (0, 0)) z44_ hb); have n2_ := q_ (below_step z11_ hb); clear BK28; clear BK29; clear HB; have BK28 := n0_; have BK29 := n1_; have HB := n2_; clear n0_ n1_ n2_; (try clear hb); (try clear hb2); (try clear hk); (try clear hi)))
       go_ret
       exact ⟨z2_, z11_⟩
      ·replace c7 := Bool.eq_false_iff.mpr c7
       subst c7
       have H1 : (slices_IndexFunc_Msg_104.l0 k1 l0 (l0.length : Int) (wrap64 (x8_1 + 1)) a28_0 a29_0) = some r := by rw [if_neg (show ¬ (false = true) by decide)] at H; exact H
       clear H
       have H := H1
       clear H1
       have H' := q_ H
       clear H
       have p221 : 0 ≤ (x8_1 : Int) := of_decide_eq_true z3_
       have q221 : x8_1 < (l0.length : Int) := of_decide_eq_true z3_
       obtain ⟨ad221, e221, hx221_0, hx221_1, hx221_2⟩ := at_T72 HR0.out x8_1 p221 q221
       cases e221
       replace hx221_0 := up_ HB hx221_0
       replace hx221_1 := up_ HB hx221_1
       replace hx221_2 := up_ HB hx221_2
       replace p221 := eq_true p221
       replace q221 := eq_true q221
       go_wp2_with (first | (go_at_call 104; refine calls_of_args (args' := #[.agg #[.int .i64 ((rd_T72 l0 x8_1).f0), .int .i64 ((rd_T72 l0 x8_1).f1), .int .i64 ((rd_T72 l0 x8_1).f2)], .pointer (some ⟨gc28, 0, none⟩), .pointer (some ⟨gc29, 0, none⟩)]) (by first | rfl | rfl) ?_; (with_reducible refine (impl_depthOf_f1.calls k1 ((rd_T72 l0 x8_1).f0) ((rd_T72 l0 x8_1).f1) ((rd_T72 l0 x8_1).f2) gc28 a28_0 gc29 a29_0 false _ ?side1 ?side2 A6.out).mono ?_); (case side1 => exact z154_); (case side2 => exact z155_); rintro e w9 ⟨rfl, hb⟩; have n0_ := q_ (blk_below (g := gc28) (o := .cells #[.int .i64 a28_0] 3 (0, 0)) z24_ hb); have n1_ := q_ (blk_below (g := gc29) (o := .cells #[.int .i64 a29_0] 3 (0, 0)) z44_ hb); have n2_ := q_ (below_step z11_ hb); clear BK28; clear BK29; clear HB; have BK28 := n0_; have BK29 := n1_; have HB := n2_; clear n0_ n1_ n2_; (try clear hb); (try clear hb2); (try clear hk); (try clear hi)))
       go_roundg k1
       case measure => have := HK1.out; omega
       case rel => exact ⟨(wrap64 (x8_1 + 1)), z8_, H', ⟨z79_⟩, ⟨z24_⟩, ⟨z44_⟩, ⟨z11_⟩⟩
     ·rw [if_neg c5] at H
      exact absurd H (by simp)
    ·rw [if_neg c4] at H
     exact absurd H (by simp)
   ·rw [if_neg c3] at H
    have c3b0 : decide (x8_1 < (l0.length : Int)) = false := decide_eq_false c3
    clear c3
    obtain rfl := Option.some.inj H
    go_wp2
    go_ret
    exact ⟨z2_, z11_⟩

/-! ### slices_ContainsFunc_Msg_104: function 103 -/
def slices_ContainsFunc_Msg_104.f (k : Nat) (l0 : List (S72)) (a28_0 : Int) (a29_0 : Int) : Option (Bool) := (slices_IndexFunc_Msg_104.f k l0 a28_0 a29_0).bind fun t223 => (some (decide (t223 ≥ 0)))
theorem slices_ContainsFunc_Msg_104.mono : ∀ a0 a1 a2 k, LeO (slices_ContainsFunc_Msg_104.f k a0 a1 a2) (slices_ContainsFunc_Msg_104.f (k + 1) a0 a1 a2) := by
 intro a0 a1 a2 k
 unfold slices_ContainsFunc_Msg_104.f
 repeat' first
   | (with_reducible exact slices_IndexFunc_Msg_104.mono _ _ _ _)
   | (with_reducible exact LeO.refl _)
   | (with_reducible exact LeO.none _)
   | (with_reducible refine LeO.ite ?_ ?_)
   | (with_reducible refine LeO.bind ?_ (fun _ => ?_))
   | exact slices_IndexFunc_Msg_104.mono _ _ _ _
   | exact LeO.none _
   | refine LeO.ite ?_ ?_
   | refine LeO.bind ?_ (fun _ => ?_)
set_option maxHeartbeats 8000000 in
set_option maxRecDepth 100000 in
theorem slices_ContainsFunc_Msg_104.calls (k : Nat) (A0 : Option Addr) (c0 : Nat) (l0 : List (S72)) (gc28 : Nat) (gc29 : Nat) (a28_0 : Int) (a29_0 : Int) (r : Bool) (w : World) (hr0 : Kd.C k72 w A0 l0.length l0) (hc0 : l0.length ≤ c0) (hb28 : w.heap[gc28]? = some (.cells #[.int .i64 a28_0] 3 (0, 0))) (hb29 : w.heap[gc29]? = some (.cells #[.int .i64 a29_0] 3 (0, 0))) (h : slices_ContainsFunc_Msg_104.f k l0 a28_0 a29_0 = some r) :
  Calls Try.prog 103 #[.slice A0 l0.length c0, .func (.func 104) #[] #[.pointer (some ⟨gc28, 0, none⟩), .pointer (some ⟨gc29, 0, none⟩)]] w fun e w' => e = .returned (.bool r) ∧ Below w.heap.size w w' := by
 have HR0 := q_ hr0
 have HC0 := q_ hc0
 clear hr0 hc0
 have BK28 := q_ hb28
 clear hb28
 have BK29 := q_ hb29
 clear hb29
 have HB := q_ (Below.refl w.heap.size w)
 have H : ((slices_IndexFunc_Msg_104.f k l0 a28_0 a29_0).bind fun t223 => (some (decide (t223 ≥ 0)))) = some r := h
 clear h
 replace H := Option.bind_eq_some_iff.mp H
 obtain ⟨t223, A30, H⟩ := H
 replace H : (some (decide (t223 ≥ 0))) = some r := H
 have A3 := q_ A30
 clear A30
 obtain rfl := Option.some.inj H
 go_enter Try.func103, Try.ntmps103
 go_wp2_with (first | ((with_reducible refine gate_callee (f := 124) rfl ?_); refine goesL_ (some 7) rfl rfl Try.func124 (by kernel_rfl) rfl #[.slice A0 l0.length c0, .func (.func 104) #[] #[.pointer (some ⟨gc28, 0, none⟩), .pointer (some ⟨gc29, 0, none⟩)]] rfl z1_ ?_; (with_reducible refine (slices_IndexFunc_Msg_104.calls k _ _ l0 gc28 gc29 a28_0 a29_0 t223 _ ?side1 ?side2 ?side3 ?side4 A3.out).mono ?_); (case side1 => exact z198_); (case side2 => exact HC0.out); (case side3 => exact z154_); (case side4 => exact z155_); rintro e w4 ⟨rfl, hb⟩; refine ⟨_, rfl, ?_⟩; have n0_ := q_ (blk_below (g := gc28) (o := .cells #[.int .i64 a28_0] 3 (0, 0)) z24_ hb); have n1_ := q_ (blk_below (g := gc29) (o := .cells #[.int .i64 a29_0] 3 (0, 0)) z44_ hb); have n2_ := q_ (below_step z11_ hb); clear BK28; clear BK29; clear HB; have BK28 := n0_; have BK29 := n1_; have HB := n2_; clear n0_ n1_ n2_; (try clear hb); (try clear hb2); (try clear hk); (try clear hi)))
 go_ret
 exact ⟨z2_, z11_⟩

end Go.Proofs.Ytfnndcpaldkkoaa.PFnExactTreeDepth
