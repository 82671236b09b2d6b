-- Written by a program of this session, which goes by the kit's print. Not trusted: Lean checks it.
import Derived.Test.YtphlmbhjeoljoaaPFnExactShrinkx0
import Derived.Test.YtphlmbhjeoljoaaPFnExactShrinkx4
namespace Go.Proofs.Ytphlmbhjeoljoaa.PFnExactShrink
open Go.RowKit Go.Proofs.YtphlmbhjeoljoaaW.PrintWords Go.Proofs.YtphlmbhjeoljoaaW.PrintLast Go.Proofs.YtphlmbhjeoljoaaW.PrintMore
attribute [local go_sem] max2_int min2_int max_two min_two max_three min_three max_four min_four   -- for this text's walks alone
set_option linter.unusedVariables false
set_option linter.unusedSimpArgs false

/-! ### slices_ContainsFunc_Msg_98: function 97 -/
def slices_ContainsFunc_Msg_98.f (k : Nat) (l0 : List (S67)) (a28_0 : Int) (a28_1 : Int) (a28_2 : Int) : Option (Bool) := (slices_IndexFunc_Msg_98.f k l0 a28_0 a28_1 a28_2).bind fun t169 => (some (decide (t169 ≥ 0)))
theorem slices_ContainsFunc_Msg_98.mono : ∀ a0 a1 a2 a3 k, LeO (slices_ContainsFunc_Msg_98.f k a0 a1 a2 a3) (slices_ContainsFunc_Msg_98.f (k + 1) a0 a1 a2 a3) := by
 intro a0 a1 a2 a3 k
 unfold slices_ContainsFunc_Msg_98.f
 repeat' first
   | (with_reducible exact slices_IndexFunc_Msg_98.mono _ _ _ _ _)
   | (with_reducible exact LeO.refl _)
   | (with_reducible exact LeO.none _)
   | (with_reducible refine LeO.ite ?_ ?_)
   | (with_reducible refine LeO.bind ?_ (fun _ => ?_))
   | exact slices_IndexFunc_Msg_98.mono _ _ _ _ _
   | exact LeO.none _
   | refine LeO.ite ?_ ?_
   | refine LeO.bind ?_ (fun _ => ?_)
set_option maxHeartbeats 8000000 in
set_option maxRecDepth 100000 in
theorem slices_ContainsFunc_Msg_98.calls (k : Nat) (A0 : Option Addr) (c0 : Nat) (l0 : List (S67)) (gc28 : Nat) (a28_0 : Int) (a28_1 : Int) (a28_2 : Int) (r : Bool) (w : World) (hr0 : Kd.C k67 w A0 l0.length l0) (hc0 : l0.length ≤ c0) (hb28 : w.heap[gc28]? = some (.cells #[.int .i64 a28_0, .int .i64 a28_1, .int .i64 a28_2] 67 (0, 0))) (h : slices_ContainsFunc_Msg_98.f k l0 a28_0 a28_1 a28_2 = some r) :
  Calls Try.prog 97 #[.slice A0 l0.length c0, .func (.func 98) #[] #[.pointer (some ⟨gc28, 0, none⟩)]] w fun e w' => e = .returned (.bool r) ∧ Below w.heap.size w w' := by
 have HR0 := q_ hr0
 have HC0 := q_ hc0
 clear hr0 hc0
 have BK28 := q_ hb28
 clear hb28
 have HB := q_ (Below.refl w.heap.size w)
 have H : ((slices_IndexFunc_Msg_98.f k l0 a28_0 a28_1 a28_2).bind fun t169 => (some (decide (t169 ≥ 0)))) = some r := h
 clear h
 replace H := Option.bind_eq_some_iff.mp H
 obtain ⟨t169, A30, H⟩ := H
 replace H : (some (decide (t169 ≥ 0))) = some r := H
 have A3 := q_ A30
 clear A30
 obtain rfl := Option.some.inj H
 go_enter Try.func97, Try.ntmps97
 go_wp2_with (first | ((with_reducible refine gate_callee (f := 100) rfl ?_); refine goesL_ (some 7) rfl rfl Try.func100 (by kernel_rfl) rfl #[.slice A0 l0.length c0, .func (.func 98) #[] #[.pointer (some ⟨gc28, 0, none⟩)]] rfl z1_ ?_; (with_reducible refine (slices_IndexFunc_Msg_98.calls k _ _ l0 gc28 a28_0 a28_1 a28_2 t169 _ ?side1 ?side2 ?side3 A3.out).mono ?_); (case side1 => exact z90_); (case side2 => exact HC0.out); (case side3 => exact z105_); rintro e w4 ⟨rfl, hb⟩; refine ⟨_, rfl, ?_⟩; have n0_ := q_ (blk_below (g := gc28) (o := .cells #[.int .i64 a28_0, .int .i64 a28_1, .int .i64 a28_2] 67 (0, 0)) z18_ hb); have n1_ := q_ (below_step z6_ hb); clear BK28; clear HB; have BK28 := n0_; have HB := n1_; clear n0_ n1_; (try clear hb); (try clear hb2); (try clear hk); (try clear hi)))
 go_ret
 exact ⟨z3_, z6_⟩

/-! ### impl_Shrink_f3: function 101 -/
def impl_Shrink_f3.f (a0_0 : Int) (a0_1 : Int) (a0_2 : Int) (a28_0 : Int) (a28_1 : Int) (a28_2 : Int) : Option (Bool) := some (a0_1 == a28_1)
set_option maxHeartbeats 8000000 in
set_option maxRecDepth 100000 in
theorem impl_Shrink_f3.calls (a0_0 : Int) (a0_1 : Int) (a0_2 : Int) (gc28 : Nat) (a28_0 : Int) (a28_1 : Int) (a28_2 : Int) (r : Bool) (w : World) (hb28 : w.heap[gc28]? = some (.cells #[.int .i64 a28_0, .int .i64 a28_1, .int .i64 a28_2] 67 (0, 0))) (h : impl_Shrink_f3.f a0_0 a0_1 a0_2 a28_0 a28_1 a28_2 = some r) :
  Calls Try.prog 101 #[.agg #[.int .i64 a0_0, .int .i64 a0_1, .int .i64 a0_2], .pointer (some ⟨gc28, 0, none⟩)] w fun e w' => e = .returned (.bool r) ∧ Below w.heap.size w w' := by
 have hu67 := Try.underlying67
 have BK28 := q_ hb28
 clear hb28
 have HB := q_ (Below.refl w.heap.size w)
 have H : (some (a0_1 == a28_1)) = some r := h
 clear h
 obtain rfl := Option.some.inj H
 go_enter Try.func101, Try.ntmps101
 go_wp2_with (first | ((with_reducible refine gate_dst (N := 2) rfl ?_); refine box_event ?hg (N := 2) ?hd (cs := #[.int .i64 a0_0, .int .i64 a0_1, .int .i64 a0_2]) (t := 67) ?hr ?_; (case hd => rfl); (case hg => rfl); (case hr => exact z88_); intro gb170 hg w3 hbox hb; have n0_ := q_ (blk_below (g := gc28) (o := .cells #[.int .i64 a28_0, .int .i64 a28_1, .int .i64 a28_2] 67 (0, 0)) z18_ hb); have n1_ := q_ (below_step z6_ hb); have n2_ := q_ (hbox); have n3_ := q_ ((z81_ : w.heap.size ≤ gb170)); have n4_ := q_ ((z81_ : w.heap.size ≤ gb170)); have n5_ := q_ ((z73_ : gc28 ≠ gb170)); have n6_ := q_ ((z74_ : gb170 ≠ gc28)); clear BK28; clear HB; have BK28 := n0_; have HB := n1_; have BK170 := n2_; have GW170 := n3_; have GE170 := n4_; have NB28_170 := n5_; have NB170_28 := n6_; clear n0_ n1_ n2_ n3_ n4_ n5_ n6_; clear hb hbox hg; have hnb4 := NB170_28.out; have hnc4 := NB28_170.out; obtain ⟨hcz5_0, hcz5_1, hcz5_2, hfz5_0, hfz5_1, hfz5_2⟩ := cs3_ BK170.out; obtain ⟨hcz6_0, hcz6_1, hcz6_2, hfz6_0, hfz6_1, hfz6_2⟩ := cs3_ BK28.out))
 go_ret
 exact ⟨z3_, by repeat (first | (with_reducible first | exact HB.out | apply below_alloc | apply pw_below_drewN | apply below_drew1 | refine below_set ?_ GE28.out | refine below_set ?_ GE170.out) | exact HB.out)⟩

/-! ### slices_IndexFunc_Msg_101: function 100 -/
def slices_IndexFunc_Msg_101.l0 : Nat → List (S67) → Int → Int → Int → Int → Int → Option (Int)
 | 0, _, _, _, _, _, _ => none
 | k + 1, x0, x7, x8, x29000, x29001, x29002 => if x8 < x7 then (if 0 ≤ x8 then (if x8 < (x0.length : Int) then ((impl_Shrink_f3.f ((rd_T67 x0 x8).f0) ((rd_T67 x0 x8).f1) ((rd_T67 x0 x8).f2) x29000 x29001 x29002).bind fun t172 => (if t172 = true then (some x8) else (slices_IndexFunc_Msg_101.l0 k x0 x7 (wrap64 (x8 + 1)) x29000 x29001 x29002))) else (none)) else (none)) else (some (-1))
def slices_IndexFunc_Msg_101.f (k : Nat) (l0 : List (S67)) (a28_0 : Int) (a28_1 : Int) (a28_2 : Int) : Option (Int) := slices_IndexFunc_Msg_101.l0 k l0 (l0.length : Int) 0 a28_0 a28_1 a28_2
theorem slices_IndexFunc_Msg_101.mono_l : ∀ k, (∀ y0 y1 y2 y3 y4 y5, LeO (slices_IndexFunc_Msg_101.l0 k y0 y1 y2 y3 y4 y5) (slices_IndexFunc_Msg_101.l0 (k + 1) y0 y1 y2 y3 y4 y5))
 | 0 => fun _ _ _ _ _ _ r h => by simp [slices_IndexFunc_Msg_101.l0] at h
 | k + 1 => by
  have ih0 := slices_IndexFunc_Msg_101.mono_l k
  ·intro y0 y1 y2 y3 y4 y5
   unfold slices_IndexFunc_Msg_101.l0
   repeat' first
   | (with_reducible exact ih0 _ _ _ _ _ _)
   | (with_reducible exact LeO.refl _)
   | (with_reducible exact LeO.none _)
   | (with_reducible refine LeO.ite ?_ ?_)
   | (with_reducible refine LeO.bind ?_ (fun _ => ?_))
   | exact ih0 _ _ _ _ _ _
   | exact LeO.none _
   | refine LeO.ite ?_ ?_
   | refine LeO.bind ?_ (fun _ => ?_)
theorem slices_IndexFunc_Msg_101.mono : ∀ a0 a1 a2 a3 k, LeO (slices_IndexFunc_Msg_101.f k a0 a1 a2 a3) (slices_IndexFunc_Msg_101.f (k + 1) a0 a1 a2 a3) := by
 intro a0 a1 a2 a3 k
 have ih0 := slices_IndexFunc_Msg_101.mono_l k
 unfold slices_IndexFunc_Msg_101.f
 repeat' first
   | (with_reducible exact ih0 _ _ _ _ _ _)
   | (with_reducible exact LeO.refl _)
   | (with_reducible exact LeO.none _)
   | (with_reducible refine LeO.ite ?_ ?_)
   | (with_reducible refine LeO.bind ?_ (fun _ => ?_))
   | exact ih0 _ _ _ _ _ _
   | exact LeO.none _
   | refine LeO.ite ?_ ?_
   | refine LeO.bind ?_ (fun _ => ?_)
set_option maxHeartbeats 8000000 in
set_option maxRecDepth 100000 in
theorem slices_IndexFunc_Msg_101.calls (k : Nat) (A0 : Option Addr) (c0 : Nat) (l0 : List (S67)) (gc28 : Nat) (a28_0 : Int) (a28_1 : Int) (a28_2 : Int) (r : Int) (w : World) (hr0 : Kd.C k67 w A0 l0.length l0) (hc0 : l0.length ≤ c0) (hb28 : w.heap[gc28]? = some (.cells #[.int .i64 a28_0, .int .i64 a28_1, .int .i64 a28_2] 67 (0, 0))) (h : slices_IndexFunc_Msg_101.f k l0 a28_0 a28_1 a28_2 = some r) :
  Calls Try.prog 100 #[.slice A0 l0.length c0, .func (.func 101) #[] #[.pointer (some ⟨gc28, 0, none⟩)]] w fun e w' => e = .returned (.int .i64 r) ∧ Below w.heap.size w w' := by
 have hu67 := Try.underlying67
 have HR0 := q_ hr0
 have HC0 := q_ hc0
 clear hr0 hc0
 have BK28 := q_ hb28
 clear hb28
 have HB := q_ (Below.refl w.heap.size w)
 have H : (slices_IndexFunc_Msg_101.l0 k l0 (l0.length : Int) 0 a28_0 a28_1 a28_2) = some r := h
 clear h
 have H' := q_ H
 clear H
 go_enter Try.func100, Try.ntmps100
 go_wp2
 go_loopg [8] k (fun kq v8 w' => ∃ (x8_1 : Int), v8 = .int .i64 x8_1 ∧ Aside0 (slices_IndexFunc_Msg_101.l0 kq l0 (l0.length : Int) x8_1 a28_0 a28_1 a28_2 = some r) ∧ Aside0 (kq ≤ k) ∧ Aside0 (w'.heap[gc28]? = some (.cells #[.int .i64 a28_0, .int .i64 a28_1, .int .i64 a28_2] 67 (0, 0))) ∧ Aside0 (Below w.heap.size w w'))
 case atStart => exact ⟨(0), z9_, H', ⟨Nat.le_refl _⟩, ⟨z18_⟩, ⟨z6_⟩⟩
 case round =>
  clear H'
  try clear c1
  try clear c2
  try clear p2
  obtain ⟨x8_1, rfl, HA, HK1, BK28, HB⟩ := hrel
  cases gk with
  | zero => exact absurd HA.out (by simp [slices_IndexFunc_Msg_101.l0])
  | succ k1 =>
   have H := HA.out
   clear HA
   simp only [slices_IndexFunc_Msg_101.l0] at H
   by_cases c3 : x8_1 < (l0.length : Int)
   ·rw [if_pos c3] at H
    have c3b0 : decide (x8_1 < (l0.length : Int)) = true := decide_eq_true c3
    clear c3
    by_cases c4 : 0 ≤ x8_1
    ·rw [if_pos c4] at H
     have c4b0 : decide (0 ≤ x8_1) = true := decide_eq_true c4
     clear c4
     by_cases c5 : x8_1 < (l0.length : Int)
     ·rw [if_pos c5] at H
      have c5b0 : decide (x8_1 < (l0.length : Int)) = true := decide_eq_true c5
      clear c5
      replace H := Option.bind_eq_some_iff.mp H
      obtain ⟨t172, A60, H⟩ := H
      replace H : (if t172 = true then (some x8_1) else (slices_IndexFunc_Msg_101.l0 k1 l0 (l0.length : Int) (wrap64 (x8_1 + 1)) a28_0 a28_1 a28_2)) = some r := H
      have A6 := q_ A60
      clear A60
      by_cases c7 : t172 = true
      ·subst c7
       have H1 : (some x8_1) = some r := z41_
       clear H
       have H := H1
       clear H1
       obtain rfl := Option.some.inj H
       have p171 : 0 ≤ (x8_1 : Int) := of_decide_eq_true z2_
       have q171 : x8_1 < (l0.length : Int) := of_decide_eq_true z2_
       obtain ⟨ad171, e171, hx171_0, hx171_1, hx171_2⟩ := at_T67 HR0.out x8_1 p171 q171
       cases e171
       replace hx171_0 := up_ HB hx171_0
       replace hx171_1 := up_ HB hx171_1
       replace hx171_2 := up_ HB hx171_2
       replace p171 := eq_true p171
       replace q171 := eq_true q171
       go_wp2_with (first | (go_at_call 101; refine calls_of_args (args' := #[.agg #[.int .i64 ((rd_T67 l0 x8_1).f0), .int .i64 ((rd_T67 l0 x8_1).f1), .int .i64 ((rd_T67 l0 x8_1).f2)], .pointer (some ⟨gc28, 0, none⟩)]) z66_ ?_; (with_reducible refine (impl_Shrink_f3.calls ((rd_T67 l0 x8_1).f0) ((rd_T67 l0 x8_1).f1) ((rd_T67 l0 x8_1).f2) gc28 a28_0 a28_1 a28_2 true _ ?side1 A6.out).mono ?_); (case side1 => exact z105_); rintro e w8 ⟨rfl, hb⟩; have n0_ := q_ (blk_below (g := gc28) (o := .cells #[.int .i64 a28_0, .int .i64 a28_1, .int .i64 a28_2] 67 (0, 0)) z18_ hb); have n1_ := q_ (below_step z6_ hb); clear BK28; clear HB; have BK28 := n0_; have HB := n1_; clear n0_ n1_; (try clear hb); (try clear hb2); (try clear hk); (try clear hi)))
       go_ret
       exact ⟨z3_, z6_⟩
      ·replace c7 := Bool.eq_false_iff.mpr c7
       subst c7
       have H1 : (slices_IndexFunc_Msg_101.l0 k1 l0 (l0.length : Int) (wrap64 (x8_1 + 1)) a28_0 a28_1 a28_2) = some r := by rw [if_neg (show ¬ (false = true) by decide)] at H; exact H
       clear H
       have H := H1
       clear H1
       have H' := q_ H
       clear H
       have p171 : 0 ≤ (x8_1 : Int) := of_decide_eq_true z2_
       have q171 : x8_1 < (l0.length : Int) := of_decide_eq_true z2_
       obtain ⟨ad171, e171, hx171_0, hx171_1, hx171_2⟩ := at_T67 HR0.out x8_1 p171 q171
       cases e171
       replace hx171_0 := up_ HB hx171_0
       replace hx171_1 := up_ HB hx171_1
       replace hx171_2 := up_ HB hx171_2
       replace p171 := eq_true p171
       replace q171 := eq_true q171
       go_wp2_with (first | (go_at_call 101; refine calls_of_args (args' := #[.agg #[.int .i64 ((rd_T67 l0 x8_1).f0), .int .i64 ((rd_T67 l0 x8_1).f1), .int .i64 ((rd_T67 l0 x8_1).f2)], .pointer (some ⟨gc28, 0, none⟩)]) z66_ ?_; (with_reducible refine (impl_Shrink_f3.calls ((rd_T67 l0 x8_1).f0) ((rd_T67 l0 x8_1).f1) ((rd_T67 l0 x8_1).f2) gc28 a28_0 a28_1 a28_2 false _ ?side1 A6.out).mono ?_); (case side1 => exact z105_); rintro e w9 ⟨rfl, hb⟩; have n0_ := q_ (blk_below (g := gc28) (o := .cells #[.int .i64 a28_0, .int .i64 a28_1, .int .i64 a28_2] 67 (0, 0)) z18_ hb); have n1_ := q_ (below_step z6_ hb); clear BK28; clear HB; have BK28 := n0_; have HB := n1_; clear n0_ n1_; (try clear hb); (try clear hb2); (try clear hk); (try clear hi)))
       go_roundg k1
       case measure => have := HK1.out; omega
       case rel => (try simp only [hl13_1] at HO_3); exact ⟨(wrap64 (x8_1 + 1)), z9_, H', ⟨z49_⟩, ⟨z18_⟩, ⟨z6_⟩⟩
     ·rw [if_neg c5] at H
      exact absurd H (by simp)
    ·rw [if_neg c4] at H
     exact absurd H (by simp)
   ·rw [if_neg c3] at H
    have c3b0 : decide (x8_1 < (l0.length : Int)) = false := decide_eq_false c3
    clear c3
    obtain rfl := Option.some.inj H
    go_wp2
    go_ret
    exact ⟨z3_, z6_⟩

/-! ### impl_limited: function 102 -/
def impl_limited.f (a0 : Int) : Option (Int) := some (mx (-1000000000) (mn a0 1000000000))
set_option maxHeartbeats 8000000 in
set_option maxRecDepth 100000 in
theorem impl_limited.calls (a0 : Int) (r : Int) (w : World) (h : impl_limited.f a0 = some r) :
  Calls Try.prog 102 #[.int .i64 a0] w fun e w' => e = .returned (.int .i64 r) ∧ Below w.heap.size w w' := by
 have HB := q_ (Below.refl w.heap.size w)
 have H : (some (mx (-1000000000) (mn a0 1000000000))) = some r := h
 clear h
 obtain ⟨ji2, hji2⟩ : ∃ j_ : Int, (mn a0 1000000000) = j_ := ⟨_, rfl⟩
 replace H : (some (mx (-1000000000) (ji2))) = some r := by first | (rw [hji2] at H; exact H) | (simp only [hji2] at H ⊢; exact H)
 (try (have hji2h : ji2 ≤ 1000000000 := by (rw [← hji2]; unfold mn; (repeat' split) <;> omega)))
 (try (have hji2g : ji2 ≤ 64 := by omega))
 have hji2_ : (if 1000000000 < a0 then 1000000000 else a0) = ji2 := hji2
 obtain ⟨ji3, hji3⟩ : ∃ j_ : Int, (mx (-1000000000) (ji2)) = j_ := ⟨_, rfl⟩
 replace H : (some ji3) = some r := by first | (rw [hji3] at H; exact H) | (simp only [hji3] at H ⊢; exact H)
 have hji3_ : (if (-1000000000) < (ji2) then (ji2) else (-1000000000)) = ji3 := hji3
 obtain rfl := Option.some.inj H
 go_enter Try.func102, Try.ntmps102
 go_wp2
 go_ret
 exact ⟨by first | rfl | (simp [errW_none, errW_some] <;> rfl) | (simp only [← hji2, ← hji3]; first | rfl | (simp [errW_none, errW_some] <;> rfl)) | (simp [*, errW_none, errW_some] <;> rfl), z0_⟩

/-! ### impl_Shrink: function 18 -/
def impl_Shrink.l0 : Nat → List (S67) → List (S67) → List (S67) → Int → Int → Option ((List (S67)))
 | 0, _, _, _, _, _ => none
 | k + 1, x3, x4, x13, x14, x15 => if x15 < x14 then (if 0 ≤ x15 then (if x15 < (x13.length : Int) then (if 0 ≤ (wrap64 (x15 + 1)) then (if (wrap64 (x15 + 1)) ≤ (x3.length : Int) then ((slices_ContainsFunc_Msg_98.f k (x3.drop ((wrap64 (x15 + 1)) : Int).toNat) ((rd_T67 x13 x15).f0) ((rd_T67 x13 x15).f1) ((rd_T67 x13 x15).f2)).bind fun t188 => (if t188 = true then (impl_Shrink.l0 k x3 x4 x13 x14 (wrap64 (x15 + 1))) else ((slices_IndexFunc_Msg_101.f k x4 ((rd_T67 x13 x15).f0) ((rd_T67 x13 x15).f1) ((rd_T67 x13 x15).f2)).bind fun t189 => (if ((rd_T67 x13 x15).f0) = 3 then (if t189 ≥ 0 then (if 0 ≤ t189 then (if t189 < (x4.length : Int) then (if ((rd_T67 x4 t189).f0) = 1 then ((impl_limited.f (wrap64 (((rd_T67 x4 t189).f2) + ((rd_T67 x13 x15).f2)))).bind fun t192 => (impl_Shrink.l0 k x3 (x4.set (t189 : Int).toNat (⟨(rd_T67 x4 t189).f0, (rd_T67 x4 t189).f1, t192⟩ : S67)) x13 x14 (wrap64 (x15 + 1)))) else (if x4.length < 5864062014805 then (impl_Shrink.l0 k x3 (x4 ++ [(⟨(rd_T67 x13 x15).f0, (rd_T67 x13 x15).f1, (rd_T67 x13 x15).f2⟩ : S67)]) x13 x14 (wrap64 (x15 + 1))) else (none))) else (none)) else (none)) else (if x4.length < 5864062014805 then (impl_Shrink.l0 k x3 (x4 ++ [(⟨(rd_T67 x13 x15).f0, (rd_T67 x13 x15).f1, (rd_T67 x13 x15).f2⟩ : S67)]) x13 x14 (wrap64 (x15 + 1))) else (none))) else (if x4.length < 5864062014805 then (impl_Shrink.l0 k x3 (x4 ++ [(⟨(rd_T67 x13 x15).f0, (rd_T67 x13 x15).f1, (rd_T67 x13 x15).f2⟩ : S67)]) x13 x14 (wrap64 (x15 + 1))) else (none)))))) else (none)) else (none)) else (none)) else (none)) else (some x4)
def impl_Shrink.f (k : Nat) (l0 : List (S67)) : Option ((List (S67))) := (slices_Clone_Msg.f l0).bind fun t173 => ((slices_DeleteFunc_Msg_96.f k t173).bind fun t176 => (impl_Shrink.l0 k t176 (([] : List (S67))) t176 (t176.length : Int) 0))
theorem impl_Shrink.mono_l : ∀ k, (∀ y0 y1 y2 y3 y4, LeO (impl_Shrink.l0 k y0 y1 y2 y3 y4) (impl_Shrink.l0 (k + 1) y0 y1 y2 y3 y4))
 | 0 => fun _ _ _ _ _ r h => by simp [impl_Shrink.l0] at h
 | k + 1 => by
  have ih0 := impl_Shrink.mono_l k
  ·intro y0 y1 y2 y3 y4
   unfold impl_Shrink.l0
   repeat' first
   | (with_reducible exact ih0 _ _ _ _ _)
   | (with_reducible exact slices_ContainsFunc_Msg_98.mono _ _ _ _ _)
   | (with_reducible exact slices_DeleteFunc_Msg_96.mono _ _)
   | (with_reducible exact slices_IndexFunc_Msg_101.mono _ _ _ _ _)
   | (with_reducible exact LeO.refl _)
   | (with_reducible exact LeO.none _)
   | (with_reducible refine LeO.ite ?_ ?_)
   | (with_reducible refine LeO.bind ?_ (fun _ => ?_))
   | exact ih0 _ _ _ _ _
   | exact slices_ContainsFunc_Msg_98.mono _ _ _ _ _
   | exact slices_DeleteFunc_Msg_96.mono _ _
   | exact slices_IndexFunc_Msg_101.mono _ _ _ _ _
   | exact LeO.none _
   | refine LeO.ite ?_ ?_
   | refine LeO.bind ?_ (fun _ => ?_)
theorem impl_Shrink.mono : ∀ a0 k, LeO (impl_Shrink.f k a0) (impl_Shrink.f (k + 1) a0) := by
 intro a0 k
 have ih0 := impl_Shrink.mono_l k
 unfold impl_Shrink.f
 repeat' first
   | (with_reducible exact ih0 _ _ _ _ _)
   | (with_reducible exact slices_ContainsFunc_Msg_98.mono _ _ _ _ _)
   | (with_reducible exact slices_DeleteFunc_Msg_96.mono _ _)
   | (with_reducible exact slices_IndexFunc_Msg_101.mono _ _ _ _ _)
   | (with_reducible exact LeO.refl _)
   | (with_reducible exact LeO.none _)
   | (with_reducible refine LeO.ite ?_ ?_)
   | (with_reducible refine LeO.bind ?_ (fun _ => ?_))
   | exact ih0 _ _ _ _ _
   | exact slices_ContainsFunc_Msg_98.mono _ _ _ _ _
   | exact slices_DeleteFunc_Msg_96.mono _ _
   | exact slices_IndexFunc_Msg_101.mono _ _ _ _ _
   | exact LeO.none _
   | refine LeO.ite ?_ ?_
   | refine LeO.bind ?_ (fun _ => ?_)
def impl_Shrink.T10 : Bool × List (List Nat × List Nat) := (true, [([], []), ([], []), ([], []), ([], []), ([2, 3], [2, 3]), ([4], [4]), ([5], [5]), ([], []), ([7], [7]), ([6, 8], [6, 8]), ([9], [9]), ([0, 1, 0, 1, 2, 3, 4, 5, 6, 7, 8, 9, 10], [0, 1]), ([11, 0, 1, 2, 3, 4, 5, 6, 7, 8, 9, 10], [11]), ([12, 10, 10, 0, 1, 2, 3, 4, 5, 6, 7, 8, 9, 10], [10, 12])])
def impl_Shrink.B10 : List Nat := [0, 0, 0, 0, 12, 28, 60, 0, 128, 508, 1020, 2047, 4095, 8191]
theorem impl_Shrink.tab10 : rtab .any (opsOf Try.f18 10) = impl_Shrink.T10 := by kernel_rfl
theorem impl_Shrink.bits10 : waitsOk impl_Shrink.T10.2 impl_Shrink.B10 = true := by kernel_rfl
set_option maxHeartbeats 8000000 in
set_option maxRecDepth 100000 in
theorem impl_Shrink.calls (k : Nat) (A0 : Option Addr) (c0 : Nat) (l0 : List (S67)) (r : List (S67)) (w : World) (hr0 : Kd.C k67 w A0 l0.length l0) (hc0 : l0.length ≤ c0) (h : impl_Shrink.f k l0 = some r) :
  Calls Try.prog 18 #[.slice A0 l0.length c0] w fun e w' => ∃ v0_ : Value, e = .returned (v0_) ∧ Kd.R k67 67 w' w.heap.size (fun _ => True) v0_ r ∧ Below w.heap.size w w' := by
 have hu67 := Try.underlying67
 have HR0 := q_ hr0
 have HC0 := q_ hc0
 clear hr0 hc0
 have HB := q_ (Below.refl w.heap.size w)
 have H : ((slices_Clone_Msg.f l0).bind fun t173 => ((slices_DeleteFunc_Msg_96.f k t173).bind fun t176 => (impl_Shrink.l0 k t176 (([] : List (S67))) t176 (t176.length : Int) 0))) = some r := h
 clear h
 replace H := Option.bind_eq_some_iff.mp H
 obtain ⟨t173, A20, H⟩ := H
 replace H : ((slices_DeleteFunc_Msg_96.f k t173).bind fun t176 => (impl_Shrink.l0 k t176 (([] : List (S67))) t176 (t176.length : Int) 0)) = some r := H
 have A2 := q_ A20
 clear A20
 replace H := Option.bind_eq_some_iff.mp H
 obtain ⟨t176, A30, H⟩ := H
 replace H : (impl_Shrink.l0 k t176 (([] : List (S67))) t176 (t176.length : Int) 0) = some r := H
 have A3 := q_ A30
 clear A30
 obtain ⟨y179, hy179⟩ : ∃ y_ : List (S67), y_ = (([] : List (S67))) := ⟨_, rfl⟩
 replace H : (impl_Shrink.l0 k t176 y179 t176 (t176.length : Int) 0) = some r := by first | (rw [hy179]; with_reducible exact H) | (have H2_ := (Option.bind_some _ _).symm.trans H; rw [hy179]; with_reducible exact H2_) | (have H2_ := (Option.bind_some _ _).symm.trans H; with_reducible exact H2_) | with_reducible exact H | (rw [hy179]; exact H) | exact H
 have Ny179 := q_ hy179
 clear hy179
 have H' := q_ H
 clear H
 go_enter Try.func18, Try.ntmps18
 go_wp2_with (first | ((with_reducible refine gate_callee (f := 95) rfl ?_); refine goesL_ (some 10) rfl rfl Try.func95 (by kernel_rfl) rfl #[.slice A0 l0.length c0] rfl z1_ ?_; (with_reducible refine (slices_Clone_Msg.calls _ _ l0 t173 _ ?side1 ?side2 A2.out).mono ?_); (case side1 => exact z90_); (case side2 => exact HC0.out); rintro e w4 ⟨v174, rfl, ho0, hb⟩; refine ⟨_, rfl, ?_⟩; have n0_ := q_ (Kd.R_lower ho0 (below_size z0_)); have n1_ := q_ (below_step z0_ hb); clear HB; have HO175 := n0_; have HB := n1_; clear n0_ n1_; (try clear hb); (try clear hb2); (try clear hk); (try clear hi); (try clear ho0); obtain ⟨Ao5, co5, eo5⟩ := Kd.R_slice HO175.out; subst eo5) | ((with_reducible refine gate_callee (f := 94) rfl ?_); refine goesL_ (some 11) rfl rfl Try.func94 (by kernel_rfl) rfl #[.slice Ao5 t173.length co5, .func (.func 96) #[] #[]] rfl z1_ ?_; (with_reducible refine (slices_DeleteFunc_Msg_96.calls k (fun k_ => some k_ = (.slice Ao5 t173.length co5 : Value).ownBlock) (.slice Ao5 t173.length co5) t173  t176 w _ ?side1 ?side2 A3.out).mono ?_); (case side1 => exact z93_); (case side2 => exact Kd.R_tight rfl HO175.out); rintro e w6 ⟨v177, rfl, ho0, hb, hkp⟩; refine ⟨_, rfl, ?_⟩; have n0_ := q_ (Kd.R_mono (ok' := fun k_ => True) ho0 (fun k_ hk_ => trivial)); have n1_ := q_ (hb); clear HB; clear HO175; have HO178 := n0_; have HB := n1_; clear n0_ n1_; (try clear hb); (try clear hkp); (try clear ho0)) | ((with_reducible refine gate_dst (N := 12) rfl ?_); refine Kd.R_lit k67 _ 67 ?hg (N := 12) ?hd (xs := ([] : List (S67))) (inner := []) (ok := fun _ => True) (okp := fun _ => True) ?hr ?hp (fun _ hk => hk) trivial (Below.refl _ _) (Nat.le_refl _) (by simp) ?_; (case hd => rfl); (case hg => rfl); (case hr => exact z88_); (case hp => exact (Reps.none _ _)); intro v180 w7 ho8 hb hg_ hnew_; clear hg_ hnew_; (first | rw [← Ny179.out] at ho8 | (simp only [Int.reduceToNat] at ho8; rw [← Ny179.out] at ho8)); have n0_ := q_ (Kd.R_elder' z63_ (Kd.R_base ho8) hb); have n1_ := q_ (Kd.R_lower (Kd.R_new' ho8 (Kd.R_lt z63_)) (below_size z0_)); have n2_ := q_ (below_step z0_ hb); clear HO178; clear HB; have HO178 := n0_; have HO181 := n1_; have HB := n2_; clear n0_ n1_ n2_; clear hb ho8; obtain ⟨Ao9, co9, eo9⟩ := Kd.R_slice HO178.out; subst eo9))
 go_loopg [4, 15] k (fun kq v4 v15 w' => ∃ (x3_1 : List (S67)) (x4_1 : List (S67)) (x13_1 : List (S67)) (x15_1 : Int), v15 = .int .i64 x15_1 ∧ Aside0 (impl_Shrink.l0 kq x3_1 x4_1 x13_1 (t176.length : Int) x15_1 = some r) ∧ Aside0 (kq ≤ k) ∧ Aside0 (Kd.R k67 67 w' w.heap.size (fun k_ => some k_ ≠ (v4 : Value).ownBlock) (.slice Ao9 t176.length co9) x3_1) ∧ Aside0 (Kd.R k67 67 w' w.heap.size (fun k_ => some k_ ≠ ((.slice Ao9 t176.length co9) : Value).ownBlock ∧ some k_ ≠ ((.slice Ao9 t176.length co9) : Value).ownBlock) v4 x4_1) ∧ Aside0 (Kd.R k67 67 w' w.heap.size (fun k_ => some k_ ≠ (v4 : Value).ownBlock) (.slice Ao9 t176.length co9) x13_1) ∧ Aside0 (Below w.heap.size w w'))
 case atStart => exact ⟨(t176), (y179), (t176), (0), z9_, H', ⟨Nat.le_refl _⟩, ⟨z60_⟩, ⟨by (with_reducible repeat (first | apply Kd.R_alloc | apply Kd.R_drewN | apply Kd.R_drew)); exact Kd.R_mono HO181.out (fun _ hk => ⟨hk.2, hk.2⟩)⟩, ⟨z60_⟩, ⟨z0_⟩⟩
 case round =>
  clear H'
  try clear c1
  try clear p2
  try clear c9
  obtain ⟨x3_1, x4_1, x13_1, x15_1, rfl, HA, HK1, HO_3, HO_4, HO_13, HB⟩ := hrel
  have hl3_1 := (Kd.R_reads' HO_3.out).1
  rw [hl3_1] at HO_3
  (try simp only [hl3_1])
  (try simp only [hl3_1] at HO_4)
  (try simp only [hl3_1] at HO_13)
  have hl13_1 := (Kd.R_reads' HO_13.out).1
  rw [hl13_1] at HO_13
  (try simp only [hl13_1])
  (try simp only [hl13_1] at HO_3)
  (try simp only [hl13_1] at HO_4)
  (try simp only [← hl13_1] at HO_3)
  cases gk with
  | zero => exact absurd HA.out (by simp [impl_Shrink.l0])
  | succ k1 =>
   have H := HA.out
   clear HA
   simp only [impl_Shrink.l0] at H
   by_cases c10 : x15_1 < (t176.length : Int)
   ·rw [if_pos c10] at H
    have c10b0 : decide (x15_1 < (t176.length : Int)) = true := decide_eq_true c10
    clear c10
    by_cases c11 : 0 ≤ x15_1
    ·rw [if_pos c11] at H
     have c11b0 : decide (0 ≤ x15_1) = true := decide_eq_true c11
     clear c11
     by_cases c12 : x15_1 < (x13_1.length : Int)
     ·rw [if_pos c12] at H
      have c12b0 : decide (x15_1 < (x13_1.length : Int)) = true := decide_eq_true c12
      clear c12
      obtain ⟨ji13, hji13⟩ : ∃ j_ : Int, (wrap64 (x15_1 + 1)) = j_ := ⟨_, rfl⟩
      replace H : (if 0 ≤ (ji13) then (if (ji13) ≤ (x3_1.length : Int) then ((slices_ContainsFunc_Msg_98.f k1 (x3_1.drop ((ji13) : Int).toNat) ((rd_T67 x13_1 x15_1).f0) ((rd_T67 x13_1 x15_1).f1) ((rd_T67 x13_1 x15_1).f2)).bind fun t188 => (if t188 = true then (impl_Shrink.l0 k1 x3_1 x4_1 x13_1 (t176.length : Int) ji13) else ((slices_IndexFunc_Msg_101.f k1 x4_1 ((rd_T67 x13_1 x15_1).f0) ((rd_T67 x13_1 x15_1).f1) ((rd_T67 x13_1 x15_1).f2)).bind fun t189 => (if ((rd_T67 x13_1 x15_1).f0) = 3 then (if t189 ≥ 0 then (if 0 ≤ t189 then (if t189 < (x4_1.length : Int) then (if ((rd_T67 x4_1 t189).f0) = 1 then ((impl_limited.f (wrap64 (((rd_T67 x4_1 t189).f2) + ((rd_T67 x13_1 x15_1).f2)))).bind fun t192 => (impl_Shrink.l0 k1 x3_1 (x4_1.set (t189 : Int).toNat (⟨(rd_T67 x4_1 t189).f0, (rd_T67 x4_1 t189).f1, t192⟩ : S67)) x13_1 (t176.length : Int) ji13)) else (if x4_1.length < 5864062014805 then (impl_Shrink.l0 k1 x3_1 (x4_1 ++ [(⟨(rd_T67 x13_1 x15_1).f0, (rd_T67 x13_1 x15_1).f1, (rd_T67 x13_1 x15_1).f2⟩ : S67)]) x13_1 (t176.length : Int) ji13) else (none))) else (none)) else (none)) else (if x4_1.length < 5864062014805 then (impl_Shrink.l0 k1 x3_1 (x4_1 ++ [(⟨(rd_T67 x13_1 x15_1).f0, (rd_T67 x13_1 x15_1).f1, (rd_T67 x13_1 x15_1).f2⟩ : S67)]) x13_1 (t176.length : Int) ji13) else (none))) else (if x4_1.length < 5864062014805 then (impl_Shrink.l0 k1 x3_1 (x4_1 ++ [(⟨(rd_T67 x13_1 x15_1).f0, (rd_T67 x13_1 x15_1).f1, (rd_T67 x13_1 x15_1).f2⟩ : S67)]) x13_1 (t176.length : Int) ji13) else (none)))))) else (none)) else (none)) = some r := by first | (rw [hji13] at H; exact H) | (simp only [hji13] at H ⊢; exact H)
      have hji13w : (IntKind.i64.wrap (x15_1 + 1)) = ji13 := (i64_w _).trans hji13
      by_cases c14 : 0 ≤ (ji13)
      ·rw [if_pos c14] at H
       have c14b0 := eq_true c14
       have c14b1 : decide (0 ≤ (ji13)) = true := decide_eq_true c14
       clear c14
       by_cases c15 : (ji13) ≤ (x3_1.length : Int)
       ·rw [if_pos c15] at H
        have c15b0 := eq_true c15
        have c15b1 : decide ((ji13) ≤ (x3_1.length : Int)) = true := decide_eq_true c15
        clear c15
        obtain ⟨y184, hy184⟩ : ∃ y_ : List (S67), y_ = (x3_1.drop ((ji13) : Int).toNat) := ⟨_, rfl⟩
        replace H : ((slices_ContainsFunc_Msg_98.f k1 y184 ((rd_T67 x13_1 x15_1).f0) ((rd_T67 x13_1 x15_1).f1) ((rd_T67 x13_1 x15_1).f2)).bind fun t188 => (if t188 = true then (impl_Shrink.l0 k1 x3_1 x4_1 x13_1 (t176.length : Int) ji13) else ((slices_IndexFunc_Msg_101.f k1 x4_1 ((rd_T67 x13_1 x15_1).f0) ((rd_T67 x13_1 x15_1).f1) ((rd_T67 x13_1 x15_1).f2)).bind fun t189 => (if ((rd_T67 x13_1 x15_1).f0) = 3 then (if t189 ≥ 0 then (if 0 ≤ t189 then (if t189 < (x4_1.length : Int) then (if ((rd_T67 x4_1 t189).f0) = 1 then ((impl_limited.f (wrap64 (((rd_T67 x4_1 t189).f2) + ((rd_T67 x13_1 x15_1).f2)))).bind fun t192 => (impl_Shrink.l0 k1 x3_1 (x4_1.set (t189 : Int).toNat (⟨(rd_T67 x4_1 t189).f0, (rd_T67 x4_1 t189).f1, t192⟩ : S67)) x13_1 (t176.length : Int) ji13)) else (if x4_1.length < 5864062014805 then (impl_Shrink.l0 k1 x3_1 (x4_1 ++ [(⟨(rd_T67 x13_1 x15_1).f0, (rd_T67 x13_1 x15_1).f1, (rd_T67 x13_1 x15_1).f2⟩ : S67)]) x13_1 (t176.length : Int) ji13) else (none))) else (none)) else (none)) else (if x4_1.length < 5864062014805 then (impl_Shrink.l0 k1 x3_1 (x4_1 ++ [(⟨(rd_T67 x13_1 x15_1).f0, (rd_T67 x13_1 x15_1).f1, (rd_T67 x13_1 x15_1).f2⟩ : S67)]) x13_1 (t176.length : Int) ji13) else (none))) else (if x4_1.length < 5864062014805 then (impl_Shrink.l0 k1 x3_1 (x4_1 ++ [(⟨(rd_T67 x13_1 x15_1).f0, (rd_T67 x13_1 x15_1).f1, (rd_T67 x13_1 x15_1).f2⟩ : S67)]) x13_1 (t176.length : Int) ji13) else (none)))))) = some r := by first | (rw [hy184]; with_reducible exact H) | (have H2_ := (Option.bind_some _ _).symm.trans H; rw [hy184]; with_reducible exact H2_) | (have H2_ := (Option.bind_some _ _).symm.trans H; with_reducible exact H2_) | with_reducible exact H | (rw [hy184]; exact H) | exact H
        have Ny184 := q_ hy184
        clear hy184
        replace H := Option.bind_eq_some_iff.mp H
        obtain ⟨t188, A160, H⟩ := H
        replace H : (if t188 = true then (impl_Shrink.l0 k1 x3_1 x4_1 x13_1 (t176.length : Int) ji13) else ((slices_IndexFunc_Msg_101.f k1 x4_1 ((rd_T67 x13_1 x15_1).f0) ((rd_T67 x13_1 x15_1).f1) ((rd_T67 x13_1 x15_1).f2)).bind fun t189 => (if ((rd_T67 x13_1 x15_1).f0) = 3 then (if t189 ≥ 0 then (if 0 ≤ t189 then (if t189 < (x4_1.length : Int) then (if ((rd_T67 x4_1 t189).f0) = 1 then ((impl_limited.f (wrap64 (((rd_T67 x4_1 t189).f2) + ((rd_T67 x13_1 x15_1).f2)))).bind fun t192 => (impl_Shrink.l0 k1 x3_1 (x4_1.set (t189 : Int).toNat (⟨(rd_T67 x4_1 t189).f0, (rd_T67 x4_1 t189).f1, t192⟩ : S67)) x13_1 (t176.length : Int) ji13)) else (if x4_1.length < 5864062014805 then (impl_Shrink.l0 k1 x3_1 (x4_1 ++ [(⟨(rd_T67 x13_1 x15_1).f0, (rd_T67 x13_1 x15_1).f1, (rd_T67 x13_1 x15_1).f2⟩ : S67)]) x13_1 (t176.length : Int) ji13) else (none))) else (none)) else (none)) else (if x4_1.length < 5864062014805 then (impl_Shrink.l0 k1 x3_1 (x4_1 ++ [(⟨(rd_T67 x13_1 x15_1).f0, (rd_T67 x13_1 x15_1).f1, (rd_T67 x13_1 x15_1).f2⟩ : S67)]) x13_1 (t176.length : Int) ji13) else (none))) else (if x4_1.length < 5864062014805 then (impl_Shrink.l0 k1 x3_1 (x4_1 ++ [(⟨(rd_T67 x13_1 x15_1).f0, (rd_T67 x13_1 x15_1).f1, (rd_T67 x13_1 x15_1).f2⟩ : S67)]) x13_1 (t176.length : Int) ji13) else (none))))) = some r := H
        have A16 := q_ A160
        clear A160
        by_cases c17 : t188 = true
        ·subst c17
         have H1 : (impl_Shrink.l0 k1 x3_1 x4_1 x13_1 (t176.length : Int) ji13) = some r := z41_
         clear H
         have H := H1
         clear H1
         have H' := q_ H
         clear H
         have p182 : 0 ≤ (x15_1 : Int) := of_decide_eq_true z2_
         have q182 : x15_1 < (x13_1.length : Int) := of_decide_eq_true z2_
         obtain ⟨ad182, e182, hx182_0, hx182_1, hx182_2⟩ := at_T67 (Kd.R_reads' HO_13.out).2.2 x15_1 p182 q182
         cases e182
         replace p182 := eq_true p182
         replace q182 := eq_true q182
         go_wp2_with (first | ((with_reducible refine gate_dst (N := 6) rfl ?_); refine box_event ?hg (N := 6) ?hd (cs := #[.int .i64 0, .int .i64 0, .int .i64 0]) (t := 67) ?hr ?_; (case hd => rfl); (case hg => rfl); (case hr => exact z88_); intro gb183 hg w18 hbox hb; have n0_ := q_ (Kd.R_below (Kd.R_elderB z8_ gb183 (Nat.le_of_eq hg.symm)) hb); have n1_ := q_ (Kd.R_below (Kd.R_elderB z5_ gb183 (Nat.le_of_eq hg.symm)) hb); have n2_ := q_ (Kd.R_below (Kd.R_elderB z22_ gb183 (Nat.le_of_eq hg.symm)) hb); have n3_ := q_ (below_step z0_ hb); have n4_ := q_ (hbox); have n5_ := q_ ((z69_ : w.heap.size ≤ gb183)); have n6_ := q_ ((z69_ : w.heap.size ≤ gb183)); clear HO_3; clear HO_4; clear HO_13; clear HB; have HO_3 := n0_; have HO_4 := n1_; have HO_13 := n2_; have HB := n3_; have BK183 := n4_; have GW183 := n5_; have GE183 := n6_; clear n0_ n1_ n2_ n3_ n4_ n5_ n6_; clear hb hbox hg; obtain ⟨hcz19_0, hcz19_1, hcz19_2, hfz19_0, hfz19_1, hfz19_2⟩ := cs3_ BK183.out) | ((with_reducible refine gate_store (t := 67) (p := 6) rfl ?_); refine store_event (t := 67) (p := 6) (v := ?vo_w20) (w1 := (((w18.setCell ⟨gb183, 0, none⟩ (.int .i64 ((rd_T67 x13_1 x15_1).f0))).setCell ⟨gb183, 1, none⟩ (.int .i64 ((rd_T67 x13_1 x15_1).f1))).setCell ⟨gb183, 2, none⟩ (.int .i64 ((rd_T67 x13_1 x15_1).f2)))) ?hg ?ho ?hn ?hr ?_; (case ho => rfl); (case hg => rfl); (case hn => rfl); (case hr => exact z88_); intro w20 hw; have n0_ : Aside0 (Kd.R k67 67 w20 w.heap.size (fun k_ => some k_ ≠ (u4 : Value).ownBlock ∧ k_ ≠ gb183) (.slice (some ad182) x3_1.length co9) x3_1) := ⟨z83_⟩; have n1_ : Aside0 (Kd.R k67 67 w20 w.heap.size (fun k_ => some k_ ≠ (.slice (some ad182) x3_1.length co9 : Value).ownBlock ∧ some k_ ≠ (.slice (some ad182) x13_1.length co9 : Value).ownBlock ∧ k_ ≠ gb183) u4 x4_1) := ⟨z84_⟩; have n2_ : Aside0 (Kd.R k67 67 w20 w.heap.size (fun k_ => some k_ ≠ (u4 : Value).ownBlock ∧ k_ ≠ gb183) (.slice (some ad182) x13_1.length co9) x13_1) := ⟨z85_⟩; have n3_ : Aside0 (w20.heap[gb183]? = some (.cells #[.int .i64 ((rd_T67 x13_1 x15_1).f0), .int .i64 ((rd_T67 x13_1 x15_1).f1), .int .i64 ((rd_T67 x13_1 x15_1).f2)] 67 (0, 0))) := ⟨z86_⟩; have n4_ : Aside0 (Below w.heap.size w w20) := ⟨z87_⟩; clear hw; clear HO_3; clear HO_4; clear HO_13; clear BK183; clear HB; have HO_3 := n0_; have HO_4 := n1_; have HO_13 := n2_; have BK183 := n3_; have HB := n4_; clear n0_ n1_ n2_ n3_ n4_; have q21 : ((ji13) : Int) ≤ ((x3_1.length : Int) : Int) := of_decide_eq_true z2_; obtain ⟨i021, hi021, _, hsz21, _⟩ := info_parts info67; have hroom21 : x3_1.length ≤ co9 := (Kd.R_reads' HO_3.out).2.1; have hC21 : Kd.C k67 _ (some ad182) x3_1.length x3_1 := (Kd.R_reads' HO_3.out).2.2; have q021 : (0 : Int) ≤ ((ji13) : Int) := of_decide_eq_true z2_; have hcut21 := cut_from (P := Try.prog) 24 67 .i64 Try.underlying24 hi021 3 hsz21 (some ad182) x3_1.length co9 (ji13) q021 q21; have hr21 := Kd.C_drop (m := ((ji13) : Int).toNat) (c := co9) hC21 (by omega) hroom21; obtain ⟨A21, hA21⟩ : ∃ A1, A1 = (if co9 = ((ji13) : Int).toNat then (some ad182) else ((some ad182) : Option Addr).map (·.add (((ji13) : Int).toNat * 3))) := ⟨_, rfl⟩; obtain ⟨c21, hc21⟩ : ∃ c1, c1 = co9 - ((ji13) : Int).toNat := ⟨_, rfl⟩; have hy21 : y184.length = x3_1.length - ((ji13) : Int).toNat := z62_; rw [show (x3_1).drop ((ji13) : Int).toNat = y184 from Ny184.out.symm] at hr21; replace hr21 : Kd.C k67 _ A21 y184.length y184 := (by rw [hA21]; exact hr21); rw [← hy21, ← hA21, ← hc21] at hcut21; (try simp only [hl13_1] at hcut21); have HR187 := q_ hr21; have HC187 := q_ (show y184.length ≤ c21 from by rw [hy21, hc21]; exact Nat.sub_le_sub_right hroom21 _); clear hr21 hC21 hroom21 hi021 hsz21 hc21; have KY21 := q_ hy21; have KA21 := q_ hA21; clear hy21 hA21; have KL21 := q_ (show ((ji13) : Int).toNat ≤ x3_1.length from by omega); replace q21 := eq_true q21) | ((with_reducible refine gate_callee (f := 97) rfl ?_); refine goesL_ (some 25) rfl rfl Try.func97 (by kernel_rfl) rfl #[.slice A21 y184.length c21, .func (.func 98) #[] #[.pointer (some ⟨gb183, 0, none⟩)]] rfl z1_ ?_; (with_reducible refine (slices_ContainsFunc_Msg_98.calls k1 _ _ y184 gb183 ((rd_T67 x13_1 x15_1).f0) ((rd_T67 x13_1 x15_1).f1) ((rd_T67 x13_1 x15_1).f2) true _ ?side1 ?side2 ?side3 A16.out).mono ?_); (case side1 => exact z98_); (case side2 => exact HC187.out); (case side3 => exact z94_); rintro e w22 ⟨rfl, hb⟩; refine ⟨_, rfl, ?_⟩; have n0_ := q_ (Kd.R_below z8_ hb); have n1_ := q_ (Kd.R_below z5_ hb); have n2_ := q_ (Kd.R_below z22_ hb); have n3_ := q_ (blk_below (g := gb183) (o := .cells #[.int .i64 ((rd_T67 x13_1 x15_1).f0), .int .i64 ((rd_T67 x13_1 x15_1).f1), .int .i64 ((rd_T67 x13_1 x15_1).f2)] 67 (0, 0)) z24_ hb); have n4_ := q_ (Kd.C_below z12_ hb); have n5_ := q_ (below_step z4_ hb); clear HO_3; clear HO_4; clear HO_13; clear BK183; clear HR187; clear HB; have HO_3 := n0_; have HO_4 := n1_; have HO_13 := n2_; have BK183 := n3_; have HR187 := n4_; have HB := n5_; clear n0_ n1_ n2_ n3_ n4_ n5_; (try clear hb); (try clear hb2); (try clear hk); (try clear hi)))
         (try simp only [← hl3_1, ← hl13_1])
         go_roundg k1
         case measure => have := HK1.out; omega
         case rel => (try simp only [hl13_1] at HO_3); exact ⟨(x3_1), (x4_1), (x13_1), (ji13), z48_, H', ⟨z49_⟩, ⟨by (try simp only [hl3_1]); (try simp only [hl13_1]); (with_reducible repeat (first | apply Kd.R_alloc | apply Kd.R_drewN | apply Kd.R_drew)); exact Kd.R_mono HO_3.out (fun _ hk => hk.1)⟩, ⟨by (try simp only [hl3_1]); (try simp only [hl13_1]); (with_reducible repeat (first | apply Kd.R_alloc | apply Kd.R_drewN | apply Kd.R_drew)); exact Kd.R_mono HO_4.out (fun _ hk => ⟨hk.1, hk.2.1⟩)⟩, ⟨by (try simp only [hl3_1]); (try simp only [hl13_1]); (with_reducible repeat (first | apply Kd.R_alloc | apply Kd.R_drewN | apply Kd.R_drew)); exact Kd.R_mono HO_13.out (fun _ hk => hk.1)⟩, ⟨z4_⟩⟩
        ·replace c17 := Bool.eq_false_iff.mpr c17
         subst c17
         have H1 : ((slices_IndexFunc_Msg_101.f k1 x4_1 ((rd_T67 x13_1 x15_1).f0) ((rd_T67 x13_1 x15_1).f1) ((rd_T67 x13_1 x15_1).f2)).bind fun t189 => (if ((rd_T67 x13_1 x15_1).f0) = 3 then (if t189 ≥ 0 then (if 0 ≤ t189 then (if t189 < (x4_1.length : Int) then (if ((rd_T67 x4_1 t189).f0) = 1 then ((impl_limited.f (wrap64 (((rd_T67 x4_1 t189).f2) + ((rd_T67 x13_1 x15_1).f2)))).bind fun t192 => (impl_Shrink.l0 k1 x3_1 (x4_1.set (t189 : Int).toNat (⟨(rd_T67 x4_1 t189).f0, (rd_T67 x4_1 t189).f1, t192⟩ : S67)) x13_1 (t176.length : Int) ji13)) else (if x4_1.length < 5864062014805 then (impl_Shrink.l0 k1 x3_1 (x4_1 ++ [(⟨(rd_T67 x13_1 x15_1).f0, (rd_T67 x13_1 x15_1).f1, (rd_T67 x13_1 x15_1).f2⟩ : S67)]) x13_1 (t176.length : Int) ji13) else (none))) else (none)) else (none)) else (if x4_1.length < 5864062014805 then (impl_Shrink.l0 k1 x3_1 (x4_1 ++ [(⟨(rd_T67 x13_1 x15_1).f0, (rd_T67 x13_1 x15_1).f1, (rd_T67 x13_1 x15_1).f2⟩ : S67)]) x13_1 (t176.length : Int) ji13) else (none))) else (if x4_1.length < 5864062014805 then (impl_Shrink.l0 k1 x3_1 (x4_1 ++ [(⟨(rd_T67 x13_1 x15_1).f0, (rd_T67 x13_1 x15_1).f1, (rd_T67 x13_1 x15_1).f2⟩ : S67)]) x13_1 (t176.length : Int) ji13) else (none)))) = some r := by rw [if_neg (show ¬ (false = true) by decide)] at H; exact H
         clear H
         have H := H1
         clear H1
         replace H := Option.bind_eq_some_iff.mp H
         obtain ⟨t189, A230, H⟩ := H
         replace H : (if ((rd_T67 x13_1 x15_1).f0) = 3 then (if t189 ≥ 0 then (if 0 ≤ t189 then (if t189 < (x4_1.length : Int) then (if ((rd_T67 x4_1 t189).f0) = 1 then ((impl_limited.f (wrap64 (((rd_T67 x4_1 t189).f2) + ((rd_T67 x13_1 x15_1).f2)))).bind fun t192 => (impl_Shrink.l0 k1 x3_1 (x4_1.set (t189 : Int).toNat (⟨(rd_T67 x4_1 t189).f0, (rd_T67 x4_1 t189).f1, t192⟩ : S67)) x13_1 (t176.length : Int) ji13)) else (if x4_1.length < 5864062014805 then (impl_Shrink.l0 k1 x3_1 (x4_1 ++ [(⟨(rd_T67 x13_1 x15_1).f0, (rd_T67 x13_1 x15_1).f1, (rd_T67 x13_1 x15_1).f2⟩ : S67)]) x13_1 (t176.length : Int) ji13) else (none))) else (none)) else (none)) else (if x4_1.length < 5864062014805 then (impl_Shrink.l0 k1 x3_1 (x4_1 ++ [(⟨(rd_T67 x13_1 x15_1).f0, (rd_T67 x13_1 x15_1).f1, (rd_T67 x13_1 x15_1).f2⟩ : S67)]) x13_1 (t176.length : Int) ji13) else (none))) else (if x4_1.length < 5864062014805 then (impl_Shrink.l0 k1 x3_1 (x4_1 ++ [(⟨(rd_T67 x13_1 x15_1).f0, (rd_T67 x13_1 x15_1).f1, (rd_T67 x13_1 x15_1).f2⟩ : S67)]) x13_1 (t176.length : Int) ji13) else (none))) = some r := H
         have A23 := q_ A230
         clear A230
         by_cases c24 : ((rd_T67 x13_1 x15_1).f0) = 3
         ·rw [if_pos c24] at H
          have c24b0 : (((rd_T67 x13_1 x15_1).f0) == 3) = true := beq_iff_eq.mpr c24
          have c24b1 : (((rd_T67 x13_1 x15_1).f0) != 3) = false := bne_eq_false_iff_eq.mpr c24
          clear c24
          by_cases c25 : t189 ≥ 0
          ·rw [if_pos c25] at H
           have c25b0 : decide (0 ≤ t189) = true := decide_eq_true c25
           clear c25
           by_cases c26 : 0 ≤ t189
           ·rw [if_pos c26] at H
            have c26b0 : decide (0 ≤ t189) = true := decide_eq_true c26
            clear c26
            by_cases c27 : t189 < (x4_1.length : Int)
            ·rw [if_pos c27] at H
             have c27b0 : decide (t189 < (x4_1.length : Int)) = true := decide_eq_true c27
             clear c27
             by_cases c28 : ((rd_T67 x4_1 t189).f0) = 1
             ·rw [if_pos c28] at H
              have c28b0 : (((rd_T67 x4_1 t189).f0) == 1) = true := beq_iff_eq.mpr c28
              have c28b1 : (((rd_T67 x4_1 t189).f0) != 1) = false := bne_eq_false_iff_eq.mpr c28
              clear c28
              replace H := Option.bind_eq_some_iff.mp H
              obtain ⟨t192, A290, H⟩ := H
              replace H : (impl_Shrink.l0 k1 x3_1 (x4_1.set (t189 : Int).toNat (⟨(rd_T67 x4_1 t189).f0, (rd_T67 x4_1 t189).f1, t192⟩ : S67)) x13_1 (t176.length : Int) ji13) = some r := H
              have A29 := q_ A290
              clear A290
              obtain ⟨y193, hy193⟩ : ∃ y_ : List (S67), y_ = (x4_1.set (t189 : Int).toNat (⟨(rd_T67 x4_1 t189).f0, (rd_T67 x4_1 t189).f1, t192⟩ : S67)) := ⟨_, rfl⟩
              replace H : (impl_Shrink.l0 k1 x3_1 y193 x13_1 (t176.length : Int) ji13) = some r := by first | (rw [hy193]; with_reducible exact H) | (have H2_ := (Option.bind_some _ _).symm.trans H; rw [hy193]; with_reducible exact H2_) | (have H2_ := (Option.bind_some _ _).symm.trans H; with_reducible exact H2_) | with_reducible exact H | (rw [hy193]; exact H) | exact H
              have Ny193 := q_ hy193
              clear hy193
              have H' := q_ H
              clear H
              have p182 : 0 ≤ (x15_1 : Int) := of_decide_eq_true z2_
              have q182 : x15_1 < (x13_1.length : Int) := of_decide_eq_true z2_
              obtain ⟨ad182, e182, hx182_0, hx182_1, hx182_2⟩ := at_T67 (Kd.R_reads' HO_13.out).2.2 x15_1 p182 q182
              cases e182
              replace p182 := eq_true p182
              replace q182 := eq_true q182
              try go_wp2_with (first | ((with_reducible refine gate_dst (N := 6) rfl ?_); refine box_event ?hg (N := 6) ?hd (cs := #[.int .i64 0, .int .i64 0, .int .i64 0]) (t := 67) ?hr ?_; (case hd => rfl); (case hg => rfl); (case hr => exact z88_); intro gb183 hg w31 hbox hb; have n0_ := q_ (Kd.R_below (Kd.R_elderB z8_ gb183 (Nat.le_of_eq hg.symm)) hb); have n1_ := q_ (Kd.R_below (Kd.R_elderB z5_ gb183 (Nat.le_of_eq hg.symm)) hb); have n2_ := q_ (Kd.R_below (Kd.R_elderB z22_ gb183 (Nat.le_of_eq hg.symm)) hb); have n3_ := q_ (below_step z0_ hb); have n4_ := q_ (hbox); have n5_ := q_ ((z69_ : w.heap.size ≤ gb183)); have n6_ := q_ ((z69_ : w.heap.size ≤ gb183)); clear HO_3; clear HO_4; clear HO_13; clear HB; have HO_3 := n0_; have HO_4 := n1_; have HO_13 := n2_; have HB := n3_; have BK183 := n4_; have GW183 := n5_; have GE183 := n6_; clear n0_ n1_ n2_ n3_ n4_ n5_ n6_; clear hb hbox hg; obtain ⟨hcz32_0, hcz32_1, hcz32_2, hfz32_0, hfz32_1, hfz32_2⟩ := cs3_ BK183.out) | ((with_reducible refine gate_store (t := 67) (p := 6) rfl ?_); refine store_event (t := 67) (p := 6) (v := ?vo_w33) (w1 := (((w31.setCell ⟨gb183, 0, none⟩ (.int .i64 ((rd_T67 x13_1 x15_1).f0))).setCell ⟨gb183, 1, none⟩ (.int .i64 ((rd_T67 x13_1 x15_1).f1))).setCell ⟨gb183, 2, none⟩ (.int .i64 ((rd_T67 x13_1 x15_1).f2)))) ?hg ?ho ?hn ?hr ?_; (case ho => rfl); (case hg => rfl); (case hn => rfl); (case hr => exact z88_); intro w33 hw; have n0_ : Aside0 (Kd.R k67 67 w33 w.heap.size (fun k_ => some k_ ≠ (u4 : Value).ownBlock ∧ k_ ≠ gb183) (.slice (some ad182) x3_1.length co9) x3_1) := ⟨z83_⟩; have n1_ : Aside0 (Kd.R k67 67 w33 w.heap.size (fun k_ => some k_ ≠ (.slice (some ad182) x3_1.length co9 : Value).ownBlock ∧ some k_ ≠ (.slice (some ad182) x13_1.length co9 : Value).ownBlock ∧ k_ ≠ gb183) u4 x4_1) := ⟨z84_⟩; have n2_ : Aside0 (Kd.R k67 67 w33 w.heap.size (fun k_ => some k_ ≠ (u4 : Value).ownBlock ∧ k_ ≠ gb183) (.slice (some ad182) x13_1.length co9) x13_1) := ⟨z85_⟩; have n3_ : Aside0 (w33.heap[gb183]? = some (.cells #[.int .i64 ((rd_T67 x13_1 x15_1).f0), .int .i64 ((rd_T67 x13_1 x15_1).f1), .int .i64 ((rd_T67 x13_1 x15_1).f2)] 67 (0, 0))) := ⟨z86_⟩; have n4_ : Aside0 (Below w.heap.size w w33) := ⟨z87_⟩; clear hw; clear HO_3; clear HO_4; clear HO_13; clear BK183; clear HB; have HO_3 := n0_; have HO_4 := n1_; have HO_13 := n2_; have BK183 := n3_; have HB := n4_; clear n0_ n1_ n2_ n3_ n4_; have q34 : ((ji13) : Int) ≤ ((x3_1.length : Int) : Int) := of_decide_eq_true z2_; obtain ⟨i034, hi034, _, hsz34, _⟩ := info_parts info67; have hroom34 : x3_1.length ≤ co9 := (Kd.R_reads' HO_3.out).2.1; have hC34 : Kd.C k67 _ (some ad182) x3_1.length x3_1 := (Kd.R_reads' HO_3.out).2.2; have q034 : (0 : Int) ≤ ((ji13) : Int) := of_decide_eq_true z2_; have hcut34 := cut_from (P := Try.prog) 24 67 .i64 Try.underlying24 hi034 3 hsz34 (some ad182) x3_1.length co9 (ji13) q034 q34; have hr34 := Kd.C_drop (m := ((ji13) : Int).toNat) (c := co9) hC34 (by omega) hroom34; obtain ⟨A34, hA34⟩ : ∃ A1, A1 = (if co9 = ((ji13) : Int).toNat then (some ad182) else ((some ad182) : Option Addr).map (·.add (((ji13) : Int).toNat * 3))) := ⟨_, rfl⟩; obtain ⟨c34, hc34⟩ : ∃ c1, c1 = co9 - ((ji13) : Int).toNat := ⟨_, rfl⟩; have hy34 : y184.length = x3_1.length - ((ji13) : Int).toNat := z62_; rw [show (x3_1).drop ((ji13) : Int).toNat = y184 from Ny184.out.symm] at hr34; replace hr34 : Kd.C k67 _ A34 y184.length y184 := (by rw [hA34]; exact hr34); rw [← hy34, ← hA34, ← hc34] at hcut34; (try simp only [hl13_1] at hcut34); have HR187 := q_ hr34; have HC187 := q_ (show y184.length ≤ c34 from by rw [hy34, hc34]; exact Nat.sub_le_sub_right hroom34 _); clear hr34 hC34 hroom34 hi034 hsz34 hc34; have KY34 := q_ hy34; have KA34 := q_ hA34; clear hy34 hA34; have KL34 := q_ (show ((ji13) : Int).toNat ≤ x3_1.length from by omega); replace q34 := eq_true q34) | ((with_reducible refine gate_callee (f := 97) rfl ?_); refine goesL_ (some 25) rfl rfl Try.func97 (by kernel_rfl) rfl #[.slice A34 y184.length c34, .func (.func 98) #[] #[.pointer (some ⟨gb183, 0, none⟩)]] rfl z1_ ?_; (with_reducible refine (slices_ContainsFunc_Msg_98.calls k1 _ _ y184 gb183 ((rd_T67 x13_1 x15_1).f0) ((rd_T67 x13_1 x15_1).f1) ((rd_T67 x13_1 x15_1).f2) false _ ?side1 ?side2 ?side3 A16.out).mono ?_); (case side1 => exact z98_); (case side2 => exact HC187.out); (case side3 => exact z94_); rintro e w35 ⟨rfl, hb⟩; refine ⟨_, rfl, ?_⟩; have n0_ := q_ (Kd.R_below z8_ hb); have n1_ := q_ (Kd.R_below z5_ hb); have n2_ := q_ (Kd.R_below z22_ hb); have n3_ := q_ (blk_below (g := gb183) (o := .cells #[.int .i64 ((rd_T67 x13_1 x15_1).f0), .int .i64 ((rd_T67 x13_1 x15_1).f1), .int .i64 ((rd_T67 x13_1 x15_1).f2)] 67 (0, 0)) z24_ hb); have n4_ := q_ (Kd.C_below z12_ hb); have n5_ := q_ (below_step z4_ hb); clear HO_3; clear HO_4; clear HO_13; clear BK183; clear HR187; clear HB; have HO_3 := n0_; have HO_4 := n1_; have HO_13 := n2_; have BK183 := n3_; have HR187 := n4_; have HB := n5_; clear n0_ n1_ n2_ n3_ n4_ n5_; (try clear hb); (try clear hb2); (try clear hk); (try clear hi); obtain ⟨Ao36, co36, eo36⟩ := Kd.R_slice HO_4.out; subst eo36) | ((with_reducible refine gate_callee (f := 100) rfl ?_); refine goesL_ (some 29) rfl rfl Try.func100 (by kernel_rfl) rfl #[.slice Ao36 x4_1.length co36, .func (.func 101) #[] #[.pointer (some ⟨gb183, 0, none⟩)]] rfl z1_ ?_; (with_reducible refine (slices_IndexFunc_Msg_101.calls k1 _ _ x4_1 gb183 ((rd_T67 x13_1 x15_1).f0) ((rd_T67 x13_1 x15_1).f1) ((rd_T67 x13_1 x15_1).f2) t189 _ ?side1 ?side2 ?side3 A23.out).mono ?_); (case side1 => exact z91_); (case side2 => exact z112_); (case side3 => exact z94_); rintro e w37 ⟨rfl, hb⟩; refine ⟨_, rfl, ?_⟩; have n0_ := q_ (Kd.R_below z8_ hb); have n1_ := q_ (Kd.R_below z5_ hb); have n2_ := q_ (Kd.R_below z22_ hb); have n3_ := q_ (blk_below (g := gb183) (o := .cells #[.int .i64 ((rd_T67 x13_1 x15_1).f0), .int .i64 ((rd_T67 x13_1 x15_1).f1), .int .i64 ((rd_T67 x13_1 x15_1).f2)] 67 (0, 0)) z24_ hb); have n4_ := q_ (Kd.C_below z12_ hb); have n5_ := q_ (below_step z4_ hb); clear HO_3; clear HO_4; clear HO_13; clear BK183; clear HR187; clear HB; have HO_3 := n0_; have HO_4 := n1_; have HO_13 := n2_; have BK183 := n3_; have HR187 := n4_; have HB := n5_; clear n0_ n1_ n2_ n3_ n4_ n5_; (try clear hb); (try clear hb2); (try clear hk); (try clear hi); obtain ⟨hcz38_0, hcz38_1, hcz38_2, hfz38_0, hfz38_1, hfz38_2⟩ := cs3_ BK183.out; have p190 : 0 ≤ (t189 : Int) := of_decide_eq_true z2_; have q190 : t189 < (x4_1.length : Int) := of_decide_eq_true z2_; obtain ⟨ad190, e190, hx190_0, hx190_1, hx190_2⟩ := at_T67 (Kd.R_reads' HO_4.out).2.2 t189 p190 q190; cases e190; replace p190 := eq_true p190; replace q190 := eq_true q190))
              have n0_ := q_ (Kd.R_drew HO_3.out)
              have n1_ := q_ (Kd.R_drew HO_4.out)
              have n2_ := q_ (Kd.R_drew HO_13.out)
              have n3_ := q_ (blk_drew BK183.out)
              have n4_ := q_ (Kd.C_drew HR187.out)
              have n5_ := q_ (below_drew1 HB.out)
              clear HO_3
              clear HO_4
              clear HO_13
              clear BK183
              clear HR187
              clear HB
              have HO_3 := n0_
              have HO_4 := n1_
              have HO_13 := n2_
              have BK183 := n3_
              have HR187 := n4_
              have HB := n5_
              clear n0_ n1_ n2_ n3_ n4_ n5_
              have p191 : 0 ≤ (t189 : Int) := of_decide_eq_true z2_
              have q191 : t189 < (x4_1.length : Int) := of_decide_eq_true z2_
              obtain ⟨ad191, e191, hx191_0, hx191_1, hx191_2⟩ := at_T67 (Kd.R_reads' HO_4.out).2.2 t189 p191 q191
              obtain rfl : ad190 = ad191 := (by injection e191)
              replace p191 := eq_true p191
              replace q191 := eq_true q191
              refine start_ (n := 14) (S := fun w' => w'.cell? ⟨gb183, 0, none⟩ = some (.int .i64 ((rd_T67 x13_1 x15_1).f0)) ∧ w'.cell? ⟨gb183, 1, none⟩ = some (.int .i64 ((rd_T67 x13_1 x15_1).f1)) ∧ w'.cell? ⟨gb183, 2, none⟩ = some (.int .i64 ((rd_T67 x13_1 x15_1).f2)) ∧ w'.cell? (ad190.add ((t189).toNat * 3)) = some (.int .i64 ((rd_T67 x4_1 t189).f0)) ∧ w'.cell? ⟨(ad190.add ((t189).toNat * 3)).block, (ad190.add ((t189).toNat * 3)).off + 1, none⟩ = some (.int .i64 ((rd_T67 x4_1 t189).f1)) ∧ w'.cell? ⟨(ad190.add ((t189).toNat * 3)).block, (ad190.add ((t189).toNat * 3)).off + 2, none⟩ = some (.int .i64 ((rd_T67 x4_1 t189).f2))) (ds := [13]) #[false, false, false, false, false, false, false, false, false, false, false, false, false, false] (by kernel_rfl) rfl rfl ⟨(blk_cell BK183.out 0).trans rfl, (blk_cell BK183.out 1).trans rfl, (blk_cell BK183.out 2).trans rfl, hx191_0, hx191_1, hx191_2⟩ (fun hHeld => ?_); refine with_tabW impl_Shrink.tab10 impl_Shrink.bits10 (fun HT_ HW_ => ?_)
              generalize w37.drew = w39 at HO_3 HO_4 HO_13 BK183 HR187 HB hx191_0 hx191_1 hx191_2 hHeld ⊢
              refine pure_ (i := 0) (N := some 45) (v := ?_) (a' := ?_) #[true, false, false, false, false, false, false, false, false, false, false, false, false, false] rfl rfl (any_of HT_.out (by kernel_rfl)) (fun _ _ _ h => h) (Or.inl ⟨by rfl, ?_⟩) ?_ ?_
              rotate_left
              ·intro w'
               go_simp
               with_reducible rfl
              rotate_left
              ·simp only [Act.put, List.setIfInBounds_toArray, List.set_cons_zero, List.set_cons_succ, i64_w, i32_w]
               rfl
              refine pure_ (i := 1) (N := some 46) (v := ?_) (a' := ?_) #[true, true, false, false, false, false, false, false, false, false, false, false, false, false] rfl rfl (any_of HT_.out (by kernel_rfl)) (fun _ _ _ h => h) (Or.inl ⟨by rfl, ?_⟩) ?_ ?_
              rotate_left
              ·intro w'
               go_simp
               with_reducible rfl
              rotate_left
              ·simp only [Act.put, List.setIfInBounds_toArray, List.set_cons_zero, List.set_cons_succ, i64_w, i32_w]
               rfl
              refine pure_ (i := 2) (N := some 47) (v := ?_) (a' := ?_) #[true, true, true, false, false, false, false, false, false, false, false, false, false, false] rfl rfl (any_of HT_.out (by kernel_rfl)) (fun _ _ _ h => h) (Or.inl ⟨by rfl, ?_⟩) ?_ ?_
              rotate_left
              ·intro w'
               go_simp
               with_reducible rfl
              rotate_left
              ·simp only [Act.put, List.setIfInBounds_toArray, List.set_cons_zero, List.set_cons_succ, i64_w, i32_w]
               rfl
              refine pure_ (i := 3) (N := some 48) (v := ?_) (a' := ?_) #[true, true, true, true, false, false, false, false, false, false, false, false, false, false] rfl rfl (any_of HT_.out (by kernel_rfl)) (fun _ _ _ h => h) (Or.inl ⟨by rfl, ?_⟩) ?_ ?_
              rotate_left
              ·intro w'
               go_simp
               with_reducible rfl
              rotate_left
              ·simp only [Act.put, List.setIfInBounds_toArray, List.set_cons_zero, List.set_cons_succ, i64_w, i32_w]
               rfl
              refine pure_ (i := 4) (N := some 49) (v := ?_) (a' := ?_) #[true, true, true, true, true, false, false, false, false, false, false, false, false, false] rfl rfl (any_of HT_.out (by kernel_rfl)) (fun _ _ _ h => h) (Or.inl ⟨by rfl, ?_⟩) ?_ ?_
              rotate_left
              ·intro w'
               go_simp
               with_reducible rfl
              rotate_left
              ·simp only [Act.put, List.setIfInBounds_toArray, List.set_cons_zero, List.set_cons_succ, i64_w, i32_w]
               rfl
              refine pure_ (i := 5) (N := some 50) (v := ?_) (a' := ?_) #[true, true, true, true, true, true, false, false, false, false, false, false, false, false] rfl rfl (any_of HT_.out (by kernel_rfl)) (fun _ _ _ h => h) (Or.inl ⟨by rfl, ?_⟩) ?_ ?_
              rotate_left
              ·intro w'
               go_simp
               with_reducible rfl
              rotate_left
              ·simp only [Act.put, List.setIfInBounds_toArray, List.set_cons_zero, List.set_cons_succ, i64_w, i32_w]
               rfl
              refine pure_ (i := 7) (N := some 52) (v := ?_) (a' := ?_) #[true, true, true, true, true, true, false, true, false, false, false, false, false, false] rfl rfl (any_of HT_.out (by kernel_rfl)) (fun _ _ _ h => h) (Or.inl ⟨by rfl, ?_⟩) ?_ ?_
              rotate_left
              ·intro w'
               go_simp
               with_reducible rfl
              rotate_left
              ·simp only [Act.put, List.setIfInBounds_toArray, List.set_cons_zero, List.set_cons_succ, i64_w, i32_w]
               rfl
              refine take_ (i := 6) (N := some 51) (v := ?_) (a' := ?_) #[true, true, true, true, true, true, true, true, false, false, false, false, false, false] rfl rfl (take_ofW HT_.out HW_.out (by kernel_rfl)) (fun _ _ _ h => h) (Or.inl ⟨by rfl, ?_⟩) hHeld ?_ ?_
              rotate_left
              ·rintro w' ⟨s0, s1, s2, s3, s4, s5⟩
               go_simp
               with_reducible rfl
              rotate_left
              ·simp only [Act.put, List.setIfInBounds_toArray, List.set_cons_zero, List.set_cons_succ, i64_w, i32_w]
               rfl
              refine take_ (i := 8) (N := some 53) (v := ?_) (a' := ?_) #[true, true, true, true, true, true, true, true, true, false, false, false, false, false] rfl rfl (take_ofW HT_.out HW_.out (by kernel_rfl)) (fun _ _ _ h => h) (Or.inl ⟨by rfl, ?_⟩) hHeld ?_ ?_
              rotate_left
              ·rintro w' ⟨s0, s1, s2, s3, s4, s5⟩
               go_simp
               with_reducible rfl
              rotate_left
              ·simp only [Act.put, List.setIfInBounds_toArray, List.set_cons_zero, List.set_cons_succ, i64_w, i32_w]
               rfl
              refine pure_ (i := 9) (N := some 54) (v := ?_) (a' := ?_) #[true, true, true, true, true, true, true, true, true, true, false, false, false, false] rfl rfl (any_of HT_.out (by kernel_rfl)) (fun _ _ _ h => h) (Or.inl ⟨by rfl, ?_⟩) ?_ ?_
              rotate_left
              ·intro w'
               go_simp
               with_reducible rfl
              rotate_left
              ·simp only [Act.put, List.setIfInBounds_toArray, List.set_cons_zero, List.set_cons_succ, i64_w, i32_w]
               rfl
              refine one_ (i := 10) (N := some 55) #[true, true, true, true, true, true, true, true, true, true, true, false, false, false] rfl rfl (one_of HT_.out (by kernel_rfl)) (by decide) (fun K hK => ?_)
              refine goes_ Try.func102 (by kernel_rfl) rfl #[.int .i64 (wrap64 (((rd_T67 x4_1 t189).f2) + ((rd_T67 x13_1 x15_1).f2)))] (by rfl) rfl rfl z1_ ?_
              with_reducible refine (impl_limited.calls (wrap64 (((rd_T67 x4_1 t189).f2) + ((rd_T67 x13_1 x15_1).f2))) t192 _ A29.out).mono ?_
              rintro e w40 ⟨rfl, hb⟩
              have HS3_ := (hb.cell (World.block_lt_of_cell? _ _ (hHeld.2.2.2.1))).trans (hHeld.2.2.2.1)
              have HS4_ := (hb.cell (World.block_lt_of_cell? _ _ (hHeld.2.2.2.2.1))).trans (hHeld.2.2.2.2.1)
              have HS5_ := (hb.cell (World.block_lt_of_cell? _ _ (hHeld.2.2.2.2.2))).trans (hHeld.2.2.2.2.2)
              refine ⟨_, rfl, ?_⟩
              have n0_ := q_ (Kd.R_below z8_ hb)
              have n1_ := q_ (Kd.R_below z5_ hb)
              have n2_ := q_ (Kd.R_below z22_ hb)
              have n3_ := q_ (blk_below (g := gb183) (o := .cells #[.int .i64 ((rd_T67 x13_1 x15_1).f0), .int .i64 ((rd_T67 x13_1 x15_1).f1), .int .i64 ((rd_T67 x13_1 x15_1).f2)] 67 (0, 0)) z24_ hb)
              have n4_ := q_ (Kd.C_below z12_ hb)
              have n5_ := q_ (below_step z4_ hb)
              clear HO_3
              clear HO_4
              clear HO_13
              clear BK183
              clear HR187
              clear HB
              have HO_3 := n0_
              have HO_4 := n1_
              have HO_13 := n2_
              have BK183 := n3_
              have HR187 := n4_
              have HB := n5_
              clear n0_ n1_ n2_ n3_ n4_ n5_
              (try clear hb)
              (try clear hb2)
              (try clear hk)
              (try clear hi)
              have p30 : 0 ≤ (t189 : Int) := of_decide_eq_true z2_
              have q30 : (t189 : Int) < ((x4_1.length : Int) : Int) := of_decide_eq_true z2_
              obtain ⟨go30, co30, eo30, gb30, gl30, cl30, HG30⟩ := Kd.R_form HO_4.out (by omega)
              (first | cases eo30 | (injection eo30 with ea_ en_ ec_; (first | subst ea_ | (injection ea_ with ea_; subst ea_)); subst ec_; clear en_))
              have GB30 := q_ gb30
              have GG30 := q_ HG30
              clear gb30 gl30 HG30
              (first | simp only [add_plain] at hx190_0 | skip)
              (first | simp only [add_plain] at hx190_1 | skip)
              (first | simp only [add_plain] at hx190_2 | skip)
              (first | simp only [add_plain] at hx191_0 | skip)
              (first | simp only [add_plain] at hx191_1 | skip)
              (first | simp only [add_plain] at hx191_2 | skip)
              obtain ⟨ce30, hcl30, hM30, hcc30, hfr30⟩ := Kd.R_elem HO_4.out z67 (t189 : Int) p30 q30
              obtain rfl := k67_openM hM30
              have hx30_0 : World.cell? _ ⟨go30, (t189 : Int).toNat * 3, none⟩ = some (.int .i64 ((rd_T67 x4_1 t189).f0)) := hcc30 0 _ rfl
              have hx30_1 : World.cell? _ ⟨go30, (t189 : Int).toNat * 3 + 1, none⟩ = some (.int .i64 ((rd_T67 x4_1 t189).f1)) := hcc30 1 _ rfl
              have hx30_2 : World.cell? _ ⟨go30, (t189 : Int).toNat * 3 + 2, none⟩ = some (.int .i64 ((rd_T67 x4_1 t189).f2)) := hcc30 2 _ rfl
              have hf30_0 : World.frozen? _ ⟨go30, (t189 : Int).toNat * 3, none⟩ = false := hfr30 0
              have hf30_1 : World.frozen? _ ⟨go30, (t189 : Int).toNat * 3 + 1, none⟩ = false := hfr30 1
              have hf30_2 : World.frozen? _ ⟨go30, (t189 : Int).toNat * 3 + 2, none⟩ = false := hfr30 2
              clear hcl30 hcc30 hfr30 hM30
              replace p30 := eq_true p30
              replace q30 := eq_true q30
              obtain ⟨ce41, hcl41, hM41, hcc41, hfr41⟩ := Kd.R_elem HO_4.out z67 (t189 : Int) (of_decide_eq_true z2_) z77_
              obtain rfl := k67_openM hM41
              have HP41 := (Kd.R_seg HO_4.out (t189 : Int) (of_decide_eq_true z2_) z77_ (seg := [.int .i64 t192]) (j := 2) hcl41 hcc41 (show 3 ≤ 3 from by decide) (x' := (⟨(rd_T67 x4_1 t189).f0, (rd_T67 x4_1 t189).f1, t192⟩ : S67)) (k67_mkM _ _ _ (⟨(rd_T67 x4_1 t189).f0, (rd_T67 x4_1 t189).f1, t192⟩ : S67) ) (fun _ hk => hk)).1
              rw [← Ny193.out] at HP41
              have HQ41 := q_ HP41
              clear hcl41 hcc41 hfr41 hM41 HP41
              refine hK.out _ _ ⟨(blk_cell BK183.out 0).trans rfl, (blk_cell BK183.out 1).trans rfl, (blk_cell BK183.out 2).trans rfl, HS3_, HS4_, HS5_⟩ (fun hHeld => ?_)
              clear hK K
              refine norm_ (a' := ?_) ?_ ?_
              rotate_left
              ·show Act.put _ (some 55) _ = _
               simp only [Act.put, List.setIfInBounds_toArray, List.set_cons_zero, List.set_cons_succ, i64_w, i32_w]
               rfl
              refine pure_ (i := 11) (N := some 56) (v := ?_) (a' := ?_) #[true, true, true, true, true, true, true, true, true, true, true, true, false, false] rfl rfl (any_of HT_.out (by kernel_rfl)) (fun _ _ _ h => h) (Or.inl ⟨by rfl, ?_⟩) ?_ ?_
              rotate_left
              ·intro w'
               go_simp
               with_reducible rfl
              rotate_left
              ·simp only [Act.put, List.setIfInBounds_toArray, List.set_cons_zero, List.set_cons_succ, i64_w, i32_w]
               rfl
              refine pure_ (i := 12) (N := some 57) (v := ?_) (a' := ?_) #[true, true, true, true, true, true, true, true, true, true, true, true, true, false] rfl rfl (any_of HT_.out (by kernel_rfl)) (fun _ _ _ h => h) (Or.inl ⟨by rfl, ?_⟩) ?_ ?_
              rotate_left
              ·intro w'
               go_simp
               with_reducible rfl
              rotate_left
              ·simp only [Act.put, List.setIfInBounds_toArray, List.set_cons_zero, List.set_cons_succ, i64_w, i32_w]
               rfl
              refine last_ (i := 13) (N := none) #[true, true, true, true, true, true, true, true, true, true, true, true, true, true] rfl rfl (one_of HT_.out (by kernel_rfl)) (by decide) (fun K hK => ?_)
              refine skip_ (w1 := ?_) (by rfl) rfl ?_ ?_
              rotate_left
              ·go_simp
               rfl
              refine hK.out _ _ ?_
              clear hK K
              refine done_ (done_of HT_.out (by kernel_rfl)) ?_
              try go_wp2
              (try simp only [← hl3_1, ← hl13_1])
              go_roundg k1
              case measure => have := HK1.out; omega
              case rel => (try simp only [hl13_1] at HO_3); exact ⟨(x3_1), (y193), (x13_1), (ji13), z48_, H', ⟨z49_⟩, ⟨by (try simp only [hl3_1]); (try simp only [hl13_1]); (with_reducible repeat (first | apply Kd.R_alloc | apply Kd.R_drewN | apply Kd.R_drew)); exact Kd.R_mono (Kd.R_far (p := ⟨go30, (t189 : Int).toNat * 3 + 2, none⟩) (Kd.R_mono HO_3.out (fun k_ hk => (⟨hk, fun e_ => hk.1 (by rw [e_]; rfl)⟩ : _ ∧ k_ ≠ go30))) (fun _ hk => hk.2) (.int .i64 t192)) (fun _ hk => hk.1.1)⟩, ⟨by (try simp only [hl3_1]); (try simp only [hl13_1]); (with_reducible repeat (first | apply Kd.R_alloc | apply Kd.R_drewN | apply Kd.R_drew)); exact Kd.R_mono HQ41.out (fun _ hk => ⟨hk.1, hk.2.1⟩)⟩, ⟨by (try simp only [hl3_1]); (try simp only [hl13_1]); (with_reducible repeat (first | apply Kd.R_alloc | apply Kd.R_drewN | apply Kd.R_drew)); exact Kd.R_mono (Kd.R_far (p := ⟨go30, (t189 : Int).toNat * 3 + 2, none⟩) (Kd.R_mono HO_13.out (fun k_ hk => (⟨hk, fun e_ => hk.1 (by rw [e_]; rfl)⟩ : _ ∧ k_ ≠ go30))) (fun _ hk => hk.2) (.int .i64 t192)) (fun _ hk => hk.1.1)⟩, ⟨by repeat (first | (with_reducible first | exact HB.out | apply below_alloc | apply pw_below_drewN | apply below_drew1 | refine below_set ?_ GB30.out | refine below_set ?_ GE183.out) | exact HB.out)⟩⟩
             ·rw [if_neg c28] at H
              have c28b0 : (((rd_T67 x4_1 t189).f0) == 1) = false := beq_eq_false_iff_ne.mpr c28
              have c28b1 : (((rd_T67 x4_1 t189).f0) != 1) = true := bne_iff_ne.mpr c28
              by_cases c42 : x4_1.length < 5864062014805
              ·rw [if_pos c42] at H
               have LMc42 := q_ c42
               clear c42
               obtain ⟨y194, hy194⟩ : ∃ y_ : List (S67), y_ = (x4_1 ++ [(⟨(rd_T67 x13_1 x15_1).f0, (rd_T67 x13_1 x15_1).f1, (rd_T67 x13_1 x15_1).f2⟩ : S67)]) := ⟨_, rfl⟩
               replace H : (impl_Shrink.l0 k1 x3_1 y194 x13_1 (t176.length : Int) ji13) = some r := by first | (rw [hy194]; with_reducible exact H) | (have H2_ := (Option.bind_some _ _).symm.trans H; rw [hy194]; with_reducible exact H2_) | (have H2_ := (Option.bind_some _ _).symm.trans H; with_reducible exact H2_) | with_reducible exact H | (rw [hy194]; exact H) | exact H
               have Ny194 := q_ hy194
               clear hy194
               have H' := q_ H
               clear H
               have p182 : 0 ≤ (x15_1 : Int) := of_decide_eq_true z2_
               have q182 : x15_1 < (x13_1.length : Int) := of_decide_eq_true z2_
               obtain ⟨ad182, e182, hx182_0, hx182_1, hx182_2⟩ := at_T67 (Kd.R_reads' HO_13.out).2.2 x15_1 p182 q182
               cases e182
               replace p182 := eq_true p182
               replace q182 := eq_true q182
               go_wp2_with (first | ((with_reducible refine gate_dst (N := 6) rfl ?_); refine box_event ?hg (N := 6) ?hd (cs := #[.int .i64 0, .int .i64 0, .int .i64 0]) (t := 67) ?hr ?_; (case hd => rfl); (case hg => rfl); (case hr => exact z88_); intro gb183 hg w43 hbox hb; have n0_ := q_ (Kd.R_below (Kd.R_elderB z8_ gb183 (Nat.le_of_eq hg.symm)) hb); have n1_ := q_ (Kd.R_below (Kd.R_elderB z5_ gb183 (Nat.le_of_eq hg.symm)) hb); have n2_ := q_ (Kd.R_below (Kd.R_elderB z22_ gb183 (Nat.le_of_eq hg.symm)) hb); have n3_ := q_ (below_step z0_ hb); have n4_ := q_ (hbox); have n5_ := q_ ((z69_ : w.heap.size ≤ gb183)); have n6_ := q_ ((z69_ : w.heap.size ≤ gb183)); clear HO_3; clear HO_4; clear HO_13; clear HB; have HO_3 := n0_; have HO_4 := n1_; have HO_13 := n2_; have HB := n3_; have BK183 := n4_; have GW183 := n5_; have GE183 := n6_; clear n0_ n1_ n2_ n3_ n4_ n5_ n6_; clear hb hbox hg; obtain ⟨hcz44_0, hcz44_1, hcz44_2, hfz44_0, hfz44_1, hfz44_2⟩ := cs3_ BK183.out) | ((with_reducible refine gate_store (t := 67) (p := 6) rfl ?_); refine store_event (t := 67) (p := 6) (v := ?vo_w45) (w1 := (((w43.setCell ⟨gb183, 0, none⟩ (.int .i64 ((rd_T67 x13_1 x15_1).f0))).setCell ⟨gb183, 1, none⟩ (.int .i64 ((rd_T67 x13_1 x15_1).f1))).setCell ⟨gb183, 2, none⟩ (.int .i64 ((rd_T67 x13_1 x15_1).f2)))) ?hg ?ho ?hn ?hr ?_; (case ho => rfl); (case hg => rfl); (case hn => rfl); (case hr => exact z88_); intro w45 hw; have n0_ : Aside0 (Kd.R k67 67 w45 w.heap.size (fun k_ => some k_ ≠ (u4 : Value).ownBlock ∧ k_ ≠ gb183) (.slice (some ad182) x3_1.length co9) x3_1) := ⟨z83_⟩; have n1_ : Aside0 (Kd.R k67 67 w45 w.heap.size (fun k_ => some k_ ≠ (.slice (some ad182) x3_1.length co9 : Value).ownBlock ∧ some k_ ≠ (.slice (some ad182) x13_1.length co9 : Value).ownBlock ∧ k_ ≠ gb183) u4 x4_1) := ⟨z84_⟩; have n2_ : Aside0 (Kd.R k67 67 w45 w.heap.size (fun k_ => some k_ ≠ (u4 : Value).ownBlock ∧ k_ ≠ gb183) (.slice (some ad182) x13_1.length co9) x13_1) := ⟨z85_⟩; have n3_ : Aside0 (w45.heap[gb183]? = some (.cells #[.int .i64 ((rd_T67 x13_1 x15_1).f0), .int .i64 ((rd_T67 x13_1 x15_1).f1), .int .i64 ((rd_T67 x13_1 x15_1).f2)] 67 (0, 0))) := ⟨z86_⟩; have n4_ : Aside0 (Below w.heap.size w w45) := ⟨z87_⟩; clear hw; clear HO_3; clear HO_4; clear HO_13; clear BK183; clear HB; have HO_3 := n0_; have HO_4 := n1_; have HO_13 := n2_; have BK183 := n3_; have HB := n4_; clear n0_ n1_ n2_ n3_ n4_; have q46 : ((ji13) : Int) ≤ ((x3_1.length : Int) : Int) := of_decide_eq_true z2_; obtain ⟨i046, hi046, _, hsz46, _⟩ := info_parts info67; have hroom46 : x3_1.length ≤ co9 := (Kd.R_reads' HO_3.out).2.1; have hC46 : Kd.C k67 _ (some ad182) x3_1.length x3_1 := (Kd.R_reads' HO_3.out).2.2; have q046 : (0 : Int) ≤ ((ji13) : Int) := of_decide_eq_true z2_; have hcut46 := cut_from (P := Try.prog) 24 67 .i64 Try.underlying24 hi046 3 hsz46 (some ad182) x3_1.length co9 (ji13) q046 q46; have hr46 := Kd.C_drop (m := ((ji13) : Int).toNat) (c := co9) hC46 (by omega) hroom46; obtain ⟨A46, hA46⟩ : ∃ A1, A1 = (if co9 = ((ji13) : Int).toNat then (some ad182) else ((some ad182) : Option Addr).map (·.add (((ji13) : Int).toNat * 3))) := ⟨_, rfl⟩; obtain ⟨c46, hc46⟩ : ∃ c1, c1 = co9 - ((ji13) : Int).toNat := ⟨_, rfl⟩; have hy46 : y184.length = x3_1.length - ((ji13) : Int).toNat := z62_; rw [show (x3_1).drop ((ji13) : Int).toNat = y184 from Ny184.out.symm] at hr46; replace hr46 : Kd.C k67 _ A46 y184.length y184 := (by rw [hA46]; exact hr46); rw [← hy46, ← hA46, ← hc46] at hcut46; (try simp only [hl13_1] at hcut46); have HR187 := q_ hr46; have HC187 := q_ (show y184.length ≤ c46 from by rw [hy46, hc46]; exact Nat.sub_le_sub_right hroom46 _); clear hr46 hC46 hroom46 hi046 hsz46 hc46; have KY46 := q_ hy46; have KA46 := q_ hA46; clear hy46 hA46; have KL46 := q_ (show ((ji13) : Int).toNat ≤ x3_1.length from by omega); replace q46 := eq_true q46) | ((with_reducible refine gate_callee (f := 97) rfl ?_); refine goesL_ (some 25) rfl rfl Try.func97 (by kernel_rfl) rfl #[.slice A46 y184.length c46, .func (.func 98) #[] #[.pointer (some ⟨gb183, 0, none⟩)]] rfl z1_ ?_; (with_reducible refine (slices_ContainsFunc_Msg_98.calls k1 _ _ y184 gb183 ((rd_T67 x13_1 x15_1).f0) ((rd_T67 x13_1 x15_1).f1) ((rd_T67 x13_1 x15_1).f2) false _ ?side1 ?side2 ?side3 A16.out).mono ?_); (case side1 => exact z98_); (case side2 => exact HC187.out); (case side3 => exact z94_); rintro e w47 ⟨rfl, hb⟩; refine ⟨_, rfl, ?_⟩; have n0_ := q_ (Kd.R_below z8_ hb); have n1_ := q_ (Kd.R_below z5_ hb); have n2_ := q_ (Kd.R_below z22_ hb); have n3_ := q_ (blk_below (g := gb183) (o := .cells #[.int .i64 ((rd_T67 x13_1 x15_1).f0), .int .i64 ((rd_T67 x13_1 x15_1).f1), .int .i64 ((rd_T67 x13_1 x15_1).f2)] 67 (0, 0)) z24_ hb); have n4_ := q_ (Kd.C_below z12_ hb); have n5_ := q_ (below_step z4_ hb); clear HO_3; clear HO_4; clear HO_13; clear BK183; clear HR187; clear HB; have HO_3 := n0_; have HO_4 := n1_; have HO_13 := n2_; have BK183 := n3_; have HR187 := n4_; have HB := n5_; clear n0_ n1_ n2_ n3_ n4_ n5_; (try clear hb); (try clear hb2); (try clear hk); (try clear hi); obtain ⟨Ao48, co48, eo48⟩ := Kd.R_slice HO_4.out; subst eo48) | ((with_reducible refine gate_callee (f := 100) rfl ?_); refine goesL_ (some 29) rfl rfl Try.func100 (by kernel_rfl) rfl #[.slice Ao48 x4_1.length co48, .func (.func 101) #[] #[.pointer (some ⟨gb183, 0, none⟩)]] rfl z1_ ?_; (with_reducible refine (slices_IndexFunc_Msg_101.calls k1 _ _ x4_1 gb183 ((rd_T67 x13_1 x15_1).f0) ((rd_T67 x13_1 x15_1).f1) ((rd_T67 x13_1 x15_1).f2) t189 _ ?side1 ?side2 ?side3 A23.out).mono ?_); (case side1 => exact z91_); (case side2 => exact z112_); (case side3 => exact z94_); rintro e w49 ⟨rfl, hb⟩; refine ⟨_, rfl, ?_⟩; have n0_ := q_ (Kd.R_below z8_ hb); have n1_ := q_ (Kd.R_below z5_ hb); have n2_ := q_ (Kd.R_below z22_ hb); have n3_ := q_ (blk_below (g := gb183) (o := .cells #[.int .i64 ((rd_T67 x13_1 x15_1).f0), .int .i64 ((rd_T67 x13_1 x15_1).f1), .int .i64 ((rd_T67 x13_1 x15_1).f2)] 67 (0, 0)) z24_ hb); have n4_ := q_ (Kd.C_below z12_ hb); have n5_ := q_ (below_step z4_ hb); clear HO_3; clear HO_4; clear HO_13; clear BK183; clear HR187; clear HB; have HO_3 := n0_; have HO_4 := n1_; have HO_13 := n2_; have BK183 := n3_; have HR187 := n4_; have HB := n5_; clear n0_ n1_ n2_ n3_ n4_ n5_; (try clear hb); (try clear hb2); (try clear hk); (try clear hi); obtain ⟨hcz50_0, hcz50_1, hcz50_2, hfz50_0, hfz50_1, hfz50_2⟩ := cs3_ BK183.out; have p190 : 0 ≤ (t189 : Int) := of_decide_eq_true z2_; have q190 : t189 < (x4_1.length : Int) := of_decide_eq_true z2_; obtain ⟨ad190, e190, hx190_0, hx190_1, hx190_2⟩ := at_T67 (Kd.R_reads' HO_4.out).2.2 t189 p190 q190; cases e190; replace p190 := eq_true p190; replace q190 := eq_true q190) | ((with_reducible refine gate_builtin (b := .append) (xs := #[.tmp 58, .tmp 60]) rfl ?_); at_builtin; refine Kd.R_append k67 (w0 := w) w.heap.size rfl (.tmp 58) (.tmp 60) 24 67 (.agg #[(.int .i64 0), (.int .i64 0), (.int .i64 0)]) 24 rfl Try.underlying24 info67 rfl (by decide) (by omega) (.slice (some ad190) x4_1.length co48) x4_1 (⟨(rd_T67 x13_1 x15_1).f0, (rd_T67 x13_1 x15_1).f1, (rd_T67 x13_1 x15_1).f2⟩ : S67) [.int .i64 ((rd_T67 x13_1 x15_1).f0), .int .i64 ((rd_T67 x13_1 x15_1).f1), .int .i64 ((rd_T67 x13_1 x15_1).f2)] (fun k_ => some k_ ≠ (.slice (some ad182) x3_1.length co9 : Value).ownBlock ∧ some k_ ≠ (.slice (some ad182) x13_1.length co9 : Value).ownBlock ∧ k_ ≠ gb183) (fun _ => False) rfl rfl ?aP (fun _ hk => hk.elim) ?aF ?aO ?aB ?aS ?aL ?_; (case aP => exact z110_); (case aB => exact z4_); (case aF => exact z97_); (case aO => exact z5_); (case aS => exact (below_size z4_)); (case aL => have := LMc42.out; omega); intro v195 w51 ho hb hg hat; rw [← Ny194.out] at ho; have n0_ := q_ (Kd.R_after (ok := (fun k_ => k_ ≠ gb183)) z31_ hg hat); have n1_ := q_ (Kd.R_after (ok := (fun k_ => k_ ≠ gb183)) z50_ hg hat); have n2_ := q_ (blk_grown (g := gb183) (o := .cells #[.int .i64 ((rd_T67 x13_1 x15_1).f0), .int .i64 ((rd_T67 x13_1 x15_1).f1), .int .i64 ((rd_T67 x13_1 x15_1).f2)] 67 (0, 0)) z24_ hg (Kd.R_away HO_4.out (fun _ hk => hk.2.2))); have n3_ := q_ (hb); have n4_ := q_ ((show Kd.C k67 w51 A46 y184.length y184 from by rw [Ny184.out, KA46.out]; exact Kd.C_drop (m := ((ji13) : Int).toNat) (c := co9) ((Kd.R_reads' (Kd.R_after (ok := (fun k_ => k_ ≠ gb183)) z31_ hg hat)).2.2) KL46.out ((Kd.R_reads' (Kd.R_after (ok := (fun k_ => k_ ≠ gb183)) z31_ hg hat)).2.1))); have n5_ := q_ (ho); clear HO_3; clear HO_13; clear BK183; clear HB; clear HR187; clear HO_4; have HO_3 := n0_; have HO_13 := n1_; have BK183 := n2_; have HB := n3_; have HR187 := n4_; have HO196 := n5_; clear n0_ n1_ n2_ n3_ n4_ n5_; clear ho hb hg hat))
               (try simp only [← hl3_1, ← hl13_1])
               go_roundg k1
               case measure => have := HK1.out; omega
               case rel => (try simp only [hl13_1] at HO_3); exact ⟨(x3_1), (y194), (x13_1), (ji13), z48_, H', ⟨z49_⟩, ⟨z44_⟩, ⟨by (try simp only [hl3_1]); (try simp only [hl13_1]); (with_reducible repeat (first | apply Kd.R_alloc | apply Kd.R_drewN | apply Kd.R_drew)); exact Kd.R_mono HO196.out (fun _ hk => ⟨hk.1, hk.2.1⟩)⟩, ⟨z43_⟩, ⟨z4_⟩⟩
              ·rw [if_neg c42] at H
               exact absurd H (by simp)
            ·rw [if_neg c27] at H
             exact absurd H (by simp)
           ·rw [if_neg c26] at H
            exact absurd H (by simp)
          ·rw [if_neg c25] at H
           have c25b0 : decide (0 ≤ t189) = false := decide_eq_false c25
           clear c25
           by_cases c52 : x4_1.length < 5864062014805
           ·rw [if_pos c52] at H
            have LMc52 := q_ c52
            clear c52
            obtain ⟨y197, hy197⟩ : ∃ y_ : List (S67), y_ = (x4_1 ++ [(⟨(rd_T67 x13_1 x15_1).f0, (rd_T67 x13_1 x15_1).f1, (rd_T67 x13_1 x15_1).f2⟩ : S67)]) := ⟨_, rfl⟩
            replace H : (impl_Shrink.l0 k1 x3_1 y197 x13_1 (t176.length : Int) ji13) = some r := by first | (rw [hy197]; with_reducible exact H) | (have H2_ := (Option.bind_some _ _).symm.trans H; rw [hy197]; with_reducible exact H2_) | (have H2_ := (Option.bind_some _ _).symm.trans H; with_reducible exact H2_) | with_reducible exact H | (rw [hy197]; exact H) | exact H
            have Ny197 := q_ hy197
            clear hy197
            have H' := q_ H
            clear H
            have p182 : 0 ≤ (x15_1 : Int) := of_decide_eq_true z2_
            have q182 : x15_1 < (x13_1.length : Int) := of_decide_eq_true z2_
            obtain ⟨ad182, e182, hx182_0, hx182_1, hx182_2⟩ := at_T67 (Kd.R_reads' HO_13.out).2.2 x15_1 p182 q182
            cases e182
            replace p182 := eq_true p182
            replace q182 := eq_true q182
            go_wp2_with (first | ((with_reducible refine gate_dst (N := 6) rfl ?_); refine box_event ?hg (N := 6) ?hd (cs := #[.int .i64 0, .int .i64 0, .int .i64 0]) (t := 67) ?hr ?_; (case hd => rfl); (case hg => rfl); (case hr => exact z88_); intro gb183 hg w53 hbox hb; have n0_ := q_ (Kd.R_below (Kd.R_elderB z8_ gb183 (Nat.le_of_eq hg.symm)) hb); have n1_ := q_ (Kd.R_below (Kd.R_elderB z5_ gb183 (Nat.le_of_eq hg.symm)) hb); have n2_ := q_ (Kd.R_below (Kd.R_elderB z22_ gb183 (Nat.le_of_eq hg.symm)) hb); have n3_ := q_ (below_step z0_ hb); have n4_ := q_ (hbox); have n5_ := q_ ((z69_ : w.heap.size ≤ gb183)); have n6_ := q_ ((z69_ : w.heap.size ≤ gb183)); clear HO_3; clear HO_4; clear HO_13; clear HB; have HO_3 := n0_; have HO_4 := n1_; have HO_13 := n2_; have HB := n3_; have BK183 := n4_; have GW183 := n5_; have GE183 := n6_; clear n0_ n1_ n2_ n3_ n4_ n5_ n6_; clear hb hbox hg; obtain ⟨hcz54_0, hcz54_1, hcz54_2, hfz54_0, hfz54_1, hfz54_2⟩ := cs3_ BK183.out) | ((with_reducible refine gate_store (t := 67) (p := 6) rfl ?_); refine store_event (t := 67) (p := 6) (v := ?vo_w55) (w1 := (((w53.setCell ⟨gb183, 0, none⟩ (.int .i64 ((rd_T67 x13_1 x15_1).f0))).setCell ⟨gb183, 1, none⟩ (.int .i64 ((rd_T67 x13_1 x15_1).f1))).setCell ⟨gb183, 2, none⟩ (.int .i64 ((rd_T67 x13_1 x15_1).f2)))) ?hg ?ho ?hn ?hr ?_; (case ho => rfl); (case hg => rfl); (case hn => rfl); (case hr => exact z88_); intro w55 hw; have n0_ : Aside0 (Kd.R k67 67 w55 w.heap.size (fun k_ => some k_ ≠ (u4 : Value).ownBlock ∧ k_ ≠ gb183) (.slice (some ad182) x3_1.length co9) x3_1) := ⟨z83_⟩; have n1_ : Aside0 (Kd.R k67 67 w55 w.heap.size (fun k_ => some k_ ≠ (.slice (some ad182) x3_1.length co9 : Value).ownBlock ∧ some k_ ≠ (.slice (some ad182) x13_1.length co9 : Value).ownBlock ∧ k_ ≠ gb183) u4 x4_1) := ⟨z84_⟩; have n2_ : Aside0 (Kd.R k67 67 w55 w.heap.size (fun k_ => some k_ ≠ (u4 : Value).ownBlock ∧ k_ ≠ gb183) (.slice (some ad182) x13_1.length co9) x13_1) := ⟨z85_⟩; have n3_ : Aside0 (w55.heap[gb183]? = some (.cells #[.int .i64 ((rd_T67 x13_1 x15_1).f0), .int .i64 ((rd_T67 x13_1 x15_1).f1), .int .i64 ((rd_T67 x13_1 x15_1).f2)] 67 (0, 0))) := ⟨z86_⟩; have n4_ : Aside0 (Below w.heap.size w w55) := ⟨z87_⟩; clear hw; clear HO_3; clear HO_4; clear HO_13; clear BK183; clear HB; have HO_3 := n0_; have HO_4 := n1_; have HO_13 := n2_; have BK183 := n3_; have HB := n4_; clear n0_ n1_ n2_ n3_ n4_; have q56 : ((ji13) : Int) ≤ ((x3_1.length : Int) : Int) := of_decide_eq_true z2_; obtain ⟨i056, hi056, _, hsz56, _⟩ := info_parts info67; have hroom56 : x3_1.length ≤ co9 := (Kd.R_reads' HO_3.out).2.1; have hC56 : Kd.C k67 _ (some ad182) x3_1.length x3_1 := (Kd.R_reads' HO_3.out).2.2; have q056 : (0 : Int) ≤ ((ji13) : Int) := of_decide_eq_true z2_; have hcut56 := cut_from (P := Try.prog) 24 67 .i64 Try.underlying24 hi056 3 hsz56 (some ad182) x3_1.length co9 (ji13) q056 q56; have hr56 := Kd.C_drop (m := ((ji13) : Int).toNat) (c := co9) hC56 (by omega) hroom56; obtain ⟨A56, hA56⟩ : ∃ A1, A1 = (if co9 = ((ji13) : Int).toNat then (some ad182) else ((some ad182) : Option Addr).map (·.add (((ji13) : Int).toNat * 3))) := ⟨_, rfl⟩; obtain ⟨c56, hc56⟩ : ∃ c1, c1 = co9 - ((ji13) : Int).toNat := ⟨_, rfl⟩; have hy56 : y184.length = x3_1.length - ((ji13) : Int).toNat := z62_; rw [show (x3_1).drop ((ji13) : Int).toNat = y184 from Ny184.out.symm] at hr56; replace hr56 : Kd.C k67 _ A56 y184.length y184 := (by rw [hA56]; exact hr56); rw [← hy56, ← hA56, ← hc56] at hcut56; (try simp only [hl13_1] at hcut56); have HR187 := q_ hr56; have HC187 := q_ (show y184.length ≤ c56 from by rw [hy56, hc56]; exact Nat.sub_le_sub_right hroom56 _); clear hr56 hC56 hroom56 hi056 hsz56 hc56; have KY56 := q_ hy56; have KA56 := q_ hA56; clear hy56 hA56; have KL56 := q_ (show ((ji13) : Int).toNat ≤ x3_1.length from by omega); replace q56 := eq_true q56) | ((with_reducible refine gate_callee (f := 97) rfl ?_); refine goesL_ (some 25) rfl rfl Try.func97 (by kernel_rfl) rfl #[.slice A56 y184.length c56, .func (.func 98) #[] #[.pointer (some ⟨gb183, 0, none⟩)]] rfl z1_ ?_; (with_reducible refine (slices_ContainsFunc_Msg_98.calls k1 _ _ y184 gb183 ((rd_T67 x13_1 x15_1).f0) ((rd_T67 x13_1 x15_1).f1) ((rd_T67 x13_1 x15_1).f2) false _ ?side1 ?side2 ?side3 A16.out).mono ?_); (case side1 => exact z98_); (case side2 => exact HC187.out); (case side3 => exact z94_); rintro e w57 ⟨rfl, hb⟩; refine ⟨_, rfl, ?_⟩; have n0_ := q_ (Kd.R_below z8_ hb); have n1_ := q_ (Kd.R_below z5_ hb); have n2_ := q_ (Kd.R_below z22_ hb); have n3_ := q_ (blk_below (g := gb183) (o := .cells #[.int .i64 ((rd_T67 x13_1 x15_1).f0), .int .i64 ((rd_T67 x13_1 x15_1).f1), .int .i64 ((rd_T67 x13_1 x15_1).f2)] 67 (0, 0)) z24_ hb); have n4_ := q_ (Kd.C_below z12_ hb); have n5_ := q_ (below_step z4_ hb); clear HO_3; clear HO_4; clear HO_13; clear BK183; clear HR187; clear HB; have HO_3 := n0_; have HO_4 := n1_; have HO_13 := n2_; have BK183 := n3_; have HR187 := n4_; have HB := n5_; clear n0_ n1_ n2_ n3_ n4_ n5_; (try clear hb); (try clear hb2); (try clear hk); (try clear hi); obtain ⟨Ao58, co58, eo58⟩ := Kd.R_slice HO_4.out; subst eo58) | ((with_reducible refine gate_callee (f := 100) rfl ?_); refine goesL_ (some 29) rfl rfl Try.func100 (by kernel_rfl) rfl #[.slice Ao58 x4_1.length co58, .func (.func 101) #[] #[.pointer (some ⟨gb183, 0, none⟩)]] rfl z1_ ?_; (with_reducible refine (slices_IndexFunc_Msg_101.calls k1 _ _ x4_1 gb183 ((rd_T67 x13_1 x15_1).f0) ((rd_T67 x13_1 x15_1).f1) ((rd_T67 x13_1 x15_1).f2) t189 _ ?side1 ?side2 ?side3 A23.out).mono ?_); (case side1 => exact z91_); (case side2 => exact z112_); (case side3 => exact z94_); rintro e w59 ⟨rfl, hb⟩; refine ⟨_, rfl, ?_⟩; have n0_ := q_ (Kd.R_below z8_ hb); have n1_ := q_ (Kd.R_below z5_ hb); have n2_ := q_ (Kd.R_below z22_ hb); have n3_ := q_ (blk_below (g := gb183) (o := .cells #[.int .i64 ((rd_T67 x13_1 x15_1).f0), .int .i64 ((rd_T67 x13_1 x15_1).f1), .int .i64 ((rd_T67 x13_1 x15_1).f2)] 67 (0, 0)) z24_ hb); have n4_ := q_ (Kd.C_below z12_ hb); have n5_ := q_ (below_step z4_ hb); clear HO_3; clear HO_4; clear HO_13; clear BK183; clear HR187; clear HB; have HO_3 := n0_; have HO_4 := n1_; have HO_13 := n2_; have BK183 := n3_; have HR187 := n4_; have HB := n5_; clear n0_ n1_ n2_ n3_ n4_ n5_; (try clear hb); (try clear hb2); (try clear hk); (try clear hi); obtain ⟨hcz60_0, hcz60_1, hcz60_2, hfz60_0, hfz60_1, hfz60_2⟩ := cs3_ BK183.out) | ((with_reducible refine gate_builtin (b := .append) (xs := #[.tmp 58, .tmp 60]) rfl ?_); at_builtin; refine Kd.R_append k67 (w0 := w) w.heap.size rfl (.tmp 58) (.tmp 60) 24 67 (.agg #[(.int .i64 0), (.int .i64 0), (.int .i64 0)]) 24 rfl Try.underlying24 info67 rfl (by decide) (by omega) (.slice Ao58 x4_1.length co58) x4_1 (⟨(rd_T67 x13_1 x15_1).f0, (rd_T67 x13_1 x15_1).f1, (rd_T67 x13_1 x15_1).f2⟩ : S67) [.int .i64 ((rd_T67 x13_1 x15_1).f0), .int .i64 ((rd_T67 x13_1 x15_1).f1), .int .i64 ((rd_T67 x13_1 x15_1).f2)] (fun k_ => some k_ ≠ (.slice (some ad182) x3_1.length co9 : Value).ownBlock ∧ some k_ ≠ (.slice (some ad182) x13_1.length co9 : Value).ownBlock ∧ k_ ≠ gb183) (fun _ => False) rfl rfl ?aP (fun _ hk => hk.elim) ?aF ?aO ?aB ?aS ?aL ?_; (case aP => exact z110_); (case aB => exact z4_); (case aF => exact z97_); (case aO => exact z5_); (case aS => exact (below_size z4_)); (case aL => have := LMc52.out; omega); intro v198 w61 ho hb hg hat; rw [← Ny197.out] at ho; have n0_ := q_ (Kd.R_after (ok := (fun k_ => k_ ≠ gb183)) z31_ hg hat); have n1_ := q_ (Kd.R_after (ok := (fun k_ => k_ ≠ gb183)) z50_ hg hat); have n2_ := q_ (blk_grown (g := gb183) (o := .cells #[.int .i64 ((rd_T67 x13_1 x15_1).f0), .int .i64 ((rd_T67 x13_1 x15_1).f1), .int .i64 ((rd_T67 x13_1 x15_1).f2)] 67 (0, 0)) z24_ hg (Kd.R_away HO_4.out (fun _ hk => hk.2.2))); have n3_ := q_ (hb); have n4_ := q_ ((show Kd.C k67 w61 A56 y184.length y184 from by rw [Ny184.out, KA56.out]; exact Kd.C_drop (m := ((ji13) : Int).toNat) (c := co9) ((Kd.R_reads' (Kd.R_after (ok := (fun k_ => k_ ≠ gb183)) z31_ hg hat)).2.2) KL56.out ((Kd.R_reads' (Kd.R_after (ok := (fun k_ => k_ ≠ gb183)) z31_ hg hat)).2.1))); have n5_ := q_ (ho); clear HO_3; clear HO_13; clear BK183; clear HB; clear HR187; clear HO_4; have HO_3 := n0_; have HO_13 := n1_; have BK183 := n2_; have HB := n3_; have HR187 := n4_; have HO199 := n5_; clear n0_ n1_ n2_ n3_ n4_ n5_; clear ho hb hg hat))
            (try simp only [← hl3_1, ← hl13_1])
            go_roundg k1
            case measure => have := HK1.out; omega
            case rel => (try simp only [hl13_1] at HO_3); exact ⟨(x3_1), (y197), (x13_1), (ji13), z48_, H', ⟨z49_⟩, ⟨z44_⟩, ⟨by (try simp only [hl3_1]); (try simp only [hl13_1]); (with_reducible repeat (first | apply Kd.R_alloc | apply Kd.R_drewN | apply Kd.R_drew)); exact Kd.R_mono HO199.out (fun _ hk => ⟨hk.1, hk.2.1⟩)⟩, ⟨z43_⟩, ⟨z4_⟩⟩
           ·rw [if_neg c52] at H
            exact absurd H (by simp)
         ·rw [if_neg c24] at H
          have c24b0 : (((rd_T67 x13_1 x15_1).f0) == 3) = false := beq_eq_false_iff_ne.mpr c24
          have c24b1 : (((rd_T67 x13_1 x15_1).f0) != 3) = true := bne_iff_ne.mpr c24
          by_cases c62 : x4_1.length < 5864062014805
          ·rw [if_pos c62] at H
           have LMc62 := q_ c62
           clear c62
           obtain ⟨y200, hy200⟩ : ∃ y_ : List (S67), y_ = (x4_1 ++ [(⟨(rd_T67 x13_1 x15_1).f0, (rd_T67 x13_1 x15_1).f1, (rd_T67 x13_1 x15_1).f2⟩ : S67)]) := ⟨_, rfl⟩
           replace H : (impl_Shrink.l0 k1 x3_1 y200 x13_1 (t176.length : Int) ji13) = some r := by first | (rw [hy200]; with_reducible exact H) | (have H2_ := (Option.bind_some _ _).symm.trans H; rw [hy200]; with_reducible exact H2_) | (have H2_ := (Option.bind_some _ _).symm.trans H; with_reducible exact H2_) | with_reducible exact H | (rw [hy200]; exact H) | exact H
           have Ny200 := q_ hy200
           clear hy200
           have H' := q_ H
           clear H
           have p182 : 0 ≤ (x15_1 : Int) := of_decide_eq_true z2_
           have q182 : x15_1 < (x13_1.length : Int) := of_decide_eq_true z2_
           obtain ⟨ad182, e182, hx182_0, hx182_1, hx182_2⟩ := at_T67 (Kd.R_reads' HO_13.out).2.2 x15_1 p182 q182
           cases e182
           replace p182 := eq_true p182
           replace q182 := eq_true q182
           go_wp2_with (first | ((with_reducible refine gate_dst (N := 6) rfl ?_); refine box_event ?hg (N := 6) ?hd (cs := #[.int .i64 0, .int .i64 0, .int .i64 0]) (t := 67) ?hr ?_; (case hd => rfl); (case hg => rfl); (case hr => exact z88_); intro gb183 hg w63 hbox hb; have n0_ := q_ (Kd.R_below (Kd.R_elderB z8_ gb183 (Nat.le_of_eq hg.symm)) hb); have n1_ := q_ (Kd.R_below (Kd.R_elderB z5_ gb183 (Nat.le_of_eq hg.symm)) hb); have n2_ := q_ (Kd.R_below (Kd.R_elderB z22_ gb183 (Nat.le_of_eq hg.symm)) hb); have n3_ := q_ (below_step z0_ hb); have n4_ := q_ (hbox); have n5_ := q_ ((z69_ : w.heap.size ≤ gb183)); have n6_ := q_ ((z69_ : w.heap.size ≤ gb183)); clear HO_3; clear HO_4; clear HO_13; clear HB; have HO_3 := n0_; have HO_4 := n1_; have HO_13 := n2_; have HB := n3_; have BK183 := n4_; have GW183 := n5_; have GE183 := n6_; clear n0_ n1_ n2_ n3_ n4_ n5_ n6_; clear hb hbox hg; obtain ⟨hcz64_0, hcz64_1, hcz64_2, hfz64_0, hfz64_1, hfz64_2⟩ := cs3_ BK183.out) | ((with_reducible refine gate_store (t := 67) (p := 6) rfl ?_); refine store_event (t := 67) (p := 6) (v := ?vo_w65) (w1 := (((w63.setCell ⟨gb183, 0, none⟩ (.int .i64 ((rd_T67 x13_1 x15_1).f0))).setCell ⟨gb183, 1, none⟩ (.int .i64 ((rd_T67 x13_1 x15_1).f1))).setCell ⟨gb183, 2, none⟩ (.int .i64 ((rd_T67 x13_1 x15_1).f2)))) ?hg ?ho ?hn ?hr ?_; (case ho => rfl); (case hg => rfl); (case hn => rfl); (case hr => exact z88_); intro w65 hw; have n0_ : Aside0 (Kd.R k67 67 w65 w.heap.size (fun k_ => some k_ ≠ (u4 : Value).ownBlock ∧ k_ ≠ gb183) (.slice (some ad182) x3_1.length co9) x3_1) := ⟨z83_⟩; have n1_ : Aside0 (Kd.R k67 67 w65 w.heap.size (fun k_ => some k_ ≠ (.slice (some ad182) x3_1.length co9 : Value).ownBlock ∧ some k_ ≠ (.slice (some ad182) x13_1.length co9 : Value).ownBlock ∧ k_ ≠ gb183) u4 x4_1) := ⟨z84_⟩; have n2_ : Aside0 (Kd.R k67 67 w65 w.heap.size (fun k_ => some k_ ≠ (u4 : Value).ownBlock ∧ k_ ≠ gb183) (.slice (some ad182) x13_1.length co9) x13_1) := ⟨z85_⟩; have n3_ : Aside0 (w65.heap[gb183]? = some (.cells #[.int .i64 ((rd_T67 x13_1 x15_1).f0), .int .i64 ((rd_T67 x13_1 x15_1).f1), .int .i64 ((rd_T67 x13_1 x15_1).f2)] 67 (0, 0))) := ⟨z86_⟩; have n4_ : Aside0 (Below w.heap.size w w65) := ⟨z87_⟩; clear hw; clear HO_3; clear HO_4; clear HO_13; clear BK183; clear HB; have HO_3 := n0_; have HO_4 := n1_; have HO_13 := n2_; have BK183 := n3_; have HB := n4_; clear n0_ n1_ n2_ n3_ n4_; have q66 : ((ji13) : Int) ≤ ((x3_1.length : Int) : Int) := of_decide_eq_true z2_; obtain ⟨i066, hi066, _, hsz66, _⟩ := info_parts info67; have hroom66 : x3_1.length ≤ co9 := (Kd.R_reads' HO_3.out).2.1; have hC66 : Kd.C k67 _ (some ad182) x3_1.length x3_1 := (Kd.R_reads' HO_3.out).2.2; have q066 : (0 : Int) ≤ ((ji13) : Int) := of_decide_eq_true z2_; have hcut66 := cut_from (P := Try.prog) 24 67 .i64 Try.underlying24 hi066 3 hsz66 (some ad182) x3_1.length co9 (ji13) q066 q66; have hr66 := Kd.C_drop (m := ((ji13) : Int).toNat) (c := co9) hC66 (by omega) hroom66; obtain ⟨A66, hA66⟩ : ∃ A1, A1 = (if co9 = ((ji13) : Int).toNat then (some ad182) else ((some ad182) : Option Addr).map (·.add (((ji13) : Int).toNat * 3))) := ⟨_, rfl⟩; obtain ⟨c66, hc66⟩ : ∃ c1, c1 = co9 - ((ji13) : Int).toNat := ⟨_, rfl⟩; have hy66 : y184.length = x3_1.length - ((ji13) : Int).toNat := z62_; rw [show (x3_1).drop ((ji13) : Int).toNat = y184 from Ny184.out.symm] at hr66; replace hr66 : Kd.C k67 _ A66 y184.length y184 := (by rw [hA66]; exact hr66); rw [← hy66, ← hA66, ← hc66] at hcut66; (try simp only [hl13_1] at hcut66); have HR187 := q_ hr66; have HC187 := q_ (show y184.length ≤ c66 from by rw [hy66, hc66]; exact Nat.sub_le_sub_right hroom66 _); clear hr66 hC66 hroom66 hi066 hsz66 hc66; have KY66 := q_ hy66; have KA66 := q_ hA66; clear hy66 hA66; have KL66 := q_ (show ((ji13) : Int).toNat ≤ x3_1.length from by omega); replace q66 := eq_true q66) | ((with_reducible refine gate_callee (f := 97) rfl ?_); refine goesL_ (some 25) rfl rfl Try.func97 (by kernel_rfl) rfl #[.slice A66 y184.length c66, .func (.func 98) #[] #[.pointer (some ⟨gb183, 0, none⟩)]] rfl z1_ ?_; (with_reducible refine (slices_ContainsFunc_Msg_98.calls k1 _ _ y184 gb183 ((rd_T67 x13_1 x15_1).f0) ((rd_T67 x13_1 x15_1).f1) ((rd_T67 x13_1 x15_1).f2) false _ ?side1 ?side2 ?side3 A16.out).mono ?_); (case side1 => exact z98_); (case side2 => exact HC187.out); (case side3 => exact z94_); rintro e w67 ⟨rfl, hb⟩; refine ⟨_, rfl, ?_⟩; have n0_ := q_ (Kd.R_below z8_ hb); have n1_ := q_ (Kd.R_below z5_ hb); have n2_ := q_ (Kd.R_below z22_ hb); have n3_ := q_ (blk_below (g := gb183) (o := .cells #[.int .i64 ((rd_T67 x13_1 x15_1).f0), .int .i64 ((rd_T67 x13_1 x15_1).f1), .int .i64 ((rd_T67 x13_1 x15_1).f2)] 67 (0, 0)) z24_ hb); have n4_ := q_ (Kd.C_below z12_ hb); have n5_ := q_ (below_step z4_ hb); clear HO_3; clear HO_4; clear HO_13; clear BK183; clear HR187; clear HB; have HO_3 := n0_; have HO_4 := n1_; have HO_13 := n2_; have BK183 := n3_; have HR187 := n4_; have HB := n5_; clear n0_ n1_ n2_ n3_ n4_ n5_; (try clear hb); (try clear hb2); (try clear hk); (try clear hi); obtain ⟨Ao68, co68, eo68⟩ := Kd.R_slice HO_4.out; subst eo68) | ((with_reducible refine gate_callee (f := 100) rfl ?_); refine goesL_ (some 29) rfl rfl Try.func100 (by kernel_rfl) rfl #[.slice Ao68 x4_1.length co68, .func (.func 101) #[] #[.pointer (some ⟨gb183, 0, none⟩)]] rfl z1_ ?_; (with_reducible refine (slices_IndexFunc_Msg_101.calls k1 _ _ x4_1 gb183 ((rd_T67 x13_1 x15_1).f0) ((rd_T67 x13_1 x15_1).f1) ((rd_T67 x13_1 x15_1).f2) t189 _ ?side1 ?side2 ?side3 A23.out).mono ?_); (case side1 => exact z91_); (case side2 => exact z112_); (case side3 => exact z94_); rintro e w69 ⟨rfl, hb⟩; refine ⟨_, rfl, ?_⟩; have n0_ := q_ (Kd.R_below z8_ hb); have n1_ := q_ (Kd.R_below z5_ hb); have n2_ := q_ (Kd.R_below z22_ hb); have n3_ := q_ (blk_below (g := gb183) (o := .cells #[.int .i64 ((rd_T67 x13_1 x15_1).f0), .int .i64 ((rd_T67 x13_1 x15_1).f1), .int .i64 ((rd_T67 x13_1 x15_1).f2)] 67 (0, 0)) z24_ hb); have n4_ := q_ (Kd.C_below z12_ hb); have n5_ := q_ (below_step z4_ hb); clear HO_3; clear HO_4; clear HO_13; clear BK183; clear HR187; clear HB; have HO_3 := n0_; have HO_4 := n1_; have HO_13 := n2_; have BK183 := n3_; have HR187 := n4_; have HB := n5_; clear n0_ n1_ n2_ n3_ n4_ n5_; (try clear hb); (try clear hb2); (try clear hk); (try clear hi); obtain ⟨hcz70_0, hcz70_1, hcz70_2, hfz70_0, hfz70_1, hfz70_2⟩ := cs3_ BK183.out) | ((with_reducible refine gate_builtin (b := .append) (xs := #[.tmp 58, .tmp 60]) rfl ?_); at_builtin; refine Kd.R_append k67 (w0 := w) w.heap.size rfl (.tmp 58) (.tmp 60) 24 67 (.agg #[(.int .i64 0), (.int .i64 0), (.int .i64 0)]) 24 rfl Try.underlying24 info67 rfl (by decide) (by omega) (.slice Ao68 x4_1.length co68) x4_1 (⟨(rd_T67 x13_1 x15_1).f0, (rd_T67 x13_1 x15_1).f1, (rd_T67 x13_1 x15_1).f2⟩ : S67) [.int .i64 ((rd_T67 x13_1 x15_1).f0), .int .i64 ((rd_T67 x13_1 x15_1).f1), .int .i64 ((rd_T67 x13_1 x15_1).f2)] (fun k_ => some k_ ≠ (.slice (some ad182) x3_1.length co9 : Value).ownBlock ∧ some k_ ≠ (.slice (some ad182) x13_1.length co9 : Value).ownBlock ∧ k_ ≠ gb183) (fun _ => False) rfl rfl ?aP (fun _ hk => hk.elim) ?aF ?aO ?aB ?aS ?aL ?_; (case aP => exact z110_); (case aB => exact z4_); (case aF => exact z97_); (case aO => exact z5_); (case aS => exact (below_size z4_)); (case aL => have := LMc62.out; omega); intro v201 w71 ho hb hg hat; rw [← Ny200.out] at ho; have n0_ := q_ (Kd.R_after (ok := (fun k_ => k_ ≠ gb183)) z31_ hg hat); have n1_ := q_ (Kd.R_after (ok := (fun k_ => k_ ≠ gb183)) z50_ hg hat); have n2_ := q_ (blk_grown (g := gb183) (o := .cells #[.int .i64 ((rd_T67 x13_1 x15_1).f0), .int .i64 ((rd_T67 x13_1 x15_1).f1), .int .i64 ((rd_T67 x13_1 x15_1).f2)] 67 (0, 0)) z24_ hg (Kd.R_away HO_4.out (fun _ hk => hk.2.2))); have n3_ := q_ (hb); have n4_ := q_ ((show Kd.C k67 w71 A66 y184.length y184 from by rw [Ny184.out, KA66.out]; exact Kd.C_drop (m := ((ji13) : Int).toNat) (c := co9) ((Kd.R_reads' (Kd.R_after (ok := (fun k_ => k_ ≠ gb183)) z31_ hg hat)).2.2) KL66.out ((Kd.R_reads' (Kd.R_after (ok := (fun k_ => k_ ≠ gb183)) z31_ hg hat)).2.1))); have n5_ := q_ (ho); clear HO_3; clear HO_13; clear BK183; clear HB; clear HR187; clear HO_4; have HO_3 := n0_; have HO_13 := n1_; have BK183 := n2_; have HB := n3_; have HR187 := n4_; have HO202 := n5_; clear n0_ n1_ n2_ n3_ n4_ n5_; clear ho hb hg hat))
           (try simp only [← hl3_1, ← hl13_1])
           go_roundg k1
           case measure => have := HK1.out; omega
           case rel => (try simp only [hl13_1] at HO_3); exact ⟨(x3_1), (y200), (x13_1), (ji13), z48_, H', ⟨z49_⟩, ⟨z44_⟩, ⟨by (try simp only [hl3_1]); (try simp only [hl13_1]); (with_reducible repeat (first | apply Kd.R_alloc | apply Kd.R_drewN | apply Kd.R_drew)); exact Kd.R_mono HO202.out (fun _ hk => ⟨hk.1, hk.2.1⟩)⟩, ⟨z43_⟩, ⟨z4_⟩⟩
          ·rw [if_neg c62] at H
           exact absurd H (by simp)
       ·rw [if_neg c15] at H
        exact absurd H (by simp)
      ·rw [if_neg c14] at H
       exact absurd H (by simp)
     ·rw [if_neg c12] at H
      exact absurd H (by simp)
    ·rw [if_neg c11] at H
     exact absurd H (by simp)
   ·rw [if_neg c10] at H
    have c10b0 : decide (x15_1 < (t176.length : Int)) = false := decide_eq_false c10
    (try simp only [hl3_1, hl13_1] at c10b0)
    clear c10
    obtain rfl := Option.some.inj H
    go_wp2
    go_ret
    exact ⟨_, z3_, by (with_reducible repeat (first | apply Kd.R_alloc | apply Kd.R_drewN | apply Kd.R_drew)); exact Kd.R_mono HO_4.out (fun _ hk => trivial), z0_⟩

/-! ### laws_eqMsg: function 103 -/
def laws_eqMsg.f (a0_0 : Int) (a0_1 : Int) (a0_2 : Int) (a1_0 : Int) (a1_1 : Int) (a1_2 : Int) : Option (Bool) := if a0_0 = a1_0 then (if a0_1 = a1_1 then (if a0_2 = a1_2 then (some true) else (some false)) else (some false)) else (some false)
set_option maxHeartbeats 8000000 in
set_option maxRecDepth 100000 in
theorem laws_eqMsg.calls (a0_0 : Int) (a0_1 : Int) (a0_2 : Int) (a1_0 : Int) (a1_1 : Int) (a1_2 : Int) (r : Bool) (w : World) (h : laws_eqMsg.f a0_0 a0_1 a0_2 a1_0 a1_1 a1_2 = some r) :
  Calls Try.prog 103 #[.agg #[.int .i64 a0_0, .int .i64 a0_1, .int .i64 a0_2], .agg #[.int .i64 a1_0, .int .i64 a1_1, .int .i64 a1_2]] w fun e w' => e = .returned (.bool r) ∧ Below w.heap.size w w' := by
 have hu67 := Try.underlying67
 have HB := q_ (Below.refl w.heap.size w)
 have H : (if a0_0 = a1_0 then (if a0_1 = a1_1 then (if a0_2 = a1_2 then (some true) else (some false)) else (some false)) else (some false)) = some r := h
 clear h
 by_cases c3 : a0_0 = a1_0
 ·rw [if_pos c3] at H
  have c3b0 : (a0_0 == a1_0) = true := beq_iff_eq.mpr c3
  have c3b1 : (a0_0 != a1_0) = false := bne_eq_false_iff_eq.mpr c3
  clear c3
  by_cases c4 : a0_1 = a1_1
  ·rw [if_pos c4] at H
   have c4b0 : (a0_1 == a1_1) = true := beq_iff_eq.mpr c4
   have c4b1 : (a0_1 != a1_1) = false := bne_eq_false_iff_eq.mpr c4
   clear c4
   by_cases c5 : a0_2 = a1_2
   ·rw [if_pos c5] at H
    have c5b0 : (a0_2 == a1_2) = true := beq_iff_eq.mpr c5
    have c5b1 : (a0_2 != a1_2) = false := bne_eq_false_iff_eq.mpr c5
    clear c5
    obtain rfl := Option.some.inj H
    go_enter Try.func103, Try.ntmps103
    go_wp2_with (first | ((with_reducible refine gate_dst (N := 2) rfl ?_); refine box_event ?hg (N := 2) ?hd (cs := #[.int .i64 a0_0, .int .i64 a0_1, .int .i64 a0_2]) (t := 67) ?hr ?_; (case hd => rfl); (case hg => rfl); (case hr => exact z88_); intro gb203 hg w6 hbox hb; have n0_ := q_ (below_step z0_ hb); have n1_ := q_ (hbox); have n2_ := q_ ((z69_ : w.heap.size ≤ gb203)); have n3_ := q_ ((z69_ : w.heap.size ≤ gb203)); clear HB; have HB := n0_; have BK203 := n1_; have GW203 := n2_; have GE203 := n3_; clear n0_ n1_ n2_ n3_; clear hb hbox hg) | ((with_reducible refine gate_dst (N := 3) rfl ?_); refine box_event ?hg (N := 3) ?hd (cs := #[.int .i64 a1_0, .int .i64 a1_1, .int .i64 a1_2]) (t := 67) ?hr ?_; (case hd => rfl); (case hg => rfl); (case hr => exact z88_); intro gb204 hg w7 hbox hb; have n0_ := q_ (blk_below (g := gb203) (o := .cells #[.int .i64 a0_0, .int .i64 a0_1, .int .i64 a0_2] 67 (0, 0)) z27_ hb); have n1_ := q_ (below_step z21_ hb); have n2_ := q_ (hbox); have n3_ := q_ ((z78_ : w.heap.size ≤ gb204)); have n4_ := q_ ((z78_ : w.heap.size ≤ gb204)); have n5_ := q_ ((z71_ : gb203 ≠ gb204)); have n6_ := q_ ((z72_ : gb204 ≠ gb203)); clear BK203; clear HB; have BK203 := n0_; have HB := n1_; have BK204 := n2_; have GW204 := n3_; have GE204 := n4_; have NB203_204 := n5_; have NB204_203 := n6_; clear n0_ n1_ n2_ n3_ n4_ n5_ n6_; clear hb hbox hg; have hnb8 := NB203_204.out; have hnc8 := NB204_203.out; obtain ⟨hcz9_0, hcz9_1, hcz9_2, hfz9_0, hfz9_1, hfz9_2⟩ := cs3_ BK203.out; obtain ⟨hcz10_0, hcz10_1, hcz10_2, hfz10_0, hfz10_1, hfz10_2⟩ := cs3_ BK204.out))
    go_ret
    exact ⟨z3_, z38_⟩
   ·rw [if_neg c5] at H
    have c5b0 : (a0_2 == a1_2) = false := beq_eq_false_iff_ne.mpr c5
    have c5b1 : (a0_2 != a1_2) = true := bne_iff_ne.mpr c5
    obtain rfl := Option.some.inj H
    go_enter Try.func103, Try.ntmps103
    go_wp2_with (first | ((with_reducible refine gate_dst (N := 2) rfl ?_); refine box_event ?hg (N := 2) ?hd (cs := #[.int .i64 a0_0, .int .i64 a0_1, .int .i64 a0_2]) (t := 67) ?hr ?_; (case hd => rfl); (case hg => rfl); (case hr => exact z88_); intro gb203 hg w11 hbox hb; have n0_ := q_ (below_step z0_ hb); have n1_ := q_ (hbox); have n2_ := q_ ((z69_ : w.heap.size ≤ gb203)); have n3_ := q_ ((z69_ : w.heap.size ≤ gb203)); clear HB; have HB := n0_; have BK203 := n1_; have GW203 := n2_; have GE203 := n3_; clear n0_ n1_ n2_ n3_; clear hb hbox hg) | ((with_reducible refine gate_dst (N := 3) rfl ?_); refine box_event ?hg (N := 3) ?hd (cs := #[.int .i64 a1_0, .int .i64 a1_1, .int .i64 a1_2]) (t := 67) ?hr ?_; (case hd => rfl); (case hg => rfl); (case hr => exact z88_); intro gb204 hg w12 hbox hb; have n0_ := q_ (blk_below (g := gb203) (o := .cells #[.int .i64 a0_0, .int .i64 a0_1, .int .i64 a0_2] 67 (0, 0)) z27_ hb); have n1_ := q_ (below_step z21_ hb); have n2_ := q_ (hbox); have n3_ := q_ ((z78_ : w.heap.size ≤ gb204)); have n4_ := q_ ((z78_ : w.heap.size ≤ gb204)); have n5_ := q_ ((z71_ : gb203 ≠ gb204)); have n6_ := q_ ((z72_ : gb204 ≠ gb203)); clear BK203; clear HB; have BK203 := n0_; have HB := n1_; have BK204 := n2_; have GW204 := n3_; have GE204 := n4_; have NB203_204 := n5_; have NB204_203 := n6_; clear n0_ n1_ n2_ n3_ n4_ n5_ n6_; clear hb hbox hg; have hnb13 := NB203_204.out; have hnc13 := NB204_203.out; obtain ⟨hcz14_0, hcz14_1, hcz14_2, hfz14_0, hfz14_1, hfz14_2⟩ := cs3_ BK203.out; obtain ⟨hcz15_0, hcz15_1, hcz15_2, hfz15_0, hfz15_1, hfz15_2⟩ := cs3_ BK204.out))
    go_ret
    exact ⟨z3_, z38_⟩
  ·rw [if_neg c4] at H
   have c4b0 : (a0_1 == a1_1) = false := beq_eq_false_iff_ne.mpr c4
   have c4b1 : (a0_1 != a1_1) = true := bne_iff_ne.mpr c4
   obtain rfl := Option.some.inj H
   go_enter Try.func103, Try.ntmps103
   go_wp2_with (first | ((with_reducible refine gate_dst (N := 2) rfl ?_); refine box_event ?hg (N := 2) ?hd (cs := #[.int .i64 a0_0, .int .i64 a0_1, .int .i64 a0_2]) (t := 67) ?hr ?_; (case hd => rfl); (case hg => rfl); (case hr => exact z88_); intro gb203 hg w16 hbox hb; have n0_ := q_ (below_step z0_ hb); have n1_ := q_ (hbox); have n2_ := q_ ((z69_ : w.heap.size ≤ gb203)); have n3_ := q_ ((z69_ : w.heap.size ≤ gb203)); clear HB; have HB := n0_; have BK203 := n1_; have GW203 := n2_; have GE203 := n3_; clear n0_ n1_ n2_ n3_; clear hb hbox hg) | ((with_reducible refine gate_dst (N := 3) rfl ?_); refine box_event ?hg (N := 3) ?hd (cs := #[.int .i64 a1_0, .int .i64 a1_1, .int .i64 a1_2]) (t := 67) ?hr ?_; (case hd => rfl); (case hg => rfl); (case hr => exact z88_); intro gb204 hg w17 hbox hb; have n0_ := q_ (blk_below (g := gb203) (o := .cells #[.int .i64 a0_0, .int .i64 a0_1, .int .i64 a0_2] 67 (0, 0)) z27_ hb); have n1_ := q_ (below_step z21_ hb); have n2_ := q_ (hbox); have n3_ := q_ ((z78_ : w.heap.size ≤ gb204)); have n4_ := q_ ((z78_ : w.heap.size ≤ gb204)); have n5_ := q_ ((z71_ : gb203 ≠ gb204)); have n6_ := q_ ((z72_ : gb204 ≠ gb203)); clear BK203; clear HB; have BK203 := n0_; have HB := n1_; have BK204 := n2_; have GW204 := n3_; have GE204 := n4_; have NB203_204 := n5_; have NB204_203 := n6_; clear n0_ n1_ n2_ n3_ n4_ n5_ n6_; clear hb hbox hg; have hnb18 := NB203_204.out; have hnc18 := NB204_203.out; obtain ⟨hcz19_0, hcz19_1, hcz19_2, hfz19_0, hfz19_1, hfz19_2⟩ := cs3_ BK203.out; obtain ⟨hcz20_0, hcz20_1, hcz20_2, hfz20_0, hfz20_1, hfz20_2⟩ := cs3_ BK204.out))
   go_ret
   exact ⟨z3_, z38_⟩
 ·rw [if_neg c3] at H
  have c3b0 : (a0_0 == a1_0) = false := beq_eq_false_iff_ne.mpr c3
  have c3b1 : (a0_0 != a1_0) = true := bne_iff_ne.mpr c3
  obtain rfl := Option.some.inj H
  go_enter Try.func103, Try.ntmps103
  go_wp2_with (first | ((with_reducible refine gate_dst (N := 2) rfl ?_); refine box_event ?hg (N := 2) ?hd (cs := #[.int .i64 a0_0, .int .i64 a0_1, .int .i64 a0_2]) (t := 67) ?hr ?_; (case hd => rfl); (case hg => rfl); (case hr => exact z88_); intro gb203 hg w21 hbox hb; have n0_ := q_ (below_step z0_ hb); have n1_ := q_ (hbox); have n2_ := q_ ((z69_ : w.heap.size ≤ gb203)); have n3_ := q_ ((z69_ : w.heap.size ≤ gb203)); clear HB; have HB := n0_; have BK203 := n1_; have GW203 := n2_; have GE203 := n3_; clear n0_ n1_ n2_ n3_; clear hb hbox hg) | ((with_reducible refine gate_dst (N := 3) rfl ?_); refine box_event ?hg (N := 3) ?hd (cs := #[.int .i64 a1_0, .int .i64 a1_1, .int .i64 a1_2]) (t := 67) ?hr ?_; (case hd => rfl); (case hg => rfl); (case hr => exact z88_); intro gb204 hg w22 hbox hb; have n0_ := q_ (blk_below (g := gb203) (o := .cells #[.int .i64 a0_0, .int .i64 a0_1, .int .i64 a0_2] 67 (0, 0)) z27_ hb); have n1_ := q_ (below_step z21_ hb); have n2_ := q_ (hbox); have n3_ := q_ ((z78_ : w.heap.size ≤ gb204)); have n4_ := q_ ((z78_ : w.heap.size ≤ gb204)); have n5_ := q_ ((z71_ : gb203 ≠ gb204)); have n6_ := q_ ((z72_ : gb204 ≠ gb203)); clear BK203; clear HB; have BK203 := n0_; have HB := n1_; have BK204 := n2_; have GW204 := n3_; have GE204 := n4_; have NB203_204 := n5_; have NB204_203 := n6_; clear n0_ n1_ n2_ n3_ n4_ n5_ n6_; clear hb hbox hg; have hnb23 := NB203_204.out; have hnc23 := NB204_203.out; obtain ⟨hcz24_0, hcz24_1, hcz24_2, hfz24_0, hfz24_1, hfz24_2⟩ := cs3_ BK203.out; obtain ⟨hcz25_0, hcz25_1, hcz25_2, hfz25_0, hfz25_1, hfz25_2⟩ := cs3_ BK204.out))
  go_ret
  exact ⟨z3_, z38_⟩

end Go.Proofs.Ytphlmbhjeoljoaa.PFnExactShrink
