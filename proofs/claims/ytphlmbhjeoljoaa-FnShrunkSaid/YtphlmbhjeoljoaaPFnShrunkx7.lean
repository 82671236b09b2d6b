-- Written by a program of this session, which goes by the kit's print. Not trusted: Lean checks it.
import Derived.Test.YtphlmbhjeoljoaaPFnShrunkx0
import Derived.Test.YtphlmbhjeoljoaaPFnShrunkx2
import Derived.Test.YtphlmbhjeoljoaaPFnShrunkx5
import Derived.Test.YtphlmbhjeoljoaaPFnShrunkx6
namespace Go.Proofs.Ytphlmbhjeoljoaa.PFnShrunk
open Go.RowKit Go.Proofs.YtphlmbhjeoljoaaW.PrintWords Go.Proofs.YtphlmbhjeoljoaaW.PrintLast Go.Proofs.YtphlmbhjeoljoaaW.PrintMore
attribute [local go_sem] max2_int min2_int max_two min_two max_three min_three max_four min_four   -- for this text's walks alone
set_option linter.unusedVariables false
set_option linter.unusedSimpArgs false

attribute [local go_sem high] eqA147
/-! ### slices_IndexFunc_Msg_101: function 100 -/
def slices_IndexFunc_Msg_101.l0 : Nat → List (S67) → Int → Int → Int → Int → Int → Option (Int)
 | 0, _, _, _, _, _, _ => none
 | k + 1, x0, x7, x8, x29000, x29001, x29002 => if x8 < x7 then (if 0 ≤ x8 then (if x8 < (x0.length : Int) then ((impl_Shrink_f3.f ((rd_T67 x0 x8).f0) ((rd_T67 x0 x8).f1) ((rd_T67 x0 x8).f2) x29000 x29001 x29002).bind fun t161 => (if t161 = true then (some x8) else (slices_IndexFunc_Msg_101.l0 k x0 x7 (wrap64 (x8 + 1)) x29000 x29001 x29002))) else (none)) else (none)) else (some (-1))
def slices_IndexFunc_Msg_101.f (k : Nat) (l0 : List (S67)) (a28_0 : Int) (a28_1 : Int) (a28_2 : Int) : Option (Int) := slices_IndexFunc_Msg_101.l0 k l0 (l0.length : Int) 0 a28_0 a28_1 a28_2
theorem slices_IndexFunc_Msg_101.mono_l : ∀ k, (∀ y0 y1 y2 y3 y4 y5, LeO (slices_IndexFunc_Msg_101.l0 k y0 y1 y2 y3 y4 y5) (slices_IndexFunc_Msg_101.l0 (k + 1) y0 y1 y2 y3 y4 y5))
 | 0 => fun _ _ _ _ _ _ r h => by simp [slices_IndexFunc_Msg_101.l0] at h
 | k + 1 => by
  have ih0 := slices_IndexFunc_Msg_101.mono_l k
  ·intro y0 y1 y2 y3 y4 y5
   unfold slices_IndexFunc_Msg_101.l0
   repeat' first
   | (with_reducible exact ih0 _ _ _ _ _ _)
   | (with_reducible exact LeO.refl _)
   | (with_reducible exact LeO.none _)
   | (with_reducible refine LeO.ite ?_ ?_)
   | (with_reducible refine LeO.bind ?_ (fun _ => ?_))
   | exact ih0 _ _ _ _ _ _
   | exact LeO.none _
   | refine LeO.ite ?_ ?_
   | refine LeO.bind ?_ (fun _ => ?_)
theorem slices_IndexFunc_Msg_101.mono : ∀ a0 a1 a2 a3 k, LeO (slices_IndexFunc_Msg_101.f k a0 a1 a2 a3) (slices_IndexFunc_Msg_101.f (k + 1) a0 a1 a2 a3) := by
 intro a0 a1 a2 a3 k
 have ih0 := slices_IndexFunc_Msg_101.mono_l k
 unfold slices_IndexFunc_Msg_101.f
 repeat' first
   | (with_reducible exact ih0 _ _ _ _ _ _)
   | (with_reducible exact LeO.refl _)
   | (with_reducible exact LeO.none _)
   | (with_reducible refine LeO.ite ?_ ?_)
   | (with_reducible refine LeO.bind ?_ (fun _ => ?_))
   | exact ih0 _ _ _ _ _ _
   | exact LeO.none _
   | refine LeO.ite ?_ ?_
   | refine LeO.bind ?_ (fun _ => ?_)
set_option maxHeartbeats 8000000 in
set_option maxRecDepth 100000 in
theorem slices_IndexFunc_Msg_101.calls (k : Nat) (A0 : Option Addr) (c0 : Nat) (l0 : List (S67)) (gc28 : Nat) (a28_0 : Int) (a28_1 : Int) (a28_2 : Int) (r : Int) (w : World) (hr0 : Kd.C k67 w A0 l0.length l0) (hc0 : l0.length ≤ c0) (hb28 : w.heap[gc28]? = some (.cells #[.int .i64 a28_0, .int .i64 a28_1, .int .i64 a28_2] 67 (0, 0))) (h : slices_IndexFunc_Msg_101.f k l0 a28_0 a28_1 a28_2 = some r) :
  Calls Try.prog 100 #[.slice A0 l0.length c0, .func (.func 101) #[] #[.pointer (some ⟨gc28, 0, none⟩)]] w fun e w' => e = .returned (.int .i64 r) ∧ Below w.heap.size w w' := by
 have hu67 := Try.underlying67
 have HR0 := q_ hr0
 have HC0 := q_ hc0
 clear hr0 hc0
 have BK28 := q_ hb28
 clear hb28
 have HB := q_ (Below.refl w.heap.size w)
 have H : (slices_IndexFunc_Msg_101.l0 k l0 (l0.length : Int) 0 a28_0 a28_1 a28_2) = some r := h
 clear h
 have H' := q_ H
 clear H
 go_enter Try.func100, Try.ntmps100
 go_wp2
 go_loopg [8] k (fun kq v8 w' => ∃ (x8_1 : Int), v8 = .int .i64 x8_1 ∧ Aside0 (slices_IndexFunc_Msg_101.l0 kq l0 (l0.length : Int) x8_1 a28_0 a28_1 a28_2 = some r) ∧ Aside0 (kq ≤ k) ∧ Aside0 (w'.heap[gc28]? = some (.cells #[.int .i64 a28_0, .int .i64 a28_1, .int .i64 a28_2] 67 (0, 0))) ∧ Aside0 (Below w.heap.size w w'))
 case atStart => exact ⟨(0), z7_, H', ⟨Nat.le_refl _⟩, ⟨z25_⟩, ⟨z10_⟩⟩
 case round =>
  clear H'
  try clear c1
  try clear c2
  try clear p2
  obtain ⟨x8_1, rfl, HA, HK1, BK28, HB⟩ := hrel
  cases gk with
  | zero => exact absurd HA.out (by simp [slices_IndexFunc_Msg_101.l0])
  | succ k1 =>
   have H := HA.out
   clear HA
   simp only [slices_IndexFunc_Msg_101.l0] at H
   by_cases c3 : x8_1 < (l0.length : Int)
   ·rw [if_pos c3] at H
    have c3b0 : decide (x8_1 < (l0.length : Int)) = true := decide_eq_true c3
    clear c3
    by_cases c4 : 0 ≤ x8_1
    ·rw [if_pos c4] at H
     have c4b0 : decide (0 ≤ x8_1) = true := decide_eq_true c4
     clear c4
     by_cases c5 : x8_1 < (l0.length : Int)
     ·rw [if_pos c5] at H
      have c5b0 : decide (x8_1 < (l0.length : Int)) = true := decide_eq_true c5
      clear c5
      replace H := Option.bind_eq_some_iff.mp H
      obtain ⟨t161, A60, H⟩ := H
      replace H : (if t161 = true then (some x8_1) else (slices_IndexFunc_Msg_101.l0 k1 l0 (l0.length : Int) (wrap64 (x8_1 + 1)) a28_0 a28_1 a28_2)) = some r := H
      have A6 := q_ A60
      clear A60
      by_cases c7 : t161 = true
      ·subst c7
       have H1 : (some x8_1) = some r := z58_
       clear H
       have H := H1
       clear H1
       obtain rfl := Option.some.inj H
       have p160 : 0 ≤ (x8_1 : Int) := of_decide_eq_true z3_
       have q160 : x8_1 < (l0.length : Int) := of_decide_eq_true z3_
       obtain ⟨ad160, e160, hx160_0, hx160_1, hx160_2⟩ := at_T67 HR0.out x8_1 p160 q160
       cases e160
       replace hx160_0 := up_ HB hx160_0
       replace hx160_1 := up_ HB hx160_1
       replace hx160_2 := up_ HB hx160_2
       replace p160 := eq_true p160
       replace q160 := eq_true q160
       go_wp2_with (first | (go_at_call 101; refine calls_of_args (args' := #[.agg #[.int .i64 ((rd_T67 l0 x8_1).f0), .int .i64 ((rd_T67 l0 x8_1).f1), .int .i64 ((rd_T67 l0 x8_1).f2)], .pointer (some ⟨gc28, 0, none⟩)]) z100_ ?_; (with_reducible refine (impl_Shrink_f3.calls ((rd_T67 l0 x8_1).f0) ((rd_T67 l0 x8_1).f1) ((rd_T67 l0 x8_1).f2) gc28 a28_0 a28_1 a28_2 true _ ?side1 A6.out).mono ?_); (case side1 => exact z164_); rintro e w8 ⟨rfl, hb⟩; have n0_ := q_ (blk_below (g := gc28) (o := .cells #[.int .i64 a28_0, .int .i64 a28_1, .int .i64 a28_2] 67 (0, 0)) z25_ hb); have n1_ := q_ (below_step z10_ hb); clear BK28; clear HB; have BK28 := n0_; have HB := n1_; clear n0_ n1_; (try clear hb); (try clear hb2); (try clear hk); (try clear hi)))
       go_ret
       exact ⟨z5_, z10_⟩
      ·replace c7 := Bool.eq_false_iff.mpr c7
       subst c7
       have H1 : (slices_IndexFunc_Msg_101.l0 k1 l0 (l0.length : Int) (wrap64 (x8_1 + 1)) a28_0 a28_1 a28_2) = some r := by rw [if_neg (show ¬ (false = true) by decide)] at H; exact H
       clear H
       have H := H1
       clear H1
       have H' := q_ H
       clear H
       have p160 : 0 ≤ (x8_1 : Int) := of_decide_eq_true z3_
       have q160 : x8_1 < (l0.length : Int) := of_decide_eq_true z3_
       obtain ⟨ad160, e160, hx160_0, hx160_1, hx160_2⟩ := at_T67 HR0.out x8_1 p160 q160
       cases e160
       replace hx160_0 := up_ HB hx160_0
       replace hx160_1 := up_ HB hx160_1
       replace hx160_2 := up_ HB hx160_2
       replace p160 := eq_true p160
       replace q160 := eq_true q160
       go_wp2_with (first | (go_at_call 101; refine calls_of_args (args' := #[.agg #[.int .i64 ((rd_T67 l0 x8_1).f0), .int .i64 ((rd_T67 l0 x8_1).f1), .int .i64 ((rd_T67 l0 x8_1).f2)], .pointer (some ⟨gc28, 0, none⟩)]) z100_ ?_; (with_reducible refine (impl_Shrink_f3.calls ((rd_T67 l0 x8_1).f0) ((rd_T67 l0 x8_1).f1) ((rd_T67 l0 x8_1).f2) gc28 a28_0 a28_1 a28_2 false _ ?side1 A6.out).mono ?_); (case side1 => exact z164_); rintro e w9 ⟨rfl, hb⟩; have n0_ := q_ (blk_below (g := gc28) (o := .cells #[.int .i64 a28_0, .int .i64 a28_1, .int .i64 a28_2] 67 (0, 0)) z25_ hb); have n1_ := q_ (below_step z10_ hb); clear BK28; clear HB; have BK28 := n0_; have HB := n1_; clear n0_ n1_; (try clear hb); (try clear hb2); (try clear hk); (try clear hi)))
       go_roundg k1
       case measure => have := HK1.out; omega
       case rel => (try simp only [hl13_1] at HO_3); exact ⟨(wrap64 (x8_1 + 1)), z7_, H', ⟨z74_⟩, ⟨z25_⟩, ⟨z10_⟩⟩
     ·rw [if_neg c5] at H
      exact absurd H (by simp)
    ·rw [if_neg c4] at H
     exact absurd H (by simp)
   ·rw [if_neg c3] at H
    have c3b0 : decide (x8_1 < (l0.length : Int)) = false := decide_eq_false c3
    clear c3
    obtain rfl := Option.some.inj H
    go_wp2
    go_ret
    exact ⟨z5_, z10_⟩

/-! ### impl_limited: function 102 -/
def impl_limited.f (a0 : Int) : Option (Int) := some (mx (-1000000000) (mn a0 1000000000))
set_option maxHeartbeats 8000000 in
set_option maxRecDepth 100000 in
theorem impl_limited.calls (a0 : Int) (r : Int) (w : World) (h : impl_limited.f a0 = some r) :
  Calls Try.prog 102 #[.int .i64 a0] w fun e w' => e = .returned (.int .i64 r) ∧ Below w.heap.size w w' := by
 have HB := q_ (Below.refl w.heap.size w)
 have H : (some (mx (-1000000000) (mn a0 1000000000))) = some r := h
 clear h
 obtain ⟨ji2, hji2⟩ : ∃ j_ : Int, (mn a0 1000000000) = j_ := ⟨_, rfl⟩
 replace H : (some (mx (-1000000000) (ji2))) = some r := by first | (rw [hji2] at H; exact H) | (simp only [hji2] at H ⊢; exact H)
 (try (have hji2h : ji2 ≤ 1000000000 := by (rw [← hji2]; unfold mn; (repeat' split) <;> omega)))
 (try (have hji2g : ji2 ≤ 64 := by omega))
 have hji2_ : (if 1000000000 < a0 then 1000000000 else a0) = ji2 := hji2
 obtain ⟨ji3, hji3⟩ : ∃ j_ : Int, (mx (-1000000000) (ji2)) = j_ := ⟨_, rfl⟩
 replace H : (some ji3) = some r := by first | (rw [hji3] at H; exact H) | (simp only [hji3] at H ⊢; exact H)
 have hji3_ : (if (-1000000000) < (ji2) then (ji2) else (-1000000000)) = ji3 := hji3
 obtain rfl := Option.some.inj H
 go_enter Try.func102, Try.ntmps102
 go_wp2
 go_ret
 exact ⟨by first | rfl | (simp [errW_none, errW_some] <;> rfl) | (simp only [← hji2, ← hji3]; first | rfl | (simp [errW_none, errW_some] <;> rfl)) | (simp [*, errW_none, errW_some] <;> rfl), z0_⟩

/-! ### impl_Shrink: function 18 -/
def impl_Shrink.l0 : Nat → List (S67) → List (S67) → List (S67) → Int → Int → Option ((List (S67)))
 | 0, _, _, _, _, _ => none
 | k + 1, x3, x4, x13, x14, x15 => if x15 < x14 then (if 0 ≤ x15 then (if x15 < (x13.length : Int) then (if 0 ≤ (wrap64 (x15 + 1)) then (if (wrap64 (x15 + 1)) ≤ (x3.length : Int) then ((slices_ContainsFunc_Msg_98.f k (x3.drop ((wrap64 (x15 + 1)) : Int).toNat) ((rd_T67 x13 x15).f0) ((rd_T67 x13 x15).f1) ((rd_T67 x13 x15).f2)).bind fun t177 => (if t177 = true then (impl_Shrink.l0 k x3 x4 x13 x14 (wrap64 (x15 + 1))) else ((slices_IndexFunc_Msg_101.f k x4 ((rd_T67 x13 x15).f0) ((rd_T67 x13 x15).f1) ((rd_T67 x13 x15).f2)).bind fun t178 => (if ((rd_T67 x13 x15).f0) = 3 then (if t178 ≥ 0 then (if 0 ≤ t178 then (if t178 < (x4.length : Int) then (if ((rd_T67 x4 t178).f0) = 1 then ((impl_limited.f (wrap64 (((rd_T67 x4 t178).f2) + ((rd_T67 x13 x15).f2)))).bind fun t181 => (impl_Shrink.l0 k x3 (x4.set (t178 : Int).toNat (⟨(rd_T67 x4 t178).f0, (rd_T67 x4 t178).f1, t181⟩ : S67)) x13 x14 (wrap64 (x15 + 1)))) else (if x4.length < 5864062014805 then (impl_Shrink.l0 k x3 (x4 ++ [(⟨(rd_T67 x13 x15).f0, (rd_T67 x13 x15).f1, (rd_T67 x13 x15).f2⟩ : S67)]) x13 x14 (wrap64 (x15 + 1))) else (none))) else (none)) else (none)) else (if x4.length < 5864062014805 then (impl_Shrink.l0 k x3 (x4 ++ [(⟨(rd_T67 x13 x15).f0, (rd_T67 x13 x15).f1, (rd_T67 x13 x15).f2⟩ : S67)]) x13 x14 (wrap64 (x15 + 1))) else (none))) else (if x4.length < 5864062014805 then (impl_Shrink.l0 k x3 (x4 ++ [(⟨(rd_T67 x13 x15).f0, (rd_T67 x13 x15).f1, (rd_T67 x13 x15).f2⟩ : S67)]) x13 x14 (wrap64 (x15 + 1))) else (none)))))) else (none)) else (none)) else (none)) else (none)) else (some x4)
def impl_Shrink.f (k : Nat) (l0 : List (S67)) : Option ((List (S67))) := (slices_Clone_Msg.f l0).bind fun t162 => ((slices_DeleteFunc_Msg_96.f k t162).bind fun t165 => (impl_Shrink.l0 k t165 (([] : List (S67))) t165 (t165.length : Int) 0))
theorem impl_Shrink.mono_l : ∀ k, (∀ y0 y1 y2 y3 y4, LeO (impl_Shrink.l0 k y0 y1 y2 y3 y4) (impl_Shrink.l0 (k + 1) y0 y1 y2 y3 y4))
 | 0 => fun _ _ _ _ _ r h => by simp [impl_Shrink.l0] at h
 | k + 1 => by
  have ih0 := impl_Shrink.mono_l k
  ·intro y0 y1 y2 y3 y4
   unfold impl_Shrink.l0
   repeat' first
   | (with_reducible exact ih0 _ _ _ _ _)
   | (with_reducible exact slices_ContainsFunc_Msg_98.mono _ _ _ _ _)
   | (with_reducible exact slices_DeleteFunc_Msg_96.mono _ _)
   | (with_reducible exact slices_IndexFunc_Msg_101.mono _ _ _ _ _)
   | (with_reducible exact LeO.refl _)
   | (with_reducible exact LeO.none _)
   | (with_reducible refine LeO.ite ?_ ?_)
   | (with_reducible refine LeO.bind ?_ (fun _ => ?_))
   | exact ih0 _ _ _ _ _
   | exact slices_ContainsFunc_Msg_98.mono _ _ _ _ _
   | exact slices_DeleteFunc_Msg_96.mono _ _
   | exact slices_IndexFunc_Msg_101.mono _ _ _ _ _
   | exact LeO.none _
   | refine LeO.ite ?_ ?_
   | refine LeO.bind ?_ (fun _ => ?_)
theorem impl_Shrink.mono : ∀ a0 k, LeO (impl_Shrink.f k a0) (impl_Shrink.f (k + 1) a0) := by
 intro a0 k
 have ih0 := impl_Shrink.mono_l k
 unfold impl_Shrink.f
 repeat' first
   | (with_reducible exact ih0 _ _ _ _ _)
   | (with_reducible exact slices_ContainsFunc_Msg_98.mono _ _ _ _ _)
   | (with_reducible exact slices_DeleteFunc_Msg_96.mono _ _)
   | (with_reducible exact slices_IndexFunc_Msg_101.mono _ _ _ _ _)
   | (with_reducible exact LeO.refl _)
   | (with_reducible exact LeO.none _)
   | (with_reducible refine LeO.ite ?_ ?_)
   | (with_reducible refine LeO.bind ?_ (fun _ => ?_))
   | exact ih0 _ _ _ _ _
   | exact slices_ContainsFunc_Msg_98.mono _ _ _ _ _
   | exact slices_DeleteFunc_Msg_96.mono _ _
   | exact slices_IndexFunc_Msg_101.mono _ _ _ _ _
   | exact LeO.none _
   | refine LeO.ite ?_ ?_
   | refine LeO.bind ?_ (fun _ => ?_)
def impl_Shrink.T10 : Bool × List (List Nat × List Nat) := (true, [([], []), ([], []), ([], []), ([], []), ([2, 3], [2, 3]), ([4], [4]), ([5], [5]), ([], []), ([7], [7]), ([6, 8], [6, 8]), ([9], [9]), ([0, 1, 0, 1, 2, 3, 4, 5, 6, 7, 8, 9, 10], [0, 1]), ([11, 0, 1, 2, 3, 4, 5, 6, 7, 8, 9, 10], [11]), ([12, 10, 10, 0, 1, 2, 3, 4, 5, 6, 7, 8, 9, 10], [10, 12])])
def impl_Shrink.B10 : List Nat := [0, 0, 0, 0, 12, 28, 60, 0, 128, 508, 1020, 2047, 4095, 8191]
theorem impl_Shrink.tab10 : rtab .any (opsOf Try.f18 10) = impl_Shrink.T10 := by kernel_rfl
theorem impl_Shrink.bits10 : waitsOk impl_Shrink.T10.2 impl_Shrink.B10 = true := by kernel_rfl
set_option maxHeartbeats 8000000 in
set_option maxRecDepth 100000 in
theorem impl_Shrink.calls (k : Nat) (A0 : Option Addr) (c0 : Nat) (l0 : List (S67)) (r : List (S67)) (w : World) (hr0 : Kd.C k67 w A0 l0.length l0) (hc0 : l0.length ≤ c0) (h : impl_Shrink.f k l0 = some r) :
  Calls Try.prog 18 #[.slice A0 l0.length c0] w fun e w' => ∃ v0_ : Value, e = .returned (v0_) ∧ Kd.R k67 67 w' w.heap.size (fun _ => True) v0_ r ∧ Below w.heap.size w w' := by
 have hu67 := Try.underlying67
 have HR0 := q_ hr0
 have HC0 := q_ hc0
 clear hr0 hc0
 have HB := q_ (Below.refl w.heap.size w)
 have H : ((slices_Clone_Msg.f l0).bind fun t162 => ((slices_DeleteFunc_Msg_96.f k t162).bind fun t165 => (impl_Shrink.l0 k t165 (([] : List (S67))) t165 (t165.length : Int) 0))) = some r := h
 clear h
 replace H := Option.bind_eq_some_iff.mp H
 obtain ⟨t162, A20, H⟩ := H
 replace H : ((slices_DeleteFunc_Msg_96.f k t162).bind fun t165 => (impl_Shrink.l0 k t165 (([] : List (S67))) t165 (t165.length : Int) 0)) = some r := H
 have A2 := q_ A20
 clear A20
 replace H := Option.bind_eq_some_iff.mp H
 obtain ⟨t165, A30, H⟩ := H
 replace H : (impl_Shrink.l0 k t165 (([] : List (S67))) t165 (t165.length : Int) 0) = some r := H
 have A3 := q_ A30
 clear A30
 obtain ⟨y168, hy168⟩ : ∃ y_ : List (S67), y_ = (([] : List (S67))) := ⟨_, rfl⟩
 replace H : (impl_Shrink.l0 k t165 y168 t165 (t165.length : Int) 0) = some r := by first | (rw [hy168]; with_reducible exact H) | (have H2_ := (Option.bind_some _ _).symm.trans H; rw [hy168]; with_reducible exact H2_) | (have H2_ := (Option.bind_some _ _).symm.trans H; with_reducible exact H2_) | with_reducible exact H | (rw [hy168]; exact H) | exact H
 have Ny168 := q_ hy168
 clear hy168
 have H' := q_ H
 clear H
 go_enter Try.func18, Try.ntmps18
 go_wp2_with (first | ((with_reducible refine gate_callee (f := 95) rfl ?_); refine goesL_ (some 10) rfl rfl Try.func95 (by kernel_rfl) rfl #[.slice A0 l0.length c0] rfl z1_ ?_; (with_reducible refine (slices_Clone_Msg.calls _ _ l0 t162 _ ?side1 ?side2 A2.out).mono ?_); (case side1 => exact z151_); (case side2 => exact HC0.out); rintro e w4 ⟨v163, rfl, ho0, hb⟩; refine ⟨_, rfl, ?_⟩; have n0_ := q_ (Kd.R_lower ho0 (below_size z0_)); have n1_ := q_ (below_step z0_ hb); clear HB; have HO164 := n0_; have HB := n1_; clear n0_ n1_; (try clear hb); (try clear hb2); (try clear hk); (try clear hi); (try clear ho0); obtain ⟨Ao5, co5, eo5⟩ := Kd.R_slice HO164.out; subst eo5) | ((with_reducible refine gate_callee (f := 94) rfl ?_); refine goesL_ (some 11) rfl rfl Try.func94 (by kernel_rfl) rfl #[.slice Ao5 t162.length co5, .func (.func 96) #[] #[]] rfl z1_ ?_; (with_reducible refine (slices_DeleteFunc_Msg_96.calls k (fun k_ => some k_ = (.slice Ao5 t162.length co5 : Value).ownBlock) (.slice Ao5 t162.length co5) t162  t165 w _ ?side1 ?side2 A3.out).mono ?_); (case side1 => exact z159_); (case side2 => exact Kd.R_tight rfl HO164.out); rintro e w6 ⟨v166, rfl, ho0, hb, hkp⟩; refine ⟨_, rfl, ?_⟩; have n0_ := q_ (Kd.R_mono (ok' := fun k_ => True) ho0 (fun k_ hk_ => trivial)); have n1_ := q_ (hb); clear HB; clear HO164; have HO167 := n0_; have HB := n1_; clear n0_ n1_; (try clear hb); (try clear hkp); (try clear ho0)) | ((with_reducible refine gate_dst (N := 12) rfl ?_); refine Kd.R_lit k67 _ 67 ?hg (N := 12) ?hd (xs := ([] : List (S67))) (inner := []) (ok := fun _ => True) (okp := fun _ => True) ?hr ?hp (fun _ hk => hk) trivial (Below.refl _ _) (Nat.le_refl _) (by simp) ?_; (case hd => rfl); (case hg => rfl); (case hr => exact z148_); (case hp => exact (Reps.none _ _)); intro v169 w7 ho8 hb hg_ hnew_; clear hg_ hnew_; (first | rw [← Ny168.out] at ho8 | (simp only [Int.reduceToNat] at ho8; rw [← Ny168.out] at ho8)); have n0_ := q_ (Kd.R_elder' z101_ (Kd.R_base ho8) hb); have n1_ := q_ (Kd.R_lower (Kd.R_new' ho8 (Kd.R_lt z101_)) (below_size z0_)); have n2_ := q_ (below_step z0_ hb); clear HO167; clear HB; have HO167 := n0_; have HO170 := n1_; have HB := n2_; clear n0_ n1_ n2_; clear hb ho8; obtain ⟨Ao9, co9, eo9⟩ := Kd.R_slice HO167.out; subst eo9))
 go_loopg [4, 15] k (fun kq v4 v15 w' => ∃ (x3_1 : List (S67)) (x4_1 : List (S67)) (x13_1 : List (S67)) (x15_1 : Int), v15 = .int .i64 x15_1 ∧ Aside0 (impl_Shrink.l0 kq x3_1 x4_1 x13_1 (t165.length : Int) x15_1 = some r) ∧ Aside0 (kq ≤ k) ∧ Aside0 (Kd.R k67 67 w' w.heap.size (fun k_ => some k_ ≠ (v4 : Value).ownBlock) (.slice Ao9 t165.length co9) x3_1) ∧ Aside0 (Kd.R k67 67 w' w.heap.size (fun k_ => some k_ ≠ ((.slice Ao9 t165.length co9) : Value).ownBlock ∧ some k_ ≠ ((.slice Ao9 t165.length co9) : Value).ownBlock) v4 x4_1) ∧ Aside0 (Kd.R k67 67 w' w.heap.size (fun k_ => some k_ ≠ (v4 : Value).ownBlock) (.slice Ao9 t165.length co9) x13_1) ∧ Aside0 (Below w.heap.size w w'))
 case atStart => exact ⟨(t165), (y168), (t165), (0), z7_, H', ⟨Nat.le_refl _⟩, ⟨z96_⟩, ⟨by (with_reducible repeat (first | apply Kd.R_alloc | apply Kd.R_drewN | apply Kd.R_drew)); exact Kd.R_mono HO170.out (fun _ hk => ⟨hk.2, hk.2⟩)⟩, ⟨z96_⟩, ⟨z0_⟩⟩
 case round =>
  clear H'
  try clear c1
  try clear p2
  try clear c9
  obtain ⟨x3_1, x4_1, x13_1, x15_1, rfl, HA, HK1, HO_3, HO_4, HO_13, HB⟩ := hrel
  have hl3_1 := (Kd.R_reads' HO_3.out).1
  rw [hl3_1] at HO_3
  (try simp only [hl3_1])
  (try simp only [hl3_1] at HO_4)
  (try simp only [hl3_1] at HO_13)
  have hl13_1 := (Kd.R_reads' HO_13.out).1
  rw [hl13_1] at HO_13
  (try simp only [hl13_1])
  (try simp only [hl13_1] at HO_3)
  (try simp only [hl13_1] at HO_4)
  (try simp only [← hl13_1] at HO_3)
  cases gk with
  | zero => exact absurd HA.out (by simp [impl_Shrink.l0])
  | succ k1 =>
   have H := HA.out
   clear HA
   simp only [impl_Shrink.l0] at H
   by_cases c10 : x15_1 < (t165.length : Int)
   ·rw [if_pos c10] at H
    have c10b0 : decide (x15_1 < (t165.length : Int)) = true := decide_eq_true c10
    clear c10
    by_cases c11 : 0 ≤ x15_1
    ·rw [if_pos c11] at H
     have c11b0 : decide (0 ≤ x15_1) = true := decide_eq_true c11
     clear c11
     by_cases c12 : x15_1 < (x13_1.length : Int)
     ·rw [if_pos c12] at H
      have c12b0 : decide (x15_1 < (x13_1.length : Int)) = true := decide_eq_true c12
      clear c12
      obtain ⟨ji13, hji13⟩ : ∃ j_ : Int, (wrap64 (x15_1 + 1)) = j_ := ⟨_, rfl⟩
      replace H : (if 0 ≤ (ji13) then (if (ji13) ≤ (x3_1.length : Int) then ((slices_ContainsFunc_Msg_98.f k1 (x3_1.drop ((ji13) : Int).toNat) ((rd_T67 x13_1 x15_1).f0) ((rd_T67 x13_1 x15_1).f1) ((rd_T67 x13_1 x15_1).f2)).bind fun t177 => (if t177 = true then (impl_Shrink.l0 k1 x3_1 x4_1 x13_1 (t165.length : Int) ji13) else ((slices_IndexFunc_Msg_101.f k1 x4_1 ((rd_T67 x13_1 x15_1).f0) ((rd_T67 x13_1 x15_1).f1) ((rd_T67 x13_1 x15_1).f2)).bind fun t178 => (if ((rd_T67 x13_1 x15_1).f0) = 3 then (if t178 ≥ 0 then (if 0 ≤ t178 then (if t178 < (x4_1.length : Int) then (if ((rd_T67 x4_1 t178).f0) = 1 then ((impl_limited.f (wrap64 (((rd_T67 x4_1 t178).f2) + ((rd_T67 x13_1 x15_1).f2)))).bind fun t181 => (impl_Shrink.l0 k1 x3_1 (x4_1.set (t178 : Int).toNat (⟨(rd_T67 x4_1 t178).f0, (rd_T67 x4_1 t178).f1, t181⟩ : S67)) x13_1 (t165.length : Int) ji13)) else (if x4_1.length < 5864062014805 then (impl_Shrink.l0 k1 x3_1 (x4_1 ++ [(⟨(rd_T67 x13_1 x15_1).f0, (rd_T67 x13_1 x15_1).f1, (rd_T67 x13_1 x15_1).f2⟩ : S67)]) x13_1 (t165.length : Int) ji13) else (none))) else (none)) else (none)) else (if x4_1.length < 5864062014805 then (impl_Shrink.l0 k1 x3_1 (x4_1 ++ [(⟨(rd_T67 x13_1 x15_1).f0, (rd_T67 x13_1 x15_1).f1, (rd_T67 x13_1 x15_1).f2⟩ : S67)]) x13_1 (t165.length : Int) ji13) else (none))) else (if x4_1.length < 5864062014805 then (impl_Shrink.l0 k1 x3_1 (x4_1 ++ [(⟨(rd_T67 x13_1 x15_1).f0, (rd_T67 x13_1 x15_1).f1, (rd_T67 x13_1 x15_1).f2⟩ : S67)]) x13_1 (t165.length : Int) ji13) else (none)))))) else (none)) else (none)) = some r := by first | (rw [hji13] at H; exact H) | (simp only [hji13] at H ⊢; exact H)
      have hji13w : (IntKind.i64.wrap (x15_1 + 1)) = ji13 := (i64_w _).trans hji13
      by_cases c14 : 0 ≤ (ji13)
      ·rw [if_pos c14] at H
       have c14b0 := eq_true c14
       have c14b1 : decide (0 ≤ (ji13)) = true := decide_eq_true c14
       clear c14
       by_cases c15 : (ji13) ≤ (x3_1.length : Int)
       ·rw [if_pos c15] at H
        have c15b0 := eq_true c15
        have c15b1 : decide ((ji13) ≤ (x3_1.length : Int)) = true := decide_eq_true c15
        clear c15
        obtain ⟨y173, hy173⟩ : ∃ y_ : List (S67), y_ = (x3_1.drop ((ji13) : Int).toNat) := ⟨_, rfl⟩
        replace H : ((slices_ContainsFunc_Msg_98.f k1 y173 ((rd_T67 x13_1 x15_1).f0) ((rd_T67 x13_1 x15_1).f1) ((rd_T67 x13_1 x15_1).f2)).bind fun t177 => (if t177 = true then (impl_Shrink.l0 k1 x3_1 x4_1 x13_1 (t165.length : Int) ji13) else ((slices_IndexFunc_Msg_101.f k1 x4_1 ((rd_T67 x13_1 x15_1).f0) ((rd_T67 x13_1 x15_1).f1) ((rd_T67 x13_1 x15_1).f2)).bind fun t178 => (if ((rd_T67 x13_1 x15_1).f0) = 3 then (if t178 ≥ 0 then (if 0 ≤ t178 then (if t178 < (x4_1.length : Int) then (if ((rd_T67 x4_1 t178).f0) = 1 then ((impl_limited.f (wrap64 (((rd_T67 x4_1 t178).f2) + ((rd_T67 x13_1 x15_1).f2)))).bind fun t181 => (impl_Shrink.l0 k1 x3_1 (x4_1.set (t178 : Int).toNat (⟨(rd_T67 x4_1 t178).f0, (rd_T67 x4_1 t178).f1, t181⟩ : S67)) x13_1 (t165.length : Int) ji13)) else (if x4_1.length < 5864062014805 then (impl_Shrink.l0 k1 x3_1 (x4_1 ++ [(⟨(rd_T67 x13_1 x15_1).f0, (rd_T67 x13_1 x15_1).f1, (rd_T67 x13_1 x15_1).f2⟩ : S67)]) x13_1 (t165.length : Int) ji13) else (none))) else (none)) else (none)) else (if x4_1.length < 5864062014805 then (impl_Shrink.l0 k1 x3_1 (x4_1 ++ [(⟨(rd_T67 x13_1 x15_1).f0, (rd_T67 x13_1 x15_1).f1, (rd_T67 x13_1 x15_1).f2⟩ : S67)]) x13_1 (t165.length : Int) ji13) else (none))) else (if x4_1.length < 5864062014805 then (impl_Shrink.l0 k1 x3_1 (x4_1 ++ [(⟨(rd_T67 x13_1 x15_1).f0, (rd_T67 x13_1 x15_1).f1, (rd_T67 x13_1 x15_1).f2⟩ : S67)]) x13_1 (t165.length : Int) ji13) else (none)))))) = some r := by first | (rw [hy173]; with_reducible exact H) | (have H2_ := (Option.bind_some _ _).symm.trans H; rw [hy173]; with_reducible exact H2_) | (have H2_ := (Option.bind_some _ _).symm.trans H; with_reducible exact H2_) | with_reducible exact H | (rw [hy173]; exact H) | exact H
        have Ny173 := q_ hy173
        clear hy173
        replace H := Option.bind_eq_some_iff.mp H
        obtain ⟨t177, A160, H⟩ := H
        replace H : (if t177 = true then (impl_Shrink.l0 k1 x3_1 x4_1 x13_1 (t165.length : Int) ji13) else ((slices_IndexFunc_Msg_101.f k1 x4_1 ((rd_T67 x13_1 x15_1).f0) ((rd_T67 x13_1 x15_1).f1) ((rd_T67 x13_1 x15_1).f2)).bind fun t178 => (if ((rd_T67 x13_1 x15_1).f0) = 3 then (if t178 ≥ 0 then (if 0 ≤ t178 then (if t178 < (x4_1.length : Int) then (if ((rd_T67 x4_1 t178).f0) = 1 then ((impl_limited.f (wrap64 (((rd_T67 x4_1 t178).f2) + ((rd_T67 x13_1 x15_1).f2)))).bind fun t181 => (impl_Shrink.l0 k1 x3_1 (x4_1.set (t178 : Int).toNat (⟨(rd_T67 x4_1 t178).f0, (rd_T67 x4_1 t178).f1, t181⟩ : S67)) x13_1 (t165.length : Int) ji13)) else (if x4_1.length < 5864062014805 then (impl_Shrink.l0 k1 x3_1 (x4_1 ++ [(⟨(rd_T67 x13_1 x15_1).f0, (rd_T67 x13_1 x15_1).f1, (rd_T67 x13_1 x15_1).f2⟩ : S67)]) x13_1 (t165.length : Int) ji13) else (none))) else (none)) else (none)) else (if x4_1.length < 5864062014805 then (impl_Shrink.l0 k1 x3_1 (x4_1 ++ [(⟨(rd_T67 x13_1 x15_1).f0, (rd_T67 x13_1 x15_1).f1, (rd_T67 x13_1 x15_1).f2⟩ : S67)]) x13_1 (t165.length : Int) ji13) else (none))) else (if x4_1.length < 5864062014805 then (impl_Shrink.l0 k1 x3_1 (x4_1 ++ [(⟨(rd_T67 x13_1 x15_1).f0, (rd_T67 x13_1 x15_1).f1, (rd_T67 x13_1 x15_1).f2⟩ : S67)]) x13_1 (t165.length : Int) ji13) else (none))))) = some r := H
        have A16 := q_ A160
        clear A160
        by_cases c17 : t177 = true
        ·subst c17
         have H1 : (impl_Shrink.l0 k1 x3_1 x4_1 x13_1 (t165.length : Int) ji13) = some r := z58_
         clear H
         have H := H1
         clear H1
         have H' := q_ H
         clear H
         have p171 : 0 ≤ (x15_1 : Int) := of_decide_eq_true z3_
         have q171 : x15_1 < (x13_1.length : Int) := of_decide_eq_true z3_
         obtain ⟨ad171, e171, hx171_0, hx171_1, hx171_2⟩ := at_T67 (Kd.R_reads' HO_13.out).2.2 x15_1 p171 q171
         cases e171
         replace p171 := eq_true p171
         replace q171 := eq_true q171
         go_wp2_with (first | ((with_reducible refine gate_dst (N := 6) rfl ?_); refine box_event ?hg (N := 6) ?hd (cs := #[.int .i64 0, .int .i64 0, .int .i64 0]) (t := 67) ?hr ?_; (case hd => rfl); (case hg => rfl); (case hr => exact z148_); intro gb172 hg w18 hbox hb; have n0_ := q_ (Kd.R_below (Kd.R_elderB z12_ gb172 (Nat.le_of_eq hg.symm)) hb); have n1_ := q_ (Kd.R_below (Kd.R_elderB z17_ gb172 (Nat.le_of_eq hg.symm)) hb); have n2_ := q_ (Kd.R_below (Kd.R_elderB z28_ gb172 (Nat.le_of_eq hg.symm)) hb); have n3_ := q_ (below_step z0_ hb); have n4_ := q_ (hbox); have n5_ := q_ ((z119_ : w.heap.size ≤ gb172)); have n6_ := q_ ((z119_ : w.heap.size ≤ gb172)); clear HO_3; clear HO_4; clear HO_13; clear HB; have HO_3 := n0_; have HO_4 := n1_; have HO_13 := n2_; have HB := n3_; have BK172 := n4_; have GW172 := n5_; have GE172 := n6_; clear n0_ n1_ n2_ n3_ n4_ n5_ n6_; clear hb hbox hg; obtain ⟨hcz19_0, hcz19_1, hcz19_2, hfz19_0, hfz19_1, hfz19_2⟩ := cs3_ BK172.out) | ((with_reducible refine gate_store (t := 67) (p := 6) rfl ?_); refine store_event (t := 67) (p := 6) (v := ?vo_w20) (w1 := (((w18.setCell ⟨gb172, 0, none⟩ (.int .i64 ((rd_T67 x13_1 x15_1).f0))).setCell ⟨gb172, 1, none⟩ (.int .i64 ((rd_T67 x13_1 x15_1).f1))).setCell ⟨gb172, 2, none⟩ (.int .i64 ((rd_T67 x13_1 x15_1).f2)))) ?hg ?ho ?hn ?hr ?_; (case ho => rfl); (case hg => rfl); (case hn => rfl); (case hr => exact z148_); intro w20 hw; have n0_ : Aside0 (Kd.R k67 67 w20 w.heap.size (fun k_ => some k_ ≠ (u4 : Value).ownBlock ∧ k_ ≠ gb172) (.slice (some ad171) x3_1.length co9) x3_1) := ⟨z140_⟩; have n1_ : Aside0 (Kd.R k67 67 w20 w.heap.size (fun k_ => some k_ ≠ (.slice (some ad171) x3_1.length co9 : Value).ownBlock ∧ some k_ ≠ (.slice (some ad171) x13_1.length co9 : Value).ownBlock ∧ k_ ≠ gb172) u4 x4_1) := ⟨z141_⟩; have n2_ : Aside0 (Kd.R k67 67 w20 w.heap.size (fun k_ => some k_ ≠ (u4 : Value).ownBlock ∧ k_ ≠ gb172) (.slice (some ad171) x13_1.length co9) x13_1) := ⟨z142_⟩; have n3_ : Aside0 (w20.heap[gb172]? = some (.cells #[.int .i64 ((rd_T67 x13_1 x15_1).f0), .int .i64 ((rd_T67 x13_1 x15_1).f1), .int .i64 ((rd_T67 x13_1 x15_1).f2)] 67 (0, 0))) := ⟨z143_⟩; have n4_ : Aside0 (Below w.heap.size w w20) := ⟨z144_⟩; clear hw; clear HO_3; clear HO_4; clear HO_13; clear BK172; clear HB; have HO_3 := n0_; have HO_4 := n1_; have HO_13 := n2_; have BK172 := n3_; have HB := n4_; clear n0_ n1_ n2_ n3_ n4_; have q21 : ((ji13) : Int) ≤ ((x3_1.length : Int) : Int) := of_decide_eq_true z3_; obtain ⟨i021, hi021, _, hsz21, _⟩ := info_parts info67; have hroom21 : x3_1.length ≤ co9 := (Kd.R_reads' HO_3.out).2.1; have hC21 : Kd.C k67 _ (some ad171) x3_1.length x3_1 := (Kd.R_reads' HO_3.out).2.2; have q021 : (0 : Int) ≤ ((ji13) : Int) := of_decide_eq_true z3_; have hcut21 := cut_from (P := Try.prog) 24 67 .i64 Try.underlying24 hi021 3 hsz21 (some ad171) x3_1.length co9 (ji13) q021 q21; have hr21 := Kd.C_drop (m := ((ji13) : Int).toNat) (c := co9) hC21 (by omega) hroom21; obtain ⟨A21, hA21⟩ : ∃ A1, A1 = (if co9 = ((ji13) : Int).toNat then (some ad171) else ((some ad171) : Option Addr).map (·.add (((ji13) : Int).toNat * 3))) := ⟨_, rfl⟩; obtain ⟨c21, hc21⟩ : ∃ c1, c1 = co9 - ((ji13) : Int).toNat := ⟨_, rfl⟩; have hy21 : y173.length = x3_1.length - ((ji13) : Int).toNat := z99_; rw [show (x3_1).drop ((ji13) : Int).toNat = y173 from Ny173.out.symm] at hr21; replace hr21 : Kd.C k67 _ A21 y173.length y173 := (by rw [hA21]; exact hr21); rw [← hy21, ← hA21, ← hc21] at hcut21; (try simp only [hl13_1] at hcut21); have HR176 := q_ hr21; have HC176 := q_ (show y173.length ≤ c21 from by rw [hy21, hc21]; exact Nat.sub_le_sub_right hroom21 _); clear hr21 hC21 hroom21 hi021 hsz21 hc21; have KY21 := q_ hy21; have KA21 := q_ hA21; clear hy21 hA21; have KL21 := q_ (show ((ji13) : Int).toNat ≤ x3_1.length from by omega); replace q21 := eq_true q21) | ((with_reducible refine gate_callee (f := 97) rfl ?_); refine goesL_ (some 25) rfl rfl Try.func97 (by kernel_rfl) rfl #[.slice A21 y173.length c21, .func (.func 98) #[] #[.pointer (some ⟨gb172, 0, none⟩)]] rfl z1_ ?_; (with_reducible refine (slices_ContainsFunc_Msg_98.calls k1 _ _ y173 gb172 ((rd_T67 x13_1 x15_1).f0) ((rd_T67 x13_1 x15_1).f1) ((rd_T67 x13_1 x15_1).f2) true _ ?side1 ?side2 ?side3 A16.out).mono ?_); (case side1 => exact z161_); (case side2 => exact HC176.out); (case side3 => exact z152_); rintro e w22 ⟨rfl, hb⟩; refine ⟨_, rfl, ?_⟩; have n0_ := q_ (Kd.R_below z12_ hb); have n1_ := q_ (Kd.R_below z17_ hb); have n2_ := q_ (Kd.R_below z28_ hb); have n3_ := q_ (blk_below (g := gb172) (o := .cells #[.int .i64 ((rd_T67 x13_1 x15_1).f0), .int .i64 ((rd_T67 x13_1 x15_1).f1), .int .i64 ((rd_T67 x13_1 x15_1).f2)] 67 (0, 0)) z29_ hb); have n4_ := q_ (Kd.C_below z16_ hb); have n5_ := q_ (below_step z8_ hb); clear HO_3; clear HO_4; clear HO_13; clear BK172; clear HR176; clear HB; have HO_3 := n0_; have HO_4 := n1_; have HO_13 := n2_; have BK172 := n3_; have HR176 := n4_; have HB := n5_; clear n0_ n1_ n2_ n3_ n4_ n5_; (try clear hb); (try clear hb2); (try clear hk); (try clear hi)))
         (try simp only [← hl3_1, ← hl13_1])
         go_roundg k1
         case measure => have := HK1.out; omega
         case rel => (try simp only [hl13_1] at HO_3); exact ⟨(x3_1), (x4_1), (x13_1), (ji13), z81_, H', ⟨z74_⟩, ⟨by (try simp only [hl3_1]); (try simp only [hl13_1]); (with_reducible repeat (first | apply Kd.R_alloc | apply Kd.R_drewN | apply Kd.R_drew)); exact Kd.R_mono HO_3.out (fun _ hk => hk.1)⟩, ⟨by (try simp only [hl3_1]); (try simp only [hl13_1]); (with_reducible repeat (first | apply Kd.R_alloc | apply Kd.R_drewN | apply Kd.R_drew)); exact Kd.R_mono HO_4.out (fun _ hk => ⟨hk.1, hk.2.1⟩)⟩, ⟨by (try simp only [hl3_1]); (try simp only [hl13_1]); (with_reducible repeat (first | apply Kd.R_alloc | apply Kd.R_drewN | apply Kd.R_drew)); exact Kd.R_mono HO_13.out (fun _ hk => hk.1)⟩, ⟨z8_⟩⟩
        ·replace c17 := Bool.eq_false_iff.mpr c17
         subst c17
         have H1 : ((slices_IndexFunc_Msg_101.f k1 x4_1 ((rd_T67 x13_1 x15_1).f0) ((rd_T67 x13_1 x15_1).f1) ((rd_T67 x13_1 x15_1).f2)).bind fun t178 => (if ((rd_T67 x13_1 x15_1).f0) = 3 then (if t178 ≥ 0 then (if 0 ≤ t178 then (if t178 < (x4_1.length : Int) then (if ((rd_T67 x4_1 t178).f0) = 1 then ((impl_limited.f (wrap64 (((rd_T67 x4_1 t178).f2) + ((rd_T67 x13_1 x15_1).f2)))).bind fun t181 => (impl_Shrink.l0 k1 x3_1 (x4_1.set (t178 : Int).toNat (⟨(rd_T67 x4_1 t178).f0, (rd_T67 x4_1 t178).f1, t181⟩ : S67)) x13_1 (t165.length : Int) ji13)) else (if x4_1.length < 5864062014805 then (impl_Shrink.l0 k1 x3_1 (x4_1 ++ [(⟨(rd_T67 x13_1 x15_1).f0, (rd_T67 x13_1 x15_1).f1, (rd_T67 x13_1 x15_1).f2⟩ : S67)]) x13_1 (t165.length : Int) ji13) else (none))) else (none)) else (none)) else (if x4_1.length < 5864062014805 then (impl_Shrink.l0 k1 x3_1 (x4_1 ++ [(⟨(rd_T67 x13_1 x15_1).f0, (rd_T67 x13_1 x15_1).f1, (rd_T67 x13_1 x15_1).f2⟩ : S67)]) x13_1 (t165.length : Int) ji13) else (none))) else (if x4_1.length < 5864062014805 then (impl_Shrink.l0 k1 x3_1 (x4_1 ++ [(⟨(rd_T67 x13_1 x15_1).f0, (rd_T67 x13_1 x15_1).f1, (rd_T67 x13_1 x15_1).f2⟩ : S67)]) x13_1 (t165.length : Int) ji13) else (none)))) = some r := by rw [if_neg (show ¬ (false = true) by decide)] at H; exact H
         clear H
         have H := H1
         clear H1
         replace H := Option.bind_eq_some_iff.mp H
         obtain ⟨t178, A230, H⟩ := H
         replace H : (if ((rd_T67 x13_1 x15_1).f0) = 3 then (if t178 ≥ 0 then (if 0 ≤ t178 then (if t178 < (x4_1.length : Int) then (if ((rd_T67 x4_1 t178).f0) = 1 then ((impl_limited.f (wrap64 (((rd_T67 x4_1 t178).f2) + ((rd_T67 x13_1 x15_1).f2)))).bind fun t181 => (impl_Shrink.l0 k1 x3_1 (x4_1.set (t178 : Int).toNat (⟨(rd_T67 x4_1 t178).f0, (rd_T67 x4_1 t178).f1, t181⟩ : S67)) x13_1 (t165.length : Int) ji13)) else (if x4_1.length < 5864062014805 then (impl_Shrink.l0 k1 x3_1 (x4_1 ++ [(⟨(rd_T67 x13_1 x15_1).f0, (rd_T67 x13_1 x15_1).f1, (rd_T67 x13_1 x15_1).f2⟩ : S67)]) x13_1 (t165.length : Int) ji13) else (none))) else (none)) else (none)) else (if x4_1.length < 5864062014805 then (impl_Shrink.l0 k1 x3_1 (x4_1 ++ [(⟨(rd_T67 x13_1 x15_1).f0, (rd_T67 x13_1 x15_1).f1, (rd_T67 x13_1 x15_1).f2⟩ : S67)]) x13_1 (t165.length : Int) ji13) else (none))) else (if x4_1.length < 5864062014805 then (impl_Shrink.l0 k1 x3_1 (x4_1 ++ [(⟨(rd_T67 x13_1 x15_1).f0, (rd_T67 x13_1 x15_1).f1, (rd_T67 x13_1 x15_1).f2⟩ : S67)]) x13_1 (t165.length : Int) ji13) else (none))) = some r := H
         have A23 := q_ A230
         clear A230
         by_cases c24 : ((rd_T67 x13_1 x15_1).f0) = 3
         ·rw [if_pos c24] at H
          have c24b0 : (((rd_T67 x13_1 x15_1).f0) == 3) = true := beq_iff_eq.mpr c24
          have c24b1 : (((rd_T67 x13_1 x15_1).f0) != 3) = false := bne_eq_false_iff_eq.mpr c24
          clear c24
          by_cases c25 : t178 ≥ 0
          ·rw [if_pos c25] at H
           have c25b0 : decide (0 ≤ t178) = true := decide_eq_true c25
           clear c25
           by_cases c26 : 0 ≤ t178
           ·rw [if_pos c26] at H
            have c26b0 : decide (0 ≤ t178) = true := decide_eq_true c26
            clear c26
            by_cases c27 : t178 < (x4_1.length : Int)
            ·rw [if_pos c27] at H
             have c27b0 : decide (t178 < (x4_1.length : Int)) = true := decide_eq_true c27
             clear c27
             by_cases c28 : ((rd_T67 x4_1 t178).f0) = 1
             ·rw [if_pos c28] at H
              have c28b0 : (((rd_T67 x4_1 t178).f0) == 1) = true := beq_iff_eq.mpr c28
              have c28b1 : (((rd_T67 x4_1 t178).f0) != 1) = false := bne_eq_false_iff_eq.mpr c28
              clear c28
              replace H := Option.bind_eq_some_iff.mp H
              obtain ⟨t181, A290, H⟩ := H
              replace H : (impl_Shrink.l0 k1 x3_1 (x4_1.set (t178 : Int).toNat (⟨(rd_T67 x4_1 t178).f0, (rd_T67 x4_1 t178).f1, t181⟩ : S67)) x13_1 (t165.length : Int) ji13) = some r := H
              have A29 := q_ A290
              clear A290
              obtain ⟨y182, hy182⟩ : ∃ y_ : List (S67), y_ = (x4_1.set (t178 : Int).toNat (⟨(rd_T67 x4_1 t178).f0, (rd_T67 x4_1 t178).f1, t181⟩ : S67)) := ⟨_, rfl⟩
              replace H : (impl_Shrink.l0 k1 x3_1 y182 x13_1 (t165.length : Int) ji13) = some r := by first | (rw [hy182]; with_reducible exact H) | (have H2_ := (Option.bind_some _ _).symm.trans H; rw [hy182]; with_reducible exact H2_) | (have H2_ := (Option.bind_some _ _).symm.trans H; with_reducible exact H2_) | with_reducible exact H | (rw [hy182]; exact H) | exact H
              have Ny182 := q_ hy182
              clear hy182
              have H' := q_ H
              clear H
              have p171 : 0 ≤ (x15_1 : Int) := of_decide_eq_true z3_
              have q171 : x15_1 < (x13_1.length : Int) := of_decide_eq_true z3_
              obtain ⟨ad171, e171, hx171_0, hx171_1, hx171_2⟩ := at_T67 (Kd.R_reads' HO_13.out).2.2 x15_1 p171 q171
              cases e171
              replace p171 := eq_true p171
              replace q171 := eq_true q171
              try go_wp2_with (first | ((with_reducible refine gate_dst (N := 6) rfl ?_); refine box_event ?hg (N := 6) ?hd (cs := #[.int .i64 0, .int .i64 0, .int .i64 0]) (t := 67) ?hr ?_; (case hd => rfl); (case hg => rfl); (case hr => exact z148_); intro gb172 hg w31 hbox hb; have n0_ := q_ (Kd.R_below (Kd.R_elderB z12_ gb172 (Nat.le_of_eq hg.symm)) hb); have n1_ := q_ (Kd.R_below (Kd.R_elderB z17_ gb172 (Nat.le_of_eq hg.symm)) hb); have n2_ := q_ (Kd.R_below (Kd.R_elderB z28_ gb172 (Nat.le_of_eq hg.symm)) hb); have n3_ := q_ (below_step z0_ hb); have n4_ := q_ (hbox); have n5_ := q_ ((z119_ : w.heap.size ≤ gb172)); have n6_ := q_ ((z119_ : w.heap.size ≤ gb172)); clear HO_3; clear HO_4; clear HO_13; clear HB; have HO_3 := n0_; have HO_4 := n1_; have HO_13 := n2_; have HB := n3_; have BK172 := n4_; have GW172 := n5_; have GE172 := n6_; clear n0_ n1_ n2_ n3_ n4_ n5_ n6_; clear hb hbox hg; obtain ⟨hcz32_0, hcz32_1, hcz32_2, hfz32_0, hfz32_1, hfz32_2⟩ := cs3_ BK172.out) | ((with_reducible refine gate_store (t := 67) (p := 6) rfl ?_); refine store_event (t := 67) (p := 6) (v := ?vo_w33) (w1 := (((w31.setCell ⟨gb172, 0, none⟩ (.int .i64 ((rd_T67 x13_1 x15_1).f0))).setCell ⟨gb172, 1, none⟩ (.int .i64 ((rd_T67 x13_1 x15_1).f1))).setCell ⟨gb172, 2, none⟩ (.int .i64 ((rd_T67 x13_1 x15_1).f2)))) ?hg ?ho ?hn ?hr ?_; (case ho => rfl); (case hg => rfl); (case hn => rfl); (case hr => exact z148_); intro w33 hw; have n0_ : Aside0 (Kd.R k67 67 w33 w.heap.size (fun k_ => some k_ ≠ (u4 : Value).ownBlock ∧ k_ ≠ gb172) (.slice (some ad171) x3_1.length co9) x3_1) := ⟨z140_⟩; have n1_ : Aside0 (Kd.R k67 67 w33 w.heap.size (fun k_ => some k_ ≠ (.slice (some ad171) x3_1.length co9 : Value).ownBlock ∧ some k_ ≠ (.slice (some ad171) x13_1.length co9 : Value).ownBlock ∧ k_ ≠ gb172) u4 x4_1) := ⟨z141_⟩; have n2_ : Aside0 (Kd.R k67 67 w33 w.heap.size (fun k_ => some k_ ≠ (u4 : Value).ownBlock ∧ k_ ≠ gb172) (.slice (some ad171) x13_1.length co9) x13_1) := ⟨z142_⟩; have n3_ : Aside0 (w33.heap[gb172]? = some (.cells #[.int .i64 ((rd_T67 x13_1 x15_1).f0), .int .i64 ((rd_T67 x13_1 x15_1).f1), .int .i64 ((rd_T67 x13_1 x15_1).f2)] 67 (0, 0))) := ⟨z143_⟩; have n4_ : Aside0 (Below w.heap.size w w33) := ⟨z144_⟩; clear hw; clear HO_3; clear HO_4; clear HO_13; clear BK172; clear HB; have HO_3 := n0_; have HO_4 := n1_; have HO_13 := n2_; have BK172 := n3_; have HB := n4_; clear n0_ n1_ n2_ n3_ n4_; have q34 : ((ji13) : Int) ≤ ((x3_1.length : Int) : Int) := of_decide_eq_true z3_; obtain ⟨i034, hi034, _, hsz34, _⟩ := info_parts info67; have hroom34 : x3_1.length ≤ co9 := (Kd.R_reads' HO_3.out).2.1; have hC34 : Kd.C k67 _ (some ad171) x3_1.length x3_1 := (Kd.R_reads' HO_3.out).2.2; have q034 : (0 : Int) ≤ ((ji13) : Int) := of_decide_eq_true z3_; have hcut34 := cut_from (P := Try.prog) 24 67 .i64 Try.underlying24 hi034 3 hsz34 (some ad171) x3_1.length co9 (ji13) q034 q34; have hr34 := Kd.C_drop (m := ((ji13) : Int).toNat) (c := co9) hC34 (by omega) hroom34; obtain ⟨A34, hA34⟩ : ∃ A1, A1 = (if co9 = ((ji13) : Int).toNat then (some ad171) else ((some ad171) : Option Addr).map (·.add (((ji13) : Int).toNat * 3))) := ⟨_, rfl⟩; obtain ⟨c34, hc34⟩ : ∃ c1, c1 = co9 - ((ji13) : Int).toNat := ⟨_, rfl⟩; have hy34 : y173.length = x3_1.length - ((ji13) : Int).toNat := z99_; rw [show (x3_1).drop ((ji13) : Int).toNat = y173 from Ny173.out.symm] at hr34; replace hr34 : Kd.C k67 _ A34 y173.length y173 := (by rw [hA34]; exact hr34); rw [← hy34, ← hA34, ← hc34] at hcut34; (try simp only [hl13_1] at hcut34); have HR176 := q_ hr34; have HC176 := q_ (show y173.length ≤ c34 from by rw [hy34, hc34]; exact Nat.sub_le_sub_right hroom34 _); clear hr34 hC34 hroom34 hi034 hsz34 hc34; have KY34 := q_ hy34; have KA34 := q_ hA34; clear hy34 hA34; have KL34 := q_ (show ((ji13) : Int).toNat ≤ x3_1.length from by omega); replace q34 := eq_true q34) | ((with_reducible refine gate_callee (f := 97) rfl ?_); refine goesL_ (some 25) rfl rfl Try.func97 (by kernel_rfl) rfl #[.slice A34 y173.length c34, .func (.func 98) #[] #[.pointer (some ⟨gb172, 0, none⟩)]] rfl z1_ ?_; (with_reducible refine (slices_ContainsFunc_Msg_98.calls k1 _ _ y173 gb172 ((rd_T67 x13_1 x15_1).f0) ((rd_T67 x13_1 x15_1).f1) ((rd_T67 x13_1 x15_1).f2) false _ ?side1 ?side2 ?side3 A16.out).mono ?_); (case side1 => exact z161_); (case side2 => exact HC176.out); (case side3 => exact z152_); rintro e w35 ⟨rfl, hb⟩; refine ⟨_, rfl, ?_⟩; have n0_ := q_ (Kd.R_below z12_ hb); have n1_ := q_ (Kd.R_below z17_ hb); have n2_ := q_ (Kd.R_below z28_ hb); have n3_ := q_ (blk_below (g := gb172) (o := .cells #[.int .i64 ((rd_T67 x13_1 x15_1).f0), .int .i64 ((rd_T67 x13_1 x15_1).f1), .int .i64 ((rd_T67 x13_1 x15_1).f2)] 67 (0, 0)) z29_ hb); have n4_ := q_ (Kd.C_below z16_ hb); have n5_ := q_ (below_step z8_ hb); clear HO_3; clear HO_4; clear HO_13; clear BK172; clear HR176; clear HB; have HO_3 := n0_; have HO_4 := n1_; have HO_13 := n2_; have BK172 := n3_; have HR176 := n4_; have HB := n5_; clear n0_ n1_ n2_ n3_ n4_ n5_; (try clear hb); (try clear hb2); (try clear hk); (try clear hi); obtain ⟨Ao36, co36, eo36⟩ := Kd.R_slice HO_4.out; subst eo36) | ((with_reducible refine gate_callee (f := 100) rfl ?_); refine goesL_ (some 29) rfl rfl Try.func100 (by kernel_rfl) rfl #[.slice Ao36 x4_1.length co36, .func (.func 101) #[] #[.pointer (some ⟨gb172, 0, none⟩)]] rfl z1_ ?_; (with_reducible refine (slices_IndexFunc_Msg_101.calls k1 _ _ x4_1 gb172 ((rd_T67 x13_1 x15_1).f0) ((rd_T67 x13_1 x15_1).f1) ((rd_T67 x13_1 x15_1).f2) t178 _ ?side1 ?side2 ?side3 A23.out).mono ?_); (case side1 => exact z154_); (case side2 => exact z178_); (case side3 => exact z152_); rintro e w37 ⟨rfl, hb⟩; refine ⟨_, rfl, ?_⟩; have n0_ := q_ (Kd.R_below z12_ hb); have n1_ := q_ (Kd.R_below z17_ hb); have n2_ := q_ (Kd.R_below z28_ hb); have n3_ := q_ (blk_below (g := gb172) (o := .cells #[.int .i64 ((rd_T67 x13_1 x15_1).f0), .int .i64 ((rd_T67 x13_1 x15_1).f1), .int .i64 ((rd_T67 x13_1 x15_1).f2)] 67 (0, 0)) z29_ hb); have n4_ := q_ (Kd.C_below z16_ hb); have n5_ := q_ (below_step z8_ hb); clear HO_3; clear HO_4; clear HO_13; clear BK172; clear HR176; clear HB; have HO_3 := n0_; have HO_4 := n1_; have HO_13 := n2_; have BK172 := n3_; have HR176 := n4_; have HB := n5_; clear n0_ n1_ n2_ n3_ n4_ n5_; (try clear hb); (try clear hb2); (try clear hk); (try clear hi); obtain ⟨hcz38_0, hcz38_1, hcz38_2, hfz38_0, hfz38_1, hfz38_2⟩ := cs3_ BK172.out; have p179 : 0 ≤ (t178 : Int) := of_decide_eq_true z3_; have q179 : t178 < (x4_1.length : Int) := of_decide_eq_true z3_; obtain ⟨ad179, e179, hx179_0, hx179_1, hx179_2⟩ := at_T67 (Kd.R_reads' HO_4.out).2.2 t178 p179 q179; cases e179; replace p179 := eq_true p179; replace q179 := eq_true q179))
              have n0_ := q_ (Kd.R_drew HO_3.out)
              have n1_ := q_ (Kd.R_drew HO_4.out)
              have n2_ := q_ (Kd.R_drew HO_13.out)
              have n3_ := q_ (blk_drew BK172.out)
              have n4_ := q_ (Kd.C_drew HR176.out)
              have n5_ := q_ (below_drew1 HB.out)
              clear HO_3
              clear HO_4
              clear HO_13
              clear BK172
              clear HR176
              clear HB
              have HO_3 := n0_
              have HO_4 := n1_
              have HO_13 := n2_
              have BK172 := n3_
              have HR176 := n4_
              have HB := n5_
              clear n0_ n1_ n2_ n3_ n4_ n5_
              have p180 : 0 ≤ (t178 : Int) := of_decide_eq_true z3_
              have q180 : t178 < (x4_1.length : Int) := of_decide_eq_true z3_
              obtain ⟨ad180, e180, hx180_0, hx180_1, hx180_2⟩ := at_T67 (Kd.R_reads' HO_4.out).2.2 t178 p180 q180
              obtain rfl : ad179 = ad180 := (by injection e180)
              replace p180 := eq_true p180
              replace q180 := eq_true q180
              refine start_ (n := 14) (S := fun w' => w'.cell? ⟨gb172, 0, none⟩ = some (.int .i64 ((rd_T67 x13_1 x15_1).f0)) ∧ w'.cell? ⟨gb172, 1, none⟩ = some (.int .i64 ((rd_T67 x13_1 x15_1).f1)) ∧ w'.cell? ⟨gb172, 2, none⟩ = some (.int .i64 ((rd_T67 x13_1 x15_1).f2)) ∧ w'.cell? (ad179.add ((t178).toNat * 3)) = some (.int .i64 ((rd_T67 x4_1 t178).f0)) ∧ w'.cell? ⟨(ad179.add ((t178).toNat * 3)).block, (ad179.add ((t178).toNat * 3)).off + 1, none⟩ = some (.int .i64 ((rd_T67 x4_1 t178).f1)) ∧ w'.cell? ⟨(ad179.add ((t178).toNat * 3)).block, (ad179.add ((t178).toNat * 3)).off + 2, none⟩ = some (.int .i64 ((rd_T67 x4_1 t178).f2))) (ds := [13]) #[false, false, false, false, false, false, false, false, false, false, false, false, false, false] (by kernel_rfl) rfl rfl ⟨(blk_cell BK172.out 0).trans rfl, (blk_cell BK172.out 1).trans rfl, (blk_cell BK172.out 2).trans rfl, hx180_0, hx180_1, hx180_2⟩ (fun hHeld => ?_); refine with_tabW impl_Shrink.tab10 impl_Shrink.bits10 (fun HT_ HW_ => ?_)
              generalize w37.drew = w39 at HO_3 HO_4 HO_13 BK172 HR176 HB hx180_0 hx180_1 hx180_2 hHeld ⊢
              refine pure_ (i := 0) (N := some 45) (v := ?_) (a' := ?_) #[true, false, false, false, false, false, false, false, false, false, false, false, false, false] rfl rfl (any_of HT_.out (by kernel_rfl)) (fun _ _ _ h => h) (Or.inl ⟨by rfl, ?_⟩) ?_ ?_
              rotate_left
              ·intro w'
               go_simp
               with_reducible rfl
              rotate_left
              ·simp only [Act.put, List.setIfInBounds_toArray, List.set_cons_zero, List.set_cons_succ, i64_w, i32_w]
               rfl
              refine pure_ (i := 1) (N := some 46) (v := ?_) (a' := ?_) #[true, true, false, false, false, false, false, false, false, false, false, false, false, false] rfl rfl (any_of HT_.out (by kernel_rfl)) (fun _ _ _ h => h) (Or.inl ⟨by rfl, ?_⟩) ?_ ?_
              rotate_left
              ·intro w'
               go_simp
               with_reducible rfl
              rotate_left
              ·simp only [Act.put, List.setIfInBounds_toArray, List.set_cons_zero, List.set_cons_succ, i64_w, i32_w]
               rfl
              refine pure_ (i := 2) (N := some 47) (v := ?_) (a' := ?_) #[true, true, true, false, false, false, false, false, false, false, false, false, false, false] rfl rfl (any_of HT_.out (by kernel_rfl)) (fun _ _ _ h => h) (Or.inl ⟨by rfl, ?_⟩) ?_ ?_
              rotate_left
              ·intro w'
               go_simp
               with_reducible rfl
              rotate_left
              ·simp only [Act.put, List.setIfInBounds_toArray, List.set_cons_zero, List.set_cons_succ, i64_w, i32_w]
               rfl
              refine pure_ (i := 3) (N := some 48) (v := ?_) (a' := ?_) #[true, true, true, true, false, false, false, false, false, false, false, false, false, false] rfl rfl (any_of HT_.out (by kernel_rfl)) (fun _ _ _ h => h) (Or.inl ⟨by rfl, ?_⟩) ?_ ?_
              rotate_left
              ·intro w'
               go_simp
               with_reducible rfl
              rotate_left
              ·simp only [Act.put, List.setIfInBounds_toArray, List.set_cons_zero, List.set_cons_succ, i64_w, i32_w]
               rfl
              refine pure_ (i := 4) (N := some 49) (v := ?_) (a' := ?_) #[true, true, true, true, true, false, false, false, false, false, false, false, false, false] rfl rfl (any_of HT_.out (by kernel_rfl)) (fun _ _ _ h => h) (Or.inl ⟨by rfl, ?_⟩) ?_ ?_
              rotate_left
              ·intro w'
               go_simp
               with_reducible rfl
              rotate_left
              ·simp only [Act.put, List.setIfInBounds_toArray, List.set_cons_zero, List.set_cons_succ, i64_w, i32_w]
               rfl
              refine pure_ (i := 5) (N := some 50) (v := ?_) (a' := ?_) #[true, true, true, true, true, true, false, false, false, false, false, false, false, false] rfl rfl (any_of HT_.out (by kernel_rfl)) (fun _ _ _ h => h) (Or.inl ⟨by rfl, ?_⟩) ?_ ?_
              rotate_left
              ·intro w'
               go_simp
               with_reducible rfl
              rotate_left
              ·simp only [Act.put, List.setIfInBounds_toArray, List.set_cons_zero, List.set_cons_succ, i64_w, i32_w]
               rfl
              refine pure_ (i := 7) (N := some 52) (v := ?_) (a' := ?_) #[true, true, true, true, true, true, false, true, false, false, false, false, false, false] rfl rfl (any_of HT_.out (by kernel_rfl)) (fun _ _ _ h => h) (Or.inl ⟨by rfl, ?_⟩) ?_ ?_
              rotate_left
              ·intro w'
               go_simp
               with_reducible rfl
              rotate_left
              ·simp only [Act.put, List.setIfInBounds_toArray, List.set_cons_zero, List.set_cons_succ, i64_w, i32_w]
               rfl
              refine take_ (i := 6) (N := some 51) (v := ?_) (a' := ?_) #[true, true, true, true, true, true, true, true, false, false, false, false, false, false] rfl rfl (take_ofW HT_.out HW_.out (by kernel_rfl)) (fun _ _ _ h => h) (Or.inl ⟨by rfl, ?_⟩) hHeld ?_ ?_
              rotate_left
              ·rintro w' ⟨s0, s1, s2, s3, s4, s5⟩
               go_simp
               with_reducible rfl
              rotate_left
              ·simp only [Act.put, List.setIfInBounds_toArray, List.set_cons_zero, List.set_cons_succ, i64_w, i32_w]
               rfl
              refine take_ (i := 8) (N := some 53) (v := ?_) (a' := ?_) #[true, true, true, true, true, true, true, true, true, false, false, false, false, false] rfl rfl (take_ofW HT_.out HW_.out (by kernel_rfl)) (fun _ _ _ h => h) (Or.inl ⟨by rfl, ?_⟩) hHeld ?_ ?_
              rotate_left
              ·rintro w' ⟨s0, s1, s2, s3, s4, s5⟩
               go_simp
               with_reducible rfl
              rotate_left
              ·simp only [Act.put, List.setIfInBounds_toArray, List.set_cons_zero, List.set_cons_succ, i64_w, i32_w]
               rfl
              refine pure_ (i := 9) (N := some 54) (v := ?_) (a' := ?_) #[true, true, true, true, true, true, true, true, true, true, false, false, false, false] rfl rfl (any_of HT_.out (by kernel_rfl)) (fun _ _ _ h => h) (Or.inl ⟨by rfl, ?_⟩) ?_ ?_
              rotate_left
              ·intro w'
               go_simp
               with_reducible rfl
              rotate_left
              ·simp only [Act.put, List.setIfInBounds_toArray, List.set_cons_zero, List.set_cons_succ, i64_w, i32_w]
               rfl
              refine one_ (i := 10) (N := some 55) #[true, true, true, true, true, true, true, true, true, true, true, false, false, false] rfl rfl (one_of HT_.out (by kernel_rfl)) (by decide) (fun K hK => ?_)
              refine goes_ Try.func102 (by kernel_rfl) rfl #[.int .i64 (wrap64 (((rd_T67 x4_1 t178).f2) + ((rd_T67 x13_1 x15_1).f2)))] (by rfl) rfl rfl z1_ ?_
              with_reducible refine (impl_limited.calls (wrap64 (((rd_T67 x4_1 t178).f2) + ((rd_T67 x13_1 x15_1).f2))) t181 _ A29.out).mono ?_
              rintro e w40 ⟨rfl, hb⟩
              have HS3_ := (hb.cell (World.block_lt_of_cell? _ _ (hHeld.2.2.2.1))).trans (hHeld.2.2.2.1)
              have HS4_ := (hb.cell (World.block_lt_of_cell? _ _ (hHeld.2.2.2.2.1))).trans (hHeld.2.2.2.2.1)
              have HS5_ := (hb.cell (World.block_lt_of_cell? _ _ (hHeld.2.2.2.2.2))).trans (hHeld.2.2.2.2.2)
              refine ⟨_, rfl, ?_⟩
              have n0_ := q_ (Kd.R_below z12_ hb)
              have n1_ := q_ (Kd.R_below z17_ hb)
              have n2_ := q_ (Kd.R_below z28_ hb)
              have n3_ := q_ (blk_below (g := gb172) (o := .cells #[.int .i64 ((rd_T67 x13_1 x15_1).f0), .int .i64 ((rd_T67 x13_1 x15_1).f1), .int .i64 ((rd_T67 x13_1 x15_1).f2)] 67 (0, 0)) z29_ hb)
              have n4_ := q_ (Kd.C_below z16_ hb)
              have n5_ := q_ (below_step z8_ hb)
              clear HO_3
              clear HO_4
              clear HO_13
              clear BK172
              clear HR176
              clear HB
              have HO_3 := n0_
              have HO_4 := n1_
              have HO_13 := n2_
              have BK172 := n3_
              have HR176 := n4_
              have HB := n5_
              clear n0_ n1_ n2_ n3_ n4_ n5_
              (try clear hb)
              (try clear hb2)
              (try clear hk)
              (try clear hi)
              have p30 : 0 ≤ (t178 : Int) := of_decide_eq_true z3_
              have q30 : (t178 : Int) < ((x4_1.length : Int) : Int) := of_decide_eq_true z3_
              obtain ⟨go30, co30, eo30, gb30, gl30, cl30, HG30⟩ := Kd.R_form HO_4.out (by omega)
              (first | cases eo30 | (injection eo30 with ea_ en_ ec_; (first | subst ea_ | (injection ea_ with ea_; subst ea_)); subst ec_; clear en_))
              have GB30 := q_ gb30
              have GG30 := q_ HG30
              clear gb30 gl30 HG30
              (first | simp only [add_plain] at hx179_0 | skip)
              (first | simp only [add_plain] at hx179_1 | skip)
              (first | simp only [add_plain] at hx179_2 | skip)
              (first | simp only [add_plain] at hx180_0 | skip)
              (first | simp only [add_plain] at hx180_1 | skip)
              (first | simp only [add_plain] at hx180_2 | skip)
              obtain ⟨ce30, hcl30, hM30, hcc30, hfr30⟩ := Kd.R_elem HO_4.out z67 (t178 : Int) p30 q30
              obtain rfl := k67_openM hM30
              have hx30_0 : World.cell? _ ⟨go30, (t178 : Int).toNat * 3, none⟩ = some (.int .i64 ((rd_T67 x4_1 t178).f0)) := hcc30 0 _ rfl
              have hx30_1 : World.cell? _ ⟨go30, (t178 : Int).toNat * 3 + 1, none⟩ = some (.int .i64 ((rd_T67 x4_1 t178).f1)) := hcc30 1 _ rfl
              have hx30_2 : World.cell? _ ⟨go30, (t178 : Int).toNat * 3 + 2, none⟩ = some (.int .i64 ((rd_T67 x4_1 t178).f2)) := hcc30 2 _ rfl
              have hf30_0 : World.frozen? _ ⟨go30, (t178 : Int).toNat * 3, none⟩ = false := hfr30 0
              have hf30_1 : World.frozen? _ ⟨go30, (t178 : Int).toNat * 3 + 1, none⟩ = false := hfr30 1
              have hf30_2 : World.frozen? _ ⟨go30, (t178 : Int).toNat * 3 + 2, none⟩ = false := hfr30 2
              clear hcl30 hcc30 hfr30 hM30
              replace p30 := eq_true p30
              replace q30 := eq_true q30
              obtain ⟨ce41, hcl41, hM41, hcc41, hfr41⟩ := Kd.R_elem HO_4.out z67 (t178 : Int) (of_decide_eq_true z3_) z134_
              obtain rfl := k67_openM hM41
              have HP41 := (Kd.R_seg HO_4.out (t178 : Int) (of_decide_eq_true z3_) z134_ (seg := [.int .i64 t181]) (j := 2) hcl41 hcc41 (show 3 ≤ 3 from by decide) (x' := (⟨(rd_T67 x4_1 t178).f0, (rd_T67 x4_1 t178).f1, t181⟩ : S67)) (k67_mkM _ _ _ (⟨(rd_T67 x4_1 t178).f0, (rd_T67 x4_1 t178).f1, t181⟩ : S67) ) (fun _ hk => hk)).1
              rw [← Ny182.out] at HP41
              have HQ41 := q_ HP41
              clear hcl41 hcc41 hfr41 hM41 HP41
              refine hK.out _ _ ⟨(blk_cell BK172.out 0).trans rfl, (blk_cell BK172.out 1).trans rfl, (blk_cell BK172.out 2).trans rfl, HS3_, HS4_, HS5_⟩ (fun hHeld => ?_)
              clear hK K
              refine norm_ (a' := ?_) ?_ ?_
              rotate_left
              ·show Act.put _ (some 55) _ = _
               simp only [Act.put, List.setIfInBounds_toArray, List.set_cons_zero, List.set_cons_succ, i64_w, i32_w]
               rfl
              refine pure_ (i := 11) (N := some 56) (v := ?_) (a' := ?_) #[true, true, true, true, true, true, true, true, true, true, true, true, false, false] rfl rfl (any_of HT_.out (by kernel_rfl)) (fun _ _ _ h => h) (Or.inl ⟨by rfl, ?_⟩) ?_ ?_
              rotate_left
              ·intro w'
               go_simp
               with_reducible rfl
              rotate_left
              ·simp only [Act.put, List.setIfInBounds_toArray, List.set_cons_zero, List.set_cons_succ, i64_w, i32_w]
               rfl
              refine pure_ (i := 12) (N := some 57) (v := ?_) (a' := ?_) #[true, true, true, true, true, true, true, true, true, true, true, true, true, false] rfl rfl (any_of HT_.out (by kernel_rfl)) (fun _ _ _ h => h) (Or.inl ⟨by rfl, ?_⟩) ?_ ?_
              rotate_left
              ·intro w'
               go_simp
               with_reducible rfl
              rotate_left
              ·simp only [Act.put, List.setIfInBounds_toArray, List.set_cons_zero, List.set_cons_succ, i64_w, i32_w]
               rfl
              refine last_ (i := 13) (N := none) #[true, true, true, true, true, true, true, true, true, true, true, true, true, true] rfl rfl (one_of HT_.out (by kernel_rfl)) (by decide) (fun K hK => ?_)
              refine skip_ (w1 := ?_) (by rfl) rfl ?_ ?_
              rotate_left
              ·go_simp
               rfl
              refine hK.out _ _ ?_
              clear hK K
              refine done_ (done_of HT_.out (by kernel_rfl)) ?_
              try go_wp2
              (try simp only [← hl3_1, ← hl13_1])
              go_roundg k1
              case measure => have := HK1.out; omega
              case rel => (try simp only [hl13_1] at HO_3); exact ⟨(x3_1), (y182), (x13_1), (ji13), z81_, H', ⟨z74_⟩, ⟨by (try simp only [hl3_1]); (try simp only [hl13_1]); (with_reducible repeat (first | apply Kd.R_alloc | apply Kd.R_drewN | apply Kd.R_drew)); exact Kd.R_mono (Kd.R_far (p := ⟨go30, (t178 : Int).toNat * 3 + 2, none⟩) (Kd.R_mono HO_3.out (fun k_ hk => (⟨hk, fun e_ => hk.1 (by rw [e_]; rfl)⟩ : _ ∧ k_ ≠ go30))) (fun _ hk => hk.2) (.int .i64 t181)) (fun _ hk => hk.1.1)⟩, ⟨by (try simp only [hl3_1]); (try simp only [hl13_1]); (with_reducible repeat (first | apply Kd.R_alloc | apply Kd.R_drewN | apply Kd.R_drew)); exact Kd.R_mono HQ41.out (fun _ hk => ⟨hk.1, hk.2.1⟩)⟩, ⟨by (try simp only [hl3_1]); (try simp only [hl13_1]); (with_reducible repeat (first | apply Kd.R_alloc | apply Kd.R_drewN | apply Kd.R_drew)); exact Kd.R_mono (Kd.R_far (p := ⟨go30, (t178 : Int).toNat * 3 + 2, none⟩) (Kd.R_mono HO_13.out (fun k_ hk => (⟨hk, fun e_ => hk.1 (by rw [e_]; rfl)⟩ : _ ∧ k_ ≠ go30))) (fun _ hk => hk.2) (.int .i64 t181)) (fun _ hk => hk.1.1)⟩, ⟨by repeat (first | (with_reducible first | exact HB.out | apply below_alloc | apply pw_below_drewN | apply below_drew1 | refine below_set ?_ GB30.out | refine below_set ?_ GE172.out) | exact HB.out)⟩⟩
             ·rw [if_neg c28] at H
              have c28b0 : (((rd_T67 x4_1 t178).f0) == 1) = false := beq_eq_false_iff_ne.mpr c28
              have c28b1 : (((rd_T67 x4_1 t178).f0) != 1) = true := bne_iff_ne.mpr c28
              by_cases c42 : x4_1.length < 5864062014805
              ·rw [if_pos c42] at H
               have LMc42 := q_ c42
               clear c42
               obtain ⟨y183, hy183⟩ : ∃ y_ : List (S67), y_ = (x4_1 ++ [(⟨(rd_T67 x13_1 x15_1).f0, (rd_T67 x13_1 x15_1).f1, (rd_T67 x13_1 x15_1).f2⟩ : S67)]) := ⟨_, rfl⟩
               replace H : (impl_Shrink.l0 k1 x3_1 y183 x13_1 (t165.length : Int) ji13) = some r := by first | (rw [hy183]; with_reducible exact H) | (have H2_ := (Option.bind_some _ _).symm.trans H; rw [hy183]; with_reducible exact H2_) | (have H2_ := (Option.bind_some _ _).symm.trans H; with_reducible exact H2_) | with_reducible exact H | (rw [hy183]; exact H) | exact H
               have Ny183 := q_ hy183
               clear hy183
               have H' := q_ H
               clear H
               have p171 : 0 ≤ (x15_1 : Int) := of_decide_eq_true z3_
               have q171 : x15_1 < (x13_1.length : Int) := of_decide_eq_true z3_
               obtain ⟨ad171, e171, hx171_0, hx171_1, hx171_2⟩ := at_T67 (Kd.R_reads' HO_13.out).2.2 x15_1 p171 q171
               cases e171
               replace p171 := eq_true p171
               replace q171 := eq_true q171
               go_wp2_with (first | ((with_reducible refine gate_dst (N := 6) rfl ?_); refine box_event ?hg (N := 6) ?hd (cs := #[.int .i64 0, .int .i64 0, .int .i64 0]) (t := 67) ?hr ?_; (case hd => rfl); (case hg => rfl); (case hr => exact z148_); intro gb172 hg w43 hbox hb; have n0_ := q_ (Kd.R_below (Kd.R_elderB z12_ gb172 (Nat.le_of_eq hg.symm)) hb); have n1_ := q_ (Kd.R_below (Kd.R_elderB z17_ gb172 (Nat.le_of_eq hg.symm)) hb); have n2_ := q_ (Kd.R_below (Kd.R_elderB z28_ gb172 (Nat.le_of_eq hg.symm)) hb); have n3_ := q_ (below_step z0_ hb); have n4_ := q_ (hbox); have n5_ := q_ ((z119_ : w.heap.size ≤ gb172)); have n6_ := q_ ((z119_ : w.heap.size ≤ gb172)); clear HO_3; clear HO_4; clear HO_13; clear HB; have HO_3 := n0_; have HO_4 := n1_; have HO_13 := n2_; have HB := n3_; have BK172 := n4_; have GW172 := n5_; have GE172 := n6_; clear n0_ n1_ n2_ n3_ n4_ n5_ n6_; clear hb hbox hg; obtain ⟨hcz44_0, hcz44_1, hcz44_2, hfz44_0, hfz44_1, hfz44_2⟩ := cs3_ BK172.out) | ((with_reducible refine gate_store (t := 67) (p := 6) rfl ?_); refine store_event (t := 67) (p := 6) (v := ?vo_w45) (w1 := (((w43.setCell ⟨gb172, 0, none⟩ (.int .i64 ((rd_T67 x13_1 x15_1).f0))).setCell ⟨gb172, 1, none⟩ (.int .i64 ((rd_T67 x13_1 x15_1).f1))).setCell ⟨gb172, 2, none⟩ (.int .i64 ((rd_T67 x13_1 x15_1).f2)))) ?hg ?ho ?hn ?hr ?_; (case ho => rfl); (case hg => rfl); (case hn => rfl); (case hr => exact z148_); intro w45 hw; have n0_ : Aside0 (Kd.R k67 67 w45 w.heap.size (fun k_ => some k_ ≠ (u4 : Value).ownBlock ∧ k_ ≠ gb172) (.slice (some ad171) x3_1.length co9) x3_1) := ⟨z140_⟩; have n1_ : Aside0 (Kd.R k67 67 w45 w.heap.size (fun k_ => some k_ ≠ (.slice (some ad171) x3_1.length co9 : Value).ownBlock ∧ some k_ ≠ (.slice (some ad171) x13_1.length co9 : Value).ownBlock ∧ k_ ≠ gb172) u4 x4_1) := ⟨z141_⟩; have n2_ : Aside0 (Kd.R k67 67 w45 w.heap.size (fun k_ => some k_ ≠ (u4 : Value).ownBlock ∧ k_ ≠ gb172) (.slice (some ad171) x13_1.length co9) x13_1) := ⟨z142_⟩; have n3_ : Aside0 (w45.heap[gb172]? = some (.cells #[.int .i64 ((rd_T67 x13_1 x15_1).f0), .int .i64 ((rd_T67 x13_1 x15_1).f1), .int .i64 ((rd_T67 x13_1 x15_1).f2)] 67 (0, 0))) := ⟨z143_⟩; have n4_ : Aside0 (Below w.heap.size w w45) := ⟨z144_⟩; clear hw; clear HO_3; clear HO_4; clear HO_13; clear BK172; clear HB; have HO_3 := n0_; have HO_4 := n1_; have HO_13 := n2_; have BK172 := n3_; have HB := n4_; clear n0_ n1_ n2_ n3_ n4_; have q46 : ((ji13) : Int) ≤ ((x3_1.length : Int) : Int) := of_decide_eq_true z3_; obtain ⟨i046, hi046, _, hsz46, _⟩ := info_parts info67; have hroom46 : x3_1.length ≤ co9 := (Kd.R_reads' HO_3.out).2.1; have hC46 : Kd.C k67 _ (some ad171) x3_1.length x3_1 := (Kd.R_reads' HO_3.out).2.2; have q046 : (0 : Int) ≤ ((ji13) : Int) := of_decide_eq_true z3_; have hcut46 := cut_from (P := Try.prog) 24 67 .i64 Try.underlying24 hi046 3 hsz46 (some ad171) x3_1.length co9 (ji13) q046 q46; have hr46 := Kd.C_drop (m := ((ji13) : Int).toNat) (c := co9) hC46 (by omega) hroom46; obtain ⟨A46, hA46⟩ : ∃ A1, A1 = (if co9 = ((ji13) : Int).toNat then (some ad171) else ((some ad171) : Option Addr).map (·.add (((ji13) : Int).toNat * 3))) := ⟨_, rfl⟩; obtain ⟨c46, hc46⟩ : ∃ c1, c1 = co9 - ((ji13) : Int).toNat := ⟨_, rfl⟩; have hy46 : y173.length = x3_1.length - ((ji13) : Int).toNat := z99_; rw [show (x3_1).drop ((ji13) : Int).toNat = y173 from Ny173.out.symm] at hr46; replace hr46 : Kd.C k67 _ A46 y173.length y173 := (by rw [hA46]; exact hr46); rw [← hy46, ← hA46, ← hc46] at hcut46; (try simp only [hl13_1] at hcut46); have HR176 := q_ hr46; have HC176 := q_ (show y173.length ≤ c46 from by rw [hy46, hc46]; exact Nat.sub_le_sub_right hroom46 _); clear hr46 hC46 hroom46 hi046 hsz46 hc46; have KY46 := q_ hy46; have KA46 := q_ hA46; clear hy46 hA46; have KL46 := q_ (show ((ji13) : Int).toNat ≤ x3_1.length from by omega); replace q46 := eq_true q46) | ((with_reducible refine gate_callee (f := 97) rfl ?_); refine goesL_ (some 25) rfl rfl Try.func97 (by kernel_rfl) rfl #[.slice A46 y173.length c46, .func (.func 98) #[] #[.pointer (some ⟨gb172, 0, none⟩)]] rfl z1_ ?_; (with_reducible refine (slices_ContainsFunc_Msg_98.calls k1 _ _ y173 gb172 ((rd_T67 x13_1 x15_1).f0) ((rd_T67 x13_1 x15_1).f1) ((rd_T67 x13_1 x15_1).f2) false _ ?side1 ?side2 ?side3 A16.out).mono ?_); (case side1 => exact z161_); (case side2 => exact HC176.out); (case side3 => exact z152_); rintro e w47 ⟨rfl, hb⟩; refine ⟨_, rfl, ?_⟩; have n0_ := q_ (Kd.R_below z12_ hb); have n1_ := q_ (Kd.R_below z17_ hb); have n2_ := q_ (Kd.R_below z28_ hb); have n3_ := q_ (blk_below (g := gb172) (o := .cells #[.int .i64 ((rd_T67 x13_1 x15_1).f0), .int .i64 ((rd_T67 x13_1 x15_1).f1), .int .i64 ((rd_T67 x13_1 x15_1).f2)] 67 (0, 0)) z29_ hb); have n4_ := q_ (Kd.C_below z16_ hb); have n5_ := q_ (below_step z8_ hb); clear HO_3; clear HO_4; clear HO_13; clear BK172; clear HR176; clear HB; have HO_3 := n0_; have HO_4 := n1_; have HO_13 := n2_; have BK172 := n3_; have HR176 := n4_; have HB := n5_; clear n0_ n1_ n2_ n3_ n4_ n5_; (try clear hb); (try clear hb2); (try clear hk); (try clear hi); obtain ⟨Ao48, co48, eo48⟩ := Kd.R_slice HO_4.out; subst eo48) | ((with_reducible refine gate_callee (f := 100) rfl ?_); refine goesL_ (some 29) rfl rfl Try.func100 (by kernel_rfl) rfl #[.slice Ao48 x4_1.length co48, .func (.func 101) #[] #[.pointer (some ⟨gb172, 0, none⟩)]] rfl z1_ ?_; (with_reducible refine (slices_IndexFunc_Msg_101.calls k1 _ _ x4_1 gb172 ((rd_T67 x13_1 x15_1).f0) ((rd_T67 x13_1 x15_1).f1) ((rd_T67 x13_1 x15_1).f2) t178 _ ?side1 ?side2 ?side3 A23.out).mono ?_); (case side1 => exact z154_); (case side2 => exact z178_); (case side3 => exact z152_); rintro e w49 ⟨rfl, hb⟩; refine ⟨_, rfl, ?_⟩; have n0_ := q_ (Kd.R_below z12_ hb); have n1_ := q_ (Kd.R_below z17_ hb); have n2_ := q_ (Kd.R_below z28_ hb); have n3_ := q_ (blk_below (g := gb172) (o := .cells #[.int .i64 ((rd_T67 x13_1 x15_1).f0), .int .i64 ((rd_T67 x13_1 x15_1).f1), .int .i64 ((rd_T67 x13_1 x15_1).f2)] 67 (0, 0)) z29_ hb); have n4_ := q_ (Kd.C_below z16_ hb); have n5_ := q_ (below_step z8_ hb); clear HO_3; clear HO_4; clear HO_13; clear BK172; clear HR176; clear HB; have HO_3 := n0_; have HO_4 := n1_; have HO_13 := n2_; have BK172 := n3_; have HR176 := n4_; have HB := n5_; clear n0_ n1_ n2_ n3_ n4_ n5_; (try clear hb); (try clear hb2); (try clear hk); (try clear hi); obtain ⟨hcz50_0, hcz50_1, hcz50_2, hfz50_0, hfz50_1, hfz50_2⟩ := cs3_ BK172.out; have p179 : 0 ≤ (t178 : Int) := of_decide_eq_true z3_; have q179 : t178 < (x4_1.length : Int) := of_decide_eq_true z3_; obtain ⟨ad179, e179, hx179_0, hx179_1, hx179_2⟩ := at_T67 (Kd.R_reads' HO_4.out).2.2 t178 p179 q179; cases e179; replace p179 := eq_true p179; replace q179 := eq_true q179) | ((with_reducible refine gate_builtin (b := .append) (xs := #[.tmp 58, .tmp 60]) rfl ?_); at_builtin; refine Kd.R_append k67 (w0 := w) w.heap.size rfl (.tmp 58) (.tmp 60) 24 67 (.agg #[(.int .i64 0), (.int .i64 0), (.int .i64 0)]) 24 rfl Try.underlying24 info67 rfl (by decide) (by omega) (.slice (some ad179) x4_1.length co48) x4_1 (⟨(rd_T67 x13_1 x15_1).f0, (rd_T67 x13_1 x15_1).f1, (rd_T67 x13_1 x15_1).f2⟩ : S67) [.int .i64 ((rd_T67 x13_1 x15_1).f0), .int .i64 ((rd_T67 x13_1 x15_1).f1), .int .i64 ((rd_T67 x13_1 x15_1).f2)] (fun k_ => some k_ ≠ (.slice (some ad171) x3_1.length co9 : Value).ownBlock ∧ some k_ ≠ (.slice (some ad171) x13_1.length co9 : Value).ownBlock ∧ k_ ≠ gb172) (fun _ => False) rfl rfl ?aP (fun _ hk => hk.elim) ?aF ?aO ?aB ?aS ?aL ?_; (case aP => exact z175_); (case aB => exact z8_); (case aF => exact z160_); (case aO => exact z17_); (case aS => exact (below_size z8_)); (case aL => have := LMc42.out; omega); intro v184 w51 ho hb hg hat; rw [← Ny183.out] at ho; have n0_ := q_ (Kd.R_after (ok := (fun k_ => k_ ≠ gb172)) z49_ hg hat); have n1_ := q_ (Kd.R_after (ok := (fun k_ => k_ ≠ gb172)) z82_ hg hat); have n2_ := q_ (blk_grown (g := gb172) (o := .cells #[.int .i64 ((rd_T67 x13_1 x15_1).f0), .int .i64 ((rd_T67 x13_1 x15_1).f1), .int .i64 ((rd_T67 x13_1 x15_1).f2)] 67 (0, 0)) z29_ hg (Kd.R_away HO_4.out (fun _ hk => hk.2.2))); have n3_ := q_ (hb); have n4_ := q_ ((show Kd.C k67 w51 A46 y173.length y173 from by rw [Ny173.out, KA46.out]; exact Kd.C_drop (m := ((ji13) : Int).toNat) (c := co9) ((Kd.R_reads' (Kd.R_after (ok := (fun k_ => k_ ≠ gb172)) z49_ hg hat)).2.2) KL46.out ((Kd.R_reads' (Kd.R_after (ok := (fun k_ => k_ ≠ gb172)) z49_ hg hat)).2.1))); have n5_ := q_ (ho); clear HO_3; clear HO_13; clear BK172; clear HB; clear HR176; clear HO_4; have HO_3 := n0_; have HO_13 := n1_; have BK172 := n2_; have HB := n3_; have HR176 := n4_; have HO185 := n5_; clear n0_ n1_ n2_ n3_ n4_ n5_; clear ho hb hg hat))
               (try simp only [← hl3_1, ← hl13_1])
               go_roundg k1
               case measure => have := HK1.out; omega
               case rel => (try simp only [hl13_1] at HO_3); exact ⟨(x3_1), (y183), (x13_1), (ji13), z81_, H', ⟨z74_⟩, ⟨z78_⟩, ⟨by (try simp only [hl3_1]); (try simp only [hl13_1]); (with_reducible repeat (first | apply Kd.R_alloc | apply Kd.R_drewN | apply Kd.R_drew)); exact Kd.R_mono HO185.out (fun _ hk => ⟨hk.1, hk.2.1⟩)⟩, ⟨z77_⟩, ⟨z8_⟩⟩
              ·rw [if_neg c42] at H
               exact absurd H (by simp)
            ·rw [if_neg c27] at H
             exact absurd H (by simp)
           ·rw [if_neg c26] at H
            exact absurd H (by simp)
          ·rw [if_neg c25] at H
           have c25b0 : decide (0 ≤ t178) = false := decide_eq_false c25
           clear c25
           by_cases c52 : x4_1.length < 5864062014805
           ·rw [if_pos c52] at H
            have LMc52 := q_ c52
            clear c52
            obtain ⟨y186, hy186⟩ : ∃ y_ : List (S67), y_ = (x4_1 ++ [(⟨(rd_T67 x13_1 x15_1).f0, (rd_T67 x13_1 x15_1).f1, (rd_T67 x13_1 x15_1).f2⟩ : S67)]) := ⟨_, rfl⟩
            replace H : (impl_Shrink.l0 k1 x3_1 y186 x13_1 (t165.length : Int) ji13) = some r := by first | (rw [hy186]; with_reducible exact H) | (have H2_ := (Option.bind_some _ _).symm.trans H; rw [hy186]; with_reducible exact H2_) | (have H2_ := (Option.bind_some _ _).symm.trans H; with_reducible exact H2_) | with_reducible exact H | (rw [hy186]; exact H) | exact H
            have Ny186 := q_ hy186
            clear hy186
            have H' := q_ H
            clear H
            have p171 : 0 ≤ (x15_1 : Int) := of_decide_eq_true z3_
            have q171 : x15_1 < (x13_1.length : Int) := of_decide_eq_true z3_
            obtain ⟨ad171, e171, hx171_0, hx171_1, hx171_2⟩ := at_T67 (Kd.R_reads' HO_13.out).2.2 x15_1 p171 q171
            cases e171
            replace p171 := eq_true p171
            replace q171 := eq_true q171
            go_wp2_with (first | ((with_reducible refine gate_dst (N := 6) rfl ?_); refine box_event ?hg (N := 6) ?hd (cs := #[.int .i64 0, .int .i64 0, .int .i64 0]) (t := 67) ?hr ?_; (case hd => rfl); (case hg => rfl); (case hr => exact z148_); intro gb172 hg w53 hbox hb; have n0_ := q_ (Kd.R_below (Kd.R_elderB z12_ gb172 (Nat.le_of_eq hg.symm)) hb); have n1_ := q_ (Kd.R_below (Kd.R_elderB z17_ gb172 (Nat.le_of_eq hg.symm)) hb); have n2_ := q_ (Kd.R_below (Kd.R_elderB z28_ gb172 (Nat.le_of_eq hg.symm)) hb); have n3_ := q_ (below_step z0_ hb); have n4_ := q_ (hbox); have n5_ := q_ ((z119_ : w.heap.size ≤ gb172)); have n6_ := q_ ((z119_ : w.heap.size ≤ gb172)); clear HO_3; clear HO_4; clear HO_13; clear HB; have HO_3 := n0_; have HO_4 := n1_; have HO_13 := n2_; have HB := n3_; have BK172 := n4_; have GW172 := n5_; have GE172 := n6_; clear n0_ n1_ n2_ n3_ n4_ n5_ n6_; clear hb hbox hg; obtain ⟨hcz54_0, hcz54_1, hcz54_2, hfz54_0, hfz54_1, hfz54_2⟩ := cs3_ BK172.out) | ((with_reducible refine gate_store (t := 67) (p := 6) rfl ?_); refine store_event (t := 67) (p := 6) (v := ?vo_w55) (w1 := (((w53.setCell ⟨gb172, 0, none⟩ (.int .i64 ((rd_T67 x13_1 x15_1).f0))).setCell ⟨gb172, 1, none⟩ (.int .i64 ((rd_T67 x13_1 x15_1).f1))).setCell ⟨gb172, 2, none⟩ (.int .i64 ((rd_T67 x13_1 x15_1).f2)))) ?hg ?ho ?hn ?hr ?_; (case ho => rfl); (case hg => rfl); (case hn => rfl); (case hr => exact z148_); intro w55 hw; have n0_ : Aside0 (Kd.R k67 67 w55 w.heap.size (fun k_ => some k_ ≠ (u4 : Value).ownBlock ∧ k_ ≠ gb172) (.slice (some ad171) x3_1.length co9) x3_1) := ⟨z140_⟩; have n1_ : Aside0 (Kd.R k67 67 w55 w.heap.size (fun k_ => some k_ ≠ (.slice (some ad171) x3_1.length co9 : Value).ownBlock ∧ some k_ ≠ (.slice (some ad171) x13_1.length co9 : Value).ownBlock ∧ k_ ≠ gb172) u4 x4_1) := ⟨z141_⟩; have n2_ : Aside0 (Kd.R k67 67 w55 w.heap.size (fun k_ => some k_ ≠ (u4 : Value).ownBlock ∧ k_ ≠ gb172) (.slice (some ad171) x13_1.length co9) x13_1) := ⟨z142_⟩; have n3_ : Aside0 (w55.heap[gb172]? = some (.cells #[.int .i64 ((rd_T67 x13_1 x15_1).f0), .int .i64 ((rd_T67 x13_1 x15_1).f1), .int .i64 ((rd_T67 x13_1 x15_1).f2)] 67 (0, 0))) := ⟨z143_⟩; have n4_ : Aside0 (Below w.heap.size w w55) := ⟨z144_⟩; clear hw; clear HO_3; clear HO_4; clear HO_13; clear BK172; clear HB; have HO_3 := n0_; have HO_4 := n1_; have HO_13 := n2_; have BK172 := n3_; have HB := n4_; clear n0_ n1_ n2_ n3_ n4_; have q56 : ((ji13) : Int) ≤ ((x3_1.length : Int) : Int) := of_decide_eq_true z3_; obtain ⟨i056, hi056, _, hsz56, _⟩ := info_parts info67; have hroom56 : x3_1.length ≤ co9 := (Kd.R_reads' HO_3.out).2.1; have hC56 : Kd.C k67 _ (some ad171) x3_1.length x3_1 := (Kd.R_reads' HO_3.out).2.2; have q056 : (0 : Int) ≤ ((ji13) : Int) := of_decide_eq_true z3_; have hcut56 := cut_from (P := Try.prog) 24 67 .i64 Try.underlying24 hi056 3 hsz56 (some ad171) x3_1.length co9 (ji13) q056 q56; have hr56 := Kd.C_drop (m := ((ji13) : Int).toNat) (c := co9) hC56 (by omega) hroom56; obtain ⟨A56, hA56⟩ : ∃ A1, A1 = (if co9 = ((ji13) : Int).toNat then (some ad171) else ((some ad171) : Option Addr).map (·.add (((ji13) : Int).toNat * 3))) := ⟨_, rfl⟩; obtain ⟨c56, hc56⟩ : ∃ c1, c1 = co9 - ((ji13) : Int).toNat := ⟨_, rfl⟩; have hy56 : y173.length = x3_1.length - ((ji13) : Int).toNat := z99_; rw [show (x3_1).drop ((ji13) : Int).toNat = y173 from Ny173.out.symm] at hr56; replace hr56 : Kd.C k67 _ A56 y173.length y173 := (by rw [hA56]; exact hr56); rw [← hy56, ← hA56, ← hc56] at hcut56; (try simp only [hl13_1] at hcut56); have HR176 := q_ hr56; have HC176 := q_ (show y173.length ≤ c56 from by rw [hy56, hc56]; exact Nat.sub_le_sub_right hroom56 _); clear hr56 hC56 hroom56 hi056 hsz56 hc56; have KY56 := q_ hy56; have KA56 := q_ hA56; clear hy56 hA56; have KL56 := q_ (show ((ji13) : Int).toNat ≤ x3_1.length from by omega); replace q56 := eq_true q56) | ((with_reducible refine gate_callee (f := 97) rfl ?_); refine goesL_ (some 25) rfl rfl Try.func97 (by kernel_rfl) rfl #[.slice A56 y173.length c56, .func (.func 98) #[] #[.pointer (some ⟨gb172, 0, none⟩)]] rfl z1_ ?_; (with_reducible refine (slices_ContainsFunc_Msg_98.calls k1 _ _ y173 gb172 ((rd_T67 x13_1 x15_1).f0) ((rd_T67 x13_1 x15_1).f1) ((rd_T67 x13_1 x15_1).f2) false _ ?side1 ?side2 ?side3 A16.out).mono ?_); (case side1 => exact z161_); (case side2 => exact HC176.out); (case side3 => exact z152_); rintro e w57 ⟨rfl, hb⟩; refine ⟨_, rfl, ?_⟩; have n0_ := q_ (Kd.R_below z12_ hb); have n1_ := q_ (Kd.R_below z17_ hb); have n2_ := q_ (Kd.R_below z28_ hb); have n3_ := q_ (blk_below (g := gb172) (o := .cells #[.int .i64 ((rd_T67 x13_1 x15_1).f0), .int .i64 ((rd_T67 x13_1 x15_1).f1), .int .i64 ((rd_T67 x13_1 x15_1).f2)] 67 (0, 0)) z29_ hb); have n4_ := q_ (Kd.C_below z16_ hb); have n5_ := q_ (below_step z8_ hb); clear HO_3; clear HO_4; clear HO_13; clear BK172; clear HR176; clear HB; have HO_3 := n0_; have HO_4 := n1_; have HO_13 := n2_; have BK172 := n3_; have HR176 := n4_; have HB := n5_; clear n0_ n1_ n2_ n3_ n4_ n5_; (try clear hb); (try clear hb2); (try clear hk); (try clear hi); obtain ⟨Ao58, co58, eo58⟩ := Kd.R_slice HO_4.out; subst eo58) | ((with_reducible refine gate_callee (f := 100) rfl ?_); refine goesL_ (some 29) rfl rfl Try.func100 (by kernel_rfl) rfl #[.slice Ao58 x4_1.length co58, .func (.func 101) #[] #[.pointer (some ⟨gb172, 0, none⟩)]] rfl z1_ ?_; (with_reducible refine (slices_IndexFunc_Msg_101.calls k1 _ _ x4_1 gb172 ((rd_T67 x13_1 x15_1).f0) ((rd_T67 x13_1 x15_1).f1) ((rd_T67 x13_1 x15_1).f2) t178 _ ?side1 ?side2 ?side3 A23.out).mono ?_); (case side1 => exact z154_); (case side2 => exact z178_); (case side3 => exact z152_); rintro e w59 ⟨rfl, hb⟩; refine ⟨_, rfl, ?_⟩; have n0_ := q_ (Kd.R_below z12_ hb); have n1_ := q_ (Kd.R_below z17_ hb); have n2_ := q_ (Kd.R_below z28_ hb); have n3_ := q_ (blk_below (g := gb172) (o := .cells #[.int .i64 ((rd_T67 x13_1 x15_1).f0), .int .i64 ((rd_T67 x13_1 x15_1).f1), .int .i64 ((rd_T67 x13_1 x15_1).f2)] 67 (0, 0)) z29_ hb); have n4_ := q_ (Kd.C_below z16_ hb); have n5_ := q_ (below_step z8_ hb); clear HO_3; clear HO_4; clear HO_13; clear BK172; clear HR176; clear HB; have HO_3 := n0_; have HO_4 := n1_; have HO_13 := n2_; have BK172 := n3_; have HR176 := n4_; have HB := n5_; clear n0_ n1_ n2_ n3_ n4_ n5_; (try clear hb); (try clear hb2); (try clear hk); (try clear hi); obtain ⟨hcz60_0, hcz60_1, hcz60_2, hfz60_0, hfz60_1, hfz60_2⟩ := cs3_ BK172.out) | ((with_reducible refine gate_builtin (b := .append) (xs := #[.tmp 58, .tmp 60]) rfl ?_); at_builtin; refine Kd.R_append k67 (w0 := w) w.heap.size rfl (.tmp 58) (.tmp 60) 24 67 (.agg #[(.int .i64 0), (.int .i64 0), (.int .i64 0)]) 24 rfl Try.underlying24 info67 rfl (by decide) (by omega) (.slice Ao58 x4_1.length co58) x4_1 (⟨(rd_T67 x13_1 x15_1).f0, (rd_T67 x13_1 x15_1).f1, (rd_T67 x13_1 x15_1).f2⟩ : S67) [.int .i64 ((rd_T67 x13_1 x15_1).f0), .int .i64 ((rd_T67 x13_1 x15_1).f1), .int .i64 ((rd_T67 x13_1 x15_1).f2)] (fun k_ => some k_ ≠ (.slice (some ad171) x3_1.length co9 : Value).ownBlock ∧ some k_ ≠ (.slice (some ad171) x13_1.length co9 : Value).ownBlock ∧ k_ ≠ gb172) (fun _ => False) rfl rfl ?aP (fun _ hk => hk.elim) ?aF ?aO ?aB ?aS ?aL ?_; (case aP => exact z175_); (case aB => exact z8_); (case aF => exact z160_); (case aO => exact z17_); (case aS => exact (below_size z8_)); (case aL => have := LMc52.out; omega); intro v187 w61 ho hb hg hat; rw [← Ny186.out] at ho; have n0_ := q_ (Kd.R_after (ok := (fun k_ => k_ ≠ gb172)) z49_ hg hat); have n1_ := q_ (Kd.R_after (ok := (fun k_ => k_ ≠ gb172)) z82_ hg hat); have n2_ := q_ (blk_grown (g := gb172) (o := .cells #[.int .i64 ((rd_T67 x13_1 x15_1).f0), .int .i64 ((rd_T67 x13_1 x15_1).f1), .int .i64 ((rd_T67 x13_1 x15_1).f2)] 67 (0, 0)) z29_ hg (Kd.R_away HO_4.out (fun _ hk => hk.2.2))); have n3_ := q_ (hb); have n4_ := q_ ((show Kd.C k67 w61 A56 y173.length y173 from by rw [Ny173.out, KA56.out]; exact Kd.C_drop (m := ((ji13) : Int).toNat) (c := co9) ((Kd.R_reads' (Kd.R_after (ok := (fun k_ => k_ ≠ gb172)) z49_ hg hat)).2.2) KL56.out ((Kd.R_reads' (Kd.R_after (ok := (fun k_ => k_ ≠ gb172)) z49_ hg hat)).2.1))); have n5_ := q_ (ho); clear HO_3; clear HO_13; clear BK172; clear HB; clear HR176; clear HO_4; have HO_3 := n0_; have HO_13 := n1_; have BK172 := n2_; have HB := n3_; have HR176 := n4_; have HO188 := n5_; clear n0_ n1_ n2_ n3_ n4_ n5_; clear ho hb hg hat))
            (try simp only [← hl3_1, ← hl13_1])
            go_roundg k1
            case measure => have := HK1.out; omega
            case rel => (try simp only [hl13_1] at HO_3); exact ⟨(x3_1), (y186), (x13_1), (ji13), z81_, H', ⟨z74_⟩, ⟨z78_⟩, ⟨by (try simp only [hl3_1]); (try simp only [hl13_1]); (with_reducible repeat (first | apply Kd.R_alloc | apply Kd.R_drewN | apply Kd.R_drew)); exact Kd.R_mono HO188.out (fun _ hk => ⟨hk.1, hk.2.1⟩)⟩, ⟨z77_⟩, ⟨z8_⟩⟩
           ·rw [if_neg c52] at H
            exact absurd H (by simp)
         ·rw [if_neg c24] at H
          have c24b0 : (((rd_T67 x13_1 x15_1).f0) == 3) = false := beq_eq_false_iff_ne.mpr c24
          have c24b1 : (((rd_T67 x13_1 x15_1).f0) != 3) = true := bne_iff_ne.mpr c24
          by_cases c62 : x4_1.length < 5864062014805
          ·rw [if_pos c62] at H
           have LMc62 := q_ c62
           clear c62
           obtain ⟨y189, hy189⟩ : ∃ y_ : List (S67), y_ = (x4_1 ++ [(⟨(rd_T67 x13_1 x15_1).f0, (rd_T67 x13_1 x15_1).f1, (rd_T67 x13_1 x15_1).f2⟩ : S67)]) := ⟨_, rfl⟩
           replace H : (impl_Shrink.l0 k1 x3_1 y189 x13_1 (t165.length : Int) ji13) = some r := by first | (rw [hy189]; with_reducible exact H) | (have H2_ := (Option.bind_some _ _).symm.trans H; rw [hy189]; with_reducible exact H2_) | (have H2_ := (Option.bind_some _ _).symm.trans H; with_reducible exact H2_) | with_reducible exact H | (rw [hy189]; exact H) | exact H
           have Ny189 := q_ hy189
           clear hy189
           have H' := q_ H
           clear H
           have p171 : 0 ≤ (x15_1 : Int) := of_decide_eq_true z3_
           have q171 : x15_1 < (x13_1.length : Int) := of_decide_eq_true z3_
           obtain ⟨ad171, e171, hx171_0, hx171_1, hx171_2⟩ := at_T67 (Kd.R_reads' HO_13.out).2.2 x15_1 p171 q171
           cases e171
           replace p171 := eq_true p171
           replace q171 := eq_true q171
           go_wp2_with (first | ((with_reducible refine gate_dst (N := 6) rfl ?_); refine box_event ?hg (N := 6) ?hd (cs := #[.int .i64 0, .int .i64 0, .int .i64 0]) (t := 67) ?hr ?_; (case hd => rfl); (case hg => rfl); (case hr => exact z148_); intro gb172 hg w63 hbox hb; have n0_ := q_ (Kd.R_below (Kd.R_elderB z12_ gb172 (Nat.le_of_eq hg.symm)) hb); have n1_ := q_ (Kd.R_below (Kd.R_elderB z17_ gb172 (Nat.le_of_eq hg.symm)) hb); have n2_ := q_ (Kd.R_below (Kd.R_elderB z28_ gb172 (Nat.le_of_eq hg.symm)) hb); have n3_ := q_ (below_step z0_ hb); have n4_ := q_ (hbox); have n5_ := q_ ((z119_ : w.heap.size ≤ gb172)); have n6_ := q_ ((z119_ : w.heap.size ≤ gb172)); clear HO_3; clear HO_4; clear HO_13; clear HB; have HO_3 := n0_; have HO_4 := n1_; have HO_13 := n2_; have HB := n3_; have BK172 := n4_; have GW172 := n5_; have GE172 := n6_; clear n0_ n1_ n2_ n3_ n4_ n5_ n6_; clear hb hbox hg; obtain ⟨hcz64_0, hcz64_1, hcz64_2, hfz64_0, hfz64_1, hfz64_2⟩ := cs3_ BK172.out) | ((with_reducible refine gate_store (t := 67) (p := 6) rfl ?_); refine store_event (t := 67) (p := 6) (v := ?vo_w65) (w1 := (((w63.setCell ⟨gb172, 0, none⟩ (.int .i64 ((rd_T67 x13_1 x15_1).f0))).setCell ⟨gb172, 1, none⟩ (.int .i64 ((rd_T67 x13_1 x15_1).f1))).setCell ⟨gb172, 2, none⟩ (.int .i64 ((rd_T67 x13_1 x15_1).f2)))) ?hg ?ho ?hn ?hr ?_; (case ho => rfl); (case hg => rfl); (case hn => rfl); (case hr => exact z148_); intro w65 hw; have n0_ : Aside0 (Kd.R k67 67 w65 w.heap.size (fun k_ => some k_ ≠ (u4 : Value).ownBlock ∧ k_ ≠ gb172) (.slice (some ad171) x3_1.length co9) x3_1) := ⟨z140_⟩; have n1_ : Aside0 (Kd.R k67 67 w65 w.heap.size (fun k_ => some k_ ≠ (.slice (some ad171) x3_1.length co9 : Value).ownBlock ∧ some k_ ≠ (.slice (some ad171) x13_1.length co9 : Value).ownBlock ∧ k_ ≠ gb172) u4 x4_1) := ⟨z141_⟩; have n2_ : Aside0 (Kd.R k67 67 w65 w.heap.size (fun k_ => some k_ ≠ (u4 : Value).ownBlock ∧ k_ ≠ gb172) (.slice (some ad171) x13_1.length co9) x13_1) := ⟨z142_⟩; have n3_ : Aside0 (w65.heap[gb172]? = some (.cells #[.int .i64 ((rd_T67 x13_1 x15_1).f0), .int .i64 ((rd_T67 x13_1 x15_1).f1), .int .i64 ((rd_T67 x13_1 x15_1).f2)] 67 (0, 0))) := ⟨z143_⟩; have n4_ : Aside0 (Below w.heap.size w w65) := ⟨z144_⟩; clear hw; clear HO_3; clear HO_4; clear HO_13; clear BK172; clear HB; have HO_3 := n0_; have HO_4 := n1_; have HO_13 := n2_; have BK172 := n3_; have HB := n4_; clear n0_ n1_ n2_ n3_ n4_; have q66 : ((ji13) : Int) ≤ ((x3_1.length : Int) : Int) := of_decide_eq_true z3_; obtain ⟨i066, hi066, _, hsz66, _⟩ := info_parts info67; have hroom66 : x3_1.length ≤ co9 := (Kd.R_reads' HO_3.out).2.1; have hC66 : Kd.C k67 _ (some ad171) x3_1.length x3_1 := (Kd.R_reads' HO_3.out).2.2; have q066 : (0 : Int) ≤ ((ji13) : Int) := of_decide_eq_true z3_; have hcut66 := cut_from (P := Try.prog) 24 67 .i64 Try.underlying24 hi066 3 hsz66 (some ad171) x3_1.length co9 (ji13) q066 q66; have hr66 := Kd.C_drop (m := ((ji13) : Int).toNat) (c := co9) hC66 (by omega) hroom66; obtain ⟨A66, hA66⟩ : ∃ A1, A1 = (if co9 = ((ji13) : Int).toNat then (some ad171) else ((some ad171) : Option Addr).map (·.add (((ji13) : Int).toNat * 3))) := ⟨_, rfl⟩; obtain ⟨c66, hc66⟩ : ∃ c1, c1 = co9 - ((ji13) : Int).toNat := ⟨_, rfl⟩; have hy66 : y173.length = x3_1.length - ((ji13) : Int).toNat := z99_; rw [show (x3_1).drop ((ji13) : Int).toNat = y173 from Ny173.out.symm] at hr66; replace hr66 : Kd.C k67 _ A66 y173.length y173 := (by rw [hA66]; exact hr66); rw [← hy66, ← hA66, ← hc66] at hcut66; (try simp only [hl13_1] at hcut66); have HR176 := q_ hr66; have HC176 := q_ (show y173.length ≤ c66 from by rw [hy66, hc66]; exact Nat.sub_le_sub_right hroom66 _); clear hr66 hC66 hroom66 hi066 hsz66 hc66; have KY66 := q_ hy66; have KA66 := q_ hA66; clear hy66 hA66; have KL66 := q_ (show ((ji13) : Int).toNat ≤ x3_1.length from by omega); replace q66 := eq_true q66) | ((with_reducible refine gate_callee (f := 97) rfl ?_); refine goesL_ (some 25) rfl rfl Try.func97 (by kernel_rfl) rfl #[.slice A66 y173.length c66, .func (.func 98) #[] #[.pointer (some ⟨gb172, 0, none⟩)]] rfl z1_ ?_; (with_reducible refine (slices_ContainsFunc_Msg_98.calls k1 _ _ y173 gb172 ((rd_T67 x13_1 x15_1).f0) ((rd_T67 x13_1 x15_1).f1) ((rd_T67 x13_1 x15_1).f2) false _ ?side1 ?side2 ?side3 A16.out).mono ?_); (case side1 => exact z161_); (case side2 => exact HC176.out); (case side3 => exact z152_); rintro e w67 ⟨rfl, hb⟩; refine ⟨_, rfl, ?_⟩; have n0_ := q_ (Kd.R_below z12_ hb); have n1_ := q_ (Kd.R_below z17_ hb); have n2_ := q_ (Kd.R_below z28_ hb); have n3_ := q_ (blk_below (g := gb172) (o := .cells #[.int .i64 ((rd_T67 x13_1 x15_1).f0), .int .i64 ((rd_T67 x13_1 x15_1).f1), .int .i64 ((rd_T67 x13_1 x15_1).f2)] 67 (0, 0)) z29_ hb); have n4_ := q_ (Kd.C_below z16_ hb); have n5_ := q_ (below_step z8_ hb); clear HO_3; clear HO_4; clear HO_13; clear BK172; clear HR176; clear HB; have HO_3 := n0_; have HO_4 := n1_; have HO_13 := n2_; have BK172 := n3_; have HR176 := n4_; have HB := n5_; clear n0_ n1_ n2_ n3_ n4_ n5_; (try clear hb); (try clear hb2); (try clear hk); (try clear hi); obtain ⟨Ao68, co68, eo68⟩ := Kd.R_slice HO_4.out; subst eo68) | ((with_reducible refine gate_callee (f := 100) rfl ?_); refine goesL_ (some 29) rfl rfl Try.func100 (by kernel_rfl) rfl #[.slice Ao68 x4_1.length co68, .func (.func 101) #[] #[.pointer (some ⟨gb172, 0, none⟩)]] rfl z1_ ?_; (with_reducible refine (slices_IndexFunc_Msg_101.calls k1 _ _ x4_1 gb172 ((rd_T67 x13_1 x15_1).f0) ((rd_T67 x13_1 x15_1).f1) ((rd_T67 x13_1 x15_1).f2) t178 _ ?side1 ?side2 ?side3 A23.out).mono ?_); (case side1 => exact z154_); (case side2 => exact z178_); (case side3 => exact z152_); rintro e w69 ⟨rfl, hb⟩; refine ⟨_, rfl, ?_⟩; have n0_ := q_ (Kd.R_below z12_ hb); have n1_ := q_ (Kd.R_below z17_ hb); have n2_ := q_ (Kd.R_below z28_ hb); have n3_ := q_ (blk_below (g := gb172) (o := .cells #[.int .i64 ((rd_T67 x13_1 x15_1).f0), .int .i64 ((rd_T67 x13_1 x15_1).f1), .int .i64 ((rd_T67 x13_1 x15_1).f2)] 67 (0, 0)) z29_ hb); have n4_ := q_ (Kd.C_below z16_ hb); have n5_ := q_ (below_step z8_ hb); clear HO_3; clear HO_4; clear HO_13; clear BK172; clear HR176; clear HB; have HO_3 := n0_; have HO_4 := n1_; have HO_13 := n2_; have BK172 := n3_; have HR176 := n4_; have HB := n5_; clear n0_ n1_ n2_ n3_ n4_ n5_; (try clear hb); (try clear hb2); (try clear hk); (try clear hi); obtain ⟨hcz70_0, hcz70_1, hcz70_2, hfz70_0, hfz70_1, hfz70_2⟩ := cs3_ BK172.out) | ((with_reducible refine gate_builtin (b := .append) (xs := #[.tmp 58, .tmp 60]) rfl ?_); at_builtin; refine Kd.R_append k67 (w0 := w) w.heap.size rfl (.tmp 58) (.tmp 60) 24 67 (.agg #[(.int .i64 0), (.int .i64 0), (.int .i64 0)]) 24 rfl Try.underlying24 info67 rfl (by decide) (by omega) (.slice Ao68 x4_1.length co68) x4_1 (⟨(rd_T67 x13_1 x15_1).f0, (rd_T67 x13_1 x15_1).f1, (rd_T67 x13_1 x15_1).f2⟩ : S67) [.int .i64 ((rd_T67 x13_1 x15_1).f0), .int .i64 ((rd_T67 x13_1 x15_1).f1), .int .i64 ((rd_T67 x13_1 x15_1).f2)] (fun k_ => some k_ ≠ (.slice (some ad171) x3_1.length co9 : Value).ownBlock ∧ some k_ ≠ (.slice (some ad171) x13_1.length co9 : Value).ownBlock ∧ k_ ≠ gb172) (fun _ => False) rfl rfl ?aP (fun _ hk => hk.elim) ?aF ?aO ?aB ?aS ?aL ?_; (case aP => exact z175_); (case aB => exact z8_); (case aF => exact z160_); (case aO => exact z17_); (case aS => exact (below_size z8_)); (case aL => have := LMc62.out; omega); intro v190 w71 ho hb hg hat; rw [← Ny189.out] at ho; have n0_ := q_ (Kd.R_after (ok := (fun k_ => k_ ≠ gb172)) z49_ hg hat); have n1_ := q_ (Kd.R_after (ok := (fun k_ => k_ ≠ gb172)) z82_ hg hat); have n2_ := q_ (blk_grown (g := gb172) (o := .cells #[.int .i64 ((rd_T67 x13_1 x15_1).f0), .int .i64 ((rd_T67 x13_1 x15_1).f1), .int .i64 ((rd_T67 x13_1 x15_1).f2)] 67 (0, 0)) z29_ hg (Kd.R_away HO_4.out (fun _ hk => hk.2.2))); have n3_ := q_ (hb); have n4_ := q_ ((show Kd.C k67 w71 A66 y173.length y173 from by rw [Ny173.out, KA66.out]; exact Kd.C_drop (m := ((ji13) : Int).toNat) (c := co9) ((Kd.R_reads' (Kd.R_after (ok := (fun k_ => k_ ≠ gb172)) z49_ hg hat)).2.2) KL66.out ((Kd.R_reads' (Kd.R_after (ok := (fun k_ => k_ ≠ gb172)) z49_ hg hat)).2.1))); have n5_ := q_ (ho); clear HO_3; clear HO_13; clear BK172; clear HB; clear HR176; clear HO_4; have HO_3 := n0_; have HO_13 := n1_; have BK172 := n2_; have HB := n3_; have HR176 := n4_; have HO191 := n5_; clear n0_ n1_ n2_ n3_ n4_ n5_; clear ho hb hg hat))
           (try simp only [← hl3_1, ← hl13_1])
           go_roundg k1
           case measure => have := HK1.out; omega
           case rel => (try simp only [hl13_1] at HO_3); exact ⟨(x3_1), (y189), (x13_1), (ji13), z81_, H', ⟨z74_⟩, ⟨z78_⟩, ⟨by (try simp only [hl3_1]); (try simp only [hl13_1]); (with_reducible repeat (first | apply Kd.R_alloc | apply Kd.R_drewN | apply Kd.R_drew)); exact Kd.R_mono HO191.out (fun _ hk => ⟨hk.1, hk.2.1⟩)⟩, ⟨z77_⟩, ⟨z8_⟩⟩
          ·rw [if_neg c62] at H
           exact absurd H (by simp)
       ·rw [if_neg c15] at H
        exact absurd H (by simp)
      ·rw [if_neg c14] at H
       exact absurd H (by simp)
     ·rw [if_neg c12] at H
      exact absurd H (by simp)
    ·rw [if_neg c11] at H
     exact absurd H (by simp)
   ·rw [if_neg c10] at H
    have c10b0 : decide (x15_1 < (t165.length : Int)) = false := decide_eq_false c10
    (try simp only [hl3_1, hl13_1] at c10b0)
    clear c10
    obtain rfl := Option.some.inj H
    go_wp2
    go_ret
    exact ⟨_, z5_, by (with_reducible repeat (first | apply Kd.R_alloc | apply Kd.R_drewN | apply Kd.R_drew)); exact Kd.R_mono HO_4.out (fun _ hk => trivial), z0_⟩

/-! ### laws_big: function 34 -/
def laws_big.f (l0 : List Int) : Option (Bool) := some (decide ((l0.length : Int) > 1048576))
set_option maxHeartbeats 8000000 in
set_option maxRecDepth 100000 in
theorem laws_big.calls (A0 : Option Addr) (c0 : Nat) (l0 : List Int) (r : Bool) (w : World) (hr0 : Kd.C (Kd.int .u8) w A0 l0.length l0) (hc0 : l0.length ≤ c0) (h : laws_big.f l0 = some r) :
  Calls Try.prog 34 #[.slice A0 l0.length c0] w fun e w' => e = .returned (.bool r) ∧ Drawn0 w w' := by
 have HR0 := q_ hr0
 have HC0 := q_ hc0
 clear hr0 hc0
 have H : (some (decide ((l0.length : Int) > 1048576))) = some r := h
 clear h
 obtain rfl := Option.some.inj H
 go_enter Try.func34, Try.ntmps34
 go_wp2
 go_ret
 exact ⟨z7_, z34_⟩

/-! ### laws_samePairs: function 56 -/
def laws_samePairs.l0 : Nat → List (S147) → List (S147) → Int → Option (Bool)
 | 0, _, _, _ => none
 | k + 1, x0, x1, x5 => if x5 < (x0.length : Int) then (if 0 ≤ x5 then (if x5 < (x1.length : Int) then (if (!(((rd_T147 x0 x5).f0) == ((rd_T147 x1 x5).f0)) || (!(((rd_T147 x0 x5).f1) == ((rd_T147 x1 x5).f1)))) = true then (some false) else (laws_samePairs.l0 k x0 x1 (wrap64 (x5 + 1)))) else (none)) else (none)) else (some true)
def laws_samePairs.f (k : Nat) (l0 : List (S147)) (l1 : List (S147)) : Option (Bool) := if (l0.length : Int) = (l1.length : Int) then (laws_samePairs.l0 k l0 l1 0) else (some false)
theorem laws_samePairs.mono_l : ∀ k, (∀ y0 y1 y2, LeO (laws_samePairs.l0 k y0 y1 y2) (laws_samePairs.l0 (k + 1) y0 y1 y2))
 | 0 => fun _ _ _ r h => by simp [laws_samePairs.l0] at h
 | k + 1 => by
  have ih0 := laws_samePairs.mono_l k
  ·intro y0 y1 y2
   unfold laws_samePairs.l0
   repeat' first
   | (with_reducible exact ih0 _ _ _)
   | (with_reducible exact LeO.refl _)
   | (with_reducible exact LeO.none _)
   | (with_reducible refine LeO.ite ?_ ?_)
   | (with_reducible refine LeO.bind ?_ (fun _ => ?_))
   | exact ih0 _ _ _
   | exact LeO.none _
   | refine LeO.ite ?_ ?_
   | refine LeO.bind ?_ (fun _ => ?_)
theorem laws_samePairs.mono : ∀ a0 a1 k, LeO (laws_samePairs.f k a0 a1) (laws_samePairs.f (k + 1) a0 a1) := by
 intro a0 a1 k
 have ih0 := laws_samePairs.mono_l k
 unfold laws_samePairs.f
 repeat' first
   | (with_reducible exact ih0 _ _ _)
   | (with_reducible exact LeO.refl _)
   | (with_reducible exact LeO.none _)
   | (with_reducible refine LeO.ite ?_ ?_)
   | (with_reducible refine LeO.bind ?_ (fun _ => ?_))
   | exact ih0 _ _ _
   | exact LeO.none _
   | refine LeO.ite ?_ ?_
   | refine LeO.bind ?_ (fun _ => ?_)
set_option maxHeartbeats 8000000 in
set_option maxRecDepth 100000 in
theorem laws_samePairs.calls (k : Nat) (A0 : Option Addr) (c0 : Nat) (l0 : List (S147)) (A1 : Option Addr) (c1 : Nat) (l1 : List (S147)) (r : Bool) (w : World) (hr0 : Kd.C k147 w A0 l0.length l0) (hc0 : l0.length ≤ c0) (hr1 : Kd.C k147 w A1 l1.length l1) (hc1 : l1.length ≤ c1) (h : laws_samePairs.f k l0 l1 = some r) :
  Calls Try.prog 56 #[.slice A0 l0.length c0, .slice A1 l1.length c1] w fun e w' => e = .returned (.bool r) ∧ Drawn0 w w' := by
 have hu147 := Try.underlying147
 have HR0 := q_ hr0
 have HC0 := q_ hc0
 clear hr0 hc0
 have HR1 := q_ hr1
 have HC1 := q_ hc1
 clear hr1 hc1
 have H : (if (l0.length : Int) = (l1.length : Int) then (laws_samePairs.l0 k l0 l1 0) else (some false)) = some r := h
 clear h
 by_cases c3 : (l0.length : Int) = (l1.length : Int)
 ·rw [if_pos c3] at H
  have c3b0 : ((l0.length : Int) == (l1.length : Int)) = true := beq_iff_eq.mpr c3
  have c3b1 : ((l0.length : Int) != (l1.length : Int)) = false := bne_eq_false_iff_eq.mpr c3
  have c3b2 : (l0.length == l1.length) = true := z112_
  clear c3
  have H' := q_ H
  clear H
  go_enter Try.func56, Try.ntmps56
  go_wp2
  repeat (go_quiet (fail); try go_wp2)
  go_loopg [5] k (fun kq v5 w' => ∃ (x5_1 : Int), v5 = .int .i64 x5_1 ∧ Aside0 (laws_samePairs.l0 kq l0 l1 x5_1 = some r) ∧ Aside0 (kq ≤ k) ∧ Drawn0 w w')
  case atStart => exact ⟨(0), z7_, H', ⟨Nat.le_refl _⟩, z34_⟩
  case round =>
   clear H'
   try clear c1
   try clear p2
   try clear c3
   try clear c3b0
   try clear c3b1
   try clear c3b2
   obtain ⟨x5_1, rfl, HA, HK1, ⟨m1, rfl⟩⟩ := hrel
   cases gk with
   | zero => exact absurd HA.out (by simp [laws_samePairs.l0])
   | succ k1 =>
    have H := HA.out
    clear HA
    simp only [laws_samePairs.l0] at H
    by_cases c4 : x5_1 < (l0.length : Int)
    ·rw [if_pos c4] at H
     have c4b0 : decide (x5_1 < (l0.length : Int)) = true := decide_eq_true c4
     clear c4
     by_cases c5 : 0 ≤ x5_1
     ·rw [if_pos c5] at H
      have c5b0 : decide (0 ≤ x5_1) = true := decide_eq_true c5
      clear c5
      by_cases c6 : x5_1 < (l1.length : Int)
      ·rw [if_pos c6] at H
       have c6b0 : decide (x5_1 < (l1.length : Int)) = true := decide_eq_true c6
       clear c6
       by_cases c7 : (!(((rd_T147 l0 x5_1).f0) == ((rd_T147 l1 x5_1).f0)) || (!(((rd_T147 l0 x5_1).f1) == ((rd_T147 l1 x5_1).f1)))) = true
       ·rw [if_pos c7] at H
        have c7b0 : (!(((rd_T147 l0 x5_1).f0) == ((rd_T147 l1 x5_1).f0)) || (!(((rd_T147 l0 x5_1).f1) == ((rd_T147 l1 x5_1).f1)))) = true := c7
        clear c7
        obtain rfl := Option.some.inj H
        have p192 : 0 ≤ (x5_1 : Int) := of_decide_eq_true z3_
        have q192 : x5_1 < (l0.length : Int) := of_decide_eq_true z3_
        obtain ⟨ad192, e192, hx192_0, hx192_1⟩ := at_T147 HR0.out x5_1 p192 q192
        cases e192
        replace p192 := eq_true p192
        replace q192 := eq_true q192
        have p193 : 0 ≤ (x5_1 : Int) := of_decide_eq_true z3_
        have q193 : x5_1 < (l1.length : Int) := of_decide_eq_true z3_
        obtain ⟨ad193, e193, hx193_0, hx193_1⟩ := at_T147 HR1.out x5_1 p193 q193
        cases e193
        replace p193 := eq_true p193
        replace q193 := eq_true q193
        go_wp2
        repeat (go_quiet (fail); try go_wp2)
        go_ret
        exact ⟨z7_, z34_⟩
       ·rw [if_neg c7] at H
        have c7b0 : (!(((rd_T147 l0 x5_1).f0) == ((rd_T147 l1 x5_1).f0)) || (!(((rd_T147 l0 x5_1).f1) == ((rd_T147 l1 x5_1).f1)))) = false := by simpa using c7
        clear c7
        have H' := q_ H
        clear H
        have p192 : 0 ≤ (x5_1 : Int) := of_decide_eq_true z3_
        have q192 : x5_1 < (l0.length : Int) := of_decide_eq_true z3_
        obtain ⟨ad192, e192, hx192_0, hx192_1⟩ := at_T147 HR0.out x5_1 p192 q192
        cases e192
        replace p192 := eq_true p192
        replace q192 := eq_true q192
        have p193 : 0 ≤ (x5_1 : Int) := of_decide_eq_true z3_
        have q193 : x5_1 < (l1.length : Int) := of_decide_eq_true z3_
        obtain ⟨ad193, e193, hx193_0, hx193_1⟩ := at_T147 HR1.out x5_1 p193 q193
        cases e193
        replace p193 := eq_true p193
        replace q193 := eq_true q193
        go_wp2
        repeat (go_quiet (fail); try go_wp2)
        go_roundg k1
        case measure => have := HK1.out; omega
        case rel => (try simp only [hl13_1] at HO_3); exact ⟨(wrap64 (x5_1 + 1)), z7_, H', ⟨z74_⟩, z34_⟩
      ·rw [if_neg c6] at H
       exact absurd H (by simp)
     ·rw [if_neg c5] at H
      exact absurd H (by simp)
    ·rw [if_neg c4] at H
     have c4b0 : decide (x5_1 < (l0.length : Int)) = false := decide_eq_false c4
     clear c4
     obtain rfl := Option.some.inj H
     go_wp2
     repeat (go_quiet (fail); try go_wp2)
     go_ret
     exact ⟨z7_, z34_⟩
 ·rw [if_neg c3] at H
  have c3b0 : ((l0.length : Int) == (l1.length : Int)) = false := beq_eq_false_iff_ne.mpr c3
  have c3b1 : ((l0.length : Int) != (l1.length : Int)) = true := bne_iff_ne.mpr c3
  have c3b2 : (l0.length == l1.length) = false := z112_
  obtain rfl := Option.some.inj H
  go_enter Try.func56, Try.ntmps56
  go_wp2
  repeat (go_quiet (fail); try go_wp2)
  go_ret
  exact ⟨z7_, z34_⟩

end Go.Proofs.Ytphlmbhjeoljoaa.PFnShrunk
