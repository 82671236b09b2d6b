-- Written by a program of this session, which goes by the kit's print. Not trusted: Lean checks it.
import Derived.Test.YtphlmbhjeoljoaaPFnMapAllx0
import Derived.Test.YtphlmbhjeoljoaaPFnMapAllx5
namespace Go.Proofs.Ytphlmbhjeoljoaa.PFnMapAll
open Go.RowKit Go.Proofs.YtphlmbhjeoljoaaW.PrintWords Go.Proofs.YtphlmbhjeoljoaaW.PrintLast Go.Proofs.YtphlmbhjeoljoaaW.PrintMore
attribute [local go_sem] max2_int min2_int max_two min_two max_three min_three max_four min_four   -- for this text's walks alone
set_option linter.unusedVariables false
set_option linter.unusedSimpArgs false

/-! ### impl_MsgOk: function 59 -/
def impl_MsgOk.j0 : Nat → Int → Bool → Int → Int → Int → Option (Bool)
 | 0, _, _, _, _, _ => none
 | k + 1, x8, x9, x198000, x198001, x198002 => if x9 = true then ((impl_isNum.f x198002).bind fun t199 => (some t199)) else (if x8 = 2 then (some (x198002 == 0)) else (if x8 = 4 then (some (x198002 == 0)) else (some false)))
def impl_MsgOk.f (k : Nat) (a0_0 : Int) (a0_1 : Int) (a0_2 : Int) : Option (Bool) := (impl_isKey.f a0_1).bind fun t198 => (if t198 = true then (if a0_0 = 1 then (impl_MsgOk.j0 k a0_0 (a0_0 == 1) a0_0 a0_1 a0_2) else (impl_MsgOk.j0 k a0_0 (a0_0 == 3) a0_0 a0_1 a0_2)) else (some false))
theorem impl_MsgOk.mono_l : ∀ k, (∀ y0 y1 y2 y3 y4, LeO (impl_MsgOk.j0 k y0 y1 y2 y3 y4) (impl_MsgOk.j0 (k + 1) y0 y1 y2 y3 y4))
 | 0 => fun _ _ _ _ _ r h => by simp [impl_MsgOk.j0] at h
 | k + 1 => by
  have ih0 := impl_MsgOk.mono_l k
  ·intro y0 y1 y2 y3 y4
   unfold impl_MsgOk.j0
   repeat' first
   | (with_reducible exact ih0 _ _ _ _ _)
   | (with_reducible exact LeO.refl _)
   | (with_reducible exact LeO.none _)
   | (with_reducible refine LeO.ite ?_ ?_)
   | (with_reducible refine LeO.bind ?_ (fun _ => ?_))
   | exact ih0 _ _ _ _ _
   | exact LeO.none _
   | refine LeO.ite ?_ ?_
   | refine LeO.bind ?_ (fun _ => ?_)
theorem impl_MsgOk.mono : ∀ a0 a1 a2 k, LeO (impl_MsgOk.f k a0 a1 a2) (impl_MsgOk.f (k + 1) a0 a1 a2) := by
 intro a0 a1 a2 k
 have ih0 := impl_MsgOk.mono_l k
 unfold impl_MsgOk.f
 repeat' first
   | (with_reducible exact ih0 _ _ _ _ _)
   | (with_reducible exact LeO.refl _)
   | (with_reducible exact LeO.none _)
   | (with_reducible refine LeO.ite ?_ ?_)
   | (with_reducible refine LeO.bind ?_ (fun _ => ?_))
   | exact ih0 _ _ _ _ _
   | exact LeO.none _
   | refine LeO.ite ?_ ?_
   | refine LeO.bind ?_ (fun _ => ?_)
set_option maxHeartbeats 8000000 in
set_option maxRecDepth 100000 in
theorem impl_MsgOk.calls (k : Nat) (a0_0 : Int) (a0_1 : Int) (a0_2 : Int) (r : Bool) (w : World) (h : impl_MsgOk.f k a0_0 a0_1 a0_2 = some r) :
  Calls Try.prog 59 #[.agg #[.int .i64 a0_0, .int .i64 a0_1, .int .i64 a0_2]] w fun e w' => e = .returned (.bool r) ∧ Below w.heap.size w w' := by
 have hu67 := Try.underlying67
 have HB := q_ (Below.refl w.heap.size w)
 have H : ((impl_isKey.f a0_1).bind fun t198 => (if t198 = true then (if a0_0 = 1 then (impl_MsgOk.j0 k a0_0 (a0_0 == 1) a0_0 a0_1 a0_2) else (impl_MsgOk.j0 k a0_0 (a0_0 == 3) a0_0 a0_1 a0_2)) else (some false))) = some r := h
 clear h
 replace H := Option.bind_eq_some_iff.mp H
 obtain ⟨t198, A20, H⟩ := H
 replace H : (if t198 = true then (if a0_0 = 1 then (impl_MsgOk.j0 k a0_0 (a0_0 == 1) a0_0 a0_1 a0_2) else (impl_MsgOk.j0 k a0_0 (a0_0 == 3) a0_0 a0_1 a0_2)) else (some false)) = some r := H
 have A2 := q_ A20
 clear A20
 by_cases c3 : t198 = true
 ·subst c3
  have H1 : (if a0_0 = 1 then (impl_MsgOk.j0 k a0_0 (a0_0 == 1) a0_0 a0_1 a0_2) else (impl_MsgOk.j0 k a0_0 (a0_0 == 3) a0_0 a0_1 a0_2)) = some r := z51_
  clear H
  have H := H1
  clear H1
  have HC4 := q_ H
  clear H
  go_enter Try.func59, Try.ntmps59
  go_upto_if 9 with (first | ((with_reducible refine gate_dst (N := 1) rfl ?_); refine box_event ?hg (N := 1) ?hd (cs := #[.int .i64 a0_0, .int .i64 a0_1, .int .i64 a0_2]) (t := 67) ?hr ?_; (case hd => rfl); (case hg => rfl); (case hr => exact z108_); intro gb197 hg w5 hbox hb; have n0_ := q_ (below_step z0_ hb); have n1_ := q_ (hbox); have n2_ := q_ ((z91_ : w.heap.size ≤ gb197)); have n3_ := q_ ((z91_ : w.heap.size ≤ gb197)); clear HB; have HB := n0_; have BK197 := n1_; have GW197 := n2_; have GE197 := n3_; clear n0_ n1_ n2_ n3_; clear hb hbox hg; obtain ⟨hcz6_0, hcz6_1, hcz6_2, hfz6_0, hfz6_1, hfz6_2⟩ := cs3_ BK197.out) | ((with_reducible refine gate_callee (f := 136) rfl ?_); refine goesL_ (some 5) rfl rfl Try.func136 (by kernel_rfl) rfl #[.int .i64 a0_1] rfl z1_ ?_; (with_reducible refine (impl_isKey.calls a0_1 true _ A2.out).mono ?_); rintro e w' ⟨rfl, ⟨nd, rfl⟩⟩; refine ⟨_, rfl, ?_⟩))
  (try simp only [Act.put, List.setIfInBounds_toArray, List.set_cons_zero, List.set_cons_succ])
  go_cut [9] (fun v9 wc => ∃ (kq : Nat) (x9_3 : Bool), v9 = .bool x9_3 ∧ Aside0 (impl_MsgOk.j0 kq a0_0 x9_3 a0_0 a0_1 a0_2 = some r) ∧ Aside0 (kq ≤ k) ∧ Aside0 (wc.heap[gb197]? = some (.cells #[.int .i64 a0_0, .int .i64 a0_1, .int .i64 a0_2] 67 (0, 0))) ∧ Aside0 (Below w.heap.size w wc))
  case first =>
   have H := HC4.out
   clear HC4
   by_cases c7 : a0_0 = 1
   ·rw [if_pos c7] at H
    have c7b0 : (a0_0 == 1) = true := beq_iff_eq.mpr c7
    have c7b1 : (a0_0 != 1) = false := bne_eq_false_iff_eq.mpr c7
    clear c7
    (first | rw [c7b0] | (simp only [i64_w, i32_w]; rw [c7b0]) | skip)
    have H' := q_ H
    clear H
    go_wp2
    go_meet
    case rel => exact ⟨_, ((a0_0 == 1)), z7_, H', ⟨z74_⟩, ⟨z75_⟩, ⟨z49_⟩⟩
   ·rw [if_neg c7] at H
    have c7b0 : (a0_0 == 1) = false := beq_eq_false_iff_ne.mpr c7
    have c7b1 : (a0_0 != 1) = true := bne_iff_ne.mpr c7
    (first | rw [c7b0] | (simp only [i64_w, i32_w]; rw [c7b0]) | skip)
    have H' := q_ H
    clear H
    go_wp2
    go_meet
    case rel => exact ⟨_, ((a0_0 == 3)), z7_, H', ⟨z74_⟩, ⟨z75_⟩, ⟨z49_⟩⟩
  case rest =>
   clear HC4
   try clear c1
   try clear p2
   try clear c3
   try clear c5
   try clear c7
   try clear c7b0
   try clear c7b1
   try clear hcz6_0
   try clear hcz6_1
   try clear hcz6_2
   try clear hfz6_0
   try clear hfz6_1
   try clear hfz6_2
   obtain ⟨kq, x9_3, rfl, HA, HJ3, BK197, HB⟩ := hcut
   cases kq with
   | zero => exact absurd HA.out (by simp [impl_MsgOk.j0])
   | succ kj3 =>
    have H := HA.out
    clear HA
    simp only [impl_MsgOk.j0] at H
    by_cases c8 : x9_3 = true
    ·subst c8
     have H1 : ((impl_isNum.f a0_2).bind fun t199 => (some t199)) = some r := z51_
     clear H
     have H := H1
     clear H1
     replace H := Option.bind_eq_some_iff.mp H
     obtain ⟨t199, A90, H⟩ := H
     replace H : (some t199) = some r := H
     have A9 := q_ A90
     clear A90
     obtain rfl := Option.some.inj H
     obtain ⟨hcz10_0, hcz10_1, hcz10_2, hfz10_0, hfz10_1, hfz10_2⟩ := cs3_ BK197.out
     go_wp2_with (first | ((with_reducible refine gate_callee (f := 137) rfl ?_); refine goesL_ (some 14) rfl rfl Try.func137 (by kernel_rfl) rfl #[.int .i64 a0_2] rfl z1_ ?_; (with_reducible refine (impl_isNum.calls a0_2 t199 _ A9.out).mono ?_); rintro e w' ⟨rfl, ⟨nd, rfl⟩⟩; refine ⟨_, rfl, ?_⟩))
     go_ret
     exact ⟨z4_, z0_⟩
    ·replace c8 := Bool.eq_false_iff.mpr c8
     subst c8
     have H1 : (if a0_0 = 2 then (some (a0_2 == 0)) else (if a0_0 = 4 then (some (a0_2 == 0)) else (some false))) = some r := by rw [if_neg (show ¬ (false = true) by decide)] at H; exact H
     clear H
     have H := H1
     clear H1
     by_cases c11 : a0_0 = 2
     ·rw [if_pos c11] at H
      have c11b0 : (a0_0 == 2) = true := beq_iff_eq.mpr c11
      have c11b1 : (a0_0 != 2) = false := bne_eq_false_iff_eq.mpr c11
      clear c11
      obtain rfl := Option.some.inj H
      obtain ⟨hcz12_0, hcz12_1, hcz12_2, hfz12_0, hfz12_1, hfz12_2⟩ := cs3_ BK197.out
      go_wp2
      go_ret
      exact ⟨z4_, z49_⟩
     ·rw [if_neg c11] at H
      have c11b0 : (a0_0 == 2) = false := beq_eq_false_iff_ne.mpr c11
      have c11b1 : (a0_0 != 2) = true := bne_iff_ne.mpr c11
      by_cases c13 : a0_0 = 4
      ·rw [if_pos c13] at H
       have c13b0 : (a0_0 == 4) = true := beq_iff_eq.mpr c13
       have c13b1 : (a0_0 != 4) = false := bne_eq_false_iff_eq.mpr c13
       clear c13
       obtain rfl := Option.some.inj H
       obtain ⟨hcz14_0, hcz14_1, hcz14_2, hfz14_0, hfz14_1, hfz14_2⟩ := cs3_ BK197.out
       go_wp2
       go_ret
       exact ⟨z4_, z49_⟩
      ·rw [if_neg c13] at H
       have c13b0 : (a0_0 == 4) = false := beq_eq_false_iff_ne.mpr c13
       have c13b1 : (a0_0 != 4) = true := bne_iff_ne.mpr c13
       obtain rfl := Option.some.inj H
       go_wp2
       go_ret
       exact ⟨z4_, z49_⟩
 ·replace c3 := Bool.eq_false_iff.mpr c3
  subst c3
  have H1 : (some false) = some r := by rw [if_neg (show ¬ (false = true) by decide)] at H; exact H
  clear H
  have H := H1
  clear H1
  obtain rfl := Option.some.inj H
  go_enter Try.func59, Try.ntmps59
  go_wp2_with (first | ((with_reducible refine gate_dst (N := 1) rfl ?_); refine box_event ?hg (N := 1) ?hd (cs := #[.int .i64 a0_0, .int .i64 a0_1, .int .i64 a0_2]) (t := 67) ?hr ?_; (case hd => rfl); (case hg => rfl); (case hr => exact z108_); intro gb197 hg w15 hbox hb; have n0_ := q_ (below_step z0_ hb); have n1_ := q_ (hbox); have n2_ := q_ ((z91_ : w.heap.size ≤ gb197)); have n3_ := q_ ((z91_ : w.heap.size ≤ gb197)); clear HB; have HB := n0_; have BK197 := n1_; have GW197 := n2_; have GE197 := n3_; clear n0_ n1_ n2_ n3_; clear hb hbox hg; obtain ⟨hcz16_0, hcz16_1, hcz16_2, hfz16_0, hfz16_1, hfz16_2⟩ := cs3_ BK197.out) | ((with_reducible refine gate_callee (f := 136) rfl ?_); refine goesL_ (some 5) rfl rfl Try.func136 (by kernel_rfl) rfl #[.int .i64 a0_1] rfl z1_ ?_; (with_reducible refine (impl_isKey.calls a0_1 false _ A2.out).mono ?_); rintro e w' ⟨rfl, ⟨nd, rfl⟩⟩; refine ⟨_, rfl, ?_⟩))
  go_ret
  exact ⟨z4_, z0_⟩

/-! ### slices_Clone_Pair: function 130 -/
def slices_Clone_Pair.f (l0 : List (S147)) : Option (List (S147)) := if l0.length < 8796093022208 then some l0 else none
set_option maxHeartbeats 8000000 in
set_option maxRecDepth 100000 in
theorem slices_Clone_Pair.calls (A0 : Option Addr) (c0 : Nat) (l0 : List (S147)) (r : List (S147)) (w : World) (hr0 : Kd.C k147 w A0 l0.length l0) (hc0 : l0.length ≤ c0) (h : slices_Clone_Pair.f l0 = some r) :
  Calls Try.prog 130 #[.slice A0 l0.length c0] w fun e w' => ∃ v0_ : Value, e = .returned (v0_) ∧ Kd.R k147 147 w' w.heap.size (fun _ => True) v0_ r ∧ Below w.heap.size w w' := by
 unfold slices_Clone_Pair.f at h
 by_cases hlim : l0.length < 8796093022208
 ·rw [if_pos hlim] at h
  obtain rfl := Option.some.inj h
  rcases A0 with _ | ad
  ·have h0 : l0 = [] := by
    rcases Nat.eq_zero_or_pos l0.length with h0 | h0
    ·exact List.eq_nil_of_length_eq_zero h0
    ·obtain ⟨ad, e, _⟩ := hr0.2.2 h0
     cases e
   subst h0
   have hn := fun W : World => Lib.run_eql_slice_nil (P := Try.prog) W 42 147 none 0 c0 0 0 Try.underlying42
   simp only [Option.isNone_none] at hn
   clear hr0 hc0 h hlim
   go_enter Try.func130, Try.ntmps130
   go_wp2
   go_ret
   exact ⟨_, rfl, Kd.R_nil _ _ _ _ _, Below.refl _ _⟩
  ·have hn := fun W : World => Lib.run_eql_slice_nil (P := Try.prog) W 42 147 (some ad) l0.length c0 0 0 Try.underlying42
   simp only [Option.isNone_some] at hn
   have HR0 := q_ hr0
   have HLM := q_ hlim
   have HB := q_ (Below.refl w.heap.size w)
   clear hr0 hc0 h hlim
   go_enter Try.func130, Try.ntmps130
   go_wp2_with (first | ((with_reducible refine gate_dst (N := 5) rfl ?_); refine Kd.R_lit k147 _ 147 ?hg (N := 5) ?hd (xs := ([] : List (S147))) (inner := []) (ok := fun _ => True) (okp := fun _ => True) ?hr ?hp (fun _ hk => hk) trivial (Below.refl _ _) (Nat.le_refl _) (by simp) ?_; (case hd => rfl); (case hg => rfl); (case hr => exact z108_); (case hp => exact z140_); intro v1 w6 ho7 hb hg_ hnew_; clear hg_ hnew_; have n0_ := q_ (Kd.R_lower ho7 (below_size z0_)); have n2_ := q_ (below_step z0_ hb); clear HB; have HO1 := n0_; have HB := n2_; clear n0_ n2_; clear hb ho7) | ((with_reducible refine gate_builtin (b := .append) (xs := #[.tmp 5, .tmp 6]) rfl ?_); at_builtin; refine Kd.R_append_rows k147 (w0 := w) w.heap.size rfl (.tmp 5) (.tmp 6) 42 147 (.agg #[(.int .i64 0), (.int .i64 0)]) 16 rfl Try.underlying42 info147 rfl (by decide) (by omega) v1 [] l0 _ _ _ (fun _ => True) (fun _ => False) rfl rfl ?aO ?aR (fun _ _ h => h) (fun _ h => h.elim) ?aF ?aB ?aS ?aL ?_; (case aR => exact z109_); (case aB => exact z0_); (case aF => exact z134_); (case aO => exact (by (with_reducible repeat (first | apply Kd.R_alloc | apply Kd.R_drewN | apply Kd.R_drew)); exact HO1.out)); (case aS => exact z138_); (case aL => have := HLM.out; simp only [List.length_nil]; omega); intro v2 w7 ho hb hg hat; rw [List.nil_append] at ho; have HO2 := q_ ho; have n1_ := q_ hb; clear HB HO1; have HB := n1_; clear n1_; clear ho hb hg hat))
   go_ret
   exact ⟨_, rfl, by (with_reducible repeat (first | apply Kd.R_alloc | apply Kd.R_drewN | apply Kd.R_drew)); exact HO2.out, z0_⟩
 ·rw [if_neg hlim] at h
  cases h

/-! ### impl_limited: function 102 -/
def impl_limited.f (a0 : Int) : Option (Int) := some (mx (-1000000000) (mn a0 1000000000))
set_option maxHeartbeats 8000000 in
set_option maxRecDepth 100000 in
theorem impl_limited.calls (a0 : Int) (r : Int) (w : World) (h : impl_limited.f a0 = some r) :
  Calls Try.prog 102 #[.int .i64 a0] w fun e w' => e = .returned (.int .i64 r) ∧ Below w.heap.size w w' := by
 have HB := q_ (Below.refl w.heap.size w)
 have H : (some (mx (-1000000000) (mn a0 1000000000))) = some r := h
 clear h
 obtain ⟨ji2, hji2⟩ : ∃ j_ : Int, (mn a0 1000000000) = j_ := ⟨_, rfl⟩
 replace H : (some (mx (-1000000000) (ji2))) = some r := by first | (rw [hji2] at H; exact H) | (simp only [hji2] at H ⊢; exact H)
 (try (have hji2h : ji2 ≤ 1000000000 := by (rw [← hji2]; unfold mn; (repeat' split) <;> omega)))
 (try (have hji2g : ji2 ≤ 64 := by omega))
 have hji2_ : (if 1000000000 < a0 then 1000000000 else a0) = ji2 := hji2
 obtain ⟨ji3, hji3⟩ : ∃ j_ : Int, (mx (-1000000000) (ji2)) = j_ := ⟨_, rfl⟩
 replace H : (some ji3) = some r := by first | (rw [hji3] at H; exact H) | (simp only [hji3] at H ⊢; exact H)
 have hji3_ : (if (-1000000000) < (ji2) then (ji2) else (-1000000000)) = ji3 := hji3
 obtain rfl := Option.some.inj H
 go_enter Try.func102, Try.ntmps102
 go_wp2
 go_ret
 exact ⟨by first | rfl | (simp [errW_none, errW_some] <;> rfl) | (simp only [← hji2, ← hji3]; first | rfl | (simp [errW_none, errW_some] <;> rfl)) | (simp [*, errW_none, errW_some] <;> rfl), z0_⟩

/-! ### impl_changed_f1: function 171 -/
def impl_changed_f1.f (a0_0 : Int) (a0_1 : Int) (a1 : Int) : Option (Int) := some (wrap64 (a0_0 - a1))
set_option maxHeartbeats 8000000 in
set_option maxRecDepth 100000 in
theorem impl_changed_f1.calls (a0_0 : Int) (a0_1 : Int) (a1 : Int) (r : Int) (w : World) (h : impl_changed_f1.f a0_0 a0_1 a1 = some r) :
  Calls Try.prog 171 #[.agg #[.int .i64 a0_0, .int .i64 a0_1], .int .i64 a1] w fun e w' => e = .returned (.int .i64 r) ∧ Below w.heap.size w w' := by
 have hu147 := Try.underlying147
 have HB := q_ (Below.refl w.heap.size w)
 have H : (some (wrap64 (a0_0 - a1))) = some r := h
 clear h
 obtain rfl := Option.some.inj H
 go_enter Try.func171, Try.ntmps171
 go_wp2_with (first | ((with_reducible refine gate_dst (N := 2) rfl ?_); refine box_event ?hg (N := 2) ?hd (cs := #[.int .i64 a0_0, .int .i64 a0_1]) (t := 147) ?hr ?_; (case hd => rfl); (case hg => rfl); (case hr => exact z108_); intro gb200 hg w3 hbox hb; have n0_ := q_ (below_step z0_ hb); have n1_ := q_ (hbox); have n2_ := q_ ((z91_ : w.heap.size ≤ gb200)); have n3_ := q_ ((z91_ : w.heap.size ≤ gb200)); clear HB; have HB := n0_; have BK200 := n1_; have GW200 := n2_; have GE200 := n3_; clear n0_ n1_ n2_ n3_; clear hb hbox hg; obtain ⟨hcz4_0, hcz4_1, hfz4_0, hfz4_1⟩ := cs2_ BK200.out))
 go_ret
 exact ⟨z4_, by repeat (first | (with_reducible first | exact HB.out | apply below_alloc | apply pw_below_drewN | apply below_drew1 | refine below_set ?_ GE200.out) | exact HB.out)⟩

/-! ### slices_BinarySearchFunc_Pair_171: function 170 -/
def slices_BinarySearchFunc_Pair_171.l0 : Nat → List (S147) → Int → Int → Int → Int → Option (Int × Bool)
 | 0, _, _, _, _, _ => none
 | k + 1, x0, x1, x8, x9, x10 => if x9 < x10 then (if 0 ≤ (wrap64 ((IntKind.u64.wrap (wrap64 (x9 + x10))) / 2)) then (if (wrap64 ((IntKind.u64.wrap (wrap64 (x9 + x10))) / 2)) < (x0.length : Int) then ((impl_changed_f1.f ((rd_T147 x0 (wrap64 ((IntKind.u64.wrap (wrap64 (x9 + x10))) / 2))).f0) ((rd_T147 x0 (wrap64 ((IntKind.u64.wrap (wrap64 (x9 + x10))) / 2))).f1) x1).bind fun t202 => (if t202 < 0 then (slices_BinarySearchFunc_Pair_171.l0 k x0 x1 x8 (wrap64 ((wrap64 ((IntKind.u64.wrap (wrap64 (x9 + x10))) / 2)) + 1)) x10) else (slices_BinarySearchFunc_Pair_171.l0 k x0 x1 x8 x9 (wrap64 ((IntKind.u64.wrap (wrap64 (x9 + x10))) / 2))))) else (none)) else (none)) else (if x9 < x8 then (if 0 ≤ x9 then (if x9 < (x0.length : Int) then ((impl_changed_f1.f ((rd_T147 x0 x9).f0) ((rd_T147 x0 x9).f1) x1).bind fun t204 => (some (x9, (t204 == 0)))) else (none)) else (none)) else (some (x9, false)))
def slices_BinarySearchFunc_Pair_171.f (k : Nat) (l0 : List (S147)) (a1 : Int)  : Option (Int × Bool) := slices_BinarySearchFunc_Pair_171.l0 k l0 a1 (l0.length : Int) 0 (l0.length : Int)
theorem slices_BinarySearchFunc_Pair_171.mono_l : ∀ k, (∀ y0 y1 y2 y3 y4, LeO (slices_BinarySearchFunc_Pair_171.l0 k y0 y1 y2 y3 y4) (slices_BinarySearchFunc_Pair_171.l0 (k + 1) y0 y1 y2 y3 y4))
 | 0 => fun _ _ _ _ _ r h => by simp [slices_BinarySearchFunc_Pair_171.l0] at h
 | k + 1 => by
  have ih0 := slices_BinarySearchFunc_Pair_171.mono_l k
  ·intro y0 y1 y2 y3 y4
   unfold slices_BinarySearchFunc_Pair_171.l0
   repeat' first
   | (with_reducible exact ih0 _ _ _ _ _)
   | (with_reducible exact LeO.refl _)
   | (with_reducible exact LeO.none _)
   | (with_reducible refine LeO.ite ?_ ?_)
   | (with_reducible refine LeO.bind ?_ (fun _ => ?_))
   | exact ih0 _ _ _ _ _
   | exact LeO.none _
   | refine LeO.ite ?_ ?_
   | refine LeO.bind ?_ (fun _ => ?_)
theorem slices_BinarySearchFunc_Pair_171.mono : ∀ a0 a1 k, LeO (slices_BinarySearchFunc_Pair_171.f k a0 a1) (slices_BinarySearchFunc_Pair_171.f (k + 1) a0 a1) := by
 intro a0 a1 k
 have ih0 := slices_BinarySearchFunc_Pair_171.mono_l k
 unfold slices_BinarySearchFunc_Pair_171.f
 repeat' first
   | (with_reducible exact ih0 _ _ _ _ _)
   | (with_reducible exact LeO.refl _)
   | (with_reducible exact LeO.none _)
   | (with_reducible refine LeO.ite ?_ ?_)
   | (with_reducible refine LeO.bind ?_ (fun _ => ?_))
   | exact ih0 _ _ _ _ _
   | exact LeO.none _
   | refine LeO.ite ?_ ?_
   | refine LeO.bind ?_ (fun _ => ?_)
set_option maxHeartbeats 8000000 in
set_option maxRecDepth 100000 in
theorem slices_BinarySearchFunc_Pair_171.calls (k : Nat) (A0 : Option Addr) (c0 : Nat) (l0 : List (S147)) (a1 : Int)  (r1 : Int) (r2 : Bool) (w : World) (hr0 : Kd.C k147 w A0 l0.length l0) (hc0 : l0.length ≤ c0) (h : slices_BinarySearchFunc_Pair_171.f k l0 a1 = some (r1, r2)) :
  Calls Try.prog 170 #[.slice A0 l0.length c0, .int .i64 a1, .func (.func 171) #[] #[]] w fun e w' => e = .returned (.tuple #[.int .i64 r1, .bool r2]) ∧ Below w.heap.size w w' := by
 have hu147 := Try.underlying147
 have HR0 := q_ hr0
 have HC0 := q_ hc0
 clear hr0 hc0
 have HB := q_ (Below.refl w.heap.size w)
 have H : (slices_BinarySearchFunc_Pair_171.l0 k l0 a1 (l0.length : Int) 0 (l0.length : Int)) = some (r1, r2) := h
 clear h
 have H' := q_ H
 clear H
 go_enter Try.func170, Try.ntmps170
 go_wp2
 go_loopg [9, 10] k (fun kq v9 v10 w' => ∃ (x9_1 : Int) (x10_1 : Int), v9 = .int .i64 x9_1 ∧ v10 = .int .i64 x10_1 ∧ Aside0 (slices_BinarySearchFunc_Pair_171.l0 kq l0 a1 (l0.length : Int) x9_1 x10_1 = some (r1, r2)) ∧ Aside0 (kq ≤ k) ∧ Aside0 (Below w.heap.size w w'))
 case atStart => exact ⟨(0), ((l0.length : Int)), z7_, z7_, H', ⟨Nat.le_refl _⟩, ⟨z0_⟩⟩
 case round =>
  clear H'
  try clear c1
  try clear p2
  obtain ⟨x9_1, x10_1, rfl, rfl, HA, HK1, HB⟩ := hrel
  cases gk with
  | zero => exact absurd HA.out (by simp [slices_BinarySearchFunc_Pair_171.l0])
  | succ k1 =>
   have H := HA.out
   clear HA
   simp only [slices_BinarySearchFunc_Pair_171.l0] at H
   by_cases c4 : x9_1 < x10_1
   ·rw [if_pos c4] at H
    have c4b0 : decide (x9_1 < x10_1) = true := decide_eq_true c4
    clear c4
    obtain ⟨ji5, hji5⟩ : ∃ j_ : Int, (wrap64 ((IntKind.u64.wrap (wrap64 (x9_1 + x10_1))) / 2)) = j_ := ⟨_, rfl⟩
    replace H : (if 0 ≤ (ji5) then (if (ji5) < (l0.length : Int) then ((impl_changed_f1.f ((rd_T147 l0 (ji5)).f0) ((rd_T147 l0 (ji5)).f1) a1).bind fun t202 => (if t202 < 0 then (slices_BinarySearchFunc_Pair_171.l0 k1 l0 a1 (l0.length : Int) (wrap64 ((ji5) + 1)) x10_1) else (slices_BinarySearchFunc_Pair_171.l0 k1 l0 a1 (l0.length : Int) x9_1 ji5))) else (none)) else (none)) = some (r1, r2) := by first | (rw [hji5] at H; exact H) | (simp only [hji5] at H ⊢; exact H)
    have hji5w : (IntKind.i64.wrap ((IntKind.u64.wrap (wrap64 (x9_1 + x10_1))) / 2)) = ji5 := (i64_w _).trans hji5
    by_cases c6 : 0 ≤ (ji5)
    ·rw [if_pos c6] at H
     have c6b0 : decide (0 ≤ (ji5)) = true := decide_eq_true c6
     clear c6
     by_cases c7 : (ji5) < (l0.length : Int)
     ·rw [if_pos c7] at H
      have c7b0 : decide ((ji5) < (l0.length : Int)) = true := decide_eq_true c7
      clear c7
      replace H := Option.bind_eq_some_iff.mp H
      obtain ⟨t202, A80, H⟩ := H
      replace H : (if t202 < 0 then (slices_BinarySearchFunc_Pair_171.l0 k1 l0 a1 (l0.length : Int) (wrap64 ((ji5) + 1)) x10_1) else (slices_BinarySearchFunc_Pair_171.l0 k1 l0 a1 (l0.length : Int) x9_1 ji5)) = some (r1, r2) := H
      have A8 := q_ A80
      clear A80
      by_cases c9 : t202 < 0
      ·rw [if_pos c9] at H
       have c9b0 : decide (t202 < 0) = true := decide_eq_true c9
       clear c9
       have H' := q_ H
       clear H
       have p201 : 0 ≤ ((ji5) : Int) := of_decide_eq_true z5_
       have q201 : (ji5) < (l0.length : Int) := of_decide_eq_true z5_
       obtain ⟨ad201, e201, hx201_0, hx201_1⟩ := at_T147 HR0.out (ji5) p201 q201
       cases e201
       replace hx201_0 := up_ HB hx201_0
       replace hx201_1 := up_ HB hx201_1
       replace p201 := eq_true p201
       replace q201 := eq_true q201
       go_wp2_with (first | (go_at_call 171; refine calls_of_args (args' := #[.agg #[.int .i64 ((rd_T147 l0 (ji5)).f0), .int .i64 ((rd_T147 l0 (ji5)).f1)], .int .i64 a1]) z90_ ?_; (with_reducible refine (impl_changed_f1.calls ((rd_T147 l0 (ji5)).f0) ((rd_T147 l0 (ji5)).f1) a1 t202 _ A8.out).mono ?_); rintro e w10 ⟨rfl, hb⟩; have n0_ := q_ (below_step z0_ hb); clear HB; have HB := n0_; clear n0_; (try clear hb); (try clear hb2); (try clear hk); (try clear hi)))
       go_roundg k1
       case measure => have := HK1.out; omega
       case rel => exact ⟨(wrap64 ((ji5) + 1)), (x10_1), z84_, z7_, H', ⟨z67_⟩, ⟨z0_⟩⟩
      ·rw [if_neg c9] at H
       have c9b0 : decide (t202 < 0) = false := decide_eq_false c9
       clear c9
       have H' := q_ H
       clear H
       have p201 : 0 ≤ ((ji5) : Int) := of_decide_eq_true z5_
       have q201 : (ji5) < (l0.length : Int) := of_decide_eq_true z5_
       obtain ⟨ad201, e201, hx201_0, hx201_1⟩ := at_T147 HR0.out (ji5) p201 q201
       cases e201
       replace hx201_0 := up_ HB hx201_0
       replace hx201_1 := up_ HB hx201_1
       replace p201 := eq_true p201
       replace q201 := eq_true q201
       go_wp2_with (first | (go_at_call 171; refine calls_of_args (args' := #[.agg #[.int .i64 ((rd_T147 l0 (ji5)).f0), .int .i64 ((rd_T147 l0 (ji5)).f1)], .int .i64 a1]) z90_ ?_; (with_reducible refine (impl_changed_f1.calls ((rd_T147 l0 (ji5)).f0) ((rd_T147 l0 (ji5)).f1) a1 t202 _ A8.out).mono ?_); rintro e w11 ⟨rfl, hb⟩; have n0_ := q_ (below_step z0_ hb); clear HB; have HB := n0_; clear n0_; (try clear hb); (try clear hb2); (try clear hk); (try clear hi)))
       go_roundg k1
       case measure => have := HK1.out; omega
       case rel => exact ⟨(x9_1), (ji5), z7_, z84_, H', ⟨z67_⟩, ⟨z0_⟩⟩
     ·rw [if_neg c7] at H
      exact absurd H (by simp)
    ·rw [if_neg c6] at H
     exact absurd H (by simp)
   ·rw [if_neg c4] at H
    have c4b0 : decide (x9_1 < x10_1) = false := decide_eq_false c4
    clear c4
    by_cases c12 : x9_1 < (l0.length : Int)
    ·rw [if_pos c12] at H
     have c12b0 : decide (x9_1 < (l0.length : Int)) = true := decide_eq_true c12
     clear c12
     by_cases c13 : 0 ≤ x9_1
     ·rw [if_pos c13] at H
      have c13b0 : decide (0 ≤ x9_1) = true := decide_eq_true c13
      clear c13
      by_cases c14 : x9_1 < (l0.length : Int)
      ·rw [if_pos c14] at H
       have c14b0 : decide (x9_1 < (l0.length : Int)) = true := decide_eq_true c14
       clear c14
       replace H := Option.bind_eq_some_iff.mp H
       obtain ⟨t204, A150, H⟩ := H
       replace H : (some (x9_1, (t204 == 0))) = some (r1, r2) := H
       have A15 := q_ A150
       clear A150
       simp only [Option.some.injEq, Prod.mk.injEq] at H
       obtain ⟨rfl, rfl⟩ := H
       have p203 : 0 ≤ (x9_1 : Int) := of_decide_eq_true z5_
       have q203 : x9_1 < (l0.length : Int) := of_decide_eq_true z5_
       obtain ⟨ad203, e203, hx203_0, hx203_1⟩ := at_T147 HR0.out x9_1 p203 q203
       cases e203
       replace hx203_0 := up_ HB hx203_0
       replace hx203_1 := up_ HB hx203_1
       replace p203 := eq_true p203
       replace q203 := eq_true q203
       go_wp2_with (first | (go_at_call 171; refine calls_of_args (args' := #[.agg #[.int .i64 ((rd_T147 l0 x9_1).f0), .int .i64 ((rd_T147 l0 x9_1).f1)], .int .i64 a1]) z90_ ?_; (with_reducible refine (impl_changed_f1.calls ((rd_T147 l0 x9_1).f0) ((rd_T147 l0 x9_1).f1) a1 t204 _ A15.out).mono ?_); rintro e w16 ⟨rfl, hb⟩; have n0_ := q_ (below_step z0_ hb); clear HB; have HB := n0_; clear n0_; (try clear hb); (try clear hb2); (try clear hk); (try clear hi)))
       go_ret2
       exact ⟨z4_, z0_⟩
      ·rw [if_neg c14] at H
       exact absurd H (by simp)
     ·rw [if_neg c13] at H
      exact absurd H (by simp)
    ·rw [if_neg c12] at H
     have c12b0 : decide (x9_1 < (l0.length : Int)) = false := decide_eq_false c12
     clear c12
     simp only [Option.some.injEq, Prod.mk.injEq] at H
     obtain ⟨rfl, rfl⟩ := H
     go_wp2
     go_ret2
     exact ⟨z4_, z0_⟩

/-! ### slices_Delete_Pair: function 172 -/
def slices_Delete_Pair.f (l0 : List (S147)) (x1 x2 : Int) : Option (List (S147)) := if 0 ≤ x1 then if x1 < l0.length then if x2 = x1 + 1 then some (l0.eraseIdx x1.toNat) else none else none else none
set_option maxHeartbeats 8000000 in
set_option maxRecDepth 100000 in
theorem slices_Delete_Pair.calls (P0_ : Nat → Prop) (u9000_ : Value) (l0 : List (S147)) (x1 x2 : Int) (r : List (S147)) (w0 w : World) (hB : Below w0.heap.size w0 w) (ho0 : Kd.R k147 147 w w0.heap.size P0_ u9000_ l0) (h : slices_Delete_Pair.f l0 x1 x2 = some r) :
  Calls Try.prog 172 #[u9000_, .int .i64 x1, .int .i64 x2] w fun e w' => ∃ v0_ : Value, e = .returned (v0_) ∧ Kd.R k147 147 w' w0.heap.size (fun k_ => (P0_ k_ ∨ w.heap.size ≤ k_)) v0_ r ∧ Below w0.heap.size w0 w' ∧ Kept w w' (fun k_ => P0_ k_) := by
 unfold slices_Delete_Pair.f at h
 by_cases h1 : 0 ≤ x1
 case neg => rw [if_neg h1] at h; cases h
 rw [if_pos h1] at h
 by_cases h2 : x1 < l0.length
 case neg => rw [if_neg h2] at h; cases h
 rw [if_pos h2] at h
 by_cases h3 : x2 = x1 + 1
 case neg => rw [if_neg h3] at h; cases h
 rw [if_pos h3] at h
 obtain rfl := Option.some.inj h
 subst h3
 obtain ⟨i, rfl⟩ := Int.eq_ofNat_of_zero_le h1
 have hi : i < l0.length := by omega
 obtain ⟨g, c, rfl, hg, hgs, -⟩ := Kd.R_form ho0 (by omega)
 obtain ⟨hn, hnc, -⟩ := Kd.R_reads' ho0
 have hcm : c ≤ 9223372036854775807 := by
  obtain ⟨_, _, _, _, hcm, _⟩ := Kd.R_lay ho0
  exact hcm
 obtain ⟨n, hln⟩ : ∃ n, n = l0.length := ⟨_, rfl⟩
 rw [← hln] at ho0 hn hnc hi ⊢
 have hs1 : ((i + 1 : Nat) : Int) = (i : Int) + 1 := by omega
 obtain ⟨i0, hi0, hz0, hsz0, hby0⟩ := info_parts info147
 obtain ⟨w1, hr1, hR1, hg1⟩ := Kd.R_delete_run (P := Try.prog) k147 (W := w.drew) w0.heap.size 42 42 147 i0 Try.underlying42 hi0 hsz0 (Kd.R_drew ho0) hi (A := if c = i + 1 then some ⟨g, 0, none⟩ else some ⟨g, (i + 1) * 2, none⟩) (by rw [Option.map_some, add_plain]; rfl) (c - (i + 1))
 have hcl : ∀ ty, (Builtin.clear_ #[42] ty #[.slice (some ⟨g, (n - 1) * 2, none⟩) (n - (n - 1)) (c - (n - 1))]).run Try.prog w1 = .ok (.tuple #[]) (w1.setCells g ((n - 1) * 2) (Builtin.zeroCells ((.agg #[(.int .i64 0), (.int .i64 0)]) : Value).cells (n - (n - 1))).toList) := by
  intro ty
  obtain ⟨cur, inner, hh, hcs, _⟩ := Kd.R_lay hR1
  refine clear_own_run Try.underlying42 Try.zeroValue147 hh ?_ (by omega) ?_
  ·exact zeroCells_one (by decide) (by decide)
  ·rw [hcs, Array.length_toList, size_zeroCells]
   show (n - 1) * 2 + (n - (n - 1)) * 2 ≤ c * 2
   omega
 have hR2 := Kd.R_spare hR1 (cs := (Builtin.zeroCells ((.agg #[(.int .i64 0), (.int .i64 0)]) : Value).cells (n - (n - 1))).toList) (o := (n - 1) * 2) (Nat.le_refl _) (by rw [Array.length_toList, size_zeroCells]; show (n - 1) * 2 + (n - (n - 1)) * 2 ≤ c * 2; omega)
 have hg2 := Kd.grown_setCells w1 g ((n - 1) * 2) (Builtin.zeroCells ((.agg #[(.int .i64 0), (.int .i64 0)]) : Value).cells (n - (n - 1))).toList
 obtain ⟨w2, hw2⟩ : ∃ w2, w2 = w1.setCells g ((n - 1) * 2) (Builtin.zeroCells ((.agg #[(.int .i64 0), (.int .i64 0)]) : Value).cells (n - (n - 1))).toList := ⟨_, rfl⟩
 rw [← hw2] at hcl hR2 hg2
 have hPg : P0_ g := ho0.1 g rfl
 have HF : Aside0 (Kd.R k147 147 w2 w0.heap.size (fun k_ => (P0_ k_ ∨ w.heap.size ≤ k_)) (.slice (some ⟨g, 0, none⟩) (n - 1) c) (l0.eraseIdx i) ∧ Below w0.heap.size w0 w2 ∧ Kept w w2 (fun k_ => P0_ k_)) :=
  ⟨Kd.R_mono hR2 (fun k_ hk => .inl hk), ((below_drew hB).grown hg1 hB.size (fun k_ e_ => by injection e_ with e_; omega)).grown hg2 (Nat.le_trans hB.size hg1.size) (fun k_ e_ => by injection e_ with e_; omega),
   Kept.of_grown hg2 (Kept.of_grown hg1 (Kept.drew (Kept.refl w _)) (fun k_ e_ => .inl z87_)) (fun k_ e_ => .inl z87_)⟩
 have HA := q_ hr1
 have HC := q_ hcl
 have f1 : (i : Int) ≤ (i : Int) + 1 := by omega
 have f2 : (i : Int) + 1 ≤ (n : Int) := by omega
 have f3 : (n : Int) ≤ (c : Int) := by omega
 have f4 : ¬ ((i : Int) = (i : Int) + 1) := by omega
 have f5 : (0 : Int) ≤ (i : Int) + 1 := by omega
 have f6 : (i : Int) ≤ (c : Int) := by omega
 have f7 : ((i : Int) + 1).toNat = i + 1 := by omega
 have f8 : i ≤ c := by omega
 have f9 : i + 1 ≤ n := by omega
 have f10 : n ≤ c := by omega
 clear hB hln hw2 hcl hR2 hg2 hr1 hR1 hg1 ho0 hi hnc hn h1 h2 hcm
 go_enter Try.func172, Try.ntmps172
 go_wp2_with fail
 go_region_law (refine step_append rfl _ _ 42 42 rfl z86_ z86_ HA.out ?_)
 go_wp2_with ((with_reducible refine gate_builtin (b := .clear) (xs := #[.tmp 31]) rfl ?_); refine gone_clear rfl _ 42 rfl rfl (HC.out _) ?_)
 all_goals go_ret
 all_goals first | exact ⟨_, rfl, HF.out⟩ | (have hc_ : c = i + 1 := (by assumption); subst hc_; exact ⟨_, rfl, HF.out⟩)

/-! ### slices_Insert_Pair: function 173 -/
def slices_Insert_Pair.f (l0 : List (S147)) (x1 : Int) (l2 : List (S147)) : Option (List (S147)) := if 0 ≤ x1 then if x1 ≤ l0.length then if l2.length = 1 then if l0.length < 8796093022208 then some (l0.take x1.toNat ++ l2 ++ l0.drop x1.toNat) else none else none else none else none
set_option maxHeartbeats 8000000 in
set_option maxRecDepth 100000 in
theorem slices_Insert_Pair.calls (P0_ : Nat → Prop) (u9000_ : Value) (l0 : List (S147)) (x1 : Int) (A2 : Option Addr) (c2 : Nat) (l2 : List (S147)) (r : List (S147)) (w0 w : World) (hB : Below w0.heap.size w0 w) (ho0 : Kd.R k147 147 w w0.heap.size P0_ u9000_ l0) (hr2 : ∀ W_, Kept w W_ (fun k_ => P0_ k_) → Kd.C k147 W_ A2 l2.length l2) (hc2 : l2.length ≤ c2) (h : slices_Insert_Pair.f l0 x1 l2 = some r) :
  Calls Try.prog 173 #[u9000_, .int .i64 x1, .slice A2 l2.length c2] w fun e w' => ∃ v0_ : Value, e = .returned (v0_) ∧ Kd.R k147 147 w' w0.heap.size (fun k_ => (P0_ k_ ∨ w.heap.size ≤ k_)) v0_ r ∧ Below w0.heap.size w0 w' ∧ Kept w w' (fun k_ => P0_ k_) := by
 unfold slices_Insert_Pair.f at h
 by_cases h1 : 0 ≤ x1
 case neg => rw [if_neg h1] at h; cases h
 rw [if_pos h1] at h
 by_cases h2 : x1 ≤ l0.length
 case neg => rw [if_neg h2] at h; cases h
 rw [if_pos h2] at h
 by_cases h3 : l2.length = 1
 case neg => rw [if_neg h3] at h; cases h
 rw [if_pos h3] at h
 by_cases h4 : l0.length < 8796093022208
 case neg => rw [if_neg h4] at h; cases h
 rw [if_pos h4] at h
 obtain rfl := Option.some.inj h
 clear h
 obtain ⟨i, rfl⟩ := Int.eq_ofNat_of_zero_le h1
 have hi : i ≤ l0.length := by omega
 clear h1 h2
 have hr := hr2 w (Kept.refl w _)
 have HB := q_ hB
 have HS := q_ hB.size
 rcases Nat.lt_or_ge i l0.length with hlt | hge
 ·obtain ⟨g, c, rfl, hg, hgs, -⟩ := Kd.R_form ho0 (by omega)
  obtain ⟨hn, hnc, -⟩ := Kd.R_reads' ho0
  have hPg : P0_ g := ho0.1 g rfl
  have hcm : c ≤ 9223372036854775807 := by
   obtain ⟨_, _, _, _, hcm, _⟩ := Kd.R_lay ho0
   exact hcm
  obtain ⟨ad, rfl, -⟩ := hr.2.2 (by omega)
  obtain ⟨news, hnr, hnews⟩ := ReadsRow.inner_ hr
  have hnr' : Reps (k147.M w w0.heap.size (fun _ => False)) 2 l2 news := hnr
  have hnl : news.length = 2 := by rw [hnr.1, h3]; rfl
  have hadg : ad.block ≠ g := fun e_ => Kd.foot_neS hr2 (by omega) (by decide) (by rw [e_]; exact hPg)
  have hadl : ad.block < w.heap.size := Kd.C_lt hr (by omega) (by decide)
  have hone : ∀ u ∈ news, u.oneCell' = true := Kd.one_cell_of_reps (d := k147) hnr' (by decide)
  obtain ⟨n, hln⟩ : ∃ n, n = l0.length := ⟨_, rfl⟩
  rw [← hln] at ho0 hn hnc hlt h4 hi ⊢
  rw [h3] at hc2 ⊢
  obtain ⟨i0, hi0, hz0, hsz0, hby0⟩ := info_parts info147
  have f1 : (i : Int) ≤ (n : Int) := by omega
  have f2 : ¬ ((i : Int) = (n : Int)) := by omega
  have f3 : i ≤ c := by omega
  have f4 : ¬ (c = i) := by omega
  have f5 : i ≤ n := by omega
  have f6 : IntKind.i64.wrap ((n : Int) + 1) = (n : Int) + 1 := by rw [IntKind.wrap_i64]; omega
  have f7 : IntKind.i64.wrap ((i : Int) + 1) = (i : Int) + 1 := by rw [IntKind.wrap_i64]; omega
  have f8 : ((i : Int) + 1).toNat = i + 1 := by omega
  have f9 : ((n : Int) + 1).toNat = n + 1 := by omega
  have f10 : (0 : Int) ≤ (i : Int) + 1 := by omega
  have f11 : (0 : Int) ≤ (n : Int) + 1 := by omega
  clear hln
  have HO1 : Kd.R k147 147 w w0.heap.size (fun k_ => (P0_ k_ ∨ w.heap.size ≤ k_)) (.slice (some ⟨g, 0, none⟩) n c) l0 := Kd.R_mono ho0 (fun k_ hk => (.inl hk))
  rcases Nat.lt_or_ge c (n + 1) with hfull | hroom
  ·have g1 : (c : Int) < (n : Int) + 1 := by omega
   have g2 : wrap64 ((n : Int) + 1 - (i : Int)) = ((n + 1 - i : Nat) : Int) := by unfold wrap64; omega
   obtain ⟨c1, hc1⟩ : ∃ c1, c1 = grownCap w (n + 1) c 147 := ⟨_, rfl⟩
   have hge : n + 1 ≤ c1 := by rw [hc1]; exact grownCap_ge w (n + 1) c 147
   have hcm1 : c1 ≤ maxLen := by rw [hc1]; exact grownCap_le_maxLen w (n + 1) c 147 (by simp only [maxLen]; omega)
   obtain ⟨z, hz⟩ : ∃ z, z = (Builtin.zeroCells ((.agg #[(.int .i64 0), (.int .i64 0)]) : Value).cells (n + 1 - i)).toList ++ (Builtin.zeroCells ((.agg #[(.int .i64 0), (.int .i64 0)]) : Value).cells (c1 - (n + 1))).toList := ⟨_, rfl⟩
   have hzl : i * 2 + z.length = c1 * 2 := by
    rw [hz, List.length_append, Array.length_toList, Array.length_toList, size_zeroCells, size_zeroCells]
    show i * 2 + ((n + 1 - i) * 2 + (c1 - (n + 1)) * 2) = c1 * 2
    omega
   obtain ⟨olds, tail, q1, q2, q3, q4, q5, q6, ⟨cur1, q7, q8⟩, ⟨cur2, q9, q10⟩, hR, hG⟩ := Kd.R_put_anew (d := k147) (c1 := c1) (z := z) HO1 hi h3 (by decide) hnr' (fun _ h => h.elim) (.inr (Nat.le_refl _)) hB.size hzl hge hcm1
   obtain ⟨W1, hW1⟩ : ∃ W1, W1 = w.drew.alloc (.cells (olds ++ z).toArray 147) := ⟨_, rfl⟩
   obtain ⟨W2, hW2⟩ : ∃ W2, W2 = W1.setCells w.heap.size (i * 2) news := ⟨_, rfl⟩
   obtain ⟨W3, hW3⟩ : ∃ W3, W3 = W2.drew.setCells w.heap.size ((i + 1) * 2) tail := ⟨_, rfl⟩
   rw [← hW1] at q7 q9
   replace q9 : W2.heap[w.heap.size]? = some (.cells cur2 147 (0, 0)) := by rw [hW2]; exact q9
   replace hR : Kd.R k147 147 W3 w0.heap.size (fun k_ => (P0_ k_ ∨ w.heap.size ≤ k_)) (.slice (some ⟨w.heap.size, 0, none⟩) (n + 1) c1) (l0.take i ++ l2 ++ l0.drop i) := by rw [hW3, hW2, hW1]; exact hR
   replace hG : w.grownBy W3 none := by rw [hW3, hW2, hW1]; exact hG
   have hb1 : Below w.heap.size w W1 := by rw [hW1]; exact below_alloc (below_drew (Below.refl _ _)) _
   have hb2 : Below w.heap.size w W2 := by rw [hW2]; exact hb1.grown (Kd.grown_setCells W1 w.heap.size (i * 2) news) hb1.size (fun k_ e_ => by injection e_ with e_; omega)
   have HA : Aside0 ((Builtin.append_ #[42, 3] 42 #[.slice (some ⟨g, 0, none⟩) i c, .int .i64 (wrap64 ((n : Int) + 1 - (i : Int)))]).run Try.prog w = .ok (.slice (some ⟨w.heap.size, 0, none⟩) (n + 1) c1) W1) := by
    have e_ : i + (n + 1 - i) = n + 1 := by omega
    have h_ := run_append_zeros_anew (P := Try.prog) w (ty := 42) Try.underlying42 Try.underlying3 hi0 hz0 (by rw [hsz0]; decide) (by rw [hby0]; decide) (A := some ⟨g, 0, none⟩) (n := i) (m := n + 1 - i) (c := c) (by omega) (by omega) (olds := olds) (run_firstCells_some w.drew _ i _ i c olds (by rw [hsz0]; exact q1) (fun j u hu => by rw [add_plain]; simpa using q2 j u hu)) .i64 (by rw [hby0, e_]; omega)
    rw [e_, ← hc1, ← hz, ← hW1] at h_
    rw [g2]
    exact ⟨h_⟩
   have HC1 : Aside0 (∀ ty, (Builtin.copy_ #[42, 42] ty #[.slice (some ⟨w.heap.size, i * 2, none⟩) (n + 1 - i) (c1 - i), .slice (some ad) 1 c2]).run Try.prog W1 = .ok (goInt (Nat.min 1 (n + 1 - i))) W2) := by
    refine ⟨fun ty => ?_⟩
    rw [hW2]
    refine copy_own_run Try.underlying42 hi0 q7 ?_ (fun j u hu => pw_cell_below hb1 (hnews j u hu)) ?_ hone
    ·rw [hsz0, hnl, show Nat.min 1 (n + 1 - i) = 1 from Nat.min_eq_left (by omega)]
    ·rw [hnl, q8]
     show i * 2 + 2 ≤ c1 * 2
     omega
   have HC2 : Aside0 (∀ ty, (Builtin.copy_ #[42, 42] ty #[.slice (some ⟨w.heap.size, (i + 1) * 2, none⟩) (n - i) (c1 - (i + 1)), .slice (some ⟨g, i * 2, none⟩) (n - i) (c - i)]).run Try.prog W2.drew = .ok (goInt (Nat.min (n - i) (n - i))) W3) := by
    refine ⟨fun ty => ?_⟩
    rw [hW3]
    refine copy_own_run (w := W2.drew) Try.underlying42 hi0 (cur := cur2) q9 ?_ (fun j u hu => ?_) ?_ q5
    ·rw [hsz0, q3, show Nat.min (n - i) (n - i) = n - i from Nat.min_self _]
     rfl
    ·rw [add_at]
     exact pw_cell_below (below_drew hb2) (q4 j u hu)
    ·rw [q3, q10]
     show (i + 1) * 2 + (n - i) * 2 ≤ c1 * 2
     omega
   have HF : Aside0 (Kd.R k147 147 W3 w0.heap.size (fun k_ => (P0_ k_ ∨ w.heap.size ≤ k_)) (.slice (some ⟨w.heap.size, 0, none⟩) (n + 1) c1) (l0.take i ++ l2 ++ l0.drop i) ∧ Below w0.heap.size w0 W3 ∧ Kept w W3 (fun k_ => P0_ k_)) :=
    ⟨hR, hB.grown hG hB.size (fun k_ e_ => by cases e_), Kept.of_grown hG (Kept.refl w _) (fun k_ e_ => by cases e_)⟩
   have g3 : i ≤ c1 := by omega
   have g4 : ¬ (c1 = i) := by omega
   have g5 : ¬ (c1 = i + 1) := by omega
   have g6 : (i : Int) + 1 ≤ (n : Int) + 1 := by omega
   have g7 : (n : Int) + 1 ≤ (c1 : Int) := by omega
   have g8 : i ≤ n + 1 := by omega
   have g9 : (i : Int) ≤ (n : Int) + 1 := by omega
   simp only [Int.toNat_natCast]
   clear g2 hR hG hb1 hb2 q1 q2 q3 q4 q5 q6 q7 q8 q9 q10 hW1 hW2 hW3 hz hzl hc1 hge hcm1 hr hr2 hnr hnr' hnews hnl hone hB ho0 HO1 hn hnc h4 hi0 hz0 hsz0 hby0 hfull hc2 hlt h3 hi hadl hadg hcm hPg
   go_enter Try.func173, Try.ntmps173
   go_wp2_with (first | ((with_reducible refine gate_builtin (b := .append) (xs := #[.tmp 34, .tmp 39]) rfl ?_); refine gone_append rfl (.tmp 34) (.tmp 39) 42 3 rfl rfl rfl HA.out ?_) | ((with_reducible refine gate_builtin (b := .copy) (xs := #[.tmp 43, .tmp 44]) rfl ?_); refine gone_copy rfl (.tmp 43) (.tmp 44) 42 42 rfl rfl rfl (HC1.out _) ?_))
   go_region_law (refine step_copy rfl _ _ 42 42 rfl z86_ z86_ (HC2.out _) ?_)
   go_wp2
   go_ret
   exact ⟨_, rfl, HF.out⟩
  ·have g1 : ¬ ((c : Int) < (n : Int) + 1) := by omega
   obtain ⟨tail, q3, q4, q5, ⟨cur0, q6, q7⟩, ⟨cur1, q8, q9⟩, hR, hG⟩ := Kd.R_put_in (d := k147) (W := w.drew) (Kd.R_drew HO1) hi h3 hroom (by decide) (okp := fun _ => False) (news := news) (hnr'.imp_ (fun _ _ h => h)) (fun _ h => h.elim)
   obtain ⟨W1, hW1⟩ : ∃ W1, W1 = w.drew.setCells g ((i + 1) * 2) tail := ⟨_, rfl⟩
   obtain ⟨W2, hW2⟩ : ∃ W2, W2 = W1.setCells g (i * 2) news := ⟨_, rfl⟩
   replace q8 : W1.heap[g]? = some (.cells cur1 147 (0, 0)) := by rw [hW1]; exact q8
   replace hR : Kd.R k147 147 W2 w0.heap.size (fun k_ => (P0_ k_ ∨ w.heap.size ≤ k_)) (.slice (some ⟨g, 0, none⟩) (n + 1) c) (l0.take i ++ l2 ++ l0.drop i) := by rw [hW2, hW1]; exact hR
   replace hG : w.grownBy W2 (some g) := by rw [hW2, hW1]; exact ⟨hG.os, hG.tape, hG.output, hG.size, hG.block⟩
   have hu : ∃ u, w.cell? ad = some u := ⟨news[0], by have := hnews 0 news[0] (List.getElem?_eq_getElem (by omega)); rwa [Addr.add_zero'] at this⟩
   obtain ⟨u, hu⟩ := hu
   have hov : ∀ lb cb, (callFunc 186 #[.slice (some ad) 1 c2, .slice (some ⟨g, (i + 1) * 2, none⟩) lb cb]).run Try.prog w = .ok (.value (.bool false)) w := fun lb cb => by
    rw [run_callFunc_extern Try.func186 (by kernel_rfl) (by kernel_rfl) (by kernel_rfl) (e := Extern.SlicesOverlaps.overlaps #[42, 42] #[4]) (by kernel_rfl),
     overlaps_own_run (P := Try.prog) (w := w) (tS := 42) (tR := 4) Try.underlying42 (size := 2) (by intro w; simp [sizeOf, typeInfo, hi0, hsz0]) (a := ad) (b := ⟨g, (i + 1) * 2, none⟩) hadg q6 (by rw [q7]; show 0 < c * 2; omega) hu]
    rfl
   have HC1 : Aside0 (∀ ty, (Builtin.copy_ #[42, 42] ty #[.slice (some ⟨g, (i + 1) * 2, none⟩) (n - i) (c - (i + 1)), .slice (some ⟨g, i * 2, none⟩) (n + 1 - i) (c - i)]).run Try.prog w.drew = .ok (goInt (Nat.min (n + 1 - i) (n - i))) W1) := by
    refine ⟨fun ty => ?_⟩
    rw [hW1]
    refine copy_own_run (w := w.drew) Try.underlying42 hi0 (cur := cur0) q6 ?_ (fun j u hu => ?_) ?_ q5
    ·rw [hsz0, q3, show Nat.min (n + 1 - i) (n - i) = n - i from Nat.min_eq_right (by omega)]
     rfl
    ·rw [add_at]
     exact q4 j u hu
    ·rw [q3, q7]
     show (i + 1) * 2 + (n - i) * 2 ≤ c * 2
     omega
   have HC2 : Aside0 (∀ ty, (Builtin.copy_ #[42, 42] ty #[.slice (some ⟨g, i * 2, none⟩) (n + 1 - i) (c - i), .slice (some ad) 1 c2]).run Try.prog W1 = .ok (goInt (Nat.min 1 (n + 1 - i))) W2) := by
    refine ⟨fun ty => ?_⟩
    rw [hW2]
    refine copy_own_run Try.underlying42 hi0 q8 ?_ (fun j u hu => ?_) ?_ hone
    ·rw [hsz0, hnl, show Nat.min 1 (n + 1 - i) = 1 from Nat.min_eq_left (by omega)]
    ·have h_ := hnews j u hu
     rw [hW1]
     rw [← h_]
     exact World.cell?_of_block (w := w) (by rw [add_block]; exact setCells_far tail ((i + 1) * 2) (w := w.drew) ad.block hadg)
    ·rw [hnl, q9]
     show i * 2 + 2 ≤ c * 2
     omega
   have HF : Aside0 (Kd.R k147 147 W2 w0.heap.size (fun k_ => (P0_ k_ ∨ w.heap.size ≤ k_)) (.slice (some ⟨g, 0, none⟩) (n + 1) c) (l0.take i ++ l2 ++ l0.drop i) ∧ Below w0.heap.size w0 W2 ∧ Kept w W2 (fun k_ => P0_ k_)) :=
    ⟨hR, hB.grown hG hB.size (fun k_ e_ => by injection e_ with e_; omega), Kept.of_grown hG (Kept.refl w _) (fun k_ e_ => .inl z87_)⟩
   have g4 : ¬ (c = i + 1) := by omega
   have g6 : (i : Int) + 1 ≤ (n : Int) + 1 := by omega
   have g7 : (n : Int) + 1 ≤ (c : Int) := by omega
   have g8 : i ≤ n + 1 := by omega
   have g9 : (i : Int) ≤ (n : Int) + 1 := by omega
   simp only [Int.toNat_natCast]
   clear hR hG q3 q4 q5 q6 q7 q8 q9 hW1 hW2 hr hr2 hnr hnr' hnews hnl hone hB ho0 HO1 hn hnc h4 hi0 hz0 hsz0 hby0 hroom hc2 hlt h3 hi hadl hadg hcm hPg hu
   go_enter Try.func173, Try.ntmps173
   go_wp2_with (first | (simp only [hov]) | ((with_reducible refine gate_builtin (b := .copy) (xs := #[.tmp 80, .tmp 81]) rfl ?_); refine gone_copy rfl (.tmp 80) (.tmp 81) 42 42 rfl rfl rfl (HC2.out _) ?_))
   go_region_law (refine step_copy rfl _ _ 42 42 rfl z86_ z86_ (HC1.out _) ?_)
   go_wp2_with ((with_reducible refine gate_builtin (b := .copy) (xs := #[.tmp 80, .tmp 81]) rfl ?_); refine gone_copy rfl (.tmp 80) (.tmp 81) 42 42 rfl rfl rfl (HC2.out _) ?_)
   go_ret
   exact ⟨_, rfl, HF.out⟩
 ·have hin : i = l0.length := by omega
  have HO := q_ (show Kd.R k147 147 w w0.heap.size (fun k_ => (P0_ k_ ∨ w.heap.size ≤ k_)) u9000_ l0 from Kd.R_mono ho0 (fun k_ hk => (.inl hk)))
  have HP := q_ ho0.1
  have HC := q_ hr
  have HL := q_ (And.intro h4 h3)
  have HX : l0.take i ++ l2 ++ l0.drop i = l0 ++ l2 := by rw [hin, List.take_length, List.drop_length, List.append_nil]
  have HE := q_ HX
  obtain ⟨A, c, rfl⟩ := Kd.R_slice ho0
  subst hin
  simp only [Int.toNat_natCast]
  rw [HE.out]
  have e1 : ((l2.length : Int) == 0) = false := by rw [h3]; rfl
  clear hr hr2 hB ho0 hi hge h4 h3 HX
  go_enter Try.func173, Try.ntmps173
  rcases A with _ | a
  all_goals go_wp2_with ((with_reducible refine gate_builtin (b := .append) (xs := #[.tmp 23, .tmp 24]) rfl ?_); at_builtin; refine Kd.R_append_rows k147 (w0 := w0) w0.heap.size rfl (.tmp 23) (.tmp 24) 42 147 ((.agg #[(.int .i64 0), (.int .i64 0)])) 16 rfl Try.underlying42 info147 rfl (by decide) (by omega) _ l0 l2 A2 l2.length c2 (fun k_ => P0_ k_ ∨ w.heap.size ≤ k_) (fun _ => False) rfl rfl HO.out HC.out (fun _ _ h => h) (fun _ h => h.elim) (fun _ h => .inr h) HB.out HS.out (by have := HL.out.1; have := HL.out.2; omega) ?_; intro v1 w6 ho hb hg hat; have HF := q_ (And.intro ho (And.intro hb hg)); clear ho hb hg hat)
  all_goals go_ret
  all_goals exact ⟨_, rfl, HF.out.1, HF.out.2.1, Kept.of_grown HF.out.2.2 (Kept.refl w _) (fun k_ e_ => .inl (HP.out k_ e_))⟩

end Go.Proofs.Ytphlmbhjeoljoaa.PFnMapAll
