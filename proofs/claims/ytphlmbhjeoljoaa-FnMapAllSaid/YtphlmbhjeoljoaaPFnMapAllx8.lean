-- Written by a program of this session, which goes by the kit's print. Not trusted: Lean checks it.
import Derived.Test.YtphlmbhjeoljoaaPFnMapAllx0
import Derived.Test.YtphlmbhjeoljoaaPFnMapAllx4
import Derived.Test.YtphlmbhjeoljoaaPFnMapAllx5
import Derived.Test.YtphlmbhjeoljoaaPFnMapAllx6
import Derived.Test.YtphlmbhjeoljoaaPFnMapAllx7
namespace Go.Proofs.Ytphlmbhjeoljoaa.PFnMapAll
open Go.RowKit Go.Proofs.YtphlmbhjeoljoaaW.PrintWords Go.Proofs.YtphlmbhjeoljoaaW.PrintLast Go.Proofs.YtphlmbhjeoljoaaW.PrintMore
attribute [local go_sem] max2_int min2_int max_two min_two max_three min_three max_four min_four   -- for this text's walks alone
set_option linter.unusedVariables false
set_option linter.unusedSimpArgs false

/-! ### impl_MapAll: function 63 -/
def impl_MapAll.l0 : Nat → List (S147) → List (S67) → Int → Int → Option ((List (S147)))
 | 0, _, _, _, _ => none
 | k + 1, x5, x14, x15, x16 => if x16 < x15 then (if 0 ≤ x16 then (if x16 < (x14.length : Int) then ((impl_MsgOk.f k ((rd_T67 x14 x16).f0) ((rd_T67 x14 x16).f1) ((rd_T67 x14 x16).f2)).bind fun t233 => (if t233 = true then ((impl_changed.f k x5 ((rd_T67 x14 x16).f0) ((rd_T67 x14 x16).f1) ((rd_T67 x14 x16).f2)).bind fun t234 => (impl_MapAll.l0 k t234 x14 x15 (wrap64 (x16 + 1)))) else (impl_MapAll.l0 k x5 x14 x15 (wrap64 (x16 + 1))))) else (none)) else (none)) else (some x5)
def impl_MapAll.f (k : Nat) (l0 : List (S147)) (l1 : List (S67)) : Option ((List (S147))) := (slices_Clone_Pair.f l0).bind fun t227 => ((impl_MapOk.f k l0).bind fun t230 => (if t230 = true then (impl_MapAll.l0 k t227 l1 (l1.length : Int) 0) else (some t227)))
theorem impl_MapAll.mono_l : ∀ k, (∀ y0 y1 y2 y3, LeO (impl_MapAll.l0 k y0 y1 y2 y3) (impl_MapAll.l0 (k + 1) y0 y1 y2 y3))
 | 0 => fun _ _ _ _ r h => by simp [impl_MapAll.l0] at h
 | k + 1 => by
  have ih0 := impl_MapAll.mono_l k
  ·intro y0 y1 y2 y3
   unfold impl_MapAll.l0
   repeat' first
   | (with_reducible exact ih0 _ _ _ _)
   | (with_reducible exact impl_MapOk.mono _ _)
   | (with_reducible exact impl_MsgOk.mono _ _ _ _)
   | (with_reducible exact impl_changed.mono _ _ _ _ _)
   | (with_reducible exact LeO.refl _)
   | (with_reducible exact LeO.none _)
   | (with_reducible refine LeO.ite ?_ ?_)
   | (with_reducible refine LeO.bind ?_ (fun _ => ?_))
   | exact ih0 _ _ _ _
   | exact impl_MapOk.mono _ _
   | exact impl_MsgOk.mono _ _ _ _
   | exact impl_changed.mono _ _ _ _ _
   | exact LeO.none _
   | refine LeO.ite ?_ ?_
   | refine LeO.bind ?_ (fun _ => ?_)
theorem impl_MapAll.mono : ∀ a0 a1 k, LeO (impl_MapAll.f k a0 a1) (impl_MapAll.f (k + 1) a0 a1) := by
 intro a0 a1 k
 have ih0 := impl_MapAll.mono_l k
 unfold impl_MapAll.f
 repeat' first
   | (with_reducible exact ih0 _ _ _ _)
   | (with_reducible exact impl_MapOk.mono _ _)
   | (with_reducible exact impl_MsgOk.mono _ _ _ _)
   | (with_reducible exact impl_changed.mono _ _ _ _ _)
   | (with_reducible exact LeO.refl _)
   | (with_reducible exact LeO.none _)
   | (with_reducible refine LeO.ite ?_ ?_)
   | (with_reducible refine LeO.bind ?_ (fun _ => ?_))
   | exact ih0 _ _ _ _
   | exact impl_MapOk.mono _ _
   | exact impl_MsgOk.mono _ _ _ _
   | exact impl_changed.mono _ _ _ _ _
   | exact LeO.none _
   | refine LeO.ite ?_ ?_
   | refine LeO.bind ?_ (fun _ => ?_)
set_option maxHeartbeats 8000000 in
set_option maxRecDepth 100000 in
theorem impl_MapAll.calls (k : Nat) (A0 : Option Addr) (c0 : Nat) (l0 : List (S147)) (A1 : Option Addr) (c1 : Nat) (l1 : List (S67)) (r : List (S147)) (w : World) (hr0 : Kd.C k147 w A0 l0.length l0) (hc0 : l0.length ≤ c0) (hr1 : Kd.C k67 w A1 l1.length l1) (hc1 : l1.length ≤ c1) (h : impl_MapAll.f k l0 l1 = some r) :
  Calls Try.prog 63 #[.slice A0 l0.length c0, .slice A1 l1.length c1] w fun e w' => ∃ v0_ : Value, e = .returned (v0_) ∧ Kd.R k147 147 w' w.heap.size (fun _ => True) v0_ r ∧ Below w.heap.size w w' := by
 have hu67 := Try.underlying67
 have HR0 := q_ hr0
 have HC0 := q_ hc0
 clear hr0 hc0
 have HR1 := q_ hr1
 have HC1 := q_ hc1
 clear hr1 hc1
 have HB := q_ (Below.refl w.heap.size w)
 have H : ((slices_Clone_Pair.f l0).bind fun t227 => ((impl_MapOk.f k l0).bind fun t230 => (if t230 = true then (impl_MapAll.l0 k t227 l1 (l1.length : Int) 0) else (some t227)))) = some r := h
 clear h
 replace H := Option.bind_eq_some_iff.mp H
 obtain ⟨t227, A30, H⟩ := H
 replace H : ((impl_MapOk.f k l0).bind fun t230 => (if t230 = true then (impl_MapAll.l0 k t227 l1 (l1.length : Int) 0) else (some t227))) = some r := H
 have A3 := q_ A30
 clear A30
 replace H := Option.bind_eq_some_iff.mp H
 obtain ⟨t230, A40, H⟩ := H
 replace H : (if t230 = true then (impl_MapAll.l0 k t227 l1 (l1.length : Int) 0) else (some t227)) = some r := H
 have A4 := q_ A40
 clear A40
 by_cases c5 : t230 = true
 ·subst c5
  have H1 : (impl_MapAll.l0 k t227 l1 (l1.length : Int) 0) = some r := z51_
  clear H
  have H := H1
  clear H1
  have H' := q_ H
  clear H
  go_enter Try.func63, Try.ntmps63
  go_wp2_with (first | ((with_reducible refine gate_callee (f := 130) rfl ?_); refine goesL_ (some 9) rfl rfl Try.func130 (by kernel_rfl) rfl #[.slice A0 l0.length c0] rfl z1_ ?_; (with_reducible refine (slices_Clone_Pair.calls _ _ l0 t227 _ ?side1 ?side2 A3.out).mono ?_); (case side1 => exact z110_); (case side2 => exact HC0.out); rintro e w6 ⟨v228, rfl, ho0, hb⟩; refine ⟨_, rfl, ?_⟩; have n0_ := q_ (Kd.R_lower ho0 (below_size z0_)); have n1_ := q_ (below_step z0_ hb); clear HB; have HO229 := n0_; have HB := n1_; clear n0_ n1_; (try clear hb); (try clear hb2); (try clear hk); (try clear hi); (try clear ho0)) | ((with_reducible refine gate_callee (f := 57) rfl ?_); refine goesL_ (some 11) rfl rfl Try.func57 (by kernel_rfl) rfl #[.slice A0 l0.length c0] rfl z1_ ?_; (with_reducible refine (impl_MapOk.calls k _ _ l0 true _ ?side1 ?side2 A4.out).mono ?_); (case side1 => exact z109_); (case side2 => exact HC0.out); rintro e w7 ⟨rfl, hb⟩; refine ⟨_, rfl, ?_⟩; have n0_ := q_ (Kd.R_below z68_ hb); have n1_ := q_ (below_step z0_ hb); clear HO229; clear HB; have HO229 := n0_; have HB := n1_; clear n0_ n1_; (try clear hb); (try clear hb2); (try clear hk); (try clear hi)))
  go_loopg [5, 16] k (fun kq v5 v16 w' => ∃ (x5_1 : List (S147)) (x16_1 : Int), v16 = .int .i64 x16_1 ∧ Aside0 (impl_MapAll.l0 kq x5_1 l1 (l1.length : Int) x16_1 = some r) ∧ Aside0 (kq ≤ k) ∧ Aside0 (Kd.R k147 147 w' w.heap.size (fun _ => True) v5 x5_1) ∧ Aside0 (Below w.heap.size w w'))
  case atStart => exact ⟨(t227), (0), z7_, H', ⟨Nat.le_refl _⟩, ⟨z68_⟩, ⟨z0_⟩⟩
  case round =>
   clear H'
   try clear c1
   try clear p2
   try clear c5
   try clear c6
   obtain ⟨x5_1, x16_1, rfl, HA, HK1, HO_5, HB⟩ := hrel
   cases gk with
   | zero => exact absurd HA.out (by simp [impl_MapAll.l0])
   | succ k1 =>
    have H := HA.out
    clear HA
    simp only [impl_MapAll.l0] at H
    by_cases c8 : x16_1 < (l1.length : Int)
    ·rw [if_pos c8] at H
     have c8b0 : decide (x16_1 < (l1.length : Int)) = true := decide_eq_true c8
     clear c8
     by_cases c9 : 0 ≤ x16_1
     ·rw [if_pos c9] at H
      have c9b0 : decide (0 ≤ x16_1) = true := decide_eq_true c9
      clear c9
      by_cases c10 : x16_1 < (l1.length : Int)
      ·rw [if_pos c10] at H
       have c10b0 : decide (x16_1 < (l1.length : Int)) = true := decide_eq_true c10
       clear c10
       replace H := Option.bind_eq_some_iff.mp H
       obtain ⟨t233, A110, H⟩ := H
       replace H : (if t233 = true then ((impl_changed.f k1 x5_1 ((rd_T67 l1 x16_1).f0) ((rd_T67 l1 x16_1).f1) ((rd_T67 l1 x16_1).f2)).bind fun t234 => (impl_MapAll.l0 k1 t234 l1 (l1.length : Int) (wrap64 (x16_1 + 1)))) else (impl_MapAll.l0 k1 x5_1 l1 (l1.length : Int) (wrap64 (x16_1 + 1)))) = some r := H
       have A11 := q_ A110
       clear A110
       by_cases c12 : t233 = true
       ·subst c12
        have H1 : ((impl_changed.f k1 x5_1 ((rd_T67 l1 x16_1).f0) ((rd_T67 l1 x16_1).f1) ((rd_T67 l1 x16_1).f2)).bind fun t234 => (impl_MapAll.l0 k1 t234 l1 (l1.length : Int) (wrap64 (x16_1 + 1)))) = some r := z51_
        clear H
        have H := H1
        clear H1
        replace H := Option.bind_eq_some_iff.mp H
        obtain ⟨t234, A130, H⟩ := H
        replace H : (impl_MapAll.l0 k1 t234 l1 (l1.length : Int) (wrap64 (x16_1 + 1))) = some r := H
        have A13 := q_ A130
        clear A130
        have H' := q_ H
        clear H
        have p231 : 0 ≤ (x16_1 : Int) := of_decide_eq_true z5_
        have q231 : x16_1 < (l1.length : Int) := of_decide_eq_true z5_
        obtain ⟨ad231, e231, hx231_0, hx231_1, hx231_2⟩ := at_T67 HR1.out x16_1 p231 q231
        cases e231
        replace hx231_0 := up_ HB hx231_0
        replace hx231_1 := up_ HB hx231_1
        replace hx231_2 := up_ HB hx231_2
        replace p231 := eq_true p231
        replace q231 := eq_true q231
        go_wp2_with (first | ((with_reducible refine gate_dst (N := 7) rfl ?_); refine box_event ?hg (N := 7) ?hd (cs := #[.int .i64 0, .int .i64 0, .int .i64 0]) (t := 67) ?hr ?_; (case hd => rfl); (case hg => rfl); (case hr => exact z108_); intro gb232 hg w14 hbox hb; have n0_ := q_ (Kd.R_below z17_ hb); have n1_ := q_ (below_step z0_ hb); have n2_ := q_ (hbox); have n3_ := q_ ((z91_ : w.heap.size ≤ gb232)); have n4_ := q_ ((z91_ : w.heap.size ≤ gb232)); clear HO_5; clear HB; have HO_5 := n0_; have HB := n1_; have BK232 := n2_; have GW232 := n3_; have GE232 := n4_; clear n0_ n1_ n2_ n3_ n4_; clear hb hbox hg; obtain ⟨hcz15_0, hcz15_1, hcz15_2, hfz15_0, hfz15_1, hfz15_2⟩ := cs3_ BK232.out) | ((with_reducible refine gate_callee (f := 59) rfl ?_); refine goesL_ (some 21) rfl rfl Try.func59 (by kernel_rfl) rfl #[.agg #[.int .i64 ((rd_T67 l1 x16_1).f0), .int .i64 ((rd_T67 l1 x16_1).f1), .int .i64 ((rd_T67 l1 x16_1).f2)]] rfl z1_ ?_; (with_reducible refine (impl_MsgOk.calls k1 ((rd_T67 l1 x16_1).f0) ((rd_T67 l1 x16_1).f1) ((rd_T67 l1 x16_1).f2) true _ A11.out).mono ?_); rintro e w16 ⟨rfl, hb⟩; refine ⟨_, rfl, ?_⟩; have n0_ := q_ (Kd.R_below (by (with_reducible repeat (first | apply Kd.R_alloc | apply Kd.R_drewN | apply Kd.R_drew)); exact (Kd.R_mono (Kd.R_far (p := ⟨gb232, 2, none⟩) (Kd.R_far (p := ⟨gb232, 1, none⟩) (Kd.R_far (p := ⟨gb232, 0, none⟩) (Kd.R_types HO_5.out BK232.out (by decide)) (fun _ hk => hk.2) (.int .i64 ((rd_T67 l1 x16_1).f0))) (fun _ hk => hk.2) (.int .i64 ((rd_T67 l1 x16_1).f1))) (fun _ hk => hk.2) (.int .i64 ((rd_T67 l1 x16_1).f2))) (fun _ h_ => h_.1))) hb); have n1_ := q_ (blk_below (g := gb232) (o := .cells #[.int .i64 ((rd_T67 l1 x16_1).f0), .int .i64 ((rd_T67 l1 x16_1).f1), .int .i64 ((rd_T67 l1 x16_1).f2)] 67 (0, 0)) z30_ hb); have n2_ := q_ (below_step z56_ hb); clear HO_5; clear BK232; clear HB; have HO_5 := n0_; have BK232 := n1_; have HB := n2_; clear n0_ n1_ n2_; (try clear hb); (try clear hb2); (try clear hk); (try clear hi); obtain ⟨hcz17_0, hcz17_1, hcz17_2, hfz17_0, hfz17_1, hfz17_2⟩ := cs3_ BK232.out; obtain ⟨Ao18, co18, eo18⟩ := Kd.R_slice HO_5.out; subst eo18) | ((with_reducible refine gate_callee (f := 131) rfl ?_); refine goesL_ (some 24) rfl rfl Try.func131 (by kernel_rfl) rfl #[.slice Ao18 x5_1.length co18, .agg #[.int .i64 ((rd_T67 l1 x16_1).f0), .int .i64 ((rd_T67 l1 x16_1).f1), .int .i64 ((rd_T67 l1 x16_1).f2)]] rfl z1_ ?_; (with_reducible refine (impl_changed.calls k1 (fun k_ => some k_ = (.slice Ao18 x5_1.length co18 : Value).ownBlock) (.slice Ao18 x5_1.length co18) x5_1 ((rd_T67 l1 x16_1).f0) ((rd_T67 l1 x16_1).f1) ((rd_T67 l1 x16_1).f2) t234 w _ ?side1 ?side2 A13.out).mono ?_); (case side1 => repeat (first | (with_reducible first | exact HB.out | apply below_alloc | apply pw_below_drewN | apply below_drew1 | refine below_set ?_ GE232.out) | exact HB.out)); (case side2 => exact Kd.R_tight rfl HO_5.out); rintro e w19 ⟨v235, rfl, ho0, hb, hkp⟩; refine ⟨_, rfl, ?_⟩; have n0_ := q_ (blk_kept (by (with_reducible repeat (first | refine blk_drewN ?_ _ | refine blk_drew ?_ | refine blk_alloc ?_ _)); exact BK232.out) hkp (fun hs_ => (fun e_ => (Kd.R_ne HO_5.out BK232.out (by decide)) e_) hs_)); have n1_ := q_ (Kd.R_mono (ok' := fun k_ => True) ho0 (fun k_ hk_ => trivial)); have n2_ := q_ (hb); clear BK232; clear HB; clear HO_5; have BK232 := n0_; have HO236 := n1_; have HB := n2_; clear n0_ n1_ n2_; (try clear hb); (try clear hkp); (try clear ho0)))
        go_roundg k1
        case measure => have := HK1.out; omega
        case rel => exact ⟨(t234), (wrap64 (x16_1 + 1)), z7_, H', ⟨z67_⟩, ⟨by (with_reducible repeat (first | apply Kd.R_alloc | apply Kd.R_drewN | apply Kd.R_drew)); exact HO236.out⟩, ⟨z56_⟩⟩
       ·replace c12 := Bool.eq_false_iff.mpr c12
        subst c12
        have H1 : (impl_MapAll.l0 k1 x5_1 l1 (l1.length : Int) (wrap64 (x16_1 + 1))) = some r := by rw [if_neg (show ¬ (false = true) by decide)] at H; exact H
        clear H
        have H := H1
        clear H1
        have H' := q_ H
        clear H
        have p231 : 0 ≤ (x16_1 : Int) := of_decide_eq_true z5_
        have q231 : x16_1 < (l1.length : Int) := of_decide_eq_true z5_
        obtain ⟨ad231, e231, hx231_0, hx231_1, hx231_2⟩ := at_T67 HR1.out x16_1 p231 q231
        cases e231
        replace hx231_0 := up_ HB hx231_0
        replace hx231_1 := up_ HB hx231_1
        replace hx231_2 := up_ HB hx231_2
        replace p231 := eq_true p231
        replace q231 := eq_true q231
        go_wp2_with (first | ((with_reducible refine gate_dst (N := 7) rfl ?_); refine box_event ?hg (N := 7) ?hd (cs := #[.int .i64 0, .int .i64 0, .int .i64 0]) (t := 67) ?hr ?_; (case hd => rfl); (case hg => rfl); (case hr => exact z108_); intro gb232 hg w20 hbox hb; have n0_ := q_ (Kd.R_below z17_ hb); have n1_ := q_ (below_step z0_ hb); have n2_ := q_ (hbox); have n3_ := q_ ((z91_ : w.heap.size ≤ gb232)); have n4_ := q_ ((z91_ : w.heap.size ≤ gb232)); clear HO_5; clear HB; have HO_5 := n0_; have HB := n1_; have BK232 := n2_; have GW232 := n3_; have GE232 := n4_; clear n0_ n1_ n2_ n3_ n4_; clear hb hbox hg; obtain ⟨hcz21_0, hcz21_1, hcz21_2, hfz21_0, hfz21_1, hfz21_2⟩ := cs3_ BK232.out) | ((with_reducible refine gate_callee (f := 59) rfl ?_); refine goesL_ (some 21) rfl rfl Try.func59 (by kernel_rfl) rfl #[.agg #[.int .i64 ((rd_T67 l1 x16_1).f0), .int .i64 ((rd_T67 l1 x16_1).f1), .int .i64 ((rd_T67 l1 x16_1).f2)]] rfl z1_ ?_; (with_reducible refine (impl_MsgOk.calls k1 ((rd_T67 l1 x16_1).f0) ((rd_T67 l1 x16_1).f1) ((rd_T67 l1 x16_1).f2) false _ A11.out).mono ?_); rintro e w22 ⟨rfl, hb⟩; refine ⟨_, rfl, ?_⟩; have n0_ := q_ (Kd.R_below (by (with_reducible repeat (first | apply Kd.R_alloc | apply Kd.R_drewN | apply Kd.R_drew)); exact (Kd.R_mono (Kd.R_far (p := ⟨gb232, 2, none⟩) (Kd.R_far (p := ⟨gb232, 1, none⟩) (Kd.R_far (p := ⟨gb232, 0, none⟩) (Kd.R_types HO_5.out BK232.out (by decide)) (fun _ hk => hk.2) (.int .i64 ((rd_T67 l1 x16_1).f0))) (fun _ hk => hk.2) (.int .i64 ((rd_T67 l1 x16_1).f1))) (fun _ hk => hk.2) (.int .i64 ((rd_T67 l1 x16_1).f2))) (fun _ h_ => h_.1))) hb); have n1_ := q_ (blk_below (g := gb232) (o := .cells #[.int .i64 ((rd_T67 l1 x16_1).f0), .int .i64 ((rd_T67 l1 x16_1).f1), .int .i64 ((rd_T67 l1 x16_1).f2)] 67 (0, 0)) z30_ hb); have n2_ := q_ (below_step z56_ hb); clear HO_5; clear BK232; clear HB; have HO_5 := n0_; have BK232 := n1_; have HB := n2_; clear n0_ n1_ n2_; (try clear hb); (try clear hb2); (try clear hk); (try clear hi)))
        go_roundg k1
        case measure => have := HK1.out; omega
        case rel => exact ⟨(x5_1), (wrap64 (x16_1 + 1)), z7_, H', ⟨z67_⟩, ⟨z17_⟩, ⟨z56_⟩⟩
      ·rw [if_neg c10] at H
       exact absurd H (by simp)
     ·rw [if_neg c9] at H
      exact absurd H (by simp)
    ·rw [if_neg c8] at H
     have c8b0 : decide (x16_1 < (l1.length : Int)) = false := decide_eq_false c8
     clear c8
     obtain rfl := Option.some.inj H
     go_wp2
     go_ret
     exact ⟨_, z4_, z17_, z0_⟩
 ·replace c5 := Bool.eq_false_iff.mpr c5
  subst c5
  have H1 : (some t227) = some r := by rw [if_neg (show ¬ (false = true) by decide)] at H; exact H
  clear H
  have H := H1
  clear H1
  obtain rfl := Option.some.inj H
  go_enter Try.func63, Try.ntmps63
  go_wp2_with (first | ((with_reducible refine gate_callee (f := 130) rfl ?_); refine goesL_ (some 9) rfl rfl Try.func130 (by kernel_rfl) rfl #[.slice A0 l0.length c0] rfl z1_ ?_; (with_reducible refine (slices_Clone_Pair.calls _ _ l0 t227 _ ?side1 ?side2 A3.out).mono ?_); (case side1 => exact z110_); (case side2 => exact HC0.out); rintro e w23 ⟨v228, rfl, ho0, hb⟩; refine ⟨_, rfl, ?_⟩; have n0_ := q_ (Kd.R_lower ho0 (below_size z0_)); have n1_ := q_ (below_step z0_ hb); clear HB; have HO229 := n0_; have HB := n1_; clear n0_ n1_; (try clear hb); (try clear hb2); (try clear hk); (try clear hi); (try clear ho0)) | ((with_reducible refine gate_callee (f := 57) rfl ?_); refine goesL_ (some 11) rfl rfl Try.func57 (by kernel_rfl) rfl #[.slice A0 l0.length c0] rfl z1_ ?_; (with_reducible refine (impl_MapOk.calls k _ _ l0 false _ ?side1 ?side2 A4.out).mono ?_); (case side1 => exact z109_); (case side2 => exact HC0.out); rintro e w24 ⟨rfl, hb⟩; refine ⟨_, rfl, ?_⟩; have n0_ := q_ (Kd.R_below z68_ hb); have n1_ := q_ (below_step z0_ hb); clear HO229; clear HB; have HO229 := n0_; have HB := n1_; clear n0_ n1_; (try clear hb); (try clear hb2); (try clear hk); (try clear hi)))
  go_ret
  exact ⟨_, z4_, z68_, z0_⟩

/-- A state of type 189 at block g of W; what its slices lead to came in by w0. -/
def IsS189 (w0 W : World) (g : Nat) (f0 : List Int) (f1 : Int) (f2 : Int) : Prop := ∃ A0 c0, W.heap[g]? = some (.cells #[.slice A0 f0.length c0, .int .i64 f1, .int .i64 f2] 189 (0, 0)) ∧ w0.heap.size ≤ g ∧ Kd.C (Kd.int .u8) w0 A0 f0.length f0
theorem IsS189.grown {w0 W : World} {g : Nat} {f0 : List Int} {f1 : Int} {f2 : Int} {W1 : World} {row : Option Nat} (h : IsS189 w0 W g f0 f1 f2) (hw : W.grownBy W1 row) (hne : some g ≠ row) : IsS189 w0 W1 g f0 f1 f2 := by
 obtain ⟨A0, c0, hb, hg, hr0⟩ := h
 exact ⟨A0, c0, blk_grown hb hw hne, hg, hr0⟩
theorem IsS189.own_neN {w0 W : World} {g : Nat} {f0 : List Int} {f1 : Int} {f2 : Int} {α : Type} {d : Kd α} {e : Nat} {base : Nat} {ok : Nat → Prop} {v : Value} {xs : List α} (h : IsS189 w0 W g f0 f1 f2) (ho : Kd.N d e W base ok v xs) (ht : e ≠ 189) : some g ≠ v.ownBlock := by
 obtain ⟨A0, c0, hb, hg, hr0⟩ := h
 exact Kd.N_ne ho hb ht
theorem IsS189.fresh {w0 W : World} {g : Nat} {f0 : List Int} {f1 : Int} {f2 : Int} (h : IsS189 w0 W g f0 f1 f2) : ∀ k, W.heap.size ≤ k → k ≠ g := by
 obtain ⟨A0, c0, hb, hg, hr0⟩ := h
 exact Kd.freshB hb
theorem IsS189.kept {w0 W : World} {g : Nat} {f0 : List Int} {f1 : Int} {f2 : Int} {W1 : World} {S : Nat → Prop} (h : IsS189 w0 W g f0 f1 f2) (hk : Kept W W1 S) (hne : ¬ S g) : IsS189 w0 W1 g f0 f1 f2 := by
 obtain ⟨A0, c0, hb, hg, hr0⟩ := h
 exact ⟨A0, c0, blk_kept hb hk hne, hg, hr0⟩
theorem IsS189.below {w0 W : World} {g : Nat} {f0 : List Int} {f1 : Int} {f2 : Int} {W1 : World} (h : IsS189 w0 W g f0 f1 f2) (hw : Below W.heap.size W W1) : IsS189 w0 W1 g f0 f1 f2 := h.grown (grown_of_below hw none) (by simp)
theorem IsS189.alloc {w0 W : World} {g : Nat} {f0 : List Int} {f1 : Int} {f2 : Int} (h : IsS189 w0 W g f0 f1 f2) (o : Obj) : IsS189 w0 (W.alloc o) g f0 f1 f2 := h.below (below_alloc (Below.refl _ _) o)
theorem IsS189.drewN {w0 W : World} {g : Nat} {f0 : List Int} {f1 : Int} {f2 : Int} (h : IsS189 w0 W g f0 f1 f2) (m : Nat) : IsS189 w0 (W.drewN m) g f0 f1 f2 := h
theorem IsS189.drew {w0 W : World} {g : Nat} {f0 : List Int} {f1 : Int} {f2 : Int} (h : IsS189 w0 W g f0 f1 f2) : IsS189 w0 W.drew g f0 f1 f2 := h
theorem IsS189.at_ {w0 W : World} {g : Nat} {f0 : List Int} {f1 : Int} {f2 : Int} {w' : World} {m : Nat} (hq : W.drewN m = w') (h : IsS189 w0 W g f0 f1 f2) : IsS189 w0 w' g f0 f1 f2 := by subst hq; exact IsS189.drewN h m
theorem IsS189.apart {w0 W : World} {g : Nat} {f0 : List Int} {f1 : Int} {f2 : Int} {α : Type} {d : Kd α} {e : Nat} {base : Nat} {ok : Nat → Prop} {v : Value} {xs : List α} (h : IsS189 w0 W g f0 f1 f2) (ho : d.R e W base ok v xs) (ht : ∀ q, q ∈ e :: d.E → q ≠ 189) : d.R e W base (fun k => ok k ∧ k ≠ g) v xs := by
 obtain ⟨A0, c0, hb, hg, hr0⟩ := h
 exact Kd.R_types ho hb ht
theorem IsS189.own_ne {w0 W : World} {g : Nat} {f0 : List Int} {f1 : Int} {f2 : Int} {α : Type} {d : Kd α} {e : Nat} {base : Nat} {ok : Nat → Prop} {v : Value} {xs : List α} (h : IsS189 w0 W g f0 f1 f2) (ho : d.R e W base ok v xs) (ht : e ≠ 189) : some g ≠ v.ownBlock := by
 obtain ⟨A0, c0, hb, hg, hr0⟩ := h
 exact Kd.R_ne ho hb ht
theorem IsS189.apartQ {w0 W : World} {g : Nat} {f0 : List Int} {f1 : Int} {f2 : Int} {α : Type} {d : Kd α} {e : Nat} {base : Nat} {ok : Nat → Prop} {v : Value} {xs : List α} (h : IsS189 w0 W g f0 f1 f2) (ho : d.Q e W base ok v xs) (ht : ∀ q, q ∈ e :: d.E → q ≠ 189) : d.Q e W base (fun k => ok k ∧ k ≠ g) v xs := by
 obtain ⟨A0, c0, hb, hg, hr0⟩ := h
 exact Kd.Q_types ho hb ht
theorem IsS189.own_neQ {w0 W : World} {g : Nat} {f0 : List Int} {f1 : Int} {f2 : Int} {α : Type} {d : Kd α} {e : Nat} {base : Nat} {ok : Nat → Prop} {v : Value} {xs : List α} (h : IsS189 w0 W g f0 f1 f2) (ho : d.Q e W base ok v xs) (ht : e ≠ 189) : some g ≠ v.ownBlock := by
 obtain ⟨A0, c0, hb, hg, hr0⟩ := h
 exact Kd.Q_ne ho hb ht
theorem IsS189.apartS {w0 W : World} {g : Nat} {f0 : List Int} {f1 : Int} {f2 : Int} {α : Type} {d : Kd α} {e : Nat} {base : Nat} {ok : Nat → Prop} {v : Value} {xs : List α} (h : IsS189 w0 W g f0 f1 f2) (ho : d.S e W base ok v xs) (ht : ∀ q, q ∈ e :: d.E → q ≠ 189) : d.S e W base (fun k => ok k ∧ k ≠ g) v xs := by
 obtain ⟨A0, c0, hb, hg, hr0⟩ := h
 exact Kd.S_types ho hb ht
theorem IsS189.own_neS {w0 W : World} {g : Nat} {f0 : List Int} {f1 : Int} {f2 : Int} {α : Type} {d : Kd α} {e : Nat} {base : Nat} {ok : Nat → Prop} {v : Value} {xs : List α} (h : IsS189 w0 W g f0 f1 f2) (ho : d.S e W base ok v xs) (ht : e ≠ 189) : some g ≠ v.ownBlock := by
 obtain ⟨A0, c0, hb, hg, hr0⟩ := h
 exact Kd.S_ne ho hb ht
theorem IsS189.lt {w0 W : World} {g : Nat} {f0 : List Int} {f1 : Int} {f2 : Int} (h : IsS189 w0 W g f0 f1 f2) : g < W.heap.size := by
 obtain ⟨A0, c0, hb, hg, hr0⟩ := h
 exact blk_lt hb
theorem IsS189.ge {w0 W : World} {g : Nat} {f0 : List Int} {f1 : Int} {f2 : Int} (h : IsS189 w0 W g f0 f1 f2) : w0.heap.size ≤ g := by
 obtain ⟨A0, c0, hb, hg, hr0⟩ := h
 exact hg
theorem IsS189.ne_blk {w0 W : World} {g : Nat} {f0 : List Int} {f1 : Int} {f2 : Int} {a : Nat} {cs : Array Value} {t : TypeId} {fr : Nat × Nat} (h : IsS189 w0 W g f0 f1 f2) (hb2 : W.heap[a]? = some (.cells cs t fr)) (ht : t ≠ 189) : g ≠ a := by
 obtain ⟨A0, c0, hb, hg, hr0⟩ := h
 rintro rfl
 rw [hb] at hb2
 injection hb2 with hb2
 injection hb2 with _ ht2
 exact ht ht2.symm
theorem IsS189.far {w0 W : World} {g : Nat} {f0 : List Int} {f1 : Int} {f2 : Int} {p : Addr} (h : IsS189 w0 W g f0 f1 f2) (hne : g ≠ p.block) (u : Value) : IsS189 w0 (W.setCell p u) g f0 f1 f2 := by
 obtain ⟨A0, c0, hb, hg, hr0⟩ := h
 exact ⟨A0, c0, blk_far hb hne u, hg, hr0⟩
theorem cellS189_0 {W : World} {g : Nat} {A0 : Option Addr} {c0 : Nat} {f0 : List Int} {f1 : Int} {f2 : Int} (h : W.heap[g]? = some (.cells #[.slice A0 f0.length c0, .int .i64 f1, .int .i64 f2] 189 (0, 0))) : W.cell? ⟨g, 0, none⟩ = some (.slice A0 f0.length c0) := (blk_cell h 0).trans rfl
theorem cellS189_1 {W : World} {g : Nat} {A0 : Option Addr} {c0 : Nat} {f0 : List Int} {f1 : Int} {f2 : Int} (h : W.heap[g]? = some (.cells #[.slice A0 f0.length c0, .int .i64 f1, .int .i64 f2] 189 (0, 0))) : W.cell? ⟨g, 1, none⟩ = some (.int .i64 f1) := (blk_cell h 1).trans rfl
theorem IsS189.set_1 {w0 W : World} {g : Nat} {f0 : List Int} {f1 : Int} {f2 : Int} (h : IsS189 w0 W g f0 f1 f2) (x : Int) : IsS189 w0 (W.setCell ⟨g, 1, none⟩ (.int .i64 x)) g f0 x f2 := by
 obtain ⟨A0, c0, hb, hg, hr0⟩ := h
 exact ⟨A0, c0, by simpa using blk_set hb 1 (.int .i64 x), hg, hr0⟩
theorem cellS189_2 {W : World} {g : Nat} {A0 : Option Addr} {c0 : Nat} {f0 : List Int} {f1 : Int} {f2 : Int} (h : W.heap[g]? = some (.cells #[.slice A0 f0.length c0, .int .i64 f1, .int .i64 f2] 189 (0, 0))) : W.cell? ⟨g, 2, none⟩ = some (.int .i64 f2) := (blk_cell h 2).trans rfl
theorem IsS189.set_2 {w0 W : World} {g : Nat} {f0 : List Int} {f1 : Int} {f2 : Int} (h : IsS189 w0 W g f0 f1 f2) (x : Int) : IsS189 w0 (W.setCell ⟨g, 2, none⟩ (.int .i64 x)) g f0 f1 x := by
 obtain ⟨A0, c0, hb, hg, hr0⟩ := h
 exact ⟨A0, c0, by simpa using blk_set hb 2 (.int .i64 x), hg, hr0⟩
theorem IsS189.new (w0 W : World) (A0 : Option Addr) (c0 : Nat) (f0 : List Int) (f1 : Int) (f2 : Int) (hB : Below w0.heap.size w0 W) (hr0 : Kd.C (Kd.int .u8) w0 A0 f0.length f0) : IsS189 w0 (W.alloc (.cells #[.slice A0 f0.length c0, .int .i64 f1, .int .i64 f2] 189)) W.heap.size f0 f1 f2 := ⟨A0, c0, by simpa using heap_alloc_new W _, hB.size, hr0⟩

/-! ### spec_l1New: function 123 -/
def spec_l1New.l0 : Nat → List Int → Int → Int → Option (List Int × Int × Int)
 | 0, _, _, _ => none
 | k + 1, x0, x3, x4 => if x4 < (x0.length : Int) then (if x4 < 4000 then (if 0 ≤ x4 then (spec_l1New.l0 k x0 (Go.bits .and .i64 (wrap64 ((wrap64 ((wrap64 (x3 * 131)) + (wrap64 (rd x0 x4)))) + 7)) 1073741823) (wrap64 (x4 + 1))) else (none)) else (some (x0, 0, x3))) else (some (x0, 0, x3))
def spec_l1New.f (k : Nat) (l0 : List Int) : Option (List Int × Int × Int) := spec_l1New.l0 k l0 (wrap64 (18665 + (l0.length : Int))) 0
theorem spec_l1New.mono_l : ∀ k, (∀ y0 y1 y2, LeO (spec_l1New.l0 k y0 y1 y2) (spec_l1New.l0 (k + 1) y0 y1 y2))
 | 0 => fun _ _ _ r h => by simp [spec_l1New.l0] at h
 | k + 1 => by
  have ih0 := spec_l1New.mono_l k
  ·intro y0 y1 y2
   unfold spec_l1New.l0
   repeat' first
   | (with_reducible exact ih0 _ _ _)
   | (with_reducible exact LeO.refl _)
   | (with_reducible exact LeO.none _)
   | (with_reducible refine LeO.ite ?_ ?_)
   | (with_reducible refine LeO.bind ?_ (fun _ => ?_))
   | exact ih0 _ _ _
   | exact LeO.none _
   | refine LeO.ite ?_ ?_
   | refine LeO.bind ?_ (fun _ => ?_)
theorem spec_l1New.mono : ∀ a0 k, LeO (spec_l1New.f k a0) (spec_l1New.f (k + 1) a0) := by
 intro a0 k
 have ih0 := spec_l1New.mono_l k
 unfold spec_l1New.f
 repeat' first
   | (with_reducible exact ih0 _ _ _)
   | (with_reducible exact LeO.refl _)
   | (with_reducible exact LeO.none _)
   | (with_reducible refine LeO.ite ?_ ?_)
   | (with_reducible refine LeO.bind ?_ (fun _ => ?_))
   | exact ih0 _ _ _
   | exact LeO.none _
   | refine LeO.ite ?_ ?_
   | refine LeO.bind ?_ (fun _ => ?_)
set_option maxHeartbeats 8000000 in
set_option maxRecDepth 100000 in
theorem spec_l1New.calls (k : Nat) (A0 : Option Addr) (c0 : Nat) (l0 : List Int) (r1 : List Int) (r2 : Int) (r3 : Int) (w0 w : World) (hB : Below w0.heap.size w0 w) (hr0 : Kd.C (Kd.int .u8) w0 A0 l0.length l0) (hc0 : l0.length ≤ c0) (h : spec_l1New.f k l0 = some (r1, r2, r3)) :
  Calls Try.prog 123 #[.slice A0 l0.length c0] w fun e w' => ∃ g_ : Nat, e = .returned (.pointer (some ⟨g_, 0, none⟩)) ∧ IsS189 w0 w' g_ r1 r2 r3 ∧ Below w0.heap.size w0 w' ∧ Below w.heap.size w w' := by
 have hu189 := Try.underlying189
 have HR0 := q_ hr0
 have HC0 := q_ hc0
 clear hr0 hc0
 have HBW := q_ (Below.refl w.heap.size w)
 have HW0 := q_ hB.size
 have HB := q_ hB
 clear hB
 have H : (spec_l1New.l0 k l0 (wrap64 (18665 + (l0.length : Int))) 0) = some (r1, r2, r3) := h
 clear h
 have H' := q_ H
 clear H
 go_enter Try.func123, Try.ntmps123
 go_wp2
 go_loopg [3, 4] k (fun kq v3 v4 w' => ∃ (x3_1 : Int) (x4_1 : Int), v3 = .int .i64 x3_1 ∧ v4 = .int .i64 x4_1 ∧ Aside0 (spec_l1New.l0 kq l0 x3_1 x4_1 = some (r1, r2, r3)) ∧ Aside0 (kq ≤ k) ∧ Aside0 (Below w.heap.size w w') ∧ Aside0 (Below w0.heap.size w0 w'))
 case atStart => exact ⟨(wrap64 (18665 + (l0.length : Int))), (0), z7_, z7_, H', ⟨Nat.le_refl _⟩, ⟨z52_⟩, ⟨z0_⟩⟩
 case round =>
  clear H'
  try clear c1
  obtain ⟨x3_1, x4_1, rfl, rfl, HA, HK1, HBW, HB⟩ := hrel
  cases gk with
  | zero => exact absurd HA.out (by simp [spec_l1New.l0])
  | succ k1 =>
   have H := HA.out
   clear HA
   simp only [spec_l1New.l0] at H
   by_cases c2 : x4_1 < (l0.length : Int)
   ·rw [if_pos c2] at H
    have c2b0 : decide (x4_1 < (l0.length : Int)) = true := decide_eq_true c2
    clear c2
    by_cases c3 : x4_1 < 4000
    ·rw [if_pos c3] at H
     have c3b0 : decide (x4_1 < 4000) = true := decide_eq_true c3
     clear c3
     by_cases c4 : 0 ≤ x4_1
     ·rw [if_pos c4] at H
      have c4b0 : decide (0 ≤ x4_1) = true := decide_eq_true c4
      clear c4
      have H' := q_ H
      clear H
      have p237 : 0 ≤ (x4_1 : Int) := of_decide_eq_true z5_
      have q237 : x4_1 < (l0.length : Int) := of_decide_eq_true z5_
      obtain ⟨ad237, e237, hx237_0⟩ := Kd.at_int HR0.out x4_1 p237 q237
      cases e237
      replace hx237_0 := pw_cell_below HB.out hx237_0
      replace p237 := eq_true p237
      replace q237 := eq_true q237
      go_wp2
      go_roundg k1
      case measure => have := HK1.out; omega
      case rel => exact ⟨(Go.bits .and .i64 (wrap64 ((wrap64 ((wrap64 (x3_1 * 131)) + (wrap64 (rd l0 x4_1)))) + 7)) 1073741823), (wrap64 (x4_1 + 1)), z7_, z7_, H', ⟨z67_⟩, ⟨z52_⟩, ⟨z0_⟩⟩
     ·rw [if_neg c4] at H
      exact absurd H (by simp)
    ·rw [if_neg c3] at H
     have c3b0 : decide (x4_1 < 4000) = false := decide_eq_false c3
     clear c3
     simp only [Option.some.injEq, Prod.mk.injEq] at H
     obtain ⟨rfl, rfl, rfl⟩ := H
     go_wp2_with (first | ((with_reducible refine gate_dst (N := 31) rfl ?_); refine box_event ?hg (N := 31) ?hd (cs := #[.slice A0 l0.length c0, .int .i64 0, .int .i64 x3_1]) (t := 189) ?hr ?_; (case hd => rfl); (case hg => rfl); (case hr => exact z108_); intro gb238 hg w5 hbox hb; have n0_ := q_ (below_step HBW.out hb); have n1_ := q_ (below_step z0_ hb); have n2_ := q_ (hbox); have n3_ := q_ ((z104_ : w.heap.size ≤ gb238)); have n4_ := q_ ((Nat.le_trans HW0.out (z104_ : w.heap.size ≤ gb238) : w0.heap.size ≤ gb238)); clear HBW; clear HB; have HBW := n0_; have HB := n1_; have BK238 := n2_; have GW238 := n3_; have GE238 := n4_; clear n0_ n1_ n2_ n3_ n4_; clear hb hbox hg))
     go_ret
     exact ⟨_, rfl, (show IsS189 w0 _ gb238 l0 0 x3_1 from ⟨_, _, by (with_reducible repeat (first | refine blk_drewN ?_ _ | refine blk_drew ?_ | refine blk_alloc ?_ _)); exact BK238.out, GE238.out, HR0.out⟩), by repeat (first | (with_reducible first | exact HB.out | apply below_alloc | apply pw_below_drewN | apply below_drew1 | refine below_set ?_ GE238.out) | exact HB.out), by repeat (first | (with_reducible first | exact HBW.out | apply below_alloc | apply pw_below_drewN | apply below_drew1 | refine below_set ?_ GW238.out) | exact HBW.out)⟩
   ·rw [if_neg c2] at H
    have c2b0 : decide (x4_1 < (l0.length : Int)) = false := decide_eq_false c2
    clear c2
    simp only [Option.some.injEq, Prod.mk.injEq] at H
    obtain ⟨rfl, rfl, rfl⟩ := H
    go_wp2_with (first | ((with_reducible refine gate_dst (N := 31) rfl ?_); refine box_event ?hg (N := 31) ?hd (cs := #[.slice A0 l0.length c0, .int .i64 0, .int .i64 x3_1]) (t := 189) ?hr ?_; (case hd => rfl); (case hg => rfl); (case hr => exact z108_); intro gb239 hg w6 hbox hb; have n0_ := q_ (below_step HBW.out hb); have n1_ := q_ (below_step z0_ hb); have n2_ := q_ (hbox); have n3_ := q_ ((z104_ : w.heap.size ≤ gb239)); have n4_ := q_ ((Nat.le_trans HW0.out (z104_ : w.heap.size ≤ gb239) : w0.heap.size ≤ gb239)); clear HBW; clear HB; have HBW := n0_; have HB := n1_; have BK239 := n2_; have GW239 := n3_; have GE239 := n4_; clear n0_ n1_ n2_ n3_ n4_; clear hb hbox hg))
    go_ret
    exact ⟨_, rfl, (show IsS189 w0 _ gb239 l0 0 x3_1 from ⟨_, _, by (with_reducible repeat (first | refine blk_drewN ?_ _ | refine blk_drew ?_ | refine blk_alloc ?_ _)); exact BK239.out, GE239.out, HR0.out⟩), by repeat (first | (with_reducible first | exact HB.out | apply below_alloc | apply pw_below_drewN | apply below_drew1 | refine below_set ?_ GE239.out) | exact HB.out), by repeat (first | (with_reducible first | exact HBW.out | apply below_alloc | apply pw_below_drewN | apply below_drew1 | refine below_set ?_ GW239.out) | exact HBW.out)⟩

/-! ### spec_l1Byte: function 169 -/
def spec_l1Byte.f (s0_0 : List Int) (s0_1 : Int) (s0_2 : Int) : Option (Int × Int × Int) := if s0_1 < (s0_0.length : Int) then (if 0 ≤ s0_1 then (some (Go.bits .and .i64 (wrap64 ((Go.bits .and .i64 (Go.bits .xor .i64 ((wrap64 ((wrap64 (s0_2 * 6364136223846793005)) + 1442695040888963407)) / 8589934592) ((wrap64 ((wrap64 (s0_2 * 6364136223846793005)) + 1442695040888963407)) / 35184372088832)) 255) + (wrap64 (rd s0_0 s0_1)))) 255, wrap64 (s0_1 + 1), wrap64 ((wrap64 (s0_2 * 6364136223846793005)) + 1442695040888963407))) else (none)) else (some (Go.bits .and .i64 (Go.bits .xor .i64 ((wrap64 ((wrap64 (s0_2 * 6364136223846793005)) + 1442695040888963407)) / 8589934592) ((wrap64 ((wrap64 (s0_2 * 6364136223846793005)) + 1442695040888963407)) / 35184372088832)) 255, s0_1, wrap64 ((wrap64 (s0_2 * 6364136223846793005)) + 1442695040888963407)))
set_option maxHeartbeats 8000000 in
set_option maxRecDepth 100000 in
theorem spec_l1Byte.calls (g : Nat) (s0_0 : List Int) (s0_1 : Int) (s0_2 : Int) (r1 : Int) (r2 : Int) (r3 : Int) (w0 w : World) (hI : IsS189 w0 w g s0_0 s0_1 s0_2) (hB : Below w0.heap.size w0 w) (h : spec_l1Byte.f s0_0 s0_1 s0_2 = some (r1, r2, r3)) :
  Calls Try.prog 169 #[.pointer (some ⟨g, 0, none⟩)] w fun e w' => e = .returned (.int .i64 r1) ∧ IsS189 w0 w' g s0_0 r2 r3 ∧ Below w0.heap.size w0 w' ∧ KeepBut w w' g none := by
 have HI0 := q_ hI
 have HK := q_ (KeepBut.refl w g none)
 have HL := q_ hB.size
 clear hI
 have HW0 := q_ hB.size
 have HB := q_ hB
 clear hB
 have H : (if s0_1 < (s0_0.length : Int) then (if 0 ≤ s0_1 then (some (Go.bits .and .i64 (wrap64 ((Go.bits .and .i64 (Go.bits .xor .i64 ((wrap64 ((wrap64 (s0_2 * 6364136223846793005)) + 1442695040888963407)) / 8589934592) ((wrap64 ((wrap64 (s0_2 * 6364136223846793005)) + 1442695040888963407)) / 35184372088832)) 255) + (wrap64 (rd s0_0 s0_1)))) 255, wrap64 (s0_1 + 1), wrap64 ((wrap64 (s0_2 * 6364136223846793005)) + 1442695040888963407))) else (none)) else (some (Go.bits .and .i64 (Go.bits .xor .i64 ((wrap64 ((wrap64 (s0_2 * 6364136223846793005)) + 1442695040888963407)) / 8589934592) ((wrap64 ((wrap64 (s0_2 * 6364136223846793005)) + 1442695040888963407)) / 35184372088832)) 255, s0_1, wrap64 ((wrap64 (s0_2 * 6364136223846793005)) + 1442695040888963407)))) = some (r1, r2, r3) := h
 clear h
 by_cases c2 : s0_1 < (s0_0.length : Int)
 ·rw [if_pos c2] at H
  have c2b0 : decide (s0_1 < (s0_0.length : Int)) = true := decide_eq_true c2
  clear c2
  by_cases c3 : 0 ≤ s0_1
  ·rw [if_pos c3] at H
   have c3b0 : decide (0 ≤ s0_1) = true := decide_eq_true c3
   clear c3
   simp only [Option.some.injEq, Prod.mk.injEq] at H
   obtain ⟨rfl, rfl, rfl⟩ := H
   obtain ⟨ASz4_0, cSz4_0, HGz4, hgz4, HSz4_0⟩ := HI0.out
   have hcz4_0 := cellS189_0 HGz4
   have hcz4_1 := cellS189_1 HGz4
   have hcz4_2 := cellS189_2 HGz4
   have hfz4_1 := blk_frozen HGz4 1
   have hfz4_2 := blk_frozen HGz4 2
   clear HGz4 hgz4
   have p240 : 0 ≤ (s0_1 : Int) := of_decide_eq_true z5_
   have q240 : s0_1 < (s0_0.length : Int) := of_decide_eq_true z5_
   obtain ⟨ad240, e240, hx240_0⟩ := Kd.at_int HSz4_0 s0_1 p240 q240
   cases e240
   have hn240_0 : ad240.block ≠ g := Nat.ne_of_lt (Nat.lt_of_lt_of_le (by have := World.block_lt_of_cell? _ _ hx240_0; first | rwa [add_block] at this | exact this) (IsS189.ge HI0.out))
   replace hx240_0 := pw_cell_below HB.out hx240_0
   replace hx240_0 := (cell_far (p := ⟨g, 2, none⟩) (by first | (rw [add_block]; exact hn240_0) | (show (Addr.add _ _).block ≠ _; rw [add_block]; exact hn240_0) | exact hn240_0) (.int .i64 (wrap64 ((wrap64 (s0_2 * 6364136223846793005)) + 1442695040888963407)))).trans hx240_0
   (try have hy240_0 := fun (n_ : Nat) => (show (((w.drewN n_).setCell ⟨g, 2, none⟩ (.int .i64 (wrap64 ((wrap64 (s0_2 * 6364136223846793005)) + 1442695040888963407))))).cell? _ = some _ from hx240_0))
   clear hn240_0
   replace p240 := eq_true p240
   replace q240 := eq_true q240
   go_enter Try.func169, Try.ntmps169
   go_wp2
   repeat (go_quiet (fail); try go_wp2)
   go_ret
   exact ⟨z4_, z3_, z6_, z2_⟩
  ·rw [if_neg c3] at H
   exact absurd H (by simp)
 ·rw [if_neg c2] at H
  have c2b0 : decide (s0_1 < (s0_0.length : Int)) = false := decide_eq_false c2
  clear c2
  simp only [Option.some.injEq, Prod.mk.injEq] at H
  obtain ⟨rfl, rfl, rfl⟩ := H
  obtain ⟨ASz5_0, cSz5_0, HGz5, hgz5, HSz5_0⟩ := HI0.out
  have hcz5_0 := cellS189_0 HGz5
  have hcz5_1 := cellS189_1 HGz5
  have hcz5_2 := cellS189_2 HGz5
  have hfz5_1 := blk_frozen HGz5 1
  have hfz5_2 := blk_frozen HGz5 2
  clear HGz5 hgz5
  go_enter Try.func169, Try.ntmps169
  go_wp2
  repeat (go_quiet (fail); try go_wp2)
  go_ret
  exact ⟨z4_, z3_, z6_, z2_⟩

/-! ### spec_l1Below: function 126 -/
def spec_l1Below.f (s0_0 : List Int) (s0_1 : Int) (s0_2 : Int) (a1 : Int) : Option (Int × Int × Int) := if a1 ≤ 0 then (some (0, s0_1, s0_2)) else (if a1 ≤ 256 then ((spec_l1Byte.f s0_0 s0_1 s0_2).bind fun bt241 => (if a1 = 0 then (none) else (some (Int.tmod bt241.1 a1, bt241.2.1, bt241.2.2)))) else ((spec_l1Byte.f s0_0 s0_1 s0_2).bind fun bt244 => ((spec_l1Byte.f s0_0 bt244.2.1 bt244.2.2).bind fun bt247 => ((spec_l1Byte.f s0_0 bt247.2.1 bt247.2.2).bind fun bt250 => ((spec_l1Byte.f s0_0 bt250.2.1 bt250.2.2).bind fun bt253 => (if a1 = 0 then (none) else (some (Int.tmod (wrap64 ((wrap64 ((wrap64 ((wrap64 (bt244.1 * 16777216)) + (wrap64 (bt247.1 * 65536)))) + (wrap64 (bt250.1 * 256)))) + bt253.1)) a1, bt253.2.1, bt253.2.2))))))))
set_option maxHeartbeats 8000000 in
set_option maxRecDepth 100000 in
theorem spec_l1Below.calls (g : Nat) (s0_0 : List Int) (s0_1 : Int) (s0_2 : Int) (a1 : Int) (r1 : Int) (r2 : Int) (r3 : Int) (w0 w : World) (hI : IsS189 w0 w g s0_0 s0_1 s0_2) (hB : Below w0.heap.size w0 w) (h : spec_l1Below.f s0_0 s0_1 s0_2 a1 = some (r1, r2, r3)) :
  Calls Try.prog 126 #[.pointer (some ⟨g, 0, none⟩), .int .i64 a1] w fun e w' => e = .returned (.int .i64 r1) ∧ IsS189 w0 w' g s0_0 r2 r3 ∧ Below w0.heap.size w0 w' ∧ KeepBut w w' g none := by
 have HI0 := q_ hI
 have HK := q_ (KeepBut.refl w g none)
 have HL := q_ hB.size
 clear hI
 have HW0 := q_ hB.size
 have HB := q_ hB
 clear hB
 have H : (if a1 ≤ 0 then (some (0, s0_1, s0_2)) else (if a1 ≤ 256 then ((spec_l1Byte.f s0_0 s0_1 s0_2).bind fun bt241 => (if a1 = 0 then (none) else (some (Int.tmod bt241.1 a1, bt241.2.1, bt241.2.2)))) else ((spec_l1Byte.f s0_0 s0_1 s0_2).bind fun bt244 => ((spec_l1Byte.f s0_0 bt244.2.1 bt244.2.2).bind fun bt247 => ((spec_l1Byte.f s0_0 bt247.2.1 bt247.2.2).bind fun bt250 => ((spec_l1Byte.f s0_0 bt250.2.1 bt250.2.2).bind fun bt253 => (if a1 = 0 then (none) else (some (Int.tmod (wrap64 ((wrap64 ((wrap64 ((wrap64 (bt244.1 * 16777216)) + (wrap64 (bt247.1 * 65536)))) + (wrap64 (bt250.1 * 256)))) + bt253.1)) a1, bt253.2.1, bt253.2.2))))))))) = some (r1, r2, r3) := h
 clear h
 by_cases c3 : a1 ≤ 0
 ·rw [if_pos c3] at H
  have c3b0 : decide (a1 ≤ 0) = true := decide_eq_true c3
  clear c3
  simp only [Option.some.injEq, Prod.mk.injEq] at H
  obtain ⟨rfl, rfl, rfl⟩ := H
  go_enter Try.func126, Try.ntmps126
  go_wp2
  go_ret
  exact ⟨z4_, z3_, z6_, z2_⟩
 ·rw [if_neg c3] at H
  have c3b0 : decide (a1 ≤ 0) = false := decide_eq_false c3
  clear c3
  by_cases c4 : a1 ≤ 256
  ·rw [if_pos c4] at H
   have c4b0 : decide (a1 ≤ 256) = true := decide_eq_true c4
   clear c4
   replace H := Option.bind_eq_some_iff.mp H
   obtain ⟨⟨t241, t242, t243⟩, A50, H⟩ := H
   replace H : (if a1 = 0 then (none) else (some (Int.tmod t241 a1, t242, t243))) = some (r1, r2, r3) := H
   have A5 := q_ A50
   clear A50
   by_cases c6 : a1 = 0
   ·rw [if_pos c6] at H
    exact absurd H (by simp)
   ·rw [if_neg c6] at H
    have c6b0 : (a1 == 0) = false := beq_eq_false_iff_ne.mpr c6
    have c6b1 : (a1 != 0) = true := bne_iff_ne.mpr c6
    simp only [Option.some.injEq, Prod.mk.injEq] at H
    obtain ⟨rfl, rfl, rfl⟩ := H
    go_enter Try.func126, Try.ntmps126
    go_wp2_with (first | ((with_reducible refine gate_callee (f := 169) rfl ?_); refine goesL_ (some 14) rfl rfl Try.func169 (by kernel_rfl) rfl #[.pointer (some ⟨g, 0, none⟩)] rfl z1_ ?_; (with_reducible refine (spec_l1Byte.calls g s0_0 s0_1 s0_2 t241 t242 t243 w0 _ ?side1 ?side2 A5.out).mono ?_); (case side1 => exact z106_); (case side2 => exact z107_); rintro e w7 ⟨rfl, hi, hb, hk⟩; refine ⟨_, rfl, ?_⟩; have n0_ := q_ (KeepBut.trans z2_ hk (.inl rfl)); have n1_ := q_ (hb); have n2_ := q_ (hi); clear HK; clear HB; clear HI0; have HK := n0_; have HB := n1_; have HI0 := n2_; clear n0_ n1_ n2_; (try clear hb); (try clear hb2); (try clear hk); (try clear hi)))
    go_ret
    exact ⟨z4_, z3_, z6_, z2_⟩
  ·rw [if_neg c4] at H
   have c4b0 : decide (a1 ≤ 256) = false := decide_eq_false c4
   clear c4
   replace H := Option.bind_eq_some_iff.mp H
   obtain ⟨⟨t244, t245, t246⟩, A80, H⟩ := H
   replace H : ((spec_l1Byte.f s0_0 t245 t246).bind fun bt247 => ((spec_l1Byte.f s0_0 bt247.2.1 bt247.2.2).bind fun bt250 => ((spec_l1Byte.f s0_0 bt250.2.1 bt250.2.2).bind fun bt253 => (if a1 = 0 then (none) else (some (Int.tmod (wrap64 ((wrap64 ((wrap64 ((wrap64 (t244 * 16777216)) + (wrap64 (bt247.1 * 65536)))) + (wrap64 (bt250.1 * 256)))) + bt253.1)) a1, bt253.2.1, bt253.2.2)))))) = some (r1, r2, r3) := H
   have A8 := q_ A80
   clear A80
   replace H := Option.bind_eq_some_iff.mp H
   obtain ⟨⟨t247, t248, t249⟩, A90, H⟩ := H
   replace H : ((spec_l1Byte.f s0_0 t248 t249).bind fun bt250 => ((spec_l1Byte.f s0_0 bt250.2.1 bt250.2.2).bind fun bt253 => (if a1 = 0 then (none) else (some (Int.tmod (wrap64 ((wrap64 ((wrap64 ((wrap64 (t244 * 16777216)) + (wrap64 (t247 * 65536)))) + (wrap64 (bt250.1 * 256)))) + bt253.1)) a1, bt253.2.1, bt253.2.2))))) = some (r1, r2, r3) := H
   have A9 := q_ A90
   clear A90
   replace H := Option.bind_eq_some_iff.mp H
   obtain ⟨⟨t250, t251, t252⟩, A100, H⟩ := H
   replace H : ((spec_l1Byte.f s0_0 t251 t252).bind fun bt253 => (if a1 = 0 then (none) else (some (Int.tmod (wrap64 ((wrap64 ((wrap64 ((wrap64 (t244 * 16777216)) + (wrap64 (t247 * 65536)))) + (wrap64 (t250 * 256)))) + bt253.1)) a1, bt253.2.1, bt253.2.2)))) = some (r1, r2, r3) := H
   have A10 := q_ A100
   clear A100
   replace H := Option.bind_eq_some_iff.mp H
   obtain ⟨⟨t253, t254, t255⟩, A110, H⟩ := H
   replace H : (if a1 = 0 then (none) else (some (Int.tmod (wrap64 ((wrap64 ((wrap64 ((wrap64 (t244 * 16777216)) + (wrap64 (t247 * 65536)))) + (wrap64 (t250 * 256)))) + t253)) a1, t254, t255))) = some (r1, r2, r3) := H
   have A11 := q_ A110
   clear A110
   by_cases c12 : a1 = 0
   ·rw [if_pos c12] at H
    exact absurd H (by simp)
   ·rw [if_neg c12] at H
    have c12b0 : (a1 == 0) = false := beq_eq_false_iff_ne.mpr c12
    have c12b1 : (a1 != 0) = true := bne_iff_ne.mpr c12
    simp only [Option.some.injEq, Prod.mk.injEq] at H
    obtain ⟨rfl, rfl, rfl⟩ := H
    go_enter Try.func126, Try.ntmps126
    go_wp2_with (first | ((with_reducible refine gate_callee (f := 169) rfl ?_); refine goesL_ (some 18) rfl rfl Try.func169 (by kernel_rfl) rfl #[.pointer (some ⟨g, 0, none⟩)] rfl z1_ ?_; (with_reducible refine (spec_l1Byte.calls g s0_0 s0_1 s0_2 t244 t245 t246 w0 _ ?side1 ?side2 A8.out).mono ?_); (case side1 => exact z106_); (case side2 => exact z107_); rintro e w13 ⟨rfl, hi, hb, hk⟩; refine ⟨_, rfl, ?_⟩; have n0_ := q_ (KeepBut.trans z2_ hk (.inl rfl)); have n1_ := q_ (hb); have n2_ := q_ (hi); clear HK; clear HB; clear HI0; have HK := n0_; have HB := n1_; have HI0 := n2_; clear n0_ n1_ n2_; (try clear hb); (try clear hb2); (try clear hk); (try clear hi)) | ((with_reducible refine gate_callee (f := 169) rfl ?_); refine goesL_ (some 20) rfl rfl Try.func169 (by kernel_rfl) rfl #[.pointer (some ⟨g, 0, none⟩)] rfl z1_ ?_; (with_reducible refine (spec_l1Byte.calls g s0_0 t245 t246 t247 t248 t249 w0 _ ?side1 ?side2 A9.out).mono ?_); (case side1 => exact z106_); (case side2 => exact z107_); rintro e w14 ⟨rfl, hi, hb, hk⟩; refine ⟨_, rfl, ?_⟩; have n0_ := q_ (KeepBut.trans z2_ hk (.inl rfl)); have n1_ := q_ (hb); have n2_ := q_ (hi); clear HK; clear HB; clear HI0; have HK := n0_; have HB := n1_; have HI0 := n2_; clear n0_ n1_ n2_; (try clear hb); (try clear hb2); (try clear hk); (try clear hi)) | ((with_reducible refine gate_callee (f := 169) rfl ?_); refine goesL_ (some 22) rfl rfl Try.func169 (by kernel_rfl) rfl #[.pointer (some ⟨g, 0, none⟩)] rfl z1_ ?_; (with_reducible refine (spec_l1Byte.calls g s0_0 t248 t249 t250 t251 t252 w0 _ ?side1 ?side2 A10.out).mono ?_); (case side1 => exact z106_); (case side2 => exact z107_); rintro e w15 ⟨rfl, hi, hb, hk⟩; refine ⟨_, rfl, ?_⟩; have n0_ := q_ (KeepBut.trans z2_ hk (.inl rfl)); have n1_ := q_ (hb); have n2_ := q_ (hi); clear HK; clear HB; clear HI0; have HK := n0_; have HB := n1_; have HI0 := n2_; clear n0_ n1_ n2_; (try clear hb); (try clear hb2); (try clear hk); (try clear hi)) | ((with_reducible refine gate_callee (f := 169) rfl ?_); refine goesL_ (some 24) rfl rfl Try.func169 (by kernel_rfl) rfl #[.pointer (some ⟨g, 0, none⟩)] rfl z1_ ?_; (with_reducible refine (spec_l1Byte.calls g s0_0 t251 t252 t253 t254 t255 w0 _ ?side1 ?side2 A11.out).mono ?_); (case side1 => exact z106_); (case side2 => exact z107_); rintro e w16 ⟨rfl, hi, hb, hk⟩; refine ⟨_, rfl, ?_⟩; have n0_ := q_ (KeepBut.trans z2_ hk (.inl rfl)); have n1_ := q_ (hb); have n2_ := q_ (hi); clear HK; clear HB; clear HI0; have HK := n0_; have HB := n1_; have HI0 := n2_; clear n0_ n1_ n2_; (try clear hb); (try clear hb2); (try clear hk); (try clear hi)))
    go_ret
    exact ⟨z4_, z3_, z6_, z2_⟩

/-! ### spec_l1PickInt: function 167 -/
def spec_l1PickInt.f (s0_0 : List Int) (s0_1 : Int) (s0_2 : Int) (l1 : List Int) : Option (Int × Int × Int) := (spec_l1Below.f s0_0 s0_1 s0_2 (l1.length : Int)).bind fun bt256 => (if 0 ≤ bt256.1 then (if bt256.1 < (l1.length : Int) then (some (rd l1 bt256.1, bt256.2.1, bt256.2.2)) else (none)) else (none))
set_option maxHeartbeats 8000000 in
set_option maxRecDepth 100000 in
theorem spec_l1PickInt.calls (g : Nat) (s0_0 : List Int) (s0_1 : Int) (s0_2 : Int) (A1 : Option Addr) (c1 : Nat) (l1 : List Int) (r1 : Int) (r2 : Int) (r3 : Int) (w0 w : World) (hI : IsS189 w0 w g s0_0 s0_1 s0_2) (hB : Below w0.heap.size w0 w) (hr1 : Kd.C (Kd.int .i64) w A1 l1.length l1) (hc1 : l1.length ≤ c1) (hf1 : ∀ ad, A1 = some ad → 0 < l1.length → ad.block ≠ g) (h : spec_l1PickInt.f s0_0 s0_1 s0_2 l1 = some (r1, r2, r3)) :
  Calls Try.prog 167 #[.pointer (some ⟨g, 0, none⟩), .slice A1 l1.length c1] w fun e w' => e = .returned (.int .i64 r1) ∧ IsS189 w0 w' g s0_0 r2 r3 ∧ Below w0.heap.size w0 w' ∧ KeepBut w w' g none := by
 have HR1 := q_ hr1
 have HC1 := q_ hc1
 clear hr1 hc1
 have HI0 := q_ hI
 have HK := q_ (KeepBut.refl w g none)
 have HL := q_ hB.size
 clear hI
 have HW0 := q_ hB.size
 have HB := q_ hB
 clear hB
 have H : ((spec_l1Below.f s0_0 s0_1 s0_2 (l1.length : Int)).bind fun bt256 => (if 0 ≤ bt256.1 then (if bt256.1 < (l1.length : Int) then (some (rd l1 bt256.1, bt256.2.1, bt256.2.2)) else (none)) else (none))) = some (r1, r2, r3) := h
 clear h
 replace H := Option.bind_eq_some_iff.mp H
 obtain ⟨⟨t256, t257, t258⟩, A30, H⟩ := H
 replace H : (if 0 ≤ t256 then (if t256 < (l1.length : Int) then (some (rd l1 t256, t257, t258)) else (none)) else (none)) = some (r1, r2, r3) := H
 have A3 := q_ A30
 clear A30
 by_cases c4 : 0 ≤ t256
 ·rw [if_pos c4] at H
  have c4b0 : decide (0 ≤ t256) = true := decide_eq_true c4
  clear c4
  by_cases c5 : t256 < (l1.length : Int)
  ·rw [if_pos c5] at H
   have c5b0 : decide (t256 < (l1.length : Int)) = true := decide_eq_true c5
   clear c5
   simp only [Option.some.injEq, Prod.mk.injEq] at H
   obtain ⟨rfl, rfl, rfl⟩ := H
   go_enter Try.func167, Try.ntmps167
   go_wp2_with (first | ((with_reducible refine gate_callee (f := 126) rfl ?_); refine goesL_ (some 9) rfl rfl Try.func126 (by kernel_rfl) rfl #[.pointer (some ⟨g, 0, none⟩), .int .i64 (l1.length : Int)] rfl z1_ ?_; (with_reducible refine (spec_l1Below.calls g s0_0 s0_1 s0_2 (l1.length : Int) t256 t257 t258 w0 _ ?side1 ?side2 A3.out).mono ?_); (case side1 => exact z106_); (case side2 => exact z107_); rintro e w6 ⟨rfl, hi, hb, hk⟩; refine ⟨_, rfl, ?_⟩; have n0_ := q_ (KeepBut.trans z2_ hk (.inl rfl)); have n1_ := q_ (hb); have n2_ := q_ (hi); clear HK; clear HB; clear HI0; have HK := n0_; have HB := n1_; have HI0 := n2_; clear n0_ n1_ n2_; (try clear hb); (try clear hb2); (try clear hk); (try clear hi); have p259 : 0 ≤ (t256 : Int) := of_decide_eq_true z5_; have q259 : t256 < (l1.length : Int) := of_decide_eq_true z5_; obtain ⟨ad259, e259, hx259_0⟩ := Kd.at_int HR1.out t256 p259 q259; cases e259; replace hx259_0 := keep_cell HK.out hx259_0 (by first | (rw [add_block]; exact hf1 _ rfl (by omega)) | exact hf1 _ rfl (by omega) | exact hf1 ad259 rfl (by omega)); replace p259 := eq_true p259; replace q259 := eq_true q259))
   go_ret
   exact ⟨z4_, z3_, z6_, z2_⟩
  ·rw [if_neg c5] at H
   exact absurd H (by simp)
 ·rw [if_neg c4] at H
  exact absurd H (by simp)

/-! ### spec_l1Once: function 135 -/
def spec_l1Once.f (s0_0 : List Int) (s0_1 : Int) (s0_2 : Int) (a1 : Int) : Option (Bool × Int × Int) := (spec_l1Below.f s0_0 s0_1 s0_2 a1).bind fun bt260 => (some ((bt260.1 == 0), bt260.2.1, bt260.2.2))
set_option maxHeartbeats 8000000 in
set_option maxRecDepth 100000 in
theorem spec_l1Once.calls (g : Nat) (s0_0 : List Int) (s0_1 : Int) (s0_2 : Int) (a1 : Int) (r1 : Bool) (r2 : Int) (r3 : Int) (w0 w : World) (hI : IsS189 w0 w g s0_0 s0_1 s0_2) (hB : Below w0.heap.size w0 w) (h : spec_l1Once.f s0_0 s0_1 s0_2 a1 = some (r1, r2, r3)) :
  Calls Try.prog 135 #[.pointer (some ⟨g, 0, none⟩), .int .i64 a1] w fun e w' => e = .returned (.bool r1) ∧ IsS189 w0 w' g s0_0 r2 r3 ∧ Below w0.heap.size w0 w' ∧ KeepBut w w' g none := by
 have HI0 := q_ hI
 have HK := q_ (KeepBut.refl w g none)
 have HL := q_ hB.size
 clear hI
 have HW0 := q_ hB.size
 have HB := q_ hB
 clear hB
 have H : ((spec_l1Below.f s0_0 s0_1 s0_2 a1).bind fun bt260 => (some ((bt260.1 == 0), bt260.2.1, bt260.2.2))) = some (r1, r2, r3) := h
 clear h
 replace H := Option.bind_eq_some_iff.mp H
 obtain ⟨⟨t260, t261, t262⟩, A30, H⟩ := H
 replace H : (some ((t260 == 0), t261, t262)) = some (r1, r2, r3) := H
 have A3 := q_ A30
 clear A30
 simp only [Option.some.injEq, Prod.mk.injEq] at H
 obtain ⟨rfl, rfl, rfl⟩ := H
 go_enter Try.func135, Try.ntmps135
 go_wp2_with (first | ((with_reducible refine gate_callee (f := 126) rfl ?_); refine goesL_ (some 7) rfl rfl Try.func126 (by kernel_rfl) rfl #[.pointer (some ⟨g, 0, none⟩), .int .i64 a1] rfl z1_ ?_; (with_reducible refine (spec_l1Below.calls g s0_0 s0_1 s0_2 a1 t260 t261 t262 w0 _ ?side1 ?side2 A3.out).mono ?_); (case side1 => exact z106_); (case side2 => exact z107_); rintro e w4 ⟨rfl, hi, hb, hk⟩; refine ⟨_, rfl, ?_⟩; have n0_ := q_ (KeepBut.trans z2_ hk (.inl rfl)); have n1_ := q_ (hb); have n2_ := q_ (hi); clear HK; clear HB; clear HI0; have HK := n0_; have HB := n1_; have HI0 := n2_; clear n0_ n1_ n2_; (try clear hb); (try clear hb2); (try clear hk); (try clear hi)))
 go_ret
 exact ⟨z4_, z3_, z6_, z2_⟩

/-! ### spec_l1DrawKey: function 141 -/
def spec_l1DrawKey.f (s0_0 : List Int) (s0_1 : Int) (s0_2 : Int) : Option (Int × Int × Int) := (spec_l1Once.f s0_0 s0_1 s0_2 15).bind fun bt263 => (if bt263.1 = true then ((spec_l1PickInt.f s0_0 bt263.2.1 bt263.2.2 (([0, 999, 500] : List Int))).bind fun bt269 => (some (bt269.1, bt269.2.1, bt269.2.2))) else ((spec_l1Below.f s0_0 bt263.2.1 bt263.2.2 30).bind fun bt272 => (some (bt272.1, bt272.2.1, bt272.2.2))))
set_option maxHeartbeats 8000000 in
set_option maxRecDepth 100000 in
theorem spec_l1DrawKey.calls (g : Nat) (s0_0 : List Int) (s0_1 : Int) (s0_2 : Int) (r1 : Int) (r2 : Int) (r3 : Int) (w0 w : World) (hI : IsS189 w0 w g s0_0 s0_1 s0_2) (hB : Below w0.heap.size w0 w) (h : spec_l1DrawKey.f s0_0 s0_1 s0_2 = some (r1, r2, r3)) :
  Calls Try.prog 141 #[.pointer (some ⟨g, 0, none⟩)] w fun e w' => e = .returned (.int .i64 r1) ∧ IsS189 w0 w' g s0_0 r2 r3 ∧ Below w0.heap.size w0 w' ∧ KeepBut w w' g none := by
 have HI0 := q_ hI
 have HK := q_ (KeepBut.refl w g none)
 have HL := q_ hB.size
 clear hI
 have HW0 := q_ hB.size
 have HB := q_ hB
 clear hB
 have H : ((spec_l1Once.f s0_0 s0_1 s0_2 15).bind fun bt263 => (if bt263.1 = true then ((spec_l1PickInt.f s0_0 bt263.2.1 bt263.2.2 (([0, 999, 500] : List Int))).bind fun bt269 => (some (bt269.1, bt269.2.1, bt269.2.2))) else ((spec_l1Below.f s0_0 bt263.2.1 bt263.2.2 30).bind fun bt272 => (some (bt272.1, bt272.2.1, bt272.2.2))))) = some (r1, r2, r3) := h
 clear h
 replace H := Option.bind_eq_some_iff.mp H
 obtain ⟨⟨t263, t264, t265⟩, A20, H⟩ := H
 replace H : (if t263 = true then ((spec_l1PickInt.f s0_0 t264 t265 (([0, 999, 500] : List Int))).bind fun bt269 => (some (bt269.1, bt269.2.1, bt269.2.2))) else ((spec_l1Below.f s0_0 t264 t265 30).bind fun bt272 => (some (bt272.1, bt272.2.1, bt272.2.2)))) = some (r1, r2, r3) := H
 have A2 := q_ A20
 clear A20
 by_cases c3 : t263 = true
 ·subst c3
  have H1 : ((spec_l1PickInt.f s0_0 t264 t265 (([0, 999, 500] : List Int))).bind fun bt269 => (some (bt269.1, bt269.2.1, bt269.2.2))) = some (r1, r2, r3) := z51_
  clear H
  have H := H1
  clear H1
  obtain ⟨y266, hy266⟩ : ∃ y_ : List Int, y_ = (([0, 999, 500] : List Int)) := ⟨_, rfl⟩
  replace H : ((spec_l1PickInt.f s0_0 t264 t265 y266).bind fun bt269 => (some (bt269.1, bt269.2.1, bt269.2.2))) = some (r1, r2, r3) := by first | (rw [hy266]; with_reducible exact H) | (have H2_ := (Option.bind_some _ _).symm.trans H; rw [hy266]; with_reducible exact H2_) | (have H2_ := (Option.bind_some _ _).symm.trans H; with_reducible exact H2_) | with_reducible exact H | (rw [hy266]; exact H) | exact H
  have Ny266 := q_ hy266
  clear hy266
  replace H := Option.bind_eq_some_iff.mp H
  obtain ⟨⟨t269, t270, t271⟩, A40, H⟩ := H
  replace H : (some (t269, t270, t271)) = some (r1, r2, r3) := H
  have A4 := q_ A40
  clear A40
  simp only [Option.some.injEq, Prod.mk.injEq] at H
  obtain ⟨rfl, rfl, rfl⟩ := H
  go_enter Try.func141, Try.ntmps141
  go_wp2_with (first | ((with_reducible refine gate_callee (f := 135) rfl ?_); refine goesL_ (some 4) rfl rfl Try.func135 (by kernel_rfl) rfl #[.pointer (some ⟨g, 0, none⟩), .int .i64 15] rfl z1_ ?_; (with_reducible refine (spec_l1Once.calls g s0_0 s0_1 s0_2 15 true t264 t265 w0 _ ?side1 ?side2 A2.out).mono ?_); (case side1 => exact z106_); (case side2 => exact z107_); rintro e w5 ⟨rfl, hi, hb, hk⟩; refine ⟨_, rfl, ?_⟩; have n0_ := q_ (KeepBut.trans z2_ hk (.inl rfl)); have n1_ := q_ (hb); have n2_ := q_ (hi); clear HK; clear HB; clear HI0; have HK := n0_; have HB := n1_; have HI0 := n2_; clear n0_ n1_ n2_; (try clear hb); (try clear hb2); (try clear hk); (try clear hi)) | ((with_reducible refine gate_dst (N := 6) rfl ?_); refine Kd.R_lit (Kd.int .i64) _ 3 ?hg (N := 6) ?hd (xs := ([0, 999, 500] : List Int)) (inner := [.int .i64 0, .int .i64 999, .int .i64 500]) (ok := fun _ => True) (okp := fun _ => True) ?hr ?hp (fun _ hk => hk) trivial (Below.refl _ _) (Nat.le_refl _) (by simp) ?_; (case hd => rfl); (case hg => rfl); (case hr => exact z108_); (case hp => exact (Reps.one (show Kd.M (Kd.int .i64) _ _ _ 0 [.int .i64 0] from rfl) (Reps.one (show Kd.M (Kd.int .i64) _ _ _ 999 [.int .i64 999] from rfl) (Reps.one (show Kd.M (Kd.int .i64) _ _ _ 500 [.int .i64 500] from rfl) (Reps.none _ _))))); intro v267 w6 ho7 hb hg_ hnew_; clear hg_ hnew_; (first | rw [← Ny266.out] at ho7 | (simp only [Int.reduceToNat] at ho7; rw [← Ny266.out] at ho7)); have n0_ := q_ (Kd.R_lower ho7 (keep_size (w := w) (g := g) (row := none) z2_)); have n1_ := q_ (IsS189.below z3_ hb); have n2_ := q_ (KeepBut.trans z2_ (KeepBut.of_below hb g none) (.inl rfl)); have n3_ := q_ (below_step z6_ hb); clear HI0; clear HK; clear HB; have HO268 := n0_; have HI0 := n1_; have HK := n2_; have HB := n3_; clear n0_ n1_ n2_ n3_; clear hb ho7; obtain ⟨Ao8, co8, eo8⟩ := Kd.R_slice HO268.out; subst eo8) | ((with_reducible refine gate_callee (f := 167) rfl ?_); refine goesL_ (some 7) rfl rfl Try.func167 (by kernel_rfl) rfl #[.pointer (some ⟨g, 0, none⟩), .slice Ao8 y266.length co8] rfl z1_ ?_; (with_reducible refine (spec_l1PickInt.calls g s0_0 t264 t265 _ _ y266 t269 t270 t271 w0 _ ?side1 ?side2 ?side3 ?side4 ?side5 A4.out).mono ?_); (case side1 => exact z106_); (case side2 => exact z107_); (case side3 => repeat (first | exact (Kd.R_reads' HO268.out).2.2 | (with_reducible refine Kd.C_alloc ?_ _) | (with_reducible refine Kd.C_drewN ?_ _) | (with_reducible refine Kd.C_drew ?_))); (case side4 => exact (Kd.R_reads' HO268.out).2.1); (case side5 => exact far_slice (IsS189.own_ne HI0.out HO268.out (by decide))); rintro e w9 ⟨rfl, hi, hb, hk⟩; refine ⟨_, rfl, ?_⟩; have n0_ := q_ (Kd.R_mono (Kd.R_keep (IsS189.apart (show IsS189 w0 _ g s0_0 t264 t265 from z3_) (by (with_reducible repeat (first | apply Kd.R_alloc | apply Kd.R_drewN | apply Kd.R_drew)); exact HO268.out) (by decide)) hk (fun _ h => h.2)) (fun _ h => h.1)); have n1_ := q_ (KeepBut.trans z2_ hk (.inl rfl)); have n2_ := q_ (hb); have n3_ := q_ (hi); clear HO268; clear HK; clear HB; clear HI0; have HO268 := n0_; have HK := n1_; have HB := n2_; have HI0 := n3_; clear n0_ n1_ n2_ n3_; (try clear hb); (try clear hb2); (try clear hk); (try clear hi)))
  go_ret
  exact ⟨z4_, z3_, z6_, z2_⟩
 ·replace c3 := Bool.eq_false_iff.mpr c3
  subst c3
  have H1 : ((spec_l1Below.f s0_0 t264 t265 30).bind fun bt272 => (some (bt272.1, bt272.2.1, bt272.2.2))) = some (r1, r2, r3) := by rw [if_neg (show ¬ (false = true) by decide)] at H; exact H
  clear H
  have H := H1
  clear H1
  replace H := Option.bind_eq_some_iff.mp H
  obtain ⟨⟨t272, t273, t274⟩, A100, H⟩ := H
  replace H : (some (t272, t273, t274)) = some (r1, r2, r3) := H
  have A10 := q_ A100
  clear A100
  simp only [Option.some.injEq, Prod.mk.injEq] at H
  obtain ⟨rfl, rfl, rfl⟩ := H
  go_enter Try.func141, Try.ntmps141
  go_wp2_with (first | ((with_reducible refine gate_callee (f := 135) rfl ?_); refine goesL_ (some 4) rfl rfl Try.func135 (by kernel_rfl) rfl #[.pointer (some ⟨g, 0, none⟩), .int .i64 15] rfl z1_ ?_; (with_reducible refine (spec_l1Once.calls g s0_0 s0_1 s0_2 15 false t264 t265 w0 _ ?side1 ?side2 A2.out).mono ?_); (case side1 => exact z106_); (case side2 => exact z107_); rintro e w11 ⟨rfl, hi, hb, hk⟩; refine ⟨_, rfl, ?_⟩; have n0_ := q_ (KeepBut.trans z2_ hk (.inl rfl)); have n1_ := q_ (hb); have n2_ := q_ (hi); clear HK; clear HB; clear HI0; have HK := n0_; have HB := n1_; have HI0 := n2_; clear n0_ n1_ n2_; (try clear hb); (try clear hb2); (try clear hk); (try clear hi)) | ((with_reducible refine gate_callee (f := 126) rfl ?_); refine goesL_ (some 9) rfl rfl Try.func126 (by kernel_rfl) rfl #[.pointer (some ⟨g, 0, none⟩), .int .i64 30] rfl z1_ ?_; (with_reducible refine (spec_l1Below.calls g s0_0 t264 t265 30 t272 t273 t274 w0 _ ?side1 ?side2 A10.out).mono ?_); (case side1 => exact z106_); (case side2 => exact z107_); rintro e w12 ⟨rfl, hi, hb, hk⟩; refine ⟨_, rfl, ?_⟩; have n0_ := q_ (KeepBut.trans z2_ hk (.inl rfl)); have n1_ := q_ (hb); have n2_ := q_ (hi); clear HK; clear HB; clear HI0; have HK := n0_; have HB := n1_; have HI0 := n2_; clear n0_ n1_ n2_; (try clear hb); (try clear hb2); (try clear hk); (try clear hi)))
  go_ret
  exact ⟨z4_, z3_, z6_, z2_⟩

/-! ### spec_l1DrawMap: function 174 -/
def spec_l1DrawMap.l0 : Nat → List (S147) → Int → Int → List Int → Int → Int → Option ((List (S147)) × Int × Int)
 | 0, _, _, _, _, _, _ => none
 | k + 1, x5, x6, x7, x1000, x1001, x1002 => if x7 < x6 then ((spec_l1DrawKey.f x1000 x1001 x1002).bind fun bt281 => ((spec_l1Below.f x1000 bt281.2.1 bt281.2.2 50).bind fun bt284 => ((spec_l1Put.f k x5 bt281.1 (wrap64 (bt284.1 - 9))).bind fun t287 => (spec_l1DrawMap.l0 k t287 x6 (wrap64 (x7 + 1)) x1000 bt284.2.1 bt284.2.2)))) else (some (x5, x1001, x1002))
def spec_l1DrawMap.f (k : Nat) (s0_0 : List Int) (s0_1 : Int) (s0_2 : Int) (a1 : Int) : Option ((List (S147)) × Int × Int) := (spec_l1Below.f s0_0 s0_1 s0_2 (wrap64 (a1 + 1))).bind fun bt278 => (spec_l1DrawMap.l0 k (([] : List (S147))) bt278.1 0 s0_0 bt278.2.1 bt278.2.2)
theorem spec_l1DrawMap.mono_l : ∀ k, (∀ y0 y1 y2 y3 y4 y5, LeO (spec_l1DrawMap.l0 k y0 y1 y2 y3 y4 y5) (spec_l1DrawMap.l0 (k + 1) y0 y1 y2 y3 y4 y5))
 | 0 => fun _ _ _ _ _ _ r h => by simp [spec_l1DrawMap.l0] at h
 | k + 1 => by
  have ih0 := spec_l1DrawMap.mono_l k
  ·intro y0 y1 y2 y3 y4 y5
   unfold spec_l1DrawMap.l0
   repeat' first
   | (with_reducible exact ih0 _ _ _ _ _ _)
   | (with_reducible exact spec_l1Put.mono _ _ _ _)
   | (with_reducible exact LeO.refl _)
   | (with_reducible exact LeO.none _)
   | (with_reducible refine LeO.ite ?_ ?_)
   | (with_reducible refine LeO.bind ?_ (fun _ => ?_))
   | exact ih0 _ _ _ _ _ _
   | exact spec_l1Put.mono _ _ _ _
   | exact LeO.none _
   | refine LeO.ite ?_ ?_
   | refine LeO.bind ?_ (fun _ => ?_)
theorem spec_l1DrawMap.mono : ∀ a0 a1 a2 a3 k, LeO (spec_l1DrawMap.f k a0 a1 a2 a3) (spec_l1DrawMap.f (k + 1) a0 a1 a2 a3) := by
 intro a0 a1 a2 a3 k
 have ih0 := spec_l1DrawMap.mono_l k
 unfold spec_l1DrawMap.f
 repeat' first
   | (with_reducible exact ih0 _ _ _ _ _ _)
   | (with_reducible exact spec_l1Put.mono _ _ _ _)
   | (with_reducible exact LeO.refl _)
   | (with_reducible exact LeO.none _)
   | (with_reducible refine LeO.ite ?_ ?_)
   | (with_reducible refine LeO.bind ?_ (fun _ => ?_))
   | exact ih0 _ _ _ _ _ _
   | exact spec_l1Put.mono _ _ _ _
   | exact LeO.none _
   | refine LeO.ite ?_ ?_
   | refine LeO.bind ?_ (fun _ => ?_)
set_option maxHeartbeats 8000000 in
set_option maxRecDepth 100000 in
theorem spec_l1DrawMap.calls (k : Nat) (g : Nat) (s0_0 : List Int) (s0_1 : Int) (s0_2 : Int) (a1 : Int) (r1 : List (S147)) (r2 : Int) (r3 : Int) (w0 w : World) (hI : IsS189 w0 w g s0_0 s0_1 s0_2) (hB : Below w0.heap.size w0 w) (h : spec_l1DrawMap.f k s0_0 s0_1 s0_2 a1 = some (r1, r2, r3)) :
  Calls Try.prog 174 #[.pointer (some ⟨g, 0, none⟩), .int .i64 a1] w fun e w' => ∃ v0_ : Value, e = .returned (v0_) ∧ Kd.R k147 147 w' w.heap.size (fun _ => True) v0_ r1 ∧ IsS189 w0 w' g s0_0 r2 r3 ∧ Below w0.heap.size w0 w' ∧ KeepBut w w' g none := by
 have HI0 := q_ hI
 have HK := q_ (KeepBut.refl w g none)
 have HL := q_ hB.size
 clear hI
 have HW0 := q_ hB.size
 have HB := q_ hB
 clear hB
 have H : ((spec_l1Below.f s0_0 s0_1 s0_2 (wrap64 (a1 + 1))).bind fun bt278 => (spec_l1DrawMap.l0 k (([] : List (S147))) bt278.1 0 s0_0 bt278.2.1 bt278.2.2)) = some (r1, r2, r3) := h
 clear h
 obtain ⟨y275, hy275⟩ : ∃ y_ : List (S147), y_ = (([] : List (S147))) := ⟨_, rfl⟩
 replace H : ((spec_l1Below.f s0_0 s0_1 s0_2 (wrap64 (a1 + 1))).bind fun bt278 => (spec_l1DrawMap.l0 k y275 bt278.1 0 s0_0 bt278.2.1 bt278.2.2)) = some (r1, r2, r3) := by first | (rw [hy275]; with_reducible exact H) | (have H2_ := (Option.bind_some _ _).symm.trans H; rw [hy275]; with_reducible exact H2_) | (have H2_ := (Option.bind_some _ _).symm.trans H; with_reducible exact H2_) | with_reducible exact H | (rw [hy275]; exact H) | exact H
 have Ny275 := q_ hy275
 clear hy275
 replace H := Option.bind_eq_some_iff.mp H
 obtain ⟨⟨t278, t279, t280⟩, A30, H⟩ := H
 replace H : (spec_l1DrawMap.l0 k y275 t278 0 s0_0 t279 t280) = some (r1, r2, r3) := H
 have A3 := q_ A30
 clear A30
 have H' := q_ H
 clear H
 go_enter Try.func174, Try.ntmps174
 go_wp2_with (first | ((with_reducible refine gate_dst (N := 8) rfl ?_); refine Kd.R_lit k147 _ 147 ?hg (N := 8) ?hd (xs := ([] : List (S147))) (inner := []) (ok := fun _ => True) (okp := fun _ => True) ?hr ?hp (fun _ hk => hk) trivial (Below.refl _ _) (Nat.le_refl _) (by simp) ?_; (case hd => rfl); (case hg => rfl); (case hr => exact z108_); (case hp => exact z140_); intro v276 w4 ho5 hb hg_ hnew_; clear hg_ hnew_; (first | rw [← Ny275.out] at ho5 | (simp only [Int.reduceToNat] at ho5; rw [← Ny275.out] at ho5)); have n0_ := q_ (Kd.R_lower ho5 (keep_size (w := w) (g := g) (row := none) z2_)); have n1_ := q_ (IsS189.below z3_ hb); have n2_ := q_ (KeepBut.trans z2_ (KeepBut.of_below hb g none) (.inl rfl)); have n3_ := q_ (below_step z6_ hb); clear HI0; clear HK; clear HB; have HO277 := n0_; have HI0 := n1_; have HK := n2_; have HB := n3_; clear n0_ n1_ n2_ n3_; clear hb ho5) | ((with_reducible refine gate_callee (f := 126) rfl ?_); refine goesL_ (some 12) rfl rfl Try.func126 (by kernel_rfl) rfl #[.pointer (some ⟨g, 0, none⟩), .int .i64 (wrap64 (a1 + 1))] rfl z1_ ?_; (with_reducible refine (spec_l1Below.calls g s0_0 s0_1 s0_2 (wrap64 (a1 + 1)) t278 t279 t280 w0 _ ?side1 ?side2 A3.out).mono ?_); (case side1 => exact z106_); (case side2 => exact z107_); rintro e w6 ⟨rfl, hi, hb, hk⟩; refine ⟨_, rfl, ?_⟩; have n0_ := q_ (Kd.R_mono (Kd.R_keep (IsS189.apart (show IsS189 w0 _ g s0_0 s0_1 s0_2 from z3_) z78_ (by decide)) hk (fun _ h => h.2)) (fun _ h => h.1)); have n1_ := q_ (KeepBut.trans z2_ hk (.inl rfl)); have n2_ := q_ (hb); have n3_ := q_ (hi); clear HO277; clear HK; clear HB; clear HI0; have HO277 := n0_; have HK := n1_; have HB := n2_; have HI0 := n3_; clear n0_ n1_ n2_ n3_; (try clear hb); (try clear hb2); (try clear hk); (try clear hi)))
 go_loopg [5, 7] k (fun kq v5 v7 w' => ∃ (x5_1 : List (S147)) (x7_1 : Int) (x1001_1 : Int) (x1002_1 : Int), v7 = .int .i64 x7_1 ∧ Aside0 (spec_l1DrawMap.l0 kq x5_1 t278 x7_1 s0_0 x1001_1 x1002_1 = some (r1, r2, r3)) ∧ Aside0 (kq ≤ k) ∧ Aside0 (Kd.R k147 147 w' w.heap.size (fun _ => True) v5 x5_1) ∧ Aside0 (IsS189 w0 w' g s0_0 x1001_1 x1002_1) ∧ Aside0 (KeepBut w w' g none) ∧ Aside0 (Below w0.heap.size w0 w'))
 case atStart => exact ⟨(y275), (0), (t279), (t280), z7_, H', ⟨Nat.le_refl _⟩, ⟨z78_⟩, ⟨z3_⟩, ⟨z2_⟩, ⟨z6_⟩⟩
 case round =>
  clear H'
  try clear c1
  try clear p2
  try clear p6
  obtain ⟨x5_1, x7_1, x1001_1, x1002_1, rfl, HA, HK1, HO_5, HI0, HK, HB⟩ := hrel
  cases gk with
  | zero => exact absurd HA.out (by simp [spec_l1DrawMap.l0])
  | succ k1 =>
   have H := HA.out
   clear HA
   simp only [spec_l1DrawMap.l0] at H
   by_cases c7 : x7_1 < t278
   ·rw [if_pos c7] at H
    have c7b0 : decide (x7_1 < t278) = true := decide_eq_true c7
    clear c7
    replace H := Option.bind_eq_some_iff.mp H
    obtain ⟨⟨t281, t282, t283⟩, A80, H⟩ := H
    replace H : ((spec_l1Below.f s0_0 t282 t283 50).bind fun bt284 => ((spec_l1Put.f k1 x5_1 t281 (wrap64 (bt284.1 - 9))).bind fun t287 => (spec_l1DrawMap.l0 k1 t287 t278 (wrap64 (x7_1 + 1)) s0_0 bt284.2.1 bt284.2.2))) = some (r1, r2, r3) := H
    have A8 := q_ A80
    clear A80
    replace H := Option.bind_eq_some_iff.mp H
    obtain ⟨⟨t284, t285, t286⟩, A90, H⟩ := H
    replace H : ((spec_l1Put.f k1 x5_1 t281 (wrap64 (t284 - 9))).bind fun t287 => (spec_l1DrawMap.l0 k1 t287 t278 (wrap64 (x7_1 + 1)) s0_0 t285 t286)) = some (r1, r2, r3) := H
    have A9 := q_ A90
    clear A90
    replace H := Option.bind_eq_some_iff.mp H
    obtain ⟨t287, A100, H⟩ := H
    replace H : (spec_l1DrawMap.l0 k1 t287 t278 (wrap64 (x7_1 + 1)) s0_0 t285 t286) = some (r1, r2, r3) := H
    have A10 := q_ A100
    clear A100
    have H' := q_ H
    clear H
    go_wp2_with (first | ((with_reducible refine gate_callee (f := 141) rfl ?_); refine goesL_ (some 20) rfl rfl Try.func141 (by kernel_rfl) rfl #[.pointer (some ⟨g, 0, none⟩)] rfl z1_ ?_; (with_reducible refine (spec_l1DrawKey.calls g s0_0 x1001_1 x1002_1 t281 t282 t283 w0 _ ?side1 ?side2 A8.out).mono ?_); (case side1 => exact z106_); (case side2 => exact z107_); rintro e w11 ⟨rfl, hi, hb, hk⟩; refine ⟨_, rfl, ?_⟩; have n0_ := q_ (Kd.R_mono (Kd.R_keep (IsS189.apart (show IsS189 w0 _ g s0_0 x1001_1 x1002_1 from z3_) z17_ (by decide)) hk (fun _ h => h.2)) (fun _ h => h.1)); have n1_ := q_ (KeepBut.trans z2_ hk (.inl rfl)); have n2_ := q_ (hb); have n3_ := q_ (hi); clear HO_5; clear HK; clear HB; clear HI0; have HO_5 := n0_; have HK := n1_; have HB := n2_; have HI0 := n3_; clear n0_ n1_ n2_ n3_; (try clear hb); (try clear hb2); (try clear hk); (try clear hi)) | ((with_reducible refine gate_callee (f := 126) rfl ?_); refine goesL_ (some 22) rfl rfl Try.func126 (by kernel_rfl) rfl #[.pointer (some ⟨g, 0, none⟩), .int .i64 50] rfl z1_ ?_; (with_reducible refine (spec_l1Below.calls g s0_0 t282 t283 50 t284 t285 t286 w0 _ ?side1 ?side2 A9.out).mono ?_); (case side1 => exact z106_); (case side2 => exact z107_); rintro e w12 ⟨rfl, hi, hb, hk⟩; refine ⟨_, rfl, ?_⟩; have n0_ := q_ (Kd.R_mono (Kd.R_keep (IsS189.apart (show IsS189 w0 _ g s0_0 t282 t283 from z3_) z17_ (by decide)) hk (fun _ h => h.2)) (fun _ h => h.1)); have n1_ := q_ (KeepBut.trans z2_ hk (.inl rfl)); have n2_ := q_ (hb); have n3_ := q_ (hi); clear HO_5; clear HK; clear HB; clear HI0; have HO_5 := n0_; have HK := n1_; have HB := n2_; have HI0 := n3_; clear n0_ n1_ n2_ n3_; (try clear hb); (try clear hb2); (try clear hk); (try clear hi); obtain ⟨Ao13, co13, eo13⟩ := Kd.R_slice HO_5.out; subst eo13) | ((with_reducible refine gate_callee (f := 127) rfl ?_); refine goesL_ (some 24) rfl rfl Try.func127 (by kernel_rfl) rfl #[.slice Ao13 x5_1.length co13, .int .i64 t281, .int .i64 (wrap64 (t284 - 9))] rfl z1_ ?_; (with_reducible refine (spec_l1Put.calls k1 _ _ x5_1 t281 (wrap64 (t284 - 9)) t287 _ ?side1 ?side2 A10.out).mono ?_); (case side1 => exact z132_); (case side2 => exact (Kd.R_reads' HO_5.out).2.1); rintro e w14 ⟨v288, rfl, ho0, hb⟩; refine ⟨_, rfl, ?_⟩; have n0_ := q_ (Kd.R_elder' z17_ (Kd.R_base ho0) hb); have n1_ := q_ (Kd.R_lower (Kd.R_new' ho0 (Kd.R_lt z17_)) (keep_size (w := w) (g := g) (row := none) z2_)); have n2_ := q_ (IsS189.below z3_ hb); have n3_ := q_ (KeepBut.trans z2_ (KeepBut.of_below hb g none) (.inl rfl)); have n4_ := q_ (below_step z6_ hb); clear HO_5; clear HI0; clear HK; clear HB; have HO_5 := n0_; have HO289 := n1_; have HI0 := n2_; have HK := n3_; have HB := n4_; clear n0_ n1_ n2_ n3_ n4_; (try clear hb); (try clear hb2); (try clear hk); (try clear hi); (try clear ho0)))
    go_roundg k1
    case measure => have := HK1.out; omega
    case rel => exact ⟨(t287), (wrap64 (x7_1 + 1)), (t285), (t286), z7_, H', ⟨z67_⟩, ⟨by (with_reducible repeat (first | apply Kd.R_alloc | apply Kd.R_drewN | apply Kd.R_drew)); exact Kd.R_mono HO289.out (fun _ hk => trivial)⟩, ⟨z3_⟩, ⟨z2_⟩, ⟨z6_⟩⟩
   ·rw [if_neg c7] at H
    have c7b0 : decide (x7_1 < t278) = false := decide_eq_false c7
    clear c7
    simp only [Option.some.injEq, Prod.mk.injEq] at H
    obtain ⟨rfl, rfl, rfl⟩ := H
    go_wp2
    go_ret
    exact ⟨_, z4_, z17_, z3_, z6_, z2_⟩

/-! ### spec_l1DrawBadMap: function 133 -/
def spec_l1DrawBadMap.f (k : Nat) (s0_0 : List Int) (s0_1 : Int) (s0_2 : Int) : Option ((List (S147)) × Int × Int) := (spec_l1DrawMap.f k s0_0 s0_1 s0_2 8).bind fun bt290 => ((spec_l1Below.f s0_0 bt290.2.1 bt290.2.2 15).bind fun bt295 => (if bt295.1 = 0 then ((spec_l1Below.f s0_0 bt295.2.1 bt295.2.2 9).bind fun bt298 => (if bt290.1.length < 8796093022208 then (some ((bt290.1 ++ [(⟨bt298.1, 0⟩ : S147)]), bt298.2.1, bt298.2.2)) else (none))) else (if bt295.1 = 1 then ((spec_l1PickInt.f s0_0 bt295.2.1 bt295.2.2 (([1000000000, 1000000001] : List Int))).bind fun bt307 => (if bt290.1.length < 8796093022208 then (some ((bt290.1 ++ [(⟨999, bt307.1⟩ : S147)]), bt307.2.1, bt307.2.2)) else (none))) else (some (bt290.1, bt295.2.1, bt295.2.2)))))
theorem spec_l1DrawBadMap.mono : ∀ a0 a1 a2 k, LeO (spec_l1DrawBadMap.f k a0 a1 a2) (spec_l1DrawBadMap.f (k + 1) a0 a1 a2) := by
 intro a0 a1 a2 k
 unfold spec_l1DrawBadMap.f
 repeat' first
   | (with_reducible exact spec_l1DrawMap.mono _ _ _ _ _)
   | (with_reducible exact LeO.refl _)
   | (with_reducible exact LeO.none _)
   | (with_reducible refine LeO.ite ?_ ?_)
   | (with_reducible refine LeO.bind ?_ (fun _ => ?_))
   | exact spec_l1DrawMap.mono _ _ _ _ _
   | exact LeO.none _
   | refine LeO.ite ?_ ?_
   | refine LeO.bind ?_ (fun _ => ?_)
set_option maxHeartbeats 8000000 in
set_option maxRecDepth 100000 in
theorem spec_l1DrawBadMap.calls (k : Nat) (g : Nat) (s0_0 : List Int) (s0_1 : Int) (s0_2 : Int) (r1 : List (S147)) (r2 : Int) (r3 : Int) (w0 w : World) (hI : IsS189 w0 w g s0_0 s0_1 s0_2) (hB : Below w0.heap.size w0 w) (h : spec_l1DrawBadMap.f k s0_0 s0_1 s0_2 = some (r1, r2, r3)) :
  Calls Try.prog 133 #[.pointer (some ⟨g, 0, none⟩)] w fun e w' => ∃ v0_ : Value, e = .returned (v0_) ∧ Kd.R k147 147 w' w.heap.size (fun _ => True) v0_ r1 ∧ IsS189 w0 w' g s0_0 r2 r3 ∧ Below w0.heap.size w0 w' ∧ KeepBut w w' g none := by
 have hu147 := Try.underlying147
 have HI0 := q_ hI
 have HK := q_ (KeepBut.refl w g none)
 have HL := q_ hB.size
 clear hI
 have HW0 := q_ hB.size
 have HB := q_ hB
 clear hB
 have H : ((spec_l1DrawMap.f k s0_0 s0_1 s0_2 8).bind fun bt290 => ((spec_l1Below.f s0_0 bt290.2.1 bt290.2.2 15).bind fun bt295 => (if bt295.1 = 0 then ((spec_l1Below.f s0_0 bt295.2.1 bt295.2.2 9).bind fun bt298 => (if bt290.1.length < 8796093022208 then (some ((bt290.1 ++ [(⟨bt298.1, 0⟩ : S147)]), bt298.2.1, bt298.2.2)) else (none))) else (if bt295.1 = 1 then ((spec_l1PickInt.f s0_0 bt295.2.1 bt295.2.2 (([1000000000, 1000000001] : List Int))).bind fun bt307 => (if bt290.1.length < 8796093022208 then (some ((bt290.1 ++ [(⟨999, bt307.1⟩ : S147)]), bt307.2.1, bt307.2.2)) else (none))) else (some (bt290.1, bt295.2.1, bt295.2.2)))))) = some (r1, r2, r3) := h
 clear h
 replace H := Option.bind_eq_some_iff.mp H
 obtain ⟨⟨t290, t293, t294⟩, A20, H⟩ := H
 replace H : ((spec_l1Below.f s0_0 t293 t294 15).bind fun bt295 => (if bt295.1 = 0 then ((spec_l1Below.f s0_0 bt295.2.1 bt295.2.2 9).bind fun bt298 => (if t290.length < 8796093022208 then (some ((t290 ++ [(⟨bt298.1, 0⟩ : S147)]), bt298.2.1, bt298.2.2)) else (none))) else (if bt295.1 = 1 then ((spec_l1PickInt.f s0_0 bt295.2.1 bt295.2.2 (([1000000000, 1000000001] : List Int))).bind fun bt307 => (if t290.length < 8796093022208 then (some ((t290 ++ [(⟨999, bt307.1⟩ : S147)]), bt307.2.1, bt307.2.2)) else (none))) else (some (t290, bt295.2.1, bt295.2.2))))) = some (r1, r2, r3) := H
 have A2 := q_ A20
 clear A20
 replace H := Option.bind_eq_some_iff.mp H
 obtain ⟨⟨t295, t296, t297⟩, A30, H⟩ := H
 replace H : (if t295 = 0 then ((spec_l1Below.f s0_0 t296 t297 9).bind fun bt298 => (if t290.length < 8796093022208 then (some ((t290 ++ [(⟨bt298.1, 0⟩ : S147)]), bt298.2.1, bt298.2.2)) else (none))) else (if t295 = 1 then ((spec_l1PickInt.f s0_0 t296 t297 (([1000000000, 1000000001] : List Int))).bind fun bt307 => (if t290.length < 8796093022208 then (some ((t290 ++ [(⟨999, bt307.1⟩ : S147)]), bt307.2.1, bt307.2.2)) else (none))) else (some (t290, t296, t297)))) = some (r1, r2, r3) := H
 have A3 := q_ A30
 clear A30
 by_cases c4 : t295 = 0
 ·rw [if_pos c4] at H
  have c4b0 : (t295 == 0) = true := beq_iff_eq.mpr c4
  have c4b1 : (t295 != 0) = false := bne_eq_false_iff_eq.mpr c4
  clear c4
  replace H := Option.bind_eq_some_iff.mp H
  obtain ⟨⟨t298, t299, t300⟩, A50, H⟩ := H
  replace H : (if t290.length < 8796093022208 then (some ((t290 ++ [(⟨t298, 0⟩ : S147)]), t299, t300)) else (none)) = some (r1, r2, r3) := H
  have A5 := q_ A50
  clear A50
  by_cases c6 : t290.length < 8796093022208
  ·rw [if_pos c6] at H
   have LMc6 := q_ c6
   clear c6
   obtain ⟨y301, hy301⟩ : ∃ y_ : List (S147), y_ = (t290 ++ [(⟨t298, 0⟩ : S147)]) := ⟨_, rfl⟩
   replace H : (some (y301, t299, t300)) = some (r1, r2, r3) := by first | (rw [hy301]; with_reducible exact H) | (have H2_ := (Option.bind_some _ _).symm.trans H; rw [hy301]; with_reducible exact H2_) | (have H2_ := (Option.bind_some _ _).symm.trans H; with_reducible exact H2_) | with_reducible exact H | (rw [hy301]; exact H) | exact H
   have Ny301 := q_ hy301
   clear hy301
   simp only [Option.some.injEq, Prod.mk.injEq] at H
   obtain ⟨rfl, rfl, rfl⟩ := H
   go_enter Try.func133, Try.ntmps133
   go_wp2_with (first | ((with_reducible refine gate_callee (f := 174) rfl ?_); refine goesL_ (some 5) rfl rfl Try.func174 (by kernel_rfl) rfl #[.pointer (some ⟨g, 0, none⟩), .int .i64 8] rfl z1_ ?_; (with_reducible refine (spec_l1DrawMap.calls k g s0_0 s0_1 s0_2 8 t290 t293 t294 w0 _ ?side1 ?side2 A2.out).mono ?_); (case side1 => exact z106_); (case side2 => exact z107_); rintro e w7 ⟨v291, rfl, ho0, hi, hb, hk⟩; refine ⟨_, rfl, ?_⟩; have n0_ := q_ (Kd.R_lower ho0 (keep_size (w := w) (g := g) (row := none) z2_)); have n1_ := q_ (KeepBut.trans z2_ hk (.inl rfl)); have n2_ := q_ (hb); have n3_ := q_ (hi); clear HK; clear HB; clear HI0; have HO292 := n0_; have HK := n1_; have HB := n2_; have HI0 := n3_; clear n0_ n1_ n2_ n3_; (try clear hb); (try clear hb2); (try clear hk); (try clear hi); (try clear ho0)) | ((with_reducible refine gate_callee (f := 126) rfl ?_); refine goesL_ (some 7) rfl rfl Try.func126 (by kernel_rfl) rfl #[.pointer (some ⟨g, 0, none⟩), .int .i64 15] rfl z1_ ?_; (with_reducible refine (spec_l1Below.calls g s0_0 t293 t294 15 t295 t296 t297 w0 _ ?side1 ?side2 A3.out).mono ?_); (case side1 => exact z106_); (case side2 => exact z107_); rintro e w8 ⟨rfl, hi, hb, hk⟩; refine ⟨_, rfl, ?_⟩; have n0_ := q_ (Kd.R_mono (Kd.R_keep (IsS189.apart (show IsS189 w0 _ g s0_0 t293 t294 from z3_) z41_ (by decide)) hk (fun _ h => h.2)) (fun _ h => h.1)); have n1_ := q_ (KeepBut.trans z2_ hk (.inl rfl)); have n2_ := q_ (hb); have n3_ := q_ (hi); clear HO292; clear HK; clear HB; clear HI0; have HO292 := n0_; have HK := n1_; have HB := n2_; have HI0 := n3_; clear n0_ n1_ n2_ n3_; (try clear hb); (try clear hb2); (try clear hk); (try clear hi)) | ((with_reducible refine gate_callee (f := 126) rfl ?_); refine goesL_ (some 12) rfl rfl Try.func126 (by kernel_rfl) rfl #[.pointer (some ⟨g, 0, none⟩), .int .i64 9] rfl z1_ ?_; (with_reducible refine (spec_l1Below.calls g s0_0 t296 t297 9 t298 t299 t300 w0 _ ?side1 ?side2 A5.out).mono ?_); (case side1 => exact z106_); (case side2 => exact z107_); rintro e w9 ⟨rfl, hi, hb, hk⟩; refine ⟨_, rfl, ?_⟩; have n0_ := q_ (Kd.R_mono (Kd.R_keep (IsS189.apart (show IsS189 w0 _ g s0_0 t296 t297 from z3_) z41_ (by decide)) hk (fun _ h => h.2)) (fun _ h => h.1)); have n1_ := q_ (KeepBut.trans z2_ hk (.inl rfl)); have n2_ := q_ (hb); have n3_ := q_ (hi); clear HO292; clear HK; clear HB; clear HI0; have HO292 := n0_; have HK := n1_; have HB := n2_; have HI0 := n3_; clear n0_ n1_ n2_ n3_; (try clear hb); (try clear hb2); (try clear hk); (try clear hi)) | ((with_reducible refine gate_builtin (b := .append) (xs := #[.tmp 10, .tmp 14]) rfl ?_); at_builtin; refine Kd.R_append k147 w.heap.size rfl (.tmp 10) (.tmp 14) 42 147 (.agg #[(.int .i64 0), (.int .i64 0)]) 16 rfl Try.underlying42 info147 rfl (by decide) (by omega) v291 t290 (⟨t298, 0⟩ : S147) [.int .i64 t298, .int .i64 0] (fun _ => True) (fun _ => False) rfl rfl ?aP (fun _ hk => hk.elim) ?aF ?aO (Below.refl _ _) ?aS ?aL ?_; (case aP => exact k147_mkM _ _ _ (⟨t298, 0⟩ : S147)); (case aF => exact z134_); (case aO => exact z41_); (case aS => exact (keep_size (w := w) (g := g) (row := none) z2_)); (case aL => have := LMc6.out; omega); intro v302 w10 ho hb hg hat; rw [← Ny301.out] at ho; have n0_ := q_ (IsS189.grown (show IsS189 w0 _ g s0_0 t299 t300 from z3_) hg (IsS189.own_ne HI0.out HO292.out (by decide))); have n1_ := q_ (below_weaken z6_ HL.out hb); have n2_ := q_ (KeepBut.trans z2_ (KeepBut.of_grown hg g) (Kd.R_base2 HO292.out)); have n3_ := q_ (ho); clear HI0; clear HB; clear HK; clear HO292; have HI0 := n0_; have HB := n1_; have HK := n2_; have HO303 := n3_; clear n0_ n1_ n2_ n3_; clear ho hb hg hat))
   go_ret
   exact ⟨_, z4_, by (with_reducible repeat (first | apply Kd.R_alloc | apply Kd.R_drewN | apply Kd.R_drew)); exact HO303.out, z3_, z6_, z2_⟩
  ·rw [if_neg c6] at H
   exact absurd H (by simp)
 ·rw [if_neg c4] at H
  have c4b0 : (t295 == 0) = false := beq_eq_false_iff_ne.mpr c4
  have c4b1 : (t295 != 0) = true := bne_iff_ne.mpr c4
  by_cases c11 : t295 = 1
  ·rw [if_pos c11] at H
   have c11b0 : (t295 == 1) = true := beq_iff_eq.mpr c11
   have c11b1 : (t295 != 1) = false := bne_eq_false_iff_eq.mpr c11
   clear c11
   obtain ⟨y304, hy304⟩ : ∃ y_ : List Int, y_ = (([1000000000, 1000000001] : List Int)) := ⟨_, rfl⟩
   replace H : ((spec_l1PickInt.f s0_0 t296 t297 y304).bind fun bt307 => (if t290.length < 8796093022208 then (some ((t290 ++ [(⟨999, bt307.1⟩ : S147)]), bt307.2.1, bt307.2.2)) else (none))) = some (r1, r2, r3) := by first | (rw [hy304]; with_reducible exact H) | (have H2_ := (Option.bind_some _ _).symm.trans H; rw [hy304]; with_reducible exact H2_) | (have H2_ := (Option.bind_some _ _).symm.trans H; with_reducible exact H2_) | with_reducible exact H | (rw [hy304]; exact H) | exact H
   have Ny304 := q_ hy304
   clear hy304
   replace H := Option.bind_eq_some_iff.mp H
   obtain ⟨⟨t307, t308, t309⟩, A120, H⟩ := H
   replace H : (if t290.length < 8796093022208 then (some ((t290 ++ [(⟨999, t307⟩ : S147)]), t308, t309)) else (none)) = some (r1, r2, r3) := H
   have A12 := q_ A120
   clear A120
   by_cases c13 : t290.length < 8796093022208
   ·rw [if_pos c13] at H
    have LMc13 := q_ c13
    clear c13
    obtain ⟨y310, hy310⟩ : ∃ y_ : List (S147), y_ = (t290 ++ [(⟨999, t307⟩ : S147)]) := ⟨_, rfl⟩
    replace H : (some (y310, t308, t309)) = some (r1, r2, r3) := by first | (rw [hy310]; with_reducible exact H) | (have H2_ := (Option.bind_some _ _).symm.trans H; rw [hy310]; with_reducible exact H2_) | (have H2_ := (Option.bind_some _ _).symm.trans H; with_reducible exact H2_) | with_reducible exact H | (rw [hy310]; exact H) | exact H
    have Ny310 := q_ hy310
    clear hy310
    simp only [Option.some.injEq, Prod.mk.injEq] at H
    obtain ⟨rfl, rfl, rfl⟩ := H
    go_enter Try.func133, Try.ntmps133
    go_wp2_with (first | ((with_reducible refine gate_callee (f := 174) rfl ?_); refine goesL_ (some 5) rfl rfl Try.func174 (by kernel_rfl) rfl #[.pointer (some ⟨g, 0, none⟩), .int .i64 8] rfl z1_ ?_; (with_reducible refine (spec_l1DrawMap.calls k g s0_0 s0_1 s0_2 8 t290 t293 t294 w0 _ ?side1 ?side2 A2.out).mono ?_); (case side1 => exact z106_); (case side2 => exact z107_); rintro e w14 ⟨v291, rfl, ho0, hi, hb, hk⟩; refine ⟨_, rfl, ?_⟩; have n0_ := q_ (Kd.R_lower ho0 (keep_size (w := w) (g := g) (row := none) z2_)); have n1_ := q_ (KeepBut.trans z2_ hk (.inl rfl)); have n2_ := q_ (hb); have n3_ := q_ (hi); clear HK; clear HB; clear HI0; have HO292 := n0_; have HK := n1_; have HB := n2_; have HI0 := n3_; clear n0_ n1_ n2_ n3_; (try clear hb); (try clear hb2); (try clear hk); (try clear hi); (try clear ho0)) | ((with_reducible refine gate_callee (f := 126) rfl ?_); refine goesL_ (some 7) rfl rfl Try.func126 (by kernel_rfl) rfl #[.pointer (some ⟨g, 0, none⟩), .int .i64 15] rfl z1_ ?_; (with_reducible refine (spec_l1Below.calls g s0_0 t293 t294 15 t295 t296 t297 w0 _ ?side1 ?side2 A3.out).mono ?_); (case side1 => exact z106_); (case side2 => exact z107_); rintro e w15 ⟨rfl, hi, hb, hk⟩; refine ⟨_, rfl, ?_⟩; have n0_ := q_ (Kd.R_mono (Kd.R_keep (IsS189.apart (show IsS189 w0 _ g s0_0 t293 t294 from z3_) z41_ (by decide)) hk (fun _ h => h.2)) (fun _ h => h.1)); have n1_ := q_ (KeepBut.trans z2_ hk (.inl rfl)); have n2_ := q_ (hb); have n3_ := q_ (hi); clear HO292; clear HK; clear HB; clear HI0; have HO292 := n0_; have HK := n1_; have HB := n2_; have HI0 := n3_; clear n0_ n1_ n2_ n3_; (try clear hb); (try clear hb2); (try clear hk); (try clear hi)) | ((with_reducible refine gate_dst (N := 20) rfl ?_); refine Kd.R_lit (Kd.int .i64) _ 3 ?hg (N := 20) ?hd (xs := ([1000000000, 1000000001] : List Int)) (inner := [.int .i64 1000000000, .int .i64 1000000001]) (ok := fun _ => True) (okp := fun _ => True) ?hr ?hp (fun _ hk => hk) trivial (Below.refl _ _) (Nat.le_refl _) (by simp) ?_; (case hd => rfl); (case hg => rfl); (case hr => exact z108_); (case hp => exact (Reps.one (show Kd.M (Kd.int .i64) _ _ _ 1000000000 [.int .i64 1000000000] from rfl) (Reps.one (show Kd.M (Kd.int .i64) _ _ _ 1000000001 [.int .i64 1000000001] from rfl) (Reps.none _ _)))); intro v305 w16 ho17 hb hg_ hnew_; clear hg_ hnew_; (first | rw [← Ny304.out] at ho17 | (simp only [Int.reduceToNat] at ho17; rw [← Ny304.out] at ho17)); have n0_ := q_ (Kd.R_below z41_ hb); have n1_ := q_ (Kd.R_lower ho17 (keep_size (w := w) (g := g) (row := none) z2_)); have n2_ := q_ (IsS189.below z3_ hb); have n3_ := q_ (KeepBut.trans z2_ (KeepBut.of_below hb g none) (.inl rfl)); have n4_ := q_ (below_step z6_ hb); clear HO292; clear HI0; clear HK; clear HB; have HO292 := n0_; have HO306 := n1_; have HI0 := n2_; have HK := n3_; have HB := n4_; clear n0_ n1_ n2_ n3_ n4_; clear hb ho17; obtain ⟨Ao18, co18, eo18⟩ := Kd.R_slice HO306.out; subst eo18) | ((with_reducible refine gate_callee (f := 167) rfl ?_); refine goesL_ (some 21) rfl rfl Try.func167 (by kernel_rfl) rfl #[.pointer (some ⟨g, 0, none⟩), .slice Ao18 y304.length co18] rfl z1_ ?_; (with_reducible refine (spec_l1PickInt.calls g s0_0 t296 t297 _ _ y304 t307 t308 t309 w0 _ ?side1 ?side2 ?side3 ?side4 ?side5 A12.out).mono ?_); (case side1 => exact z106_); (case side2 => exact z107_); (case side3 => repeat (first | exact (Kd.R_reads' HO306.out).2.2 | (with_reducible refine Kd.C_alloc ?_ _) | (with_reducible refine Kd.C_drewN ?_ _) | (with_reducible refine Kd.C_drew ?_))); (case side4 => exact (Kd.R_reads' HO306.out).2.1); (case side5 => exact far_slice (IsS189.own_ne HI0.out HO306.out (by decide))); rintro e w19 ⟨rfl, hi, hb, hk⟩; refine ⟨_, rfl, ?_⟩; have n0_ := q_ (Kd.R_mono (Kd.R_keep (IsS189.apart (show IsS189 w0 _ g s0_0 t296 t297 from z3_) z41_ (by decide)) hk (fun _ h => h.2)) (fun _ h => h.1)); have n1_ := q_ (Kd.R_mono (Kd.R_keep (IsS189.apart (show IsS189 w0 _ g s0_0 t296 t297 from z3_) z79_ (by decide)) hk (fun _ h => h.2)) (fun _ h => h.1)); have n2_ := q_ (KeepBut.trans z2_ hk (.inl rfl)); have n3_ := q_ (hb); have n4_ := q_ (hi); clear HO292; clear HO306; clear HK; clear HB; clear HI0; have HO292 := n0_; have HO306 := n1_; have HK := n2_; have HB := n3_; have HI0 := n4_; clear n0_ n1_ n2_ n3_ n4_; (try clear hb); (try clear hb2); (try clear hk); (try clear hi)) | ((with_reducible refine gate_builtin (b := .append) (xs := #[.tmp 18, .tmp 23]) rfl ?_); at_builtin; refine Kd.R_append k147 w.heap.size rfl (.tmp 18) (.tmp 23) 42 147 (.agg #[(.int .i64 0), (.int .i64 0)]) 16 rfl Try.underlying42 info147 rfl (by decide) (by omega) v291 t290 (⟨999, t307⟩ : S147) [.int .i64 999, .int .i64 t307] (fun _ => True) (fun _ => False) rfl rfl ?aP (fun _ hk => hk.elim) ?aF ?aO (Below.refl _ _) ?aS ?aL ?_; (case aP => exact k147_mkM _ _ _ (⟨999, t307⟩ : S147)); (case aF => exact z134_); (case aO => exact z41_); (case aS => exact (keep_size (w := w) (g := g) (row := none) z2_)); (case aL => have := LMc13.out; omega); intro v311 w20 ho hb hg hat; rw [← Ny310.out] at ho; have n0_ := q_ (IsS189.grown (show IsS189 w0 _ g s0_0 t308 t309 from z3_) hg (IsS189.own_ne HI0.out HO292.out (by decide))); have n1_ := q_ (Kd.R_over' z79_ (Kd.R_typed z41_) (by decide) hg); have n2_ := q_ (below_weaken z6_ HL.out hb); have n3_ := q_ (KeepBut.trans z2_ (KeepBut.of_grown hg g) (Kd.R_base2 HO292.out)); have n4_ := q_ (ho); clear HI0; clear HO306; clear HB; clear HK; clear HO292; have HI0 := n0_; have HO306 := n1_; have HB := n2_; have HK := n3_; have HO312 := n4_; clear n0_ n1_ n2_ n3_ n4_; clear ho hb hg hat))
    go_ret
    exact ⟨_, z4_, by (with_reducible repeat (first | apply Kd.R_alloc | apply Kd.R_drewN | apply Kd.R_drew)); exact HO312.out, z3_, z6_, z2_⟩
   ·rw [if_neg c13] at H
    exact absurd H (by simp)
  ·rw [if_neg c11] at H
   have c11b0 : (t295 == 1) = false := beq_eq_false_iff_ne.mpr c11
   have c11b1 : (t295 != 1) = true := bne_iff_ne.mpr c11
   simp only [Option.some.injEq, Prod.mk.injEq] at H
   obtain ⟨rfl, rfl, rfl⟩ := H
   go_enter Try.func133, Try.ntmps133
   go_wp2_with (first | ((with_reducible refine gate_callee (f := 174) rfl ?_); refine goesL_ (some 5) rfl rfl Try.func174 (by kernel_rfl) rfl #[.pointer (some ⟨g, 0, none⟩), .int .i64 8] rfl z1_ ?_; (with_reducible refine (spec_l1DrawMap.calls k g s0_0 s0_1 s0_2 8 t290 t293 t294 w0 _ ?side1 ?side2 A2.out).mono ?_); (case side1 => exact z106_); (case side2 => exact z107_); rintro e w21 ⟨v291, rfl, ho0, hi, hb, hk⟩; refine ⟨_, rfl, ?_⟩; have n0_ := q_ (Kd.R_lower ho0 (keep_size (w := w) (g := g) (row := none) z2_)); have n1_ := q_ (KeepBut.trans z2_ hk (.inl rfl)); have n2_ := q_ (hb); have n3_ := q_ (hi); clear HK; clear HB; clear HI0; have HO292 := n0_; have HK := n1_; have HB := n2_; have HI0 := n3_; clear n0_ n1_ n2_ n3_; (try clear hb); (try clear hb2); (try clear hk); (try clear hi); (try clear ho0)) | ((with_reducible refine gate_callee (f := 126) rfl ?_); refine goesL_ (some 7) rfl rfl Try.func126 (by kernel_rfl) rfl #[.pointer (some ⟨g, 0, none⟩), .int .i64 15] rfl z1_ ?_; (with_reducible refine (spec_l1Below.calls g s0_0 t293 t294 15 t295 t296 t297 w0 _ ?side1 ?side2 A3.out).mono ?_); (case side1 => exact z106_); (case side2 => exact z107_); rintro e w22 ⟨rfl, hi, hb, hk⟩; refine ⟨_, rfl, ?_⟩; have n0_ := q_ (Kd.R_mono (Kd.R_keep (IsS189.apart (show IsS189 w0 _ g s0_0 t293 t294 from z3_) z41_ (by decide)) hk (fun _ h => h.2)) (fun _ h => h.1)); have n1_ := q_ (KeepBut.trans z2_ hk (.inl rfl)); have n2_ := q_ (hb); have n3_ := q_ (hi); clear HO292; clear HK; clear HB; clear HI0; have HO292 := n0_; have HK := n1_; have HB := n2_; have HI0 := n3_; clear n0_ n1_ n2_ n3_; (try clear hb); (try clear hb2); (try clear hk); (try clear hi)))
   go_ret
   exact ⟨_, z4_, z41_, z3_, z6_, z2_⟩

end Go.Proofs.Ytphlmbhjeoljoaa.PFnMapAll
