-- Written by a program of this session, which goes by the kit's print. Not trusted: Lean checks it.
import Derived.Test.YtphlmbhjeoljoaaPFnShrunkx0
import Derived.Test.YtphlmbhjeoljoaaPFnShrunkx6
import Derived.Test.YtphlmbhjeoljoaaPFnShrunkx8
import Derived.Test.YtphlmbhjeoljoaaPFnShrunkx9
namespace Go.Proofs.Ytphlmbhjeoljoaa.PFnShrunk
open Go.RowKit Go.Proofs.YtphlmbhjeoljoaaW.PrintWords Go.Proofs.YtphlmbhjeoljoaaW.PrintLast Go.Proofs.YtphlmbhjeoljoaaW.PrintMore
attribute [local go_sem] max2_int min2_int max_two min_two max_three min_three max_four min_four   -- for this text's walks alone
set_option linter.unusedVariables false
set_option linter.unusedSimpArgs false

/-! ### impl_MapAll: function 63 -/
def impl_MapAll.l0 : Nat → List (S147) → List (S67) → Int → Int → Option ((List (S147)))
 | 0, _, _, _, _ => none
 | k + 1, x5, x14, x15, x16 => if x16 < x15 then (if 0 ≤ x16 then (if x16 < (x14.length : Int) then ((impl_MsgOk.f k ((rd_T67 x14 x16).f0) ((rd_T67 x14 x16).f1) ((rd_T67 x14 x16).f2)).bind fun t232 => (if t232 = true then ((impl_changed.f k x5 ((rd_T67 x14 x16).f0) ((rd_T67 x14 x16).f1) ((rd_T67 x14 x16).f2)).bind fun t233 => (impl_MapAll.l0 k t233 x14 x15 (wrap64 (x16 + 1)))) else (impl_MapAll.l0 k x5 x14 x15 (wrap64 (x16 + 1))))) else (none)) else (none)) else (some x5)
def impl_MapAll.f (k : Nat) (l0 : List (S147)) (l1 : List (S67)) : Option ((List (S147))) := (slices_Clone_Pair.f l0).bind fun t226 => ((impl_MapOk.f k l0).bind fun t229 => (if t229 = true then (impl_MapAll.l0 k t226 l1 (l1.length : Int) 0) else (some t226)))
theorem impl_MapAll.mono_l : ∀ k, (∀ y0 y1 y2 y3, LeO (impl_MapAll.l0 k y0 y1 y2 y3) (impl_MapAll.l0 (k + 1) y0 y1 y2 y3))
 | 0 => fun _ _ _ _ r h => by simp [impl_MapAll.l0] at h
 | k + 1 => by
  have ih0 := impl_MapAll.mono_l k
  ·intro y0 y1 y2 y3
   unfold impl_MapAll.l0
   repeat' first
   | (with_reducible exact ih0 _ _ _ _)
   | (with_reducible exact impl_MapOk.mono _ _)
   | (with_reducible exact impl_MsgOk.mono _ _ _ _)
   | (with_reducible exact impl_changed.mono _ _ _ _ _)
   | (with_reducible exact LeO.refl _)
   | (with_reducible exact LeO.none _)
   | (with_reducible refine LeO.ite ?_ ?_)
   | (with_reducible refine LeO.bind ?_ (fun _ => ?_))
   | exact ih0 _ _ _ _
   | exact impl_MapOk.mono _ _
   | exact impl_MsgOk.mono _ _ _ _
   | exact impl_changed.mono _ _ _ _ _
   | exact LeO.none _
   | refine LeO.ite ?_ ?_
   | refine LeO.bind ?_ (fun _ => ?_)
theorem impl_MapAll.mono : ∀ a0 a1 k, LeO (impl_MapAll.f k a0 a1) (impl_MapAll.f (k + 1) a0 a1) := by
 intro a0 a1 k
 have ih0 := impl_MapAll.mono_l k
 unfold impl_MapAll.f
 repeat' first
   | (with_reducible exact ih0 _ _ _ _)
   | (with_reducible exact impl_MapOk.mono _ _)
   | (with_reducible exact impl_MsgOk.mono _ _ _ _)
   | (with_reducible exact impl_changed.mono _ _ _ _ _)
   | (with_reducible exact LeO.refl _)
   | (with_reducible exact LeO.none _)
   | (with_reducible refine LeO.ite ?_ ?_)
   | (with_reducible refine LeO.bind ?_ (fun _ => ?_))
   | exact ih0 _ _ _ _
   | exact impl_MapOk.mono _ _
   | exact impl_MsgOk.mono _ _ _ _
   | exact impl_changed.mono _ _ _ _ _
   | exact LeO.none _
   | refine LeO.ite ?_ ?_
   | refine LeO.bind ?_ (fun _ => ?_)
set_option maxHeartbeats 8000000 in
set_option maxRecDepth 100000 in
theorem impl_MapAll.calls (k : Nat) (A0 : Option Addr) (c0 : Nat) (l0 : List (S147)) (A1 : Option Addr) (c1 : Nat) (l1 : List (S67)) (r : List (S147)) (w : World) (hr0 : Kd.C k147 w A0 l0.length l0) (hc0 : l0.length ≤ c0) (hr1 : Kd.C k67 w A1 l1.length l1) (hc1 : l1.length ≤ c1) (h : impl_MapAll.f k l0 l1 = some r) :
  Calls Try.prog 63 #[.slice A0 l0.length c0, .slice A1 l1.length c1] w fun e w' => ∃ v0_ : Value, e = .returned (v0_) ∧ Kd.R k147 147 w' w.heap.size (fun _ => True) v0_ r ∧ Below w.heap.size w w' := by
 have hu67 := Try.underlying67
 have HR0 := q_ hr0
 have HC0 := q_ hc0
 clear hr0 hc0
 have HR1 := q_ hr1
 have HC1 := q_ hc1
 clear hr1 hc1
 have HB := q_ (Below.refl w.heap.size w)
 have H : ((slices_Clone_Pair.f l0).bind fun t226 => ((impl_MapOk.f k l0).bind fun t229 => (if t229 = true then (impl_MapAll.l0 k t226 l1 (l1.length : Int) 0) else (some t226)))) = some r := h
 clear h
 replace H := Option.bind_eq_some_iff.mp H
 obtain ⟨t226, A30, H⟩ := H
 replace H : ((impl_MapOk.f k l0).bind fun t229 => (if t229 = true then (impl_MapAll.l0 k t226 l1 (l1.length : Int) 0) else (some t226))) = some r := H
 have A3 := q_ A30
 clear A30
 replace H := Option.bind_eq_some_iff.mp H
 obtain ⟨t229, A40, H⟩ := H
 replace H : (if t229 = true then (impl_MapAll.l0 k t226 l1 (l1.length : Int) 0) else (some t226)) = some r := H
 have A4 := q_ A40
 clear A40
 by_cases c5 : t229 = true
 ·subst c5
  have H1 : (impl_MapAll.l0 k t226 l1 (l1.length : Int) 0) = some r := z58_
  clear H
  have H := H1
  clear H1
  have H' := q_ H
  clear H
  go_enter Try.func63, Try.ntmps63
  go_wp2_with (first | ((with_reducible refine gate_callee (f := 130) rfl ?_); refine goesL_ (some 9) rfl rfl Try.func130 (by kernel_rfl) rfl #[.slice A0 l0.length c0] rfl z1_ ?_; (with_reducible refine (slices_Clone_Pair.calls _ _ l0 t226 _ ?side1 ?side2 A3.out).mono ?_); (case side1 => exact z151_); (case side2 => exact HC0.out); rintro e w6 ⟨v227, rfl, ho0, hb⟩; refine ⟨_, rfl, ?_⟩; have n0_ := q_ (Kd.R_lower ho0 (below_size z0_)); have n1_ := q_ (below_step z0_ hb); clear HB; have HO228 := n0_; have HB := n1_; clear n0_ n1_; (try clear hb); (try clear hb2); (try clear hk); (try clear hi); (try clear ho0)) | ((with_reducible refine gate_callee (f := 57) rfl ?_); refine goesL_ (some 11) rfl rfl Try.func57 (by kernel_rfl) rfl #[.slice A0 l0.length c0] rfl z1_ ?_; (with_reducible refine (impl_MapOk.calls k _ _ l0 true _ ?side1 ?side2 A4.out).mono ?_); (case side1 => exact z153_); (case side2 => exact HC0.out); rintro e w7 ⟨rfl, hb⟩; refine ⟨_, rfl, ?_⟩; have n0_ := q_ (Kd.R_below z83_ hb); have n1_ := q_ (below_step z0_ hb); clear HO228; clear HB; have HO228 := n0_; have HB := n1_; clear n0_ n1_; (try clear hb); (try clear hb2); (try clear hk); (try clear hi)))
  go_loopg [5, 16] k (fun kq v5 v16 w' => ∃ (x5_1 : List (S147)) (x16_1 : Int), v16 = .int .i64 x16_1 ∧ Aside0 (impl_MapAll.l0 kq x5_1 l1 (l1.length : Int) x16_1 = some r) ∧ Aside0 (kq ≤ k) ∧ Aside0 (Kd.R k147 147 w' w.heap.size (fun _ => True) v5 x5_1) ∧ Aside0 (Below w.heap.size w w'))
  case atStart => exact ⟨(t226), (0), z7_, H', ⟨Nat.le_refl _⟩, ⟨z83_⟩, ⟨z0_⟩⟩
  case round =>
   clear H'
   try clear c1
   try clear p2
   try clear c5
   try clear c6
   obtain ⟨x5_1, x16_1, rfl, HA, HK1, HO_5, HB⟩ := hrel
   cases gk with
   | zero => exact absurd HA.out (by simp [impl_MapAll.l0])
   | succ k1 =>
    have H := HA.out
    clear HA
    simp only [impl_MapAll.l0] at H
    by_cases c8 : x16_1 < (l1.length : Int)
    ·rw [if_pos c8] at H
     have c8b0 : decide (x16_1 < (l1.length : Int)) = true := decide_eq_true c8
     clear c8
     by_cases c9 : 0 ≤ x16_1
     ·rw [if_pos c9] at H
      have c9b0 : decide (0 ≤ x16_1) = true := decide_eq_true c9
      clear c9
      by_cases c10 : x16_1 < (l1.length : Int)
      ·rw [if_pos c10] at H
       have c10b0 : decide (x16_1 < (l1.length : Int)) = true := decide_eq_true c10
       clear c10
       replace H := Option.bind_eq_some_iff.mp H
       obtain ⟨t232, A110, H⟩ := H
       replace H : (if t232 = true then ((impl_changed.f k1 x5_1 ((rd_T67 l1 x16_1).f0) ((rd_T67 l1 x16_1).f1) ((rd_T67 l1 x16_1).f2)).bind fun t233 => (impl_MapAll.l0 k1 t233 l1 (l1.length : Int) (wrap64 (x16_1 + 1)))) else (impl_MapAll.l0 k1 x5_1 l1 (l1.length : Int) (wrap64 (x16_1 + 1)))) = some r := H
       have A11 := q_ A110
       clear A110
       by_cases c12 : t232 = true
       ·subst c12
        have H1 : ((impl_changed.f k1 x5_1 ((rd_T67 l1 x16_1).f0) ((rd_T67 l1 x16_1).f1) ((rd_T67 l1 x16_1).f2)).bind fun t233 => (impl_MapAll.l0 k1 t233 l1 (l1.length : Int) (wrap64 (x16_1 + 1)))) = some r := z58_
        clear H
        have H := H1
        clear H1
        replace H := Option.bind_eq_some_iff.mp H
        obtain ⟨t233, A130, H⟩ := H
        replace H : (impl_MapAll.l0 k1 t233 l1 (l1.length : Int) (wrap64 (x16_1 + 1))) = some r := H
        have A13 := q_ A130
        clear A130
        have H' := q_ H
        clear H
        have p230 : 0 ≤ (x16_1 : Int) := of_decide_eq_true z3_
        have q230 : x16_1 < (l1.length : Int) := of_decide_eq_true z3_
        obtain ⟨ad230, e230, hx230_0, hx230_1, hx230_2⟩ := at_T67 HR1.out x16_1 p230 q230
        cases e230
        replace hx230_0 := up_ HB hx230_0
        replace hx230_1 := up_ HB hx230_1
        replace hx230_2 := up_ HB hx230_2
        replace p230 := eq_true p230
        replace q230 := eq_true q230
        go_wp2_with (first | ((with_reducible refine gate_dst (N := 7) rfl ?_); refine box_event ?hg (N := 7) ?hd (cs := #[.int .i64 0, .int .i64 0, .int .i64 0]) (t := 67) ?hr ?_; (case hd => rfl); (case hg => rfl); (case hr => exact z148_); intro gb231 hg w14 hbox hb; have n0_ := q_ (Kd.R_below z36_ hb); have n1_ := q_ (below_step z0_ hb); have n2_ := q_ (hbox); have n3_ := q_ ((z119_ : w.heap.size ≤ gb231)); have n4_ := q_ ((z119_ : w.heap.size ≤ gb231)); clear HO_5; clear HB; have HO_5 := n0_; have HB := n1_; have BK231 := n2_; have GW231 := n3_; have GE231 := n4_; clear n0_ n1_ n2_ n3_ n4_; clear hb hbox hg; obtain ⟨hcz15_0, hcz15_1, hcz15_2, hfz15_0, hfz15_1, hfz15_2⟩ := cs3_ BK231.out) | ((with_reducible refine gate_callee (f := 59) rfl ?_); refine goesL_ (some 21) rfl rfl Try.func59 (by kernel_rfl) rfl #[.agg #[.int .i64 ((rd_T67 l1 x16_1).f0), .int .i64 ((rd_T67 l1 x16_1).f1), .int .i64 ((rd_T67 l1 x16_1).f2)]] rfl z1_ ?_; (with_reducible refine (impl_MsgOk.calls k1 ((rd_T67 l1 x16_1).f0) ((rd_T67 l1 x16_1).f1) ((rd_T67 l1 x16_1).f2) true _ A11.out).mono ?_); rintro e w16 ⟨rfl, hb⟩; refine ⟨_, rfl, ?_⟩; have n0_ := q_ (Kd.R_below (by (with_reducible repeat (first | apply Kd.R_alloc | apply Kd.R_drewN | apply Kd.R_drew)); exact (Kd.R_mono (Kd.R_far (p := ⟨gb231, 2, none⟩) (Kd.R_far (p := ⟨gb231, 1, none⟩) (Kd.R_far (p := ⟨gb231, 0, none⟩) (Kd.R_types HO_5.out BK231.out (by decide)) (fun _ hk => hk.2) (.int .i64 ((rd_T67 l1 x16_1).f0))) (fun _ hk => hk.2) (.int .i64 ((rd_T67 l1 x16_1).f1))) (fun _ hk => hk.2) (.int .i64 ((rd_T67 l1 x16_1).f2))) (fun _ h_ => h_.1))) hb); have n1_ := q_ (blk_below (g := gb231) (o := .cells #[.int .i64 ((rd_T67 l1 x16_1).f0), .int .i64 ((rd_T67 l1 x16_1).f1), .int .i64 ((rd_T67 l1 x16_1).f2)] 67 (0, 0)) z42_ hb); have n2_ := q_ (below_step z73_ hb); clear HO_5; clear BK231; clear HB; have HO_5 := n0_; have BK231 := n1_; have HB := n2_; clear n0_ n1_ n2_; (try clear hb); (try clear hb2); (try clear hk); (try clear hi); obtain ⟨hcz17_0, hcz17_1, hcz17_2, hfz17_0, hfz17_1, hfz17_2⟩ := cs3_ BK231.out; obtain ⟨Ao18, co18, eo18⟩ := Kd.R_slice HO_5.out; subst eo18) | ((with_reducible refine gate_callee (f := 131) rfl ?_); refine goesL_ (some 24) rfl rfl Try.func131 (by kernel_rfl) rfl #[.slice Ao18 x5_1.length co18, .agg #[.int .i64 ((rd_T67 l1 x16_1).f0), .int .i64 ((rd_T67 l1 x16_1).f1), .int .i64 ((rd_T67 l1 x16_1).f2)]] rfl z1_ ?_; (with_reducible refine (impl_changed.calls k1 (fun k_ => some k_ = (.slice Ao18 x5_1.length co18 : Value).ownBlock) (.slice Ao18 x5_1.length co18) x5_1 ((rd_T67 l1 x16_1).f0) ((rd_T67 l1 x16_1).f1) ((rd_T67 l1 x16_1).f2) t233 w _ ?side1 ?side2 A13.out).mono ?_); (case side1 => repeat (first | (with_reducible first | exact HB.out | apply below_alloc | apply pw_below_drewN | apply below_drew1 | refine below_set ?_ GE231.out) | exact HB.out)); (case side2 => exact Kd.R_tight rfl HO_5.out); rintro e w19 ⟨v234, rfl, ho0, hb, hkp⟩; refine ⟨_, rfl, ?_⟩; have n0_ := q_ (blk_kept (by (with_reducible repeat (first | refine blk_drewN ?_ _ | refine blk_drew ?_ | refine blk_alloc ?_ _)); exact BK231.out) hkp (fun hs_ => (fun e_ => (Kd.R_ne HO_5.out BK231.out (by decide)) e_) hs_)); have n1_ := q_ (Kd.R_mono (ok' := fun k_ => True) ho0 (fun k_ hk_ => trivial)); have n2_ := q_ (hb); clear BK231; clear HB; clear HO_5; have BK231 := n0_; have HO235 := n1_; have HB := n2_; clear n0_ n1_ n2_; (try clear hb); (try clear hkp); (try clear ho0)))
        go_roundg k1
        case measure => have := HK1.out; omega
        case rel => exact ⟨(t233), (wrap64 (x16_1 + 1)), z7_, H', ⟨z74_⟩, ⟨by (with_reducible repeat (first | apply Kd.R_alloc | apply Kd.R_drewN | apply Kd.R_drew)); exact HO235.out⟩, ⟨z73_⟩⟩
       ·replace c12 := Bool.eq_false_iff.mpr c12
        subst c12
        have H1 : (impl_MapAll.l0 k1 x5_1 l1 (l1.length : Int) (wrap64 (x16_1 + 1))) = some r := by rw [if_neg (show ¬ (false = true) by decide)] at H; exact H
        clear H
        have H := H1
        clear H1
        have H' := q_ H
        clear H
        have p230 : 0 ≤ (x16_1 : Int) := of_decide_eq_true z3_
        have q230 : x16_1 < (l1.length : Int) := of_decide_eq_true z3_
        obtain ⟨ad230, e230, hx230_0, hx230_1, hx230_2⟩ := at_T67 HR1.out x16_1 p230 q230
        cases e230
        replace hx230_0 := up_ HB hx230_0
        replace hx230_1 := up_ HB hx230_1
        replace hx230_2 := up_ HB hx230_2
        replace p230 := eq_true p230
        replace q230 := eq_true q230
        go_wp2_with (first | ((with_reducible refine gate_dst (N := 7) rfl ?_); refine box_event ?hg (N := 7) ?hd (cs := #[.int .i64 0, .int .i64 0, .int .i64 0]) (t := 67) ?hr ?_; (case hd => rfl); (case hg => rfl); (case hr => exact z148_); intro gb231 hg w20 hbox hb; have n0_ := q_ (Kd.R_below z36_ hb); have n1_ := q_ (below_step z0_ hb); have n2_ := q_ (hbox); have n3_ := q_ ((z119_ : w.heap.size ≤ gb231)); have n4_ := q_ ((z119_ : w.heap.size ≤ gb231)); clear HO_5; clear HB; have HO_5 := n0_; have HB := n1_; have BK231 := n2_; have GW231 := n3_; have GE231 := n4_; clear n0_ n1_ n2_ n3_ n4_; clear hb hbox hg; obtain ⟨hcz21_0, hcz21_1, hcz21_2, hfz21_0, hfz21_1, hfz21_2⟩ := cs3_ BK231.out) | ((with_reducible refine gate_callee (f := 59) rfl ?_); refine goesL_ (some 21) rfl rfl Try.func59 (by kernel_rfl) rfl #[.agg #[.int .i64 ((rd_T67 l1 x16_1).f0), .int .i64 ((rd_T67 l1 x16_1).f1), .int .i64 ((rd_T67 l1 x16_1).f2)]] rfl z1_ ?_; (with_reducible refine (impl_MsgOk.calls k1 ((rd_T67 l1 x16_1).f0) ((rd_T67 l1 x16_1).f1) ((rd_T67 l1 x16_1).f2) false _ A11.out).mono ?_); rintro e w22 ⟨rfl, hb⟩; refine ⟨_, rfl, ?_⟩; have n0_ := q_ (Kd.R_below (by (with_reducible repeat (first | apply Kd.R_alloc | apply Kd.R_drewN | apply Kd.R_drew)); exact (Kd.R_mono (Kd.R_far (p := ⟨gb231, 2, none⟩) (Kd.R_far (p := ⟨gb231, 1, none⟩) (Kd.R_far (p := ⟨gb231, 0, none⟩) (Kd.R_types HO_5.out BK231.out (by decide)) (fun _ hk => hk.2) (.int .i64 ((rd_T67 l1 x16_1).f0))) (fun _ hk => hk.2) (.int .i64 ((rd_T67 l1 x16_1).f1))) (fun _ hk => hk.2) (.int .i64 ((rd_T67 l1 x16_1).f2))) (fun _ h_ => h_.1))) hb); have n1_ := q_ (blk_below (g := gb231) (o := .cells #[.int .i64 ((rd_T67 l1 x16_1).f0), .int .i64 ((rd_T67 l1 x16_1).f1), .int .i64 ((rd_T67 l1 x16_1).f2)] 67 (0, 0)) z42_ hb); have n2_ := q_ (below_step z73_ hb); clear HO_5; clear BK231; clear HB; have HO_5 := n0_; have BK231 := n1_; have HB := n2_; clear n0_ n1_ n2_; (try clear hb); (try clear hb2); (try clear hk); (try clear hi)))
        go_roundg k1
        case measure => have := HK1.out; omega
        case rel => exact ⟨(x5_1), (wrap64 (x16_1 + 1)), z7_, H', ⟨z74_⟩, ⟨z36_⟩, ⟨z73_⟩⟩
      ·rw [if_neg c10] at H
       exact absurd H (by simp)
     ·rw [if_neg c9] at H
      exact absurd H (by simp)
    ·rw [if_neg c8] at H
     have c8b0 : decide (x16_1 < (l1.length : Int)) = false := decide_eq_false c8
     clear c8
     obtain rfl := Option.some.inj H
     go_wp2
     go_ret
     exact ⟨_, z5_, z36_, z0_⟩
 ·replace c5 := Bool.eq_false_iff.mpr c5
  subst c5
  have H1 : (some t226) = some r := by rw [if_neg (show ¬ (false = true) by decide)] at H; exact H
  clear H
  have H := H1
  clear H1
  obtain rfl := Option.some.inj H
  go_enter Try.func63, Try.ntmps63
  go_wp2_with (first | ((with_reducible refine gate_callee (f := 130) rfl ?_); refine goesL_ (some 9) rfl rfl Try.func130 (by kernel_rfl) rfl #[.slice A0 l0.length c0] rfl z1_ ?_; (with_reducible refine (slices_Clone_Pair.calls _ _ l0 t226 _ ?side1 ?side2 A3.out).mono ?_); (case side1 => exact z151_); (case side2 => exact HC0.out); rintro e w23 ⟨v227, rfl, ho0, hb⟩; refine ⟨_, rfl, ?_⟩; have n0_ := q_ (Kd.R_lower ho0 (below_size z0_)); have n1_ := q_ (below_step z0_ hb); clear HB; have HO228 := n0_; have HB := n1_; clear n0_ n1_; (try clear hb); (try clear hb2); (try clear hk); (try clear hi); (try clear ho0)) | ((with_reducible refine gate_callee (f := 57) rfl ?_); refine goesL_ (some 11) rfl rfl Try.func57 (by kernel_rfl) rfl #[.slice A0 l0.length c0] rfl z1_ ?_; (with_reducible refine (impl_MapOk.calls k _ _ l0 false _ ?side1 ?side2 A4.out).mono ?_); (case side1 => exact z153_); (case side2 => exact HC0.out); rintro e w24 ⟨rfl, hb⟩; refine ⟨_, rfl, ?_⟩; have n0_ := q_ (Kd.R_below z83_ hb); have n1_ := q_ (below_step z0_ hb); clear HO228; clear HB; have HO228 := n0_; have HB := n1_; clear n0_ n1_; (try clear hb); (try clear hb2); (try clear hk); (try clear hi)))
  go_ret
  exact ⟨_, z5_, z83_, z0_⟩

/-- A state of type 189 at block g of W; what its slices lead to came in by w0. -/
def IsS189 (w0 W : World) (g : Nat) (f0 : List Int) (f1 : Int) (f2 : Int) : Prop := ∃ A0 c0, W.heap[g]? = some (.cells #[.slice A0 f0.length c0, .int .i64 f1, .int .i64 f2] 189 (0, 0)) ∧ w0.heap.size ≤ g ∧ Kd.C (Kd.int .u8) w0 A0 f0.length f0
theorem IsS189.grown {w0 W : World} {g : Nat} {f0 : List Int} {f1 : Int} {f2 : Int} {W1 : World} {row : Option Nat} (h : IsS189 w0 W g f0 f1 f2) (hw : W.grownBy W1 row) (hne : some g ≠ row) : IsS189 w0 W1 g f0 f1 f2 := by
 obtain ⟨A0, c0, hb, hg, hr0⟩ := h
 exact ⟨A0, c0, blk_grown hb hw hne, hg, hr0⟩
theorem IsS189.own_neN {w0 W : World} {g : Nat} {f0 : List Int} {f1 : Int} {f2 : Int} {α : Type} {d : Kd α} {e : Nat} {base : Nat} {ok : Nat → Prop} {v : Value} {xs : List α} (h : IsS189 w0 W g f0 f1 f2) (ho : Kd.N d e W base ok v xs) (ht : e ≠ 189) : some g ≠ v.ownBlock := by
 obtain ⟨A0, c0, hb, hg, hr0⟩ := h
 exact Kd.N_ne ho hb ht
theorem IsS189.fresh {w0 W : World} {g : Nat} {f0 : List Int} {f1 : Int} {f2 : Int} (h : IsS189 w0 W g f0 f1 f2) : ∀ k, W.heap.size ≤ k → k ≠ g := by
 obtain ⟨A0, c0, hb, hg, hr0⟩ := h
 exact Kd.freshB hb
theorem IsS189.kept {w0 W : World} {g : Nat} {f0 : List Int} {f1 : Int} {f2 : Int} {W1 : World} {S : Nat → Prop} (h : IsS189 w0 W g f0 f1 f2) (hk : Kept W W1 S) (hne : ¬ S g) : IsS189 w0 W1 g f0 f1 f2 := by
 obtain ⟨A0, c0, hb, hg, hr0⟩ := h
 exact ⟨A0, c0, blk_kept hb hk hne, hg, hr0⟩
theorem IsS189.below {w0 W : World} {g : Nat} {f0 : List Int} {f1 : Int} {f2 : Int} {W1 : World} (h : IsS189 w0 W g f0 f1 f2) (hw : Below W.heap.size W W1) : IsS189 w0 W1 g f0 f1 f2 := h.grown (grown_of_below hw none) (by simp)
theorem IsS189.alloc {w0 W : World} {g : Nat} {f0 : List Int} {f1 : Int} {f2 : Int} (h : IsS189 w0 W g f0 f1 f2) (o : Obj) : IsS189 w0 (W.alloc o) g f0 f1 f2 := h.below (below_alloc (Below.refl _ _) o)
theorem IsS189.drewN {w0 W : World} {g : Nat} {f0 : List Int} {f1 : Int} {f2 : Int} (h : IsS189 w0 W g f0 f1 f2) (m : Nat) : IsS189 w0 (W.drewN m) g f0 f1 f2 := h
theorem IsS189.drew {w0 W : World} {g : Nat} {f0 : List Int} {f1 : Int} {f2 : Int} (h : IsS189 w0 W g f0 f1 f2) : IsS189 w0 W.drew g f0 f1 f2 := h
theorem IsS189.at_ {w0 W : World} {g : Nat} {f0 : List Int} {f1 : Int} {f2 : Int} {w' : World} {m : Nat} (hq : W.drewN m = w') (h : IsS189 w0 W g f0 f1 f2) : IsS189 w0 w' g f0 f1 f2 := by subst hq; exact IsS189.drewN h m
theorem IsS189.apart {w0 W : World} {g : Nat} {f0 : List Int} {f1 : Int} {f2 : Int} {α : Type} {d : Kd α} {e : Nat} {base : Nat} {ok : Nat → Prop} {v : Value} {xs : List α} (h : IsS189 w0 W g f0 f1 f2) (ho : d.R e W base ok v xs) (ht : ∀ q, q ∈ e :: d.E → q ≠ 189) : d.R e W base (fun k => ok k ∧ k ≠ g) v xs := by
 obtain ⟨A0, c0, hb, hg, hr0⟩ := h
 exact Kd.R_types ho hb ht
theorem IsS189.own_ne {w0 W : World} {g : Nat} {f0 : List Int} {f1 : Int} {f2 : Int} {α : Type} {d : Kd α} {e : Nat} {base : Nat} {ok : Nat → Prop} {v : Value} {xs : List α} (h : IsS189 w0 W g f0 f1 f2) (ho : d.R e W base ok v xs) (ht : e ≠ 189) : some g ≠ v.ownBlock := by
 obtain ⟨A0, c0, hb, hg, hr0⟩ := h
 exact Kd.R_ne ho hb ht
theorem IsS189.apartQ {w0 W : World} {g : Nat} {f0 : List Int} {f1 : Int} {f2 : Int} {α : Type} {d : Kd α} {e : Nat} {base : Nat} {ok : Nat → Prop} {v : Value} {xs : List α} (h : IsS189 w0 W g f0 f1 f2) (ho : d.Q e W base ok v xs) (ht : ∀ q, q ∈ e :: d.E → q ≠ 189) : d.Q e W base (fun k => ok k ∧ k ≠ g) v xs := by
 obtain ⟨A0, c0, hb, hg, hr0⟩ := h
 exact Kd.Q_types ho hb ht
theorem IsS189.own_neQ {w0 W : World} {g : Nat} {f0 : List Int} {f1 : Int} {f2 : Int} {α : Type} {d : Kd α} {e : Nat} {base : Nat} {ok : Nat → Prop} {v : Value} {xs : List α} (h : IsS189 w0 W g f0 f1 f2) (ho : d.Q e W base ok v xs) (ht : e ≠ 189) : some g ≠ v.ownBlock := by
 obtain ⟨A0, c0, hb, hg, hr0⟩ := h
 exact Kd.Q_ne ho hb ht
theorem IsS189.apartS {w0 W : World} {g : Nat} {f0 : List Int} {f1 : Int} {f2 : Int} {α : Type} {d : Kd α} {e : Nat} {base : Nat} {ok : Nat → Prop} {v : Value} {xs : List α} (h : IsS189 w0 W g f0 f1 f2) (ho : d.S e W base ok v xs) (ht : ∀ q, q ∈ e :: d.E → q ≠ 189) : d.S e W base (fun k => ok k ∧ k ≠ g) v xs := by
 obtain ⟨A0, c0, hb, hg, hr0⟩ := h
 exact Kd.S_types ho hb ht
theorem IsS189.own_neS {w0 W : World} {g : Nat} {f0 : List Int} {f1 : Int} {f2 : Int} {α : Type} {d : Kd α} {e : Nat} {base : Nat} {ok : Nat → Prop} {v : Value} {xs : List α} (h : IsS189 w0 W g f0 f1 f2) (ho : d.S e W base ok v xs) (ht : e ≠ 189) : some g ≠ v.ownBlock := by
 obtain ⟨A0, c0, hb, hg, hr0⟩ := h
 exact Kd.S_ne ho hb ht
theorem IsS189.lt {w0 W : World} {g : Nat} {f0 : List Int} {f1 : Int} {f2 : Int} (h : IsS189 w0 W g f0 f1 f2) : g < W.heap.size := by
 obtain ⟨A0, c0, hb, hg, hr0⟩ := h
 exact blk_lt hb
theorem IsS189.ge {w0 W : World} {g : Nat} {f0 : List Int} {f1 : Int} {f2 : Int} (h : IsS189 w0 W g f0 f1 f2) : w0.heap.size ≤ g := by
 obtain ⟨A0, c0, hb, hg, hr0⟩ := h
 exact hg
theorem IsS189.ne_blk {w0 W : World} {g : Nat} {f0 : List Int} {f1 : Int} {f2 : Int} {a : Nat} {cs : Array Value} {t : TypeId} {fr : Nat × Nat} (h : IsS189 w0 W g f0 f1 f2) (hb2 : W.heap[a]? = some (.cells cs t fr)) (ht : t ≠ 189) : g ≠ a := by
 obtain ⟨A0, c0, hb, hg, hr0⟩ := h
 rintro rfl
 rw [hb] at hb2
 injection hb2 with hb2
 injection hb2 with _ ht2
 exact ht ht2.symm
theorem IsS189.far {w0 W : World} {g : Nat} {f0 : List Int} {f1 : Int} {f2 : Int} {p : Addr} (h : IsS189 w0 W g f0 f1 f2) (hne : g ≠ p.block) (u : Value) : IsS189 w0 (W.setCell p u) g f0 f1 f2 := by
 obtain ⟨A0, c0, hb, hg, hr0⟩ := h
 exact ⟨A0, c0, blk_far hb hne u, hg, hr0⟩
theorem cellS189_0 {W : World} {g : Nat} {A0 : Option Addr} {c0 : Nat} {f0 : List Int} {f1 : Int} {f2 : Int} (h : W.heap[g]? = some (.cells #[.slice A0 f0.length c0, .int .i64 f1, .int .i64 f2] 189 (0, 0))) : W.cell? ⟨g, 0, none⟩ = some (.slice A0 f0.length c0) := (blk_cell h 0).trans rfl
theorem cellS189_1 {W : World} {g : Nat} {A0 : Option Addr} {c0 : Nat} {f0 : List Int} {f1 : Int} {f2 : Int} (h : W.heap[g]? = some (.cells #[.slice A0 f0.length c0, .int .i64 f1, .int .i64 f2] 189 (0, 0))) : W.cell? ⟨g, 1, none⟩ = some (.int .i64 f1) := (blk_cell h 1).trans rfl
theorem IsS189.set_1 {w0 W : World} {g : Nat} {f0 : List Int} {f1 : Int} {f2 : Int} (h : IsS189 w0 W g f0 f1 f2) (x : Int) : IsS189 w0 (W.setCell ⟨g, 1, none⟩ (.int .i64 x)) g f0 x f2 := by
 obtain ⟨A0, c0, hb, hg, hr0⟩ := h
 exact ⟨A0, c0, by simpa using blk_set hb 1 (.int .i64 x), hg, hr0⟩
theorem cellS189_2 {W : World} {g : Nat} {A0 : Option Addr} {c0 : Nat} {f0 : List Int} {f1 : Int} {f2 : Int} (h : W.heap[g]? = some (.cells #[.slice A0 f0.length c0, .int .i64 f1, .int .i64 f2] 189 (0, 0))) : W.cell? ⟨g, 2, none⟩ = some (.int .i64 f2) := (blk_cell h 2).trans rfl
theorem IsS189.set_2 {w0 W : World} {g : Nat} {f0 : List Int} {f1 : Int} {f2 : Int} (h : IsS189 w0 W g f0 f1 f2) (x : Int) : IsS189 w0 (W.setCell ⟨g, 2, none⟩ (.int .i64 x)) g f0 f1 x := by
 obtain ⟨A0, c0, hb, hg, hr0⟩ := h
 exact ⟨A0, c0, by simpa using blk_set hb 2 (.int .i64 x), hg, hr0⟩
theorem IsS189.new (w0 W : World) (A0 : Option Addr) (c0 : Nat) (f0 : List Int) (f1 : Int) (f2 : Int) (hB : Below w0.heap.size w0 W) (hr0 : Kd.C (Kd.int .u8) w0 A0 f0.length f0) : IsS189 w0 (W.alloc (.cells #[.slice A0 f0.length c0, .int .i64 f1, .int .i64 f2] 189)) W.heap.size f0 f1 f2 := ⟨A0, c0, by simpa using heap_alloc_new W _, hB.size, hr0⟩

/-! ### spec_l1New: function 123 -/
def spec_l1New.l0 : Nat → List Int → Int → Int → Option (List Int × Int × Int)
 | 0, _, _, _ => none
 | k + 1, x0, x3, x4 => if x4 < (x0.length : Int) then (if x4 < 4000 then (if 0 ≤ x4 then (spec_l1New.l0 k x0 (Go.bits .and .i64 (wrap64 ((wrap64 ((wrap64 (x3 * 131)) + (wrap64 (rd x0 x4)))) + 7)) 1073741823) (wrap64 (x4 + 1))) else (none)) else (some (x0, 0, x3))) else (some (x0, 0, x3))
def spec_l1New.f (k : Nat) (l0 : List Int) : Option (List Int × Int × Int) := spec_l1New.l0 k l0 (wrap64 (18665 + (l0.length : Int))) 0
theorem spec_l1New.mono_l : ∀ k, (∀ y0 y1 y2, LeO (spec_l1New.l0 k y0 y1 y2) (spec_l1New.l0 (k + 1) y0 y1 y2))
 | 0 => fun _ _ _ r h => by simp [spec_l1New.l0] at h
 | k + 1 => by
  have ih0 := spec_l1New.mono_l k
  ·intro y0 y1 y2
   unfold spec_l1New.l0
   repeat' first
   | (with_reducible exact ih0 _ _ _)
   | (with_reducible exact LeO.refl _)
   | (with_reducible exact LeO.none _)
   | (with_reducible refine LeO.ite ?_ ?_)
   | (with_reducible refine LeO.bind ?_ (fun _ => ?_))
   | exact ih0 _ _ _
   | exact LeO.none _
   | refine LeO.ite ?_ ?_
   | refine LeO.bind ?_ (fun _ => ?_)
theorem spec_l1New.mono : ∀ a0 k, LeO (spec_l1New.f k a0) (spec_l1New.f (k + 1) a0) := by
 intro a0 k
 have ih0 := spec_l1New.mono_l k
 unfold spec_l1New.f
 repeat' first
   | (with_reducible exact ih0 _ _ _)
   | (with_reducible exact LeO.refl _)
   | (with_reducible exact LeO.none _)
   | (with_reducible refine LeO.ite ?_ ?_)
   | (with_reducible refine LeO.bind ?_ (fun _ => ?_))
   | exact ih0 _ _ _
   | exact LeO.none _
   | refine LeO.ite ?_ ?_
   | refine LeO.bind ?_ (fun _ => ?_)
set_option maxHeartbeats 8000000 in
set_option maxRecDepth 100000 in
theorem spec_l1New.calls (k : Nat) (A0 : Option Addr) (c0 : Nat) (l0 : List Int) (r1 : List Int) (r2 : Int) (r3 : Int) (w0 w : World) (hB : Below w0.heap.size w0 w) (hr0 : Kd.C (Kd.int .u8) w0 A0 l0.length l0) (hc0 : l0.length ≤ c0) (h : spec_l1New.f k l0 = some (r1, r2, r3)) :
  Calls Try.prog 123 #[.slice A0 l0.length c0] w fun e w' => ∃ g_ : Nat, e = .returned (.pointer (some ⟨g_, 0, none⟩)) ∧ IsS189 w0 w' g_ r1 r2 r3 ∧ Below w0.heap.size w0 w' ∧ Below w.heap.size w w' := by
 have hu189 := Try.underlying189
 have HR0 := q_ hr0
 have HC0 := q_ hc0
 clear hr0 hc0
 have HBW := q_ (Below.refl w.heap.size w)
 have HW0 := q_ hB.size
 have HB := q_ hB
 clear hB
 have H : (spec_l1New.l0 k l0 (wrap64 (18665 + (l0.length : Int))) 0) = some (r1, r2, r3) := h
 clear h
 have H' := q_ H
 clear H
 go_enter Try.func123, Try.ntmps123
 go_wp2
 go_loopg [3, 4] k (fun kq v3 v4 w' => ∃ (x3_1 : Int) (x4_1 : Int), v3 = .int .i64 x3_1 ∧ v4 = .int .i64 x4_1 ∧ Aside0 (spec_l1New.l0 kq l0 x3_1 x4_1 = some (r1, r2, r3)) ∧ Aside0 (kq ≤ k) ∧ Aside0 (Below w.heap.size w w') ∧ Aside0 (Below w0.heap.size w0 w'))
 case atStart => exact ⟨(wrap64 (18665 + (l0.length : Int))), (0), z7_, z7_, H', ⟨Nat.le_refl _⟩, ⟨z69_⟩, ⟨z0_⟩⟩
 case round =>
  clear H'
  try clear c1
  obtain ⟨x3_1, x4_1, rfl, rfl, HA, HK1, HBW, HB⟩ := hrel
  cases gk with
  | zero => exact absurd HA.out (by simp [spec_l1New.l0])
  | succ k1 =>
   have H := HA.out
   clear HA
   simp only [spec_l1New.l0] at H
   by_cases c2 : x4_1 < (l0.length : Int)
   ·rw [if_pos c2] at H
    have c2b0 : decide (x4_1 < (l0.length : Int)) = true := decide_eq_true c2
    clear c2
    by_cases c3 : x4_1 < 4000
    ·rw [if_pos c3] at H
     have c3b0 : decide (x4_1 < 4000) = true := decide_eq_true c3
     clear c3
     by_cases c4 : 0 ≤ x4_1
     ·rw [if_pos c4] at H
      have c4b0 : decide (0 ≤ x4_1) = true := decide_eq_true c4
      clear c4
      have H' := q_ H
      clear H
      have p236 : 0 ≤ (x4_1 : Int) := of_decide_eq_true z3_
      have q236 : x4_1 < (l0.length : Int) := of_decide_eq_true z3_
      obtain ⟨ad236, e236, hx236_0⟩ := Kd.at_int HR0.out x4_1 p236 q236
      cases e236
      replace hx236_0 := pw_cell_below HB.out hx236_0
      replace p236 := eq_true p236
      replace q236 := eq_true q236
      go_wp2
      go_roundg k1
      case measure => have := HK1.out; omega
      case rel => exact ⟨(Go.bits .and .i64 (wrap64 ((wrap64 ((wrap64 (x3_1 * 131)) + (wrap64 (rd l0 x4_1)))) + 7)) 1073741823), (wrap64 (x4_1 + 1)), z7_, z7_, H', ⟨z74_⟩, ⟨z69_⟩, ⟨z0_⟩⟩
     ·rw [if_neg c4] at H
      exact absurd H (by simp)
    ·rw [if_neg c3] at H
     have c3b0 : decide (x4_1 < 4000) = false := decide_eq_false c3
     clear c3
     simp only [Option.some.injEq, Prod.mk.injEq] at H
     obtain ⟨rfl, rfl, rfl⟩ := H
     go_wp2_with (first | ((with_reducible refine gate_dst (N := 31) rfl ?_); refine box_event ?hg (N := 31) ?hd (cs := #[.slice A0 l0.length c0, .int .i64 0, .int .i64 x3_1]) (t := 189) ?hr ?_; (case hd => rfl); (case hg => rfl); (case hr => exact z148_); intro gb237 hg w5 hbox hb; have n0_ := q_ (below_step HBW.out hb); have n1_ := q_ (below_step z0_ hb); have n2_ := q_ (hbox); have n3_ := q_ ((z138_ : w.heap.size ≤ gb237)); have n4_ := q_ ((Nat.le_trans HW0.out (z138_ : w.heap.size ≤ gb237) : w0.heap.size ≤ gb237)); clear HBW; clear HB; have HBW := n0_; have HB := n1_; have BK237 := n2_; have GW237 := n3_; have GE237 := n4_; clear n0_ n1_ n2_ n3_ n4_; clear hb hbox hg))
     go_ret
     exact ⟨_, rfl, (show IsS189 w0 _ gb237 l0 0 x3_1 from ⟨_, _, by (with_reducible repeat (first | refine blk_drewN ?_ _ | refine blk_drew ?_ | refine blk_alloc ?_ _)); exact BK237.out, GE237.out, HR0.out⟩), by repeat (first | (with_reducible first | exact HB.out | apply below_alloc | apply pw_below_drewN | apply below_drew1 | refine below_set ?_ GE237.out) | exact HB.out), by repeat (first | (with_reducible first | exact HBW.out | apply below_alloc | apply pw_below_drewN | apply below_drew1 | refine below_set ?_ GW237.out) | exact HBW.out)⟩
   ·rw [if_neg c2] at H
    have c2b0 : decide (x4_1 < (l0.length : Int)) = false := decide_eq_false c2
    clear c2
    simp only [Option.some.injEq, Prod.mk.injEq] at H
    obtain ⟨rfl, rfl, rfl⟩ := H
    go_wp2_with (first | ((with_reducible refine gate_dst (N := 31) rfl ?_); refine box_event ?hg (N := 31) ?hd (cs := #[.slice A0 l0.length c0, .int .i64 0, .int .i64 x3_1]) (t := 189) ?hr ?_; (case hd => rfl); (case hg => rfl); (case hr => exact z148_); intro gb238 hg w6 hbox hb; have n0_ := q_ (below_step HBW.out hb); have n1_ := q_ (below_step z0_ hb); have n2_ := q_ (hbox); have n3_ := q_ ((z138_ : w.heap.size ≤ gb238)); have n4_ := q_ ((Nat.le_trans HW0.out (z138_ : w.heap.size ≤ gb238) : w0.heap.size ≤ gb238)); clear HBW; clear HB; have HBW := n0_; have HB := n1_; have BK238 := n2_; have GW238 := n3_; have GE238 := n4_; clear n0_ n1_ n2_ n3_ n4_; clear hb hbox hg))
    go_ret
    exact ⟨_, rfl, (show IsS189 w0 _ gb238 l0 0 x3_1 from ⟨_, _, by (with_reducible repeat (first | refine blk_drewN ?_ _ | refine blk_drew ?_ | refine blk_alloc ?_ _)); exact BK238.out, GE238.out, HR0.out⟩), by repeat (first | (with_reducible first | exact HB.out | apply below_alloc | apply pw_below_drewN | apply below_drew1 | refine below_set ?_ GE238.out) | exact HB.out), by repeat (first | (with_reducible first | exact HBW.out | apply below_alloc | apply pw_below_drewN | apply below_drew1 | refine below_set ?_ GW238.out) | exact HBW.out)⟩

/-! ### spec_l1Byte: function 169 -/
def spec_l1Byte.f (s0_0 : List Int) (s0_1 : Int) (s0_2 : Int) : Option (Int × Int × Int) := if s0_1 < (s0_0.length : Int) then (if 0 ≤ s0_1 then (some (Go.bits .and .i64 (wrap64 ((Go.bits .and .i64 (Go.bits .xor .i64 ((wrap64 ((wrap64 (s0_2 * 6364136223846793005)) + 1442695040888963407)) / 8589934592) ((wrap64 ((wrap64 (s0_2 * 6364136223846793005)) + 1442695040888963407)) / 35184372088832)) 255) + (wrap64 (rd s0_0 s0_1)))) 255, wrap64 (s0_1 + 1), wrap64 ((wrap64 (s0_2 * 6364136223846793005)) + 1442695040888963407))) else (none)) else (some (Go.bits .and .i64 (Go.bits .xor .i64 ((wrap64 ((wrap64 (s0_2 * 6364136223846793005)) + 1442695040888963407)) / 8589934592) ((wrap64 ((wrap64 (s0_2 * 6364136223846793005)) + 1442695040888963407)) / 35184372088832)) 255, s0_1, wrap64 ((wrap64 (s0_2 * 6364136223846793005)) + 1442695040888963407)))
set_option maxHeartbeats 8000000 in
set_option maxRecDepth 100000 in
theorem spec_l1Byte.calls (g : Nat) (s0_0 : List Int) (s0_1 : Int) (s0_2 : Int) (r1 : Int) (r2 : Int) (r3 : Int) (w0 w : World) (hI : IsS189 w0 w g s0_0 s0_1 s0_2) (hB : Below w0.heap.size w0 w) (h : spec_l1Byte.f s0_0 s0_1 s0_2 = some (r1, r2, r3)) :
  Calls Try.prog 169 #[.pointer (some ⟨g, 0, none⟩)] w fun e w' => e = .returned (.int .i64 r1) ∧ IsS189 w0 w' g s0_0 r2 r3 ∧ Below w0.heap.size w0 w' ∧ KeepBut w w' g none := by
 have HI0 := q_ hI
 have HK := q_ (KeepBut.refl w g none)
 have HL := q_ hB.size
 clear hI
 have HW0 := q_ hB.size
 have HB := q_ hB
 clear hB
 have H : (if s0_1 < (s0_0.length : Int) then (if 0 ≤ s0_1 then (some (Go.bits .and .i64 (wrap64 ((Go.bits .and .i64 (Go.bits .xor .i64 ((wrap64 ((wrap64 (s0_2 * 6364136223846793005)) + 1442695040888963407)) / 8589934592) ((wrap64 ((wrap64 (s0_2 * 6364136223846793005)) + 1442695040888963407)) / 35184372088832)) 255) + (wrap64 (rd s0_0 s0_1)))) 255, wrap64 (s0_1 + 1), wrap64 ((wrap64 (s0_2 * 6364136223846793005)) + 1442695040888963407))) else (none)) else (some (Go.bits .and .i64 (Go.bits .xor .i64 ((wrap64 ((wrap64 (s0_2 * 6364136223846793005)) + 1442695040888963407)) / 8589934592) ((wrap64 ((wrap64 (s0_2 * 6364136223846793005)) + 1442695040888963407)) / 35184372088832)) 255, s0_1, wrap64 ((wrap64 (s0_2 * 6364136223846793005)) + 1442695040888963407)))) = some (r1, r2, r3) := h
 clear h
 by_cases c2 : s0_1 < (s0_0.length : Int)
 ·rw [if_pos c2] at H
  have c2b0 : decide (s0_1 < (s0_0.length : Int)) = true := decide_eq_true c2
  clear c2
  by_cases c3 : 0 ≤ s0_1
  ·rw [if_pos c3] at H
   have c3b0 : decide (0 ≤ s0_1) = true := decide_eq_true c3
   clear c3
   simp only [Option.some.injEq, Prod.mk.injEq] at H
   obtain ⟨rfl, rfl, rfl⟩ := H
   obtain ⟨ASz4_0, cSz4_0, HGz4, hgz4, HSz4_0⟩ := HI0.out
   have hcz4_0 := cellS189_0 HGz4
   have hcz4_1 := cellS189_1 HGz4
   have hcz4_2 := cellS189_2 HGz4
   have hfz4_1 := blk_frozen HGz4 1
   have hfz4_2 := blk_frozen HGz4 2
   clear HGz4 hgz4
   have p239 : 0 ≤ (s0_1 : Int) := of_decide_eq_true z3_
   have q239 : s0_1 < (s0_0.length : Int) := of_decide_eq_true z3_
   obtain ⟨ad239, e239, hx239_0⟩ := Kd.at_int HSz4_0 s0_1 p239 q239
   cases e239
   have hn239_0 : ad239.block ≠ g := Nat.ne_of_lt (Nat.lt_of_lt_of_le (by have := World.block_lt_of_cell? _ _ hx239_0; first | rwa [add_block] at this | exact this) (IsS189.ge HI0.out))
   replace hx239_0 := pw_cell_below HB.out hx239_0
   replace hx239_0 := (cell_far (p := ⟨g, 2, none⟩) (by first | (rw [add_block]; exact hn239_0) | (show (Addr.add _ _).block ≠ _; rw [add_block]; exact hn239_0) | exact hn239_0) (.int .i64 (wrap64 ((wrap64 (s0_2 * 6364136223846793005)) + 1442695040888963407)))).trans hx239_0
   (try have hy239_0 := fun (n_ : Nat) => (show (((w.drewN n_).setCell ⟨g, 2, none⟩ (.int .i64 (wrap64 ((wrap64 (s0_2 * 6364136223846793005)) + 1442695040888963407))))).cell? _ = some _ from hx239_0))
   clear hn239_0
   replace p239 := eq_true p239
   replace q239 := eq_true q239
   go_enter Try.func169, Try.ntmps169
   go_wp2
   repeat (go_quiet (fail); try go_wp2)
   go_ret
   exact ⟨z5_, z4_, z6_, z2_⟩
  ·rw [if_neg c3] at H
   exact absurd H (by simp)
 ·rw [if_neg c2] at H
  have c2b0 : decide (s0_1 < (s0_0.length : Int)) = false := decide_eq_false c2
  clear c2
  simp only [Option.some.injEq, Prod.mk.injEq] at H
  obtain ⟨rfl, rfl, rfl⟩ := H
  obtain ⟨ASz5_0, cSz5_0, HGz5, hgz5, HSz5_0⟩ := HI0.out
  have hcz5_0 := cellS189_0 HGz5
  have hcz5_1 := cellS189_1 HGz5
  have hcz5_2 := cellS189_2 HGz5
  have hfz5_1 := blk_frozen HGz5 1
  have hfz5_2 := blk_frozen HGz5 2
  clear HGz5 hgz5
  go_enter Try.func169, Try.ntmps169
  go_wp2
  repeat (go_quiet (fail); try go_wp2)
  go_ret
  exact ⟨z5_, z4_, z6_, z2_⟩

/-! ### spec_l1Below: function 126 -/
def spec_l1Below.f (s0_0 : List Int) (s0_1 : Int) (s0_2 : Int) (a1 : Int) : Option (Int × Int × Int) := if a1 ≤ 0 then (some (0, s0_1, s0_2)) else (if a1 ≤ 256 then ((spec_l1Byte.f s0_0 s0_1 s0_2).bind fun bt240 => (if a1 = 0 then (none) else (some (Int.tmod bt240.1 a1, bt240.2.1, bt240.2.2)))) else ((spec_l1Byte.f s0_0 s0_1 s0_2).bind fun bt243 => ((spec_l1Byte.f s0_0 bt243.2.1 bt243.2.2).bind fun bt246 => ((spec_l1Byte.f s0_0 bt246.2.1 bt246.2.2).bind fun bt249 => ((spec_l1Byte.f s0_0 bt249.2.1 bt249.2.2).bind fun bt252 => (if a1 = 0 then (none) else (some (Int.tmod (wrap64 ((wrap64 ((wrap64 ((wrap64 (bt243.1 * 16777216)) + (wrap64 (bt246.1 * 65536)))) + (wrap64 (bt249.1 * 256)))) + bt252.1)) a1, bt252.2.1, bt252.2.2))))))))
set_option maxHeartbeats 8000000 in
set_option maxRecDepth 100000 in
theorem spec_l1Below.calls (g : Nat) (s0_0 : List Int) (s0_1 : Int) (s0_2 : Int) (a1 : Int) (r1 : Int) (r2 : Int) (r3 : Int) (w0 w : World) (hI : IsS189 w0 w g s0_0 s0_1 s0_2) (hB : Below w0.heap.size w0 w) (h : spec_l1Below.f s0_0 s0_1 s0_2 a1 = some (r1, r2, r3)) :
  Calls Try.prog 126 #[.pointer (some ⟨g, 0, none⟩), .int .i64 a1] w fun e w' => e = .returned (.int .i64 r1) ∧ IsS189 w0 w' g s0_0 r2 r3 ∧ Below w0.heap.size w0 w' ∧ KeepBut w w' g none := by
 have HI0 := q_ hI
 have HK := q_ (KeepBut.refl w g none)
 have HL := q_ hB.size
 clear hI
 have HW0 := q_ hB.size
 have HB := q_ hB
 clear hB
 have H : (if a1 ≤ 0 then (some (0, s0_1, s0_2)) else (if a1 ≤ 256 then ((spec_l1Byte.f s0_0 s0_1 s0_2).bind fun bt240 => (if a1 = 0 then (none) else (some (Int.tmod bt240.1 a1, bt240.2.1, bt240.2.2)))) else ((spec_l1Byte.f s0_0 s0_1 s0_2).bind fun bt243 => ((spec_l1Byte.f s0_0 bt243.2.1 bt243.2.2).bind fun bt246 => ((spec_l1Byte.f s0_0 bt246.2.1 bt246.2.2).bind fun bt249 => ((spec_l1Byte.f s0_0 bt249.2.1 bt249.2.2).bind fun bt252 => (if a1 = 0 then (none) else (some (Int.tmod (wrap64 ((wrap64 ((wrap64 ((wrap64 (bt243.1 * 16777216)) + (wrap64 (bt246.1 * 65536)))) + (wrap64 (bt249.1 * 256)))) + bt252.1)) a1, bt252.2.1, bt252.2.2))))))))) = some (r1, r2, r3) := h
 clear h
 by_cases c3 : a1 ≤ 0
 ·rw [if_pos c3] at H
  have c3b0 : decide (a1 ≤ 0) = true := decide_eq_true c3
  clear c3
  simp only [Option.some.injEq, Prod.mk.injEq] at H
  obtain ⟨rfl, rfl, rfl⟩ := H
  go_enter Try.func126, Try.ntmps126
  go_wp2
  go_ret
  exact ⟨z5_, z4_, z6_, z2_⟩
 ·rw [if_neg c3] at H
  have c3b0 : decide (a1 ≤ 0) = false := decide_eq_false c3
  clear c3
  by_cases c4 : a1 ≤ 256
  ·rw [if_pos c4] at H
   have c4b0 : decide (a1 ≤ 256) = true := decide_eq_true c4
   clear c4
   replace H := Option.bind_eq_some_iff.mp H
   obtain ⟨⟨t240, t241, t242⟩, A50, H⟩ := H
   replace H : (if a1 = 0 then (none) else (some (Int.tmod t240 a1, t241, t242))) = some (r1, r2, r3) := H
   have A5 := q_ A50
   clear A50
   by_cases c6 : a1 = 0
   ·rw [if_pos c6] at H
    exact absurd H (by simp)
   ·rw [if_neg c6] at H
    have c6b0 : (a1 == 0) = false := beq_eq_false_iff_ne.mpr c6
    have c6b1 : (a1 != 0) = true := bne_iff_ne.mpr c6
    simp only [Option.some.injEq, Prod.mk.injEq] at H
    obtain ⟨rfl, rfl, rfl⟩ := H
    go_enter Try.func126, Try.ntmps126
    go_wp2_with (first | ((with_reducible refine gate_callee (f := 169) rfl ?_); refine goesL_ (some 14) rfl rfl Try.func169 (by kernel_rfl) rfl #[.pointer (some ⟨g, 0, none⟩)] rfl z1_ ?_; (with_reducible refine (spec_l1Byte.calls g s0_0 s0_1 s0_2 t240 t241 t242 w0 _ ?side1 ?side2 A5.out).mono ?_); (case side1 => exact z146_); (case side2 => exact z147_); rintro e w7 ⟨rfl, hi, hb, hk⟩; refine ⟨_, rfl, ?_⟩; have n0_ := q_ (KeepBut.trans z2_ hk (.inl rfl)); have n1_ := q_ (hb); have n2_ := q_ (hi); clear HK; clear HB; clear HI0; have HK := n0_; have HB := n1_; have HI0 := n2_; clear n0_ n1_ n2_; (try clear hb); (try clear hb2); (try clear hk); (try clear hi)))
    go_ret
    exact ⟨z5_, z4_, z6_, z2_⟩
  ·rw [if_neg c4] at H
   have c4b0 : decide (a1 ≤ 256) = false := decide_eq_false c4
   clear c4
   replace H := Option.bind_eq_some_iff.mp H
   obtain ⟨⟨t243, t244, t245⟩, A80, H⟩ := H
   replace H : ((spec_l1Byte.f s0_0 t244 t245).bind fun bt246 => ((spec_l1Byte.f s0_0 bt246.2.1 bt246.2.2).bind fun bt249 => ((spec_l1Byte.f s0_0 bt249.2.1 bt249.2.2).bind fun bt252 => (if a1 = 0 then (none) else (some (Int.tmod (wrap64 ((wrap64 ((wrap64 ((wrap64 (t243 * 16777216)) + (wrap64 (bt246.1 * 65536)))) + (wrap64 (bt249.1 * 256)))) + bt252.1)) a1, bt252.2.1, bt252.2.2)))))) = some (r1, r2, r3) := H
   have A8 := q_ A80
   clear A80
   replace H := Option.bind_eq_some_iff.mp H
   obtain ⟨⟨t246, t247, t248⟩, A90, H⟩ := H
   replace H : ((spec_l1Byte.f s0_0 t247 t248).bind fun bt249 => ((spec_l1Byte.f s0_0 bt249.2.1 bt249.2.2).bind fun bt252 => (if a1 = 0 then (none) else (some (Int.tmod (wrap64 ((wrap64 ((wrap64 ((wrap64 (t243 * 16777216)) + (wrap64 (t246 * 65536)))) + (wrap64 (bt249.1 * 256)))) + bt252.1)) a1, bt252.2.1, bt252.2.2))))) = some (r1, r2, r3) := H
   have A9 := q_ A90
   clear A90
   replace H := Option.bind_eq_some_iff.mp H
   obtain ⟨⟨t249, t250, t251⟩, A100, H⟩ := H
   replace H : ((spec_l1Byte.f s0_0 t250 t251).bind fun bt252 => (if a1 = 0 then (none) else (some (Int.tmod (wrap64 ((wrap64 ((wrap64 ((wrap64 (t243 * 16777216)) + (wrap64 (t246 * 65536)))) + (wrap64 (t249 * 256)))) + bt252.1)) a1, bt252.2.1, bt252.2.2)))) = some (r1, r2, r3) := H
   have A10 := q_ A100
   clear A100
   replace H := Option.bind_eq_some_iff.mp H
   obtain ⟨⟨t252, t253, t254⟩, A110, H⟩ := H
   replace H : (if a1 = 0 then (none) else (some (Int.tmod (wrap64 ((wrap64 ((wrap64 ((wrap64 (t243 * 16777216)) + (wrap64 (t246 * 65536)))) + (wrap64 (t249 * 256)))) + t252)) a1, t253, t254))) = some (r1, r2, r3) := H
   have A11 := q_ A110
   clear A110
   by_cases c12 : a1 = 0
   ·rw [if_pos c12] at H
    exact absurd H (by simp)
   ·rw [if_neg c12] at H
    have c12b0 : (a1 == 0) = false := beq_eq_false_iff_ne.mpr c12
    have c12b1 : (a1 != 0) = true := bne_iff_ne.mpr c12
    simp only [Option.some.injEq, Prod.mk.injEq] at H
    obtain ⟨rfl, rfl, rfl⟩ := H
    go_enter Try.func126, Try.ntmps126
    go_wp2_with (first | ((with_reducible refine gate_callee (f := 169) rfl ?_); refine goesL_ (some 18) rfl rfl Try.func169 (by kernel_rfl) rfl #[.pointer (some ⟨g, 0, none⟩)] rfl z1_ ?_; (with_reducible refine (spec_l1Byte.calls g s0_0 s0_1 s0_2 t243 t244 t245 w0 _ ?side1 ?side2 A8.out).mono ?_); (case side1 => exact z146_); (case side2 => exact z147_); rintro e w13 ⟨rfl, hi, hb, hk⟩; refine ⟨_, rfl, ?_⟩; have n0_ := q_ (KeepBut.trans z2_ hk (.inl rfl)); have n1_ := q_ (hb); have n2_ := q_ (hi); clear HK; clear HB; clear HI0; have HK := n0_; have HB := n1_; have HI0 := n2_; clear n0_ n1_ n2_; (try clear hb); (try clear hb2); (try clear hk); (try clear hi)) | ((with_reducible refine gate_callee (f := 169) rfl ?_); refine goesL_ (some 20) rfl rfl Try.func169 (by kernel_rfl) rfl #[.pointer (some ⟨g, 0, none⟩)] rfl z1_ ?_; (with_reducible refine (spec_l1Byte.calls g s0_0 t244 t245 t246 t247 t248 w0 _ ?side1 ?side2 A9.out).mono ?_); (case side1 => exact z146_); (case side2 => exact z147_); rintro e w14 ⟨rfl, hi, hb, hk⟩; refine ⟨_, rfl, ?_⟩; have n0_ := q_ (KeepBut.trans z2_ hk (.inl rfl)); have n1_ := q_ (hb); have n2_ := q_ (hi); clear HK; clear HB; clear HI0; have HK := n0_; have HB := n1_; have HI0 := n2_; clear n0_ n1_ n2_; (try clear hb); (try clear hb2); (try clear hk); (try clear hi)) | ((with_reducible refine gate_callee (f := 169) rfl ?_); refine goesL_ (some 22) rfl rfl Try.func169 (by kernel_rfl) rfl #[.pointer (some ⟨g, 0, none⟩)] rfl z1_ ?_; (with_reducible refine (spec_l1Byte.calls g s0_0 t247 t248 t249 t250 t251 w0 _ ?side1 ?side2 A10.out).mono ?_); (case side1 => exact z146_); (case side2 => exact z147_); rintro e w15 ⟨rfl, hi, hb, hk⟩; refine ⟨_, rfl, ?_⟩; have n0_ := q_ (KeepBut.trans z2_ hk (.inl rfl)); have n1_ := q_ (hb); have n2_ := q_ (hi); clear HK; clear HB; clear HI0; have HK := n0_; have HB := n1_; have HI0 := n2_; clear n0_ n1_ n2_; (try clear hb); (try clear hb2); (try clear hk); (try clear hi)) | ((with_reducible refine gate_callee (f := 169) rfl ?_); refine goesL_ (some 24) rfl rfl Try.func169 (by kernel_rfl) rfl #[.pointer (some ⟨g, 0, none⟩)] rfl z1_ ?_; (with_reducible refine (spec_l1Byte.calls g s0_0 t250 t251 t252 t253 t254 w0 _ ?side1 ?side2 A11.out).mono ?_); (case side1 => exact z146_); (case side2 => exact z147_); rintro e w16 ⟨rfl, hi, hb, hk⟩; refine ⟨_, rfl, ?_⟩; have n0_ := q_ (KeepBut.trans z2_ hk (.inl rfl)); have n1_ := q_ (hb); have n2_ := q_ (hi); clear HK; clear HB; clear HI0; have HK := n0_; have HB := n1_; have HI0 := n2_; clear n0_ n1_ n2_; (try clear hb); (try clear hb2); (try clear hk); (try clear hi)))
    go_ret
    exact ⟨z5_, z4_, z6_, z2_⟩

/-! ### spec_l1PickInt: function 167 -/
def spec_l1PickInt.f (s0_0 : List Int) (s0_1 : Int) (s0_2 : Int) (l1 : List Int) : Option (Int × Int × Int) := (spec_l1Below.f s0_0 s0_1 s0_2 (l1.length : Int)).bind fun bt255 => (if 0 ≤ bt255.1 then (if bt255.1 < (l1.length : Int) then (some (rd l1 bt255.1, bt255.2.1, bt255.2.2)) else (none)) else (none))
set_option maxHeartbeats 8000000 in
set_option maxRecDepth 100000 in
theorem spec_l1PickInt.calls (g : Nat) (s0_0 : List Int) (s0_1 : Int) (s0_2 : Int) (A1 : Option Addr) (c1 : Nat) (l1 : List Int) (r1 : Int) (r2 : Int) (r3 : Int) (w0 w : World) (hI : IsS189 w0 w g s0_0 s0_1 s0_2) (hB : Below w0.heap.size w0 w) (hr1 : Kd.C (Kd.int .i64) w A1 l1.length l1) (hc1 : l1.length ≤ c1) (hf1 : ∀ ad, A1 = some ad → 0 < l1.length → ad.block ≠ g) (h : spec_l1PickInt.f s0_0 s0_1 s0_2 l1 = some (r1, r2, r3)) :
  Calls Try.prog 167 #[.pointer (some ⟨g, 0, none⟩), .slice A1 l1.length c1] w fun e w' => e = .returned (.int .i64 r1) ∧ IsS189 w0 w' g s0_0 r2 r3 ∧ Below w0.heap.size w0 w' ∧ KeepBut w w' g none := by
 have HR1 := q_ hr1
 have HC1 := q_ hc1
 clear hr1 hc1
 have HI0 := q_ hI
 have HK := q_ (KeepBut.refl w g none)
 have HL := q_ hB.size
 clear hI
 have HW0 := q_ hB.size
 have HB := q_ hB
 clear hB
 have H : ((spec_l1Below.f s0_0 s0_1 s0_2 (l1.length : Int)).bind fun bt255 => (if 0 ≤ bt255.1 then (if bt255.1 < (l1.length : Int) then (some (rd l1 bt255.1, bt255.2.1, bt255.2.2)) else (none)) else (none))) = some (r1, r2, r3) := h
 clear h
 replace H := Option.bind_eq_some_iff.mp H
 obtain ⟨⟨t255, t256, t257⟩, A30, H⟩ := H
 replace H : (if 0 ≤ t255 then (if t255 < (l1.length : Int) then (some (rd l1 t255, t256, t257)) else (none)) else (none)) = some (r1, r2, r3) := H
 have A3 := q_ A30
 clear A30
 by_cases c4 : 0 ≤ t255
 ·rw [if_pos c4] at H
  have c4b0 : decide (0 ≤ t255) = true := decide_eq_true c4
  clear c4
  by_cases c5 : t255 < (l1.length : Int)
  ·rw [if_pos c5] at H
   have c5b0 : decide (t255 < (l1.length : Int)) = true := decide_eq_true c5
   clear c5
   simp only [Option.some.injEq, Prod.mk.injEq] at H
   obtain ⟨rfl, rfl, rfl⟩ := H
   go_enter Try.func167, Try.ntmps167
   go_wp2_with (first | ((with_reducible refine gate_callee (f := 126) rfl ?_); refine goesL_ (some 9) rfl rfl Try.func126 (by kernel_rfl) rfl #[.pointer (some ⟨g, 0, none⟩), .int .i64 (l1.length : Int)] rfl z1_ ?_; (with_reducible refine (spec_l1Below.calls g s0_0 s0_1 s0_2 (l1.length : Int) t255 t256 t257 w0 _ ?side1 ?side2 A3.out).mono ?_); (case side1 => exact z146_); (case side2 => exact z147_); rintro e w6 ⟨rfl, hi, hb, hk⟩; refine ⟨_, rfl, ?_⟩; have n0_ := q_ (KeepBut.trans z2_ hk (.inl rfl)); have n1_ := q_ (hb); have n2_ := q_ (hi); clear HK; clear HB; clear HI0; have HK := n0_; have HB := n1_; have HI0 := n2_; clear n0_ n1_ n2_; (try clear hb); (try clear hb2); (try clear hk); (try clear hi); have p258 : 0 ≤ (t255 : Int) := of_decide_eq_true z3_; have q258 : t255 < (l1.length : Int) := of_decide_eq_true z3_; obtain ⟨ad258, e258, hx258_0⟩ := Kd.at_int HR1.out t255 p258 q258; cases e258; replace hx258_0 := keep_cell HK.out hx258_0 (by first | (rw [add_block]; exact hf1 _ rfl (by omega)) | exact hf1 _ rfl (by omega) | exact hf1 ad258 rfl (by omega)); replace p258 := eq_true p258; replace q258 := eq_true q258))
   go_ret
   exact ⟨z5_, z4_, z6_, z2_⟩
  ·rw [if_neg c5] at H
   exact absurd H (by simp)
 ·rw [if_neg c4] at H
  exact absurd H (by simp)

/-! ### spec_l1Put: function 127 -/
mutual
def spec_l1Put.l0 : Nat → List (S147) → Int → Int → List (S147) → Bool → Int → Option ((List (S147)))
 | 0, _, _, _, _, _, _ => none
 | k + 1, x0, x1, x2, x7, x8, x9 => if x9 < (x0.length : Int) then (if x8 = true then (spec_l1Put.j1 k x0 x1 x2 x7 x8 x9 false) else (if 0 ≤ x9 then (spec_l1Put.j1 k x0 x1 x2 x7 x8 x9 (decide (((rd_T147 x0 x9).f0) ≥ x1))) else (none))) else (if x8 = true then (some x7) else (if x7.length < 8796093022208 then (some (x7 ++ [(⟨x1, x2⟩ : S147)])) else (none)))
def spec_l1Put.j1 : Nat → List (S147) → Int → Int → List (S147) → Bool → Int → Bool → Option ((List (S147)))
 | 0, _, _, _, _, _, _, _ => none
 | k + 1, x0, x1, x2, x7, x8, x9, x27 => if x27 = true then (if x7.length < 8796093022208 then ((some (x7 ++ [(⟨x1, x2⟩ : S147)] : List (S147))).bind fun y266 => (if 0 ≤ x9 then (if x9 < (x0.length : Int) then (if ((rd_T147 x0 x9).f0) = x1 then (spec_l1Put.l0 k x0 x1 x2 y266 true (wrap64 (x9 + 1))) else (if y266.length < 8796093022208 then (spec_l1Put.l0 k x0 x1 x2 (y266 ++ [(⟨(rd_T147 x0 x9).f0, (rd_T147 x0 x9).f1⟩ : S147)]) true (wrap64 (x9 + 1))) else (none))) else (none)) else (none))) else (none)) else (if 0 ≤ x9 then (if x9 < (x0.length : Int) then (if ((rd_T147 x0 x9).f0) = x1 then (spec_l1Put.l0 k x0 x1 x2 x7 x8 (wrap64 (x9 + 1))) else (if x7.length < 8796093022208 then (spec_l1Put.l0 k x0 x1 x2 (x7 ++ [(⟨(rd_T147 x0 x9).f0, (rd_T147 x0 x9).f1⟩ : S147)]) x8 (wrap64 (x9 + 1))) else (none))) else (none)) else (none))
end
def spec_l1Put.f (k : Nat) (l0 : List (S147)) (a1 : Int) (a2 : Int) : Option ((List (S147))) := spec_l1Put.l0 k l0 a1 a2 (([] : List (S147))) false 0
theorem spec_l1Put.mono_l : ∀ k, (∀ y0 y1 y2 y3 y4 y5, LeO (spec_l1Put.l0 k y0 y1 y2 y3 y4 y5) (spec_l1Put.l0 (k + 1) y0 y1 y2 y3 y4 y5)) ∧ (∀ y0 y1 y2 y3 y4 y5 y6, LeO (spec_l1Put.j1 k y0 y1 y2 y3 y4 y5 y6) (spec_l1Put.j1 (k + 1) y0 y1 y2 y3 y4 y5 y6))
 | 0 => ⟨fun _ _ _ _ _ _ r h => by simp [spec_l1Put.l0] at h, fun _ _ _ _ _ _ _ r h => by simp [spec_l1Put.j1] at h⟩
 | k + 1 => by
  obtain ⟨ih0, ih1⟩ := spec_l1Put.mono_l k
  refine ⟨?_, ?_⟩
  ·intro y0 y1 y2 y3 y4 y5
   unfold spec_l1Put.l0
   repeat' first
   | (with_reducible exact ih0 _ _ _ _ _ _)
   | (with_reducible exact ih1 _ _ _ _ _ _ _)
   | (with_reducible exact LeO.refl _)
   | (with_reducible exact LeO.none _)
   | (with_reducible refine LeO.ite ?_ ?_)
   | (with_reducible refine LeO.bind ?_ (fun _ => ?_))
   | exact ih0 _ _ _ _ _ _
   | exact ih1 _ _ _ _ _ _ _
   | exact LeO.none _
   | refine LeO.ite ?_ ?_
   | refine LeO.bind ?_ (fun _ => ?_)
  ·intro y0 y1 y2 y3 y4 y5 y6
   unfold spec_l1Put.j1
   repeat' first
   | (with_reducible exact ih0 _ _ _ _ _ _)
   | (with_reducible exact ih1 _ _ _ _ _ _ _)
   | (with_reducible exact LeO.refl _)
   | (with_reducible exact LeO.none _)
   | (with_reducible refine LeO.ite ?_ ?_)
   | (with_reducible refine LeO.bind ?_ (fun _ => ?_))
   | exact ih0 _ _ _ _ _ _
   | exact ih1 _ _ _ _ _ _ _
   | exact LeO.none _
   | refine LeO.ite ?_ ?_
   | refine LeO.bind ?_ (fun _ => ?_)
theorem spec_l1Put.mono : ∀ a0 a1 a2 k, LeO (spec_l1Put.f k a0 a1 a2) (spec_l1Put.f (k + 1) a0 a1 a2) := by
 intro a0 a1 a2 k
 obtain ⟨ih0, ih1⟩ := spec_l1Put.mono_l k
 unfold spec_l1Put.f
 repeat' first
   | (with_reducible exact ih0 _ _ _ _ _ _)
   | (with_reducible exact ih1 _ _ _ _ _ _ _)
   | (with_reducible exact LeO.refl _)
   | (with_reducible exact LeO.none _)
   | (with_reducible refine LeO.ite ?_ ?_)
   | (with_reducible refine LeO.bind ?_ (fun _ => ?_))
   | exact ih0 _ _ _ _ _ _
   | exact ih1 _ _ _ _ _ _ _
   | exact LeO.none _
   | refine LeO.ite ?_ ?_
   | refine LeO.bind ?_ (fun _ => ?_)
set_option maxHeartbeats 8000000 in
set_option maxRecDepth 100000 in
theorem spec_l1Put.calls (k : Nat) (A0 : Option Addr) (c0 : Nat) (l0 : List (S147)) (a1 : Int) (a2 : Int) (r : List (S147)) (w : World) (hr0 : Kd.C k147 w A0 l0.length l0) (hc0 : l0.length ≤ c0) (h : spec_l1Put.f k l0 a1 a2 = some r) :
  Calls Try.prog 127 #[.slice A0 l0.length c0, .int .i64 a1, .int .i64 a2] w fun e w' => ∃ v0_ : Value, e = .returned (v0_) ∧ Kd.R k147 147 w' w.heap.size (fun _ => True) v0_ r ∧ Below w.heap.size w w' := by
 have hu147 := Try.underlying147
 have HR0 := q_ hr0
 have HC0 := q_ hc0
 clear hr0 hc0
 have HB := q_ (Below.refl w.heap.size w)
 have H : (spec_l1Put.l0 k l0 a1 a2 (([] : List (S147))) false 0) = some r := h
 clear h
 obtain ⟨y259, hy259⟩ : ∃ y_ : List (S147), y_ = (([] : List (S147))) := ⟨_, rfl⟩
 replace H : (spec_l1Put.l0 k l0 a1 a2 y259 false 0) = some r := by first | (rw [hy259]; with_reducible exact H) | (have H2_ := (Option.bind_some _ _).symm.trans H; rw [hy259]; with_reducible exact H2_) | (have H2_ := (Option.bind_some _ _).symm.trans H; with_reducible exact H2_) | with_reducible exact H | (rw [hy259]; exact H) | exact H
 have Ny259 := q_ hy259
 clear hy259
 have H' := q_ H
 clear H
 go_enter Try.func127, Try.ntmps127
 go_wp2_with (first | ((with_reducible refine gate_dst (N := 10) rfl ?_); refine Kd.R_lit k147 _ 147 ?hg (N := 10) ?hd (xs := ([] : List (S147))) (inner := []) (ok := fun _ => True) (okp := fun _ => True) ?hr ?hp (fun _ hk => hk) trivial (Below.refl _ _) (Nat.le_refl _) (by simp) ?_; (case hd => rfl); (case hg => rfl); (case hr => exact z148_); (case hp => exact (Reps.none _ _)); intro v260 w4 ho5 hb hg_ hnew_; clear hg_ hnew_; (first | rw [← Ny259.out] at ho5 | (simp only [Int.reduceToNat] at ho5; rw [← Ny259.out] at ho5)); have n0_ := q_ (Kd.R_lower ho5 (below_size z0_)); have n1_ := q_ (below_step z0_ hb); clear HB; have HO261 := n0_; have HB := n1_; clear n0_ n1_; clear hb ho5))
 go_loopg [7, 8, 9] k (fun kq v7 v8 v9 w' => ∃ (x7_1 : List (S147)) (x8_1 : Bool) (x9_1 : Int), v8 = .bool x8_1 ∧ v9 = .int .i64 x9_1 ∧ Aside0 (spec_l1Put.l0 kq l0 a1 a2 x7_1 x8_1 x9_1 = some r) ∧ Aside0 (kq ≤ k) ∧ Aside0 (Kd.R k147 147 w' w.heap.size (fun _ => True) v7 x7_1) ∧ Aside0 (Below w.heap.size w w'))
 case atStart => exact ⟨(y259), (false), (0), z7_, z7_, H', ⟨Nat.le_refl _⟩, ⟨by (with_reducible repeat (first | apply Kd.R_alloc | apply Kd.R_drewN | apply Kd.R_drew)); exact HO261.out⟩, ⟨z0_⟩⟩
 case round =>
  clear H'
  try clear c1
  try clear p2
  obtain ⟨x7_1, x8_1, x9_1, rfl, rfl, HA, HK1, HO_7, HB⟩ := hrel
  cases gk with
  | zero => exact absurd HA.out (by simp [spec_l1Put.l0])
  | succ k1 =>
   have H := HA.out
   clear HA
   simp only [spec_l1Put.l0] at H
   by_cases c6 : x9_1 < (l0.length : Int)
   ·rw [if_pos c6] at H
    have c6b0 : decide (x9_1 < (l0.length : Int)) = true := decide_eq_true c6
    clear c6
    have HC7 := q_ H
    clear H
    go_upto_region 6 with (fail)
    go_cut [27] (fun v27 wc => ∃ (kq : Nat) (x27_6 : Bool), v27 = .bool x27_6 ∧ Aside0 (spec_l1Put.j1 kq l0 a1 a2 x7_1 x8_1 x9_1 x27_6 = some r) ∧ Aside0 (kq ≤ k1) ∧ Aside0 (Kd.R k147 147 wc w.heap.size (fun _ => True) u7 x7_1) ∧ Aside0 (Below w.heap.size w wc))
    case first =>
     have H := HC7.out
     clear HC7
     by_cases c8 : x8_1 = true
     ·subst c8
      have H1 : (spec_l1Put.j1 k1 l0 a1 a2 x7_1 true x9_1 false) = some r := z58_
      clear H
      have H := H1
      clear H1
      have H' := q_ H
      clear H
      go_wp2
      go_meet
      case rel => exact ⟨_, (false), z7_, H', ⟨z95_⟩, ⟨z64_⟩, ⟨z0_⟩⟩
     ·replace c8 := Bool.eq_false_iff.mpr c8
      subst c8
      have H1 : (if 0 ≤ x9_1 then (spec_l1Put.j1 k1 l0 a1 a2 x7_1 false x9_1 (decide (((rd_T147 l0 x9_1).f0) ≥ a1))) else (none)) = some r := by rw [if_neg (show ¬ (false = true) by decide)] at H; exact H
      clear H
      have H := H1
      clear H1
      by_cases c9 : 0 ≤ x9_1
      ·rw [if_pos c9] at H
       have c9b0 : decide (0 ≤ x9_1) = true := decide_eq_true c9
       clear c9
       (first | rw [c9b0] | (simp only [i64_w, i32_w]; rw [c9b0]) | skip)
       have H' := q_ H
       clear H
       have p265 : 0 ≤ (x9_1 : Int) := of_decide_eq_true z3_
       have q265 : x9_1 < (l0.length : Int) := of_decide_eq_true z3_
       obtain ⟨ad265, e265, hx265_0, hx265_1⟩ := at_T147 HR0.out x9_1 p265 q265
       cases e265
       replace hx265_0 := up_ HB hx265_0
       replace hx265_1 := up_ HB hx265_1
       replace p265 := eq_true p265
       replace q265 := eq_true q265
       go_wp2
       go_meet
       case rel => exact ⟨_, (decide (((rd_T147 l0 x9_1).f0) ≥ a1)), z7_, H', ⟨z95_⟩, ⟨z64_⟩, ⟨z0_⟩⟩
      ·rw [if_neg c9] at H
       exact absurd H (by simp)
    case rest =>
     clear HC7
     try clear c1
     try clear p2
     try clear q2
     try clear hx2
     try clear c6
     try clear c6b0
     try clear c8
     try clear c9
     try clear c9b0
     try clear hx265_0
     try clear hx265_1
     try clear p2
     try clear p265
     try clear q265
     obtain ⟨kq, x27_6, rfl, HA, HJ6, HO_7, HB⟩ := hcut
     cases kq with
     | zero => exact absurd HA.out (by simp [spec_l1Put.j1])
     | succ kj6 =>
      have H := HA.out
      clear HA
      simp only [spec_l1Put.j1] at H
      by_cases c10 : x27_6 = true
      ·subst c10
       have H1 : (if x7_1.length < 8796093022208 then ((some (x7_1 ++ [(⟨a1, a2⟩ : S147)] : List (S147))).bind fun y266 => (if 0 ≤ x9_1 then (if x9_1 < (l0.length : Int) then (if ((rd_T147 l0 x9_1).f0) = a1 then (spec_l1Put.l0 kj6 l0 a1 a2 y266 true (wrap64 (x9_1 + 1))) else (if y266.length < 8796093022208 then (spec_l1Put.l0 kj6 l0 a1 a2 (y266 ++ [(⟨(rd_T147 l0 x9_1).f0, (rd_T147 l0 x9_1).f1⟩ : S147)]) true (wrap64 (x9_1 + 1))) else (none))) else (none)) else (none))) else (none)) = some r := z58_
       clear H
       have H := H1
       clear H1
       by_cases c11 : x7_1.length < 8796093022208
       ·rw [if_pos c11] at H
        have LMc11 := q_ c11
        clear c11
        obtain ⟨y266, hy266⟩ : ∃ y_ : List (S147), y_ = (x7_1 ++ [(⟨a1, a2⟩ : S147)]) := ⟨_, rfl⟩
        replace H : (if 0 ≤ x9_1 then (if x9_1 < (l0.length : Int) then (if ((rd_T147 l0 x9_1).f0) = a1 then (spec_l1Put.l0 kj6 l0 a1 a2 y266 true (wrap64 (x9_1 + 1))) else (if y266.length < 8796093022208 then (spec_l1Put.l0 kj6 l0 a1 a2 (y266 ++ [(⟨(rd_T147 l0 x9_1).f0, (rd_T147 l0 x9_1).f1⟩ : S147)]) true (wrap64 (x9_1 + 1))) else (none))) else (none)) else (none)) = some r := by first | (rw [hy266]; with_reducible exact H) | (have H2_ := (Option.bind_some _ _).symm.trans H; rw [hy266]; with_reducible exact H2_) | (have H2_ := (Option.bind_some _ _).symm.trans H; with_reducible exact H2_) | with_reducible exact H | (rw [hy266]; exact H) | exact H
        have Ny266 := q_ hy266
        clear hy266
        by_cases c12 : 0 ≤ x9_1
        ·rw [if_pos c12] at H
         have c12b0 : decide (0 ≤ x9_1) = true := decide_eq_true c12
         clear c12
         by_cases c13 : x9_1 < (l0.length : Int)
         ·rw [if_pos c13] at H
          have c13b0 : decide (x9_1 < (l0.length : Int)) = true := decide_eq_true c13
          clear c13
          by_cases c14 : ((rd_T147 l0 x9_1).f0) = a1
          ·rw [if_pos c14] at H
           have c14b0 : (((rd_T147 l0 x9_1).f0) == a1) = true := beq_iff_eq.mpr c14
           have c14b1 : (((rd_T147 l0 x9_1).f0) != a1) = false := bne_eq_false_iff_eq.mpr c14
           clear c14
           have H' := q_ H
           clear H
           go_wp2_with (first | ((with_reducible refine gate_builtin (b := .append) (xs := #[.tmp 28, .tmp 32]) rfl ?_); at_builtin; refine Kd.R_append k147 (w0 := w) w.heap.size rfl (.tmp 28) (.tmp 32) 42 147 (.agg #[(.int .i64 0), (.int .i64 0)]) 16 rfl Try.underlying42 info147 rfl (by decide) (by omega) u7 x7_1 (⟨a1, a2⟩ : S147) [.int .i64 a1, .int .i64 a2] (fun _ => True) (fun _ => False) rfl rfl ?aP (fun _ hk => hk.elim) ?aF ?aO ?aB ?aS ?aL ?_; (case aP => exact k147_mkM _ _ _ (⟨a1, a2⟩ : S147)); (case aB => exact z0_); (case aF => exact z177_); (case aO => exact z64_); (case aS => exact (below_size z0_)); (case aL => have := LMc11.out; omega); intro v267 w15 ho hb hg hat; rw [← Ny266.out] at ho; have n0_ := q_ (hb); have n1_ := q_ (ho); clear HB; clear HO_7; have HB := n0_; have HO268 := n1_; clear n0_ n1_; clear ho hb hg hat; have p269 : 0 ≤ (x9_1 : Int) := of_decide_eq_true z3_; have q269 : x9_1 < (l0.length : Int) := of_decide_eq_true z3_; obtain ⟨ad269, e269, hx269_0, hx269_1⟩ := at_T147 HR0.out x9_1 p269 q269; cases e269; replace hx269_0 := up_ HB hx269_0; replace hx269_1 := up_ HB hx269_1; replace p269 := eq_true p269; replace q269 := eq_true q269))
           go_roundg kj6
           case measure => have := HK1.out; have := HJ6.out; omega
           case rel => exact ⟨(y266), (true), (wrap64 (x9_1 + 1)), z7_, z7_, H', ⟨z114_⟩, ⟨z102_⟩, ⟨z0_⟩⟩
          ·rw [if_neg c14] at H
           have c14b0 : (((rd_T147 l0 x9_1).f0) == a1) = false := beq_eq_false_iff_ne.mpr c14
           have c14b1 : (((rd_T147 l0 x9_1).f0) != a1) = true := bne_iff_ne.mpr c14
           by_cases c16 : y266.length < 8796093022208
           ·rw [if_pos c16] at H
            have LMc16 := q_ c16
            clear c16
            obtain ⟨y271, hy271⟩ : ∃ y_ : List (S147), y_ = (y266 ++ [(⟨(rd_T147 l0 x9_1).f0, (rd_T147 l0 x9_1).f1⟩ : S147)]) := ⟨_, rfl⟩
            replace H : (spec_l1Put.l0 kj6 l0 a1 a2 y271 true (wrap64 (x9_1 + 1))) = some r := by first | (rw [hy271]; with_reducible exact H) | (have H2_ := (Option.bind_some _ _).symm.trans H; rw [hy271]; with_reducible exact H2_) | (have H2_ := (Option.bind_some _ _).symm.trans H; with_reducible exact H2_) | with_reducible exact H | (rw [hy271]; exact H) | exact H
            have Ny271 := q_ hy271
            clear hy271
            have H' := q_ H
            clear H
            go_wp2_with (first | ((with_reducible refine gate_builtin (b := .append) (xs := #[.tmp 28, .tmp 32]) rfl ?_); at_builtin; refine Kd.R_append k147 (w0 := w) w.heap.size rfl (.tmp 28) (.tmp 32) 42 147 (.agg #[(.int .i64 0), (.int .i64 0)]) 16 rfl Try.underlying42 info147 rfl (by decide) (by omega) u7 x7_1 (⟨a1, a2⟩ : S147) [.int .i64 a1, .int .i64 a2] (fun _ => True) (fun _ => False) rfl rfl ?aP (fun _ hk => hk.elim) ?aF ?aO ?aB ?aS ?aL ?_; (case aP => exact k147_mkM _ _ _ (⟨a1, a2⟩ : S147)); (case aB => exact z0_); (case aF => exact z177_); (case aO => exact z64_); (case aS => exact (below_size z0_)); (case aL => have := LMc11.out; omega); intro v267 w17 ho hb hg hat; rw [← Ny266.out] at ho; have n0_ := q_ (hb); have n1_ := q_ (ho); clear HB; clear HO_7; have HB := n0_; have HO268 := n1_; clear n0_ n1_; clear ho hb hg hat; have p269 : 0 ≤ (x9_1 : Int) := of_decide_eq_true z3_; have q269 : x9_1 < (l0.length : Int) := of_decide_eq_true z3_; obtain ⟨ad269, e269, hx269_0, hx269_1⟩ := at_T147 HR0.out x9_1 p269 q269; cases e269; replace hx269_0 := up_ HB hx269_0; replace hx269_1 := up_ HB hx269_1; replace p269 := eq_true p269; replace q269 := eq_true q269; have p270 : 0 ≤ (x9_1 : Int) := of_decide_eq_true z3_; have q270 : x9_1 < (l0.length : Int) := of_decide_eq_true z3_; obtain ⟨ad270, e270, hx270_0, hx270_1⟩ := at_T147 HR0.out x9_1 p270 q270; obtain rfl : ad269 = ad270 := (by injection e270); replace hx270_0 := up_ HB hx270_0; replace hx270_1 := up_ HB hx270_1; replace p270 := eq_true p270; replace q270 := eq_true q270) | ((with_reducible refine gate_builtin (b := .append) (xs := #[.tmp 41, .tmp 46]) rfl ?_); at_builtin; refine Kd.R_append k147 (w0 := w) w.heap.size rfl (.tmp 41) (.tmp 46) 42 147 (.agg #[(.int .i64 0), (.int .i64 0)]) 16 rfl Try.underlying42 info147 rfl (by decide) (by omega) v267 y266 (⟨(rd_T147 l0 x9_1).f0, (rd_T147 l0 x9_1).f1⟩ : S147) [.int .i64 ((rd_T147 l0 x9_1).f0), .int .i64 ((rd_T147 l0 x9_1).f1)] (fun _ => True) (fun _ => False) rfl rfl ?aP (fun _ hk => hk.elim) ?aF ?aO ?aB ?aS ?aL ?_; (case aP => exact z181_); (case aB => exact z0_); (case aF => exact z177_); (case aO => exact z102_); (case aS => exact (below_size z0_)); (case aL => have := LMc16.out; omega); intro v272 w18 ho hb hg hat; rw [← Ny271.out] at ho; have n0_ := q_ (hb); have n1_ := q_ (ho); clear HB; clear HO268; have HB := n0_; have HO273 := n1_; clear n0_ n1_; clear ho hb hg hat))
            go_roundg kj6
            case measure => have := HK1.out; have := HJ6.out; omega
            case rel => exact ⟨(y271), (true), (wrap64 (x9_1 + 1)), z7_, z7_, H', ⟨z114_⟩, ⟨by (with_reducible repeat (first | apply Kd.R_alloc | apply Kd.R_drewN | apply Kd.R_drew)); exact HO273.out⟩, ⟨z0_⟩⟩
           ·rw [if_neg c16] at H
            exact absurd H (by simp)
         ·rw [if_neg c13] at H
          exact absurd H (by simp)
        ·rw [if_neg c12] at H
         exact absurd H (by simp)
       ·rw [if_neg c11] at H
        exact absurd H (by simp)
      ·replace c10 := Bool.eq_false_iff.mpr c10
       subst c10
       have H1 : (if 0 ≤ x9_1 then (if x9_1 < (l0.length : Int) then (if ((rd_T147 l0 x9_1).f0) = a1 then (spec_l1Put.l0 kj6 l0 a1 a2 x7_1 x8_1 (wrap64 (x9_1 + 1))) else (if x7_1.length < 8796093022208 then (spec_l1Put.l0 kj6 l0 a1 a2 (x7_1 ++ [(⟨(rd_T147 l0 x9_1).f0, (rd_T147 l0 x9_1).f1⟩ : S147)]) x8_1 (wrap64 (x9_1 + 1))) else (none))) else (none)) else (none)) = some r := by rw [if_neg (show ¬ (false = true) by decide)] at H; exact H
       clear H
       have H := H1
       clear H1
       by_cases c19 : 0 ≤ x9_1
       ·rw [if_pos c19] at H
        have c19b0 : decide (0 ≤ x9_1) = true := decide_eq_true c19
        clear c19
        by_cases c20 : x9_1 < (l0.length : Int)
        ·rw [if_pos c20] at H
         have c20b0 : decide (x9_1 < (l0.length : Int)) = true := decide_eq_true c20
         clear c20
         by_cases c21 : ((rd_T147 l0 x9_1).f0) = a1
         ·rw [if_pos c21] at H
          have c21b0 : (((rd_T147 l0 x9_1).f0) == a1) = true := beq_iff_eq.mpr c21
          have c21b1 : (((rd_T147 l0 x9_1).f0) != a1) = false := bne_eq_false_iff_eq.mpr c21
          clear c21
          have H' := q_ H
          clear H
          have p274 : 0 ≤ (x9_1 : Int) := of_decide_eq_true z3_
          have q274 : x9_1 < (l0.length : Int) := of_decide_eq_true z3_
          obtain ⟨ad274, e274, hx274_0, hx274_1⟩ := at_T147 HR0.out x9_1 p274 q274
          cases e274
          replace hx274_0 := up_ HB hx274_0
          replace hx274_1 := up_ HB hx274_1
          replace p274 := eq_true p274
          replace q274 := eq_true q274
          go_wp2
          go_roundg kj6
          case measure => have := HK1.out; have := HJ6.out; omega
          case rel => exact ⟨(x7_1), (x8_1), (wrap64 (x9_1 + 1)), z7_, z7_, H', ⟨z114_⟩, ⟨z64_⟩, ⟨z0_⟩⟩
         ·rw [if_neg c21] at H
          have c21b0 : (((rd_T147 l0 x9_1).f0) == a1) = false := beq_eq_false_iff_ne.mpr c21
          have c21b1 : (((rd_T147 l0 x9_1).f0) != a1) = true := bne_iff_ne.mpr c21
          by_cases c22 : x7_1.length < 8796093022208
          ·rw [if_pos c22] at H
           have LMc22 := q_ c22
           clear c22
           obtain ⟨y276, hy276⟩ : ∃ y_ : List (S147), y_ = (x7_1 ++ [(⟨(rd_T147 l0 x9_1).f0, (rd_T147 l0 x9_1).f1⟩ : S147)]) := ⟨_, rfl⟩
           replace H : (spec_l1Put.l0 kj6 l0 a1 a2 y276 x8_1 (wrap64 (x9_1 + 1))) = some r := by first | (rw [hy276]; with_reducible exact H) | (have H2_ := (Option.bind_some _ _).symm.trans H; rw [hy276]; with_reducible exact H2_) | (have H2_ := (Option.bind_some _ _).symm.trans H; with_reducible exact H2_) | with_reducible exact H | (rw [hy276]; exact H) | exact H
           have Ny276 := q_ hy276
           clear hy276
           have H' := q_ H
           clear H
           have p274 : 0 ≤ (x9_1 : Int) := of_decide_eq_true z3_
           have q274 : x9_1 < (l0.length : Int) := of_decide_eq_true z3_
           obtain ⟨ad274, e274, hx274_0, hx274_1⟩ := at_T147 HR0.out x9_1 p274 q274
           cases e274
           replace hx274_0 := up_ HB hx274_0
           replace hx274_1 := up_ HB hx274_1
           replace p274 := eq_true p274
           replace q274 := eq_true q274
           have p275 : 0 ≤ (x9_1 : Int) := of_decide_eq_true z3_
           have q275 : x9_1 < (l0.length : Int) := of_decide_eq_true z3_
           obtain ⟨ad275, e275, hx275_0, hx275_1⟩ := at_T147 HR0.out x9_1 p275 q275
           obtain rfl : ad274 = ad275 := (by injection e275)
           replace hx275_0 := up_ HB hx275_0
           replace hx275_1 := up_ HB hx275_1
           replace p275 := eq_true p275
           replace q275 := eq_true q275
           go_wp2_with (first | ((with_reducible refine gate_builtin (b := .append) (xs := #[.tmp 41, .tmp 46]) rfl ?_); at_builtin; refine Kd.R_append k147 (w0 := w) w.heap.size rfl (.tmp 41) (.tmp 46) 42 147 (.agg #[(.int .i64 0), (.int .i64 0)]) 16 rfl Try.underlying42 info147 rfl (by decide) (by omega) u7 x7_1 (⟨(rd_T147 l0 x9_1).f0, (rd_T147 l0 x9_1).f1⟩ : S147) [.int .i64 ((rd_T147 l0 x9_1).f0), .int .i64 ((rd_T147 l0 x9_1).f1)] (fun _ => True) (fun _ => False) rfl rfl ?aP (fun _ hk => hk.elim) ?aF ?aO ?aB ?aS ?aL ?_; (case aP => exact z181_); (case aB => exact z0_); (case aF => exact z177_); (case aO => exact z64_); (case aS => exact (below_size z0_)); (case aL => have := LMc22.out; omega); intro v277 w23 ho hb hg hat; rw [← Ny276.out] at ho; have n0_ := q_ (hb); have n1_ := q_ (ho); clear HB; clear HO_7; have HB := n0_; have HO278 := n1_; clear n0_ n1_; clear ho hb hg hat))
           go_roundg kj6
           case measure => have := HK1.out; have := HJ6.out; omega
           case rel => exact ⟨(y276), (x8_1), (wrap64 (x9_1 + 1)), z7_, z7_, H', ⟨z114_⟩, ⟨by (with_reducible repeat (first | apply Kd.R_alloc | apply Kd.R_drewN | apply Kd.R_drew)); exact HO278.out⟩, ⟨z0_⟩⟩
          ·rw [if_neg c22] at H
           exact absurd H (by simp)
        ·rw [if_neg c20] at H
         exact absurd H (by simp)
       ·rw [if_neg c19] at H
        exact absurd H (by simp)
   ·rw [if_neg c6] at H
    have c6b0 : decide (x9_1 < (l0.length : Int)) = false := decide_eq_false c6
    clear c6
    by_cases c24 : x8_1 = true
    ·subst c24
     have H1 : (some x7_1) = some r := z58_
     clear H
     have H := H1
     clear H1
     obtain rfl := Option.some.inj H
     go_wp2
     go_ret
     exact ⟨_, z5_, z64_, z0_⟩
    ·replace c24 := Bool.eq_false_iff.mpr c24
     subst c24
     have H1 : (if x7_1.length < 8796093022208 then (some (x7_1 ++ [(⟨a1, a2⟩ : S147)])) else (none)) = some r := by rw [if_neg (show ¬ (false = true) by decide)] at H; exact H
     clear H
     have H := H1
     clear H1
     by_cases c25 : x7_1.length < 8796093022208
     ·rw [if_pos c25] at H
      have LMc25 := q_ c25
      clear c25
      obtain ⟨y262, hy262⟩ : ∃ y_ : List (S147), y_ = (x7_1 ++ [(⟨a1, a2⟩ : S147)]) := ⟨_, rfl⟩
      replace H : (some y262) = some r := by first | (rw [hy262]; with_reducible exact H) | (have H2_ := (Option.bind_some _ _).symm.trans H; rw [hy262]; with_reducible exact H2_) | (have H2_ := (Option.bind_some _ _).symm.trans H; with_reducible exact H2_) | with_reducible exact H | (rw [hy262]; exact H) | exact H
      have Ny262 := q_ hy262
      clear hy262
      obtain rfl := Option.some.inj H
      go_wp2_with (first | ((with_reducible refine gate_builtin (b := .append) (xs := #[.tmp 50, .tmp 54]) rfl ?_); at_builtin; refine Kd.R_append k147 (w0 := w) w.heap.size rfl (.tmp 50) (.tmp 54) 42 147 (.agg #[(.int .i64 0), (.int .i64 0)]) 16 rfl Try.underlying42 info147 rfl (by decide) (by omega) u7 x7_1 (⟨a1, a2⟩ : S147) [.int .i64 a1, .int .i64 a2] (fun _ => True) (fun _ => False) rfl rfl ?aP (fun _ hk => hk.elim) ?aF ?aO ?aB ?aS ?aL ?_; (case aP => exact k147_mkM _ _ _ (⟨a1, a2⟩ : S147)); (case aB => exact z0_); (case aF => exact z177_); (case aO => exact z64_); (case aS => exact (below_size z0_)); (case aL => have := LMc25.out; omega); intro v263 w26 ho hb hg hat; rw [← Ny262.out] at ho; have n0_ := q_ (hb); have n1_ := q_ (ho); clear HB; clear HO_7; have HB := n0_; have HO264 := n1_; clear n0_ n1_; clear ho hb hg hat))
      go_ret
      exact ⟨_, z5_, by (with_reducible repeat (first | apply Kd.R_alloc | apply Kd.R_drewN | apply Kd.R_drew)); exact HO264.out, z0_⟩
     ·rw [if_neg c25] at H
      exact absurd H (by simp)

/-! ### spec_l1Once: function 135 -/
def spec_l1Once.f (s0_0 : List Int) (s0_1 : Int) (s0_2 : Int) (a1 : Int) : Option (Bool × Int × Int) := (spec_l1Below.f s0_0 s0_1 s0_2 a1).bind fun bt279 => (some ((bt279.1 == 0), bt279.2.1, bt279.2.2))
set_option maxHeartbeats 8000000 in
set_option maxRecDepth 100000 in
theorem spec_l1Once.calls (g : Nat) (s0_0 : List Int) (s0_1 : Int) (s0_2 : Int) (a1 : Int) (r1 : Bool) (r2 : Int) (r3 : Int) (w0 w : World) (hI : IsS189 w0 w g s0_0 s0_1 s0_2) (hB : Below w0.heap.size w0 w) (h : spec_l1Once.f s0_0 s0_1 s0_2 a1 = some (r1, r2, r3)) :
  Calls Try.prog 135 #[.pointer (some ⟨g, 0, none⟩), .int .i64 a1] w fun e w' => e = .returned (.bool r1) ∧ IsS189 w0 w' g s0_0 r2 r3 ∧ Below w0.heap.size w0 w' ∧ KeepBut w w' g none := by
 have HI0 := q_ hI
 have HK := q_ (KeepBut.refl w g none)
 have HL := q_ hB.size
 clear hI
 have HW0 := q_ hB.size
 have HB := q_ hB
 clear hB
 have H : ((spec_l1Below.f s0_0 s0_1 s0_2 a1).bind fun bt279 => (some ((bt279.1 == 0), bt279.2.1, bt279.2.2))) = some (r1, r2, r3) := h
 clear h
 replace H := Option.bind_eq_some_iff.mp H
 obtain ⟨⟨t279, t280, t281⟩, A30, H⟩ := H
 replace H : (some ((t279 == 0), t280, t281)) = some (r1, r2, r3) := H
 have A3 := q_ A30
 clear A30
 simp only [Option.some.injEq, Prod.mk.injEq] at H
 obtain ⟨rfl, rfl, rfl⟩ := H
 go_enter Try.func135, Try.ntmps135
 go_wp2_with (first | ((with_reducible refine gate_callee (f := 126) rfl ?_); refine goesL_ (some 7) rfl rfl Try.func126 (by kernel_rfl) rfl #[.pointer (some ⟨g, 0, none⟩), .int .i64 a1] rfl z1_ ?_; (with_reducible refine (spec_l1Below.calls g s0_0 s0_1 s0_2 a1 t279 t280 t281 w0 _ ?side1 ?side2 A3.out).mono ?_); (case side1 => exact z146_); (case side2 => exact z147_); rintro e w4 ⟨rfl, hi, hb, hk⟩; refine ⟨_, rfl, ?_⟩; have n0_ := q_ (KeepBut.trans z2_ hk (.inl rfl)); have n1_ := q_ (hb); have n2_ := q_ (hi); clear HK; clear HB; clear HI0; have HK := n0_; have HB := n1_; have HI0 := n2_; clear n0_ n1_ n2_; (try clear hb); (try clear hb2); (try clear hk); (try clear hi)))
 go_ret
 exact ⟨z5_, z4_, z6_, z2_⟩

end Go.Proofs.Ytphlmbhjeoljoaa.PFnShrunk
