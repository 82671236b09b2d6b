-- Written by a program of this session, which goes by the kit's print. Not trusted: Lean checks it.
import Derived.Test.YtphlmbhjeoljoaaPFnExactShrinkx0
import Derived.Test.YtphlmbhjeoljoaaPFnExactShrinkx1
import Derived.Test.YtphlmbhjeoljoaaPFnExactShrinkx3
import Derived.Test.YtphlmbhjeoljoaaPFnExactShrinkx5
import Derived.Test.YtphlmbhjeoljoaaPFnExactShrinkx6
namespace Go.Proofs.Ytphlmbhjeoljoaa.PFnExactShrink
open Go.RowKit Go.Proofs.YtphlmbhjeoljoaaW.PrintWords Go.Proofs.YtphlmbhjeoljoaaW.PrintLast Go.Proofs.YtphlmbhjeoljoaaW.PrintMore
attribute [local go_sem] max2_int min2_int max_two min_two max_three min_three max_four min_four   -- for this text's walks alone
set_option linter.unusedVariables false
set_option linter.unusedSimpArgs false

/-! ### laws_FnExactShrink: function 3 -/
def laws_FnExactShrink.j0 : Nat → List (S63) → List (S67) → List (S67) → Bool → Option (Bool)
 | 0, _, _, _, _ => none
 | k + 1, x0, x4, x6, x42 => if x42 = true then (some false) else ((laws_markMsgS.f k x6 1).bind fun bt235 => ((laws_heldMsgS.f k bt235.2 1).bind fun t237 => (if t237 < 0 then (some false) else (if t237 = bt235.1 then ((laws_toMsgS.f k x0).bind fun t238 => ((impl_Shrink.f k t238).bind fun t241 => ((laws_eqMsgS.f k t241 x4).bind fun t244 => (if t244 = true then ((laws_heldMsgS.f k bt235.2 1).bind fun t245 => (if t245 < 0 then (some false) else (if t245 = bt235.1 then (some true) else (some false)))) else (some false))))) else (some false)))))
def laws_FnExactShrink.f (k : Nat) (l0 : List (S63)) : Option (Bool) := (laws_szMsgS.f l0 1048576).bind fun t214 => (if t214 < 0 then (some true) else ((laws_toMsgS.f k l0).bind fun t215 => ((spec_Shrink.f k t215).bind fun t218 => ((laws_toMsgS.f k l0).bind fun t221 => ((impl_Shrink.f k t221).bind fun t224 => ((laws_eqMsgS.f k t224 t218).bind fun t227 => (if t227 = true then ((laws_toMsgS.f k l0).bind fun t228 => ((laws_eqMsgS.f k t221 t228).bind fun t231 => (if t231 = true then ((laws_markMsgS.f k t221 1).bind fun bt232 => (if bt232.1 < 0 then (laws_FnExactShrink.j0 k l0 t218 t224 true) else ((laws_eqMsgS.f k t224 t218).bind fun t234 => (laws_FnExactShrink.j0 k l0 t218 t224 (!t234))))) else (some false)))) else (some false))))))))
theorem laws_FnExactShrink.mono_l : ∀ k, (∀ y0 y1 y2 y3, LeO (laws_FnExactShrink.j0 k y0 y1 y2 y3) (laws_FnExactShrink.j0 (k + 1) y0 y1 y2 y3))
 | 0 => fun _ _ _ _ r h => by simp [laws_FnExactShrink.j0] at h
 | k + 1 => by
  have ih0 := laws_FnExactShrink.mono_l k
  ·intro y0 y1 y2 y3
   unfold laws_FnExactShrink.j0
   repeat' first
   | (with_reducible exact ih0 _ _ _ _)
   | (with_reducible exact impl_Shrink.mono _ _)
   | (with_reducible exact laws_eqMsgS.mono _ _ _)
   | (with_reducible exact laws_heldMsgS.mono _ _ _)
   | (with_reducible exact laws_markMsgS.mono _ _ _)
   | (with_reducible exact laws_toMsgS.mono _ _)
   | (with_reducible exact spec_Shrink.mono _ _)
   | (with_reducible exact LeO.refl _)
   | (with_reducible exact LeO.none _)
   | (with_reducible refine LeO.ite ?_ ?_)
   | (with_reducible refine LeO.bind ?_ (fun _ => ?_))
   | exact ih0 _ _ _ _
   | exact impl_Shrink.mono _ _
   | exact laws_eqMsgS.mono _ _ _
   | exact laws_heldMsgS.mono _ _ _
   | exact laws_markMsgS.mono _ _ _
   | exact laws_toMsgS.mono _ _
   | exact spec_Shrink.mono _ _
   | exact LeO.none _
   | refine LeO.ite ?_ ?_
   | refine LeO.bind ?_ (fun _ => ?_)
theorem laws_FnExactShrink.mono : ∀ a0 k, LeO (laws_FnExactShrink.f k a0) (laws_FnExactShrink.f (k + 1) a0) := by
 intro a0 k
 have ih0 := laws_FnExactShrink.mono_l k
 unfold laws_FnExactShrink.f
 repeat' first
   | (with_reducible exact ih0 _ _ _ _)
   | (with_reducible exact impl_Shrink.mono _ _)
   | (with_reducible exact laws_eqMsgS.mono _ _ _)
   | (with_reducible exact laws_heldMsgS.mono _ _ _)
   | (with_reducible exact laws_markMsgS.mono _ _ _)
   | (with_reducible exact laws_toMsgS.mono _ _)
   | (with_reducible exact spec_Shrink.mono _ _)
   | (with_reducible exact LeO.refl _)
   | (with_reducible exact LeO.none _)
   | (with_reducible refine LeO.ite ?_ ?_)
   | (with_reducible refine LeO.bind ?_ (fun _ => ?_))
   | exact ih0 _ _ _ _
   | exact impl_Shrink.mono _ _
   | exact laws_eqMsgS.mono _ _ _
   | exact laws_heldMsgS.mono _ _ _
   | exact laws_markMsgS.mono _ _ _
   | exact laws_toMsgS.mono _ _
   | exact spec_Shrink.mono _ _
   | exact LeO.none _
   | refine LeO.ite ?_ ?_
   | refine LeO.bind ?_ (fun _ => ?_)
set_option maxHeartbeats 8000000 in
set_option maxRecDepth 100000 in
theorem laws_FnExactShrink.calls (k : Nat) (A0 : Option Addr) (c0 : Nat) (l0 : List (S63)) (r : Bool) (w : World) (hr0 : Kd.C k63 w A0 l0.length l0) (hc0 : l0.length ≤ c0) (h : laws_FnExactShrink.f k l0 = some r) :
  Calls Try.prog 3 #[.slice A0 l0.length c0] w fun e w' => e = .returned (.bool r) ∧ Below w.heap.size w w' := by
 have HR0 := q_ hr0
 have HC0 := q_ hc0
 clear hr0 hc0
 have HB := q_ (Below.refl w.heap.size w)
 have H : ((laws_szMsgS.f l0 1048576).bind fun t214 => (if t214 < 0 then (some true) else ((laws_toMsgS.f k l0).bind fun t215 => ((spec_Shrink.f k t215).bind fun t218 => ((laws_toMsgS.f k l0).bind fun t221 => ((impl_Shrink.f k t221).bind fun t224 => ((laws_eqMsgS.f k t224 t218).bind fun t227 => (if t227 = true then ((laws_toMsgS.f k l0).bind fun t228 => ((laws_eqMsgS.f k t221 t228).bind fun t231 => (if t231 = true then ((laws_markMsgS.f k t221 1).bind fun bt232 => (if bt232.1 < 0 then (laws_FnExactShrink.j0 k l0 t218 t224 true) else ((laws_eqMsgS.f k t224 t218).bind fun t234 => (laws_FnExactShrink.j0 k l0 t218 t224 (!t234))))) else (some false)))) else (some false))))))))) = some r := h
 clear h
 replace H := Option.bind_eq_some_iff.mp H
 obtain ⟨t214, A20, H⟩ := H
 replace H : (if t214 < 0 then (some true) else ((laws_toMsgS.f k l0).bind fun t215 => ((spec_Shrink.f k t215).bind fun t218 => ((laws_toMsgS.f k l0).bind fun t221 => ((impl_Shrink.f k t221).bind fun t224 => ((laws_eqMsgS.f k t224 t218).bind fun t227 => (if t227 = true then ((laws_toMsgS.f k l0).bind fun t228 => ((laws_eqMsgS.f k t221 t228).bind fun t231 => (if t231 = true then ((laws_markMsgS.f k t221 1).bind fun bt232 => (if bt232.1 < 0 then (laws_FnExactShrink.j0 k l0 t218 t224 true) else ((laws_eqMsgS.f k t224 t218).bind fun t234 => (laws_FnExactShrink.j0 k l0 t218 t224 (!t234))))) else (some false)))) else (some false)))))))) = some r := H
 have A2 := q_ A20
 clear A20
 by_cases c3 : t214 < 0
 ·rw [if_pos c3] at H
  have c3b0 : decide (t214 < 0) = true := decide_eq_true c3
  clear c3
  obtain rfl := Option.some.inj H
  go_enter Try.func3, Try.ntmps3
  go_wp2_with (first | ((with_reducible refine gate_callee (f := 15) rfl ?_); refine goesL_ (some 13) rfl rfl Try.func15 (by kernel_rfl) rfl #[.slice A0 l0.length c0, .int .i64 1048576] rfl z1_ ?_; (with_reducible refine (laws_szMsgS.calls _ _ l0 1048576 t214 _ ?side1 ?side2 A2.out).mono ?_); (case side1 => exact z90_); (case side2 => exact HC0.out); rintro e w' ⟨rfl, ⟨nd, rfl⟩⟩; refine ⟨_, rfl, ?_⟩))
  go_ret
  exact ⟨z3_, z0_⟩
 ·rw [if_neg c3] at H
  have c3b0 : decide (t214 < 0) = false := decide_eq_false c3
  clear c3
  replace H := Option.bind_eq_some_iff.mp H
  obtain ⟨t215, A40, H⟩ := H
  replace H : ((spec_Shrink.f k t215).bind fun t218 => ((laws_toMsgS.f k l0).bind fun t221 => ((impl_Shrink.f k t221).bind fun t224 => ((laws_eqMsgS.f k t224 t218).bind fun t227 => (if t227 = true then ((laws_toMsgS.f k l0).bind fun t228 => ((laws_eqMsgS.f k t221 t228).bind fun t231 => (if t231 = true then ((laws_markMsgS.f k t221 1).bind fun bt232 => (if bt232.1 < 0 then (laws_FnExactShrink.j0 k l0 t218 t224 true) else ((laws_eqMsgS.f k t224 t218).bind fun t234 => (laws_FnExactShrink.j0 k l0 t218 t224 (!t234))))) else (some false)))) else (some false)))))) = some r := H
  have A4 := q_ A40
  clear A40
  replace H := Option.bind_eq_some_iff.mp H
  obtain ⟨t218, A50, H⟩ := H
  replace H : ((laws_toMsgS.f k l0).bind fun t221 => ((impl_Shrink.f k t221).bind fun t224 => ((laws_eqMsgS.f k t224 t218).bind fun t227 => (if t227 = true then ((laws_toMsgS.f k l0).bind fun t228 => ((laws_eqMsgS.f k t221 t228).bind fun t231 => (if t231 = true then ((laws_markMsgS.f k t221 1).bind fun bt232 => (if bt232.1 < 0 then (laws_FnExactShrink.j0 k l0 t218 t224 true) else ((laws_eqMsgS.f k t224 t218).bind fun t234 => (laws_FnExactShrink.j0 k l0 t218 t224 (!t234))))) else (some false)))) else (some false))))) = some r := H
  have A5 := q_ A50
  clear A50
  replace H := Option.bind_eq_some_iff.mp H
  obtain ⟨t221, A60, H⟩ := H
  replace H : ((impl_Shrink.f k t221).bind fun t224 => ((laws_eqMsgS.f k t224 t218).bind fun t227 => (if t227 = true then ((laws_toMsgS.f k l0).bind fun t228 => ((laws_eqMsgS.f k t221 t228).bind fun t231 => (if t231 = true then ((laws_markMsgS.f k t221 1).bind fun bt232 => (if bt232.1 < 0 then (laws_FnExactShrink.j0 k l0 t218 t224 true) else ((laws_eqMsgS.f k t224 t218).bind fun t234 => (laws_FnExactShrink.j0 k l0 t218 t224 (!t234))))) else (some false)))) else (some false)))) = some r := H
  have A6 := q_ A60
  clear A60
  replace H := Option.bind_eq_some_iff.mp H
  obtain ⟨t224, A70, H⟩ := H
  replace H : ((laws_eqMsgS.f k t224 t218).bind fun t227 => (if t227 = true then ((laws_toMsgS.f k l0).bind fun t228 => ((laws_eqMsgS.f k t221 t228).bind fun t231 => (if t231 = true then ((laws_markMsgS.f k t221 1).bind fun bt232 => (if bt232.1 < 0 then (laws_FnExactShrink.j0 k l0 t218 t224 true) else ((laws_eqMsgS.f k t224 t218).bind fun t234 => (laws_FnExactShrink.j0 k l0 t218 t224 (!t234))))) else (some false)))) else (some false))) = some r := H
  have A7 := q_ A70
  clear A70
  replace H := Option.bind_eq_some_iff.mp H
  obtain ⟨t227, A80, H⟩ := H
  replace H : (if t227 = true then ((laws_toMsgS.f k l0).bind fun t228 => ((laws_eqMsgS.f k t221 t228).bind fun t231 => (if t231 = true then ((laws_markMsgS.f k t221 1).bind fun bt232 => (if bt232.1 < 0 then (laws_FnExactShrink.j0 k l0 t218 t224 true) else ((laws_eqMsgS.f k t224 t218).bind fun t234 => (laws_FnExactShrink.j0 k l0 t218 t224 (!t234))))) else (some false)))) else (some false)) = some r := H
  have A8 := q_ A80
  clear A80
  by_cases c9 : t227 = true
  ·subst c9
   have H1 : ((laws_toMsgS.f k l0).bind fun t228 => ((laws_eqMsgS.f k t221 t228).bind fun t231 => (if t231 = true then ((laws_markMsgS.f k t221 1).bind fun bt232 => (if bt232.1 < 0 then (laws_FnExactShrink.j0 k l0 t218 t224 true) else ((laws_eqMsgS.f k t224 t218).bind fun t234 => (laws_FnExactShrink.j0 k l0 t218 t224 (!t234))))) else (some false)))) = some r := z41_
   clear H
   have H := H1
   clear H1
   replace H := Option.bind_eq_some_iff.mp H
   obtain ⟨t228, A100, H⟩ := H
   replace H : ((laws_eqMsgS.f k t221 t228).bind fun t231 => (if t231 = true then ((laws_markMsgS.f k t221 1).bind fun bt232 => (if bt232.1 < 0 then (laws_FnExactShrink.j0 k l0 t218 t224 true) else ((laws_eqMsgS.f k t224 t218).bind fun t234 => (laws_FnExactShrink.j0 k l0 t218 t224 (!t234))))) else (some false))) = some r := H
   have A10 := q_ A100
   clear A100
   replace H := Option.bind_eq_some_iff.mp H
   obtain ⟨t231, A110, H⟩ := H
   replace H : (if t231 = true then ((laws_markMsgS.f k t221 1).bind fun bt232 => (if bt232.1 < 0 then (laws_FnExactShrink.j0 k l0 t218 t224 true) else ((laws_eqMsgS.f k t224 t218).bind fun t234 => (laws_FnExactShrink.j0 k l0 t218 t224 (!t234))))) else (some false)) = some r := H
   have A11 := q_ A110
   clear A110
   by_cases c12 : t231 = true
   ·subst c12
    have H1 : ((laws_markMsgS.f k t221 1).bind fun bt232 => (if bt232.1 < 0 then (laws_FnExactShrink.j0 k l0 t218 t224 true) else ((laws_eqMsgS.f k t224 t218).bind fun t234 => (laws_FnExactShrink.j0 k l0 t218 t224 (!t234))))) = some r := z41_
    clear H
    have H := H1
    clear H1
    replace H := Option.bind_eq_some_iff.mp H
    obtain ⟨⟨t232, t233⟩, A130, H⟩ := H
    replace H : (if t232 < 0 then (laws_FnExactShrink.j0 k l0 t218 t224 true) else ((laws_eqMsgS.f k t224 t218).bind fun t234 => (laws_FnExactShrink.j0 k l0 t218 t224 (!t234)))) = some r := H
    have A13 := q_ A130
    clear A130
    have HC14 := q_ H
    clear H
    go_enter Try.func3, Try.ntmps3
    go_upto_region 14 with (first | ((with_reducible refine gate_callee (f := 15) rfl ?_); refine goesL_ (some 13) rfl rfl Try.func15 (by kernel_rfl) rfl #[.slice A0 l0.length c0, .int .i64 1048576] rfl z1_ ?_; (with_reducible refine (laws_szMsgS.calls _ _ l0 1048576 t214 _ ?side1 ?side2 A2.out).mono ?_); (case side1 => exact z90_); (case side2 => exact HC0.out); rintro e w' ⟨rfl, ⟨nd, rfl⟩⟩; refine ⟨_, rfl, ?_⟩) | ((with_reducible refine gate_callee (f := 17) rfl ?_); refine goesL_ (some 17) rfl rfl Try.func17 (by kernel_rfl) rfl #[.slice A0 l0.length c0] rfl z1_ ?_; (with_reducible refine (laws_toMsgS.calls k _ _ l0 t215 _ ?side1 ?side2 A4.out).mono ?_); (case side1 => exact z90_); (case side2 => exact HC0.out); rintro e w15 ⟨v216, rfl, ho0, hb⟩; refine ⟨_, rfl, ?_⟩; have n0_ := q_ (Kd.R_lower ho0 (below_size z0_)); have n1_ := q_ (below_step z0_ hb); clear HB; have HO217 := n0_; have HB := n1_; clear n0_ n1_; (try clear hb); (try clear hb2); (try clear hk); (try clear hi); (try clear ho0); obtain ⟨Ao16, co16, eo16⟩ := Kd.R_slice HO217.out; subst eo16) | ((with_reducible refine gate_callee (f := 16) rfl ?_); refine goesL_ (some 18) rfl rfl Try.func16 (by kernel_rfl) rfl #[.slice Ao16 t215.length co16] rfl z1_ ?_; (with_reducible refine (spec_Shrink.calls k _ _ t215 t218 _ ?side1 ?side2 A5.out).mono ?_); (case side1 => exact z107_); (case side2 => exact (Kd.R_reads' HO217.out).2.1); rintro e w17 ⟨v219, rfl, ho0, hb⟩; refine ⟨_, rfl, ?_⟩; have n0_ := q_ (Kd.R_elder' z11_ (Kd.R_base ho0) hb); have n1_ := q_ (Kd.R_lower (Kd.R_new' ho0 (Kd.R_lt z11_)) (below_size z0_)); have n2_ := q_ (below_step z0_ hb); clear HO217; clear HB; have HO217 := n0_; have HO220 := n1_; have HB := n2_; clear n0_ n1_ n2_; (try clear hb); (try clear hb2); (try clear hk); (try clear hi); (try clear ho0)) | ((with_reducible refine gate_callee (f := 17) rfl ?_); refine goesL_ (some 20) rfl rfl Try.func17 (by kernel_rfl) rfl #[.slice A0 l0.length c0] rfl z1_ ?_; (with_reducible refine (laws_toMsgS.calls k _ _ l0 t221 _ ?side1 ?side2 A6.out).mono ?_); (case side1 => exact z92_); (case side2 => exact HC0.out); rintro e w18 ⟨v222, rfl, ho0, hb⟩; refine ⟨_, rfl, ?_⟩; have n0_ := q_ (Kd.R_elder' z11_ (Kd.R_base ho0) hb); have n1_ := q_ (Kd.R_elder' z16_ (Kd.R_base ho0) hb); have n2_ := q_ (Kd.R_lower (Kd.R_new' (Kd.R_new' ho0 (Kd.R_lt z11_)) (Kd.R_lt z16_)) (below_size z0_)); have n3_ := q_ (below_step z0_ hb); clear HO217; clear HO220; clear HB; have HO217 := n0_; have HO220 := n1_; have HO223 := n2_; have HB := n3_; clear n0_ n1_ n2_ n3_; (try clear hb); (try clear hb2); (try clear hk); (try clear hi); (try clear ho0); obtain ⟨Ao19, co19, eo19⟩ := Kd.R_slice HO223.out; subst eo19) | ((with_reducible refine gate_callee (f := 18) rfl ?_); refine goesL_ (some 22) rfl rfl Try.func18 (by kernel_rfl) rfl #[.slice Ao19 t221.length co19] rfl z1_ ?_; (with_reducible refine (impl_Shrink.calls k _ _ t221 t224 _ ?side1 ?side2 A7.out).mono ?_); (case side1 => exact z96_); (case side2 => exact z114_); rintro e w20 ⟨v225, rfl, ho0, hb⟩; refine ⟨_, rfl, ?_⟩; have n0_ := q_ (Kd.R_elder' z11_ (Kd.R_base ho0) hb); have n1_ := q_ (Kd.R_elder' z16_ (Kd.R_base ho0) hb); have n2_ := q_ (Kd.R_elder' z25_ (Kd.R_base ho0) hb); have n3_ := q_ (Kd.R_lower (Kd.R_new' (Kd.R_new' (Kd.R_new' ho0 (Kd.R_lt z11_)) (Kd.R_lt z16_)) (Kd.R_lt z25_)) (below_size z0_)); have n4_ := q_ (below_step z0_ hb); clear HO217; clear HO220; clear HO223; clear HB; have HO217 := n0_; have HO220 := n1_; have HO223 := n2_; have HO226 := n3_; have HB := n4_; clear n0_ n1_ n2_ n3_ n4_; (try clear hb); (try clear hb2); (try clear hk); (try clear hi); (try clear ho0); obtain ⟨Ao21, co21, eo21⟩ := Kd.R_slice HO226.out; subst eo21; obtain ⟨Ao22, co22, eo22⟩ := Kd.R_slice HO220.out; subst eo22) | ((with_reducible refine gate_callee (f := 19) rfl ?_); refine goesL_ (some 25) rfl rfl Try.func19 (by kernel_rfl) rfl #[.slice Ao21 t224.length co21, .slice Ao22 t218.length co22] rfl z1_ ?_; (with_reducible refine (laws_eqMsgS.calls k _ _ t224 _ _ t218 true _ ?side1 ?side2 ?side3 ?side4 A8.out).mono ?_); (case side1 => exact z99_); (case side2 => exact z115_); (case side3 => exact z100_); (case side4 => exact z116_); rintro e w23 ⟨rfl, hb⟩; refine ⟨_, rfl, ?_⟩; have n0_ := q_ (Kd.R_below z11_ hb); have n1_ := q_ (Kd.R_below z16_ hb); have n2_ := q_ (Kd.R_below z25_ hb); have n3_ := q_ (Kd.R_below z33_ hb); have n4_ := q_ (below_step z0_ hb); clear HO217; clear HO220; clear HO223; clear HO226; clear HB; have HO217 := n0_; have HO220 := n1_; have HO223 := n2_; have HO226 := n3_; have HB := n4_; clear n0_ n1_ n2_ n3_ n4_; (try clear hb); (try clear hb2); (try clear hk); (try clear hi)) | ((with_reducible refine gate_callee (f := 17) rfl ?_); refine goesL_ (some 29) rfl rfl Try.func17 (by kernel_rfl) rfl #[.slice A0 l0.length c0] rfl z1_ ?_; (with_reducible refine (laws_toMsgS.calls k _ _ l0 t228 _ ?side1 ?side2 A10.out).mono ?_); (case side1 => exact z92_); (case side2 => exact HC0.out); rintro e w24 ⟨v229, rfl, ho0, hb⟩; refine ⟨_, rfl, ?_⟩; have n0_ := q_ (Kd.R_elder' z11_ (Kd.R_base ho0) hb); have n1_ := q_ (Kd.R_elder' z16_ (Kd.R_base ho0) hb); have n2_ := q_ (Kd.R_elder' z25_ (Kd.R_base ho0) hb); have n3_ := q_ (Kd.R_elder' z33_ (Kd.R_base ho0) hb); have n4_ := q_ (Kd.R_lower (Kd.R_new' (Kd.R_new' (Kd.R_new' (Kd.R_new' ho0 (Kd.R_lt z11_)) (Kd.R_lt z16_)) (Kd.R_lt z25_)) (Kd.R_lt z33_)) (below_size z0_)); have n5_ := q_ (below_step z0_ hb); clear HO217; clear HO220; clear HO223; clear HO226; clear HB; have HO217 := n0_; have HO220 := n1_; have HO223 := n2_; have HO226 := n3_; have HO230 := n4_; have HB := n5_; clear n0_ n1_ n2_ n3_ n4_ n5_; (try clear hb); (try clear hb2); (try clear hk); (try clear hi); (try clear ho0); obtain ⟨Ao25, co25, eo25⟩ := Kd.R_slice HO230.out; subst eo25) | ((with_reducible refine gate_callee (f := 19) rfl ?_); refine goesL_ (some 30) rfl rfl Try.func19 (by kernel_rfl) rfl #[.slice Ao19 t221.length co19, .slice Ao25 t228.length co25] rfl z1_ ?_; (with_reducible refine (laws_eqMsgS.calls k _ _ t221 _ _ t228 true _ ?side1 ?side2 ?side3 ?side4 A11.out).mono ?_); (case side1 => exact z96_); (case side2 => exact z114_); (case side3 => exact z108_); (case side4 => exact (Kd.R_reads' HO230.out).2.1); rintro e w26 ⟨rfl, hb⟩; refine ⟨_, rfl, ?_⟩; have n0_ := q_ (Kd.R_below z11_ hb); have n1_ := q_ (Kd.R_below z16_ hb); have n2_ := q_ (Kd.R_below z25_ hb); have n3_ := q_ (Kd.R_below z33_ hb); have n4_ := q_ (Kd.R_below z56_ hb); have n5_ := q_ (below_step z0_ hb); clear HO217; clear HO220; clear HO223; clear HO226; clear HO230; clear HB; have HO217 := n0_; have HO220 := n1_; have HO223 := n2_; have HO226 := n3_; have HO230 := n4_; have HB := n5_; clear n0_ n1_ n2_ n3_ n4_ n5_; (try clear hb); (try clear hb2); (try clear hk); (try clear hi)) | ((with_reducible refine gate_callee (f := 20) rfl ?_); refine goesL_ (some 34) rfl rfl Try.func20 (by kernel_rfl) rfl #[.slice Ao19 t221.length co19, .int .i64 1] rfl z1_ ?_; (with_reducible refine (laws_markMsgS.calls k (fun k_ => some k_ = (.slice Ao19 t221.length co19 : Value).ownBlock) (.slice Ao19 t221.length co19) t221 1 t232 t233 w _ ?side1 ?side2 A13.out).mono ?_); (case side1 => exact z93_); (case side2 => exact Kd.R_tight rfl HO223.out); rintro e w27 ⟨rfl, hy0, hb, hkp⟩; refine ⟨_, rfl, ?_⟩; have n0_ := q_ (Kd.R_mono (ok' := fun k_ => some k_ ≠ (.slice Ao22 t218.length co22 : Value).ownBlock ∧ some k_ ≠ (.slice Ao19 t221.length co19 : Value).ownBlock ∧ some k_ ≠ (.slice Ao21 t224.length co21 : Value).ownBlock ∧ some k_ ≠ (.slice Ao25 t228.length co25 : Value).ownBlock) (Kd.R_keptB (HO217.out) hkp (fun k_ hk_ hs_ => (hk_.1.1.2) hs_)) (fun k_ hk_ => ⟨hk_.1.1.1.1.2, hk_.1.1.1.2, hk_.1.1.2, hk_.1.2⟩)); have n1_ := q_ (Kd.R_mono (ok' := fun k_ => some k_ ≠ (.slice Ao16 t215.length co16 : Value).ownBlock ∧ some k_ ≠ (.slice Ao19 t221.length co19 : Value).ownBlock ∧ some k_ ≠ (.slice Ao21 t224.length co21 : Value).ownBlock ∧ some k_ ≠ (.slice Ao25 t228.length co25 : Value).ownBlock) (Kd.R_keptB (HO220.out) hkp (fun k_ hk_ hs_ => (hk_.1.1.2) hs_)) (fun k_ hk_ => ⟨hk_.1.1.1.1.2, hk_.1.1.1.2, hk_.1.1.2, hk_.1.2⟩)); have n2_ := q_ (Kd.R_reok rfl hy0 (fun k_ e_ => HO223.out.1 k_ e_)); have n3_ := q_ (Kd.R_mono (ok' := fun k_ => some k_ ≠ (.slice Ao16 t215.length co16 : Value).ownBlock ∧ some k_ ≠ (.slice Ao22 t218.length co22 : Value).ownBlock ∧ some k_ ≠ (.slice Ao19 t221.length co19 : Value).ownBlock ∧ some k_ ≠ (.slice Ao25 t228.length co25 : Value).ownBlock) (Kd.R_keptB (HO226.out) hkp (fun k_ hk_ hs_ => (hk_.1.2) hs_)) (fun k_ hk_ => ⟨hk_.1.1.1.1.2, hk_.1.1.1.2, hk_.1.1.2, hk_.1.2⟩)); have n4_ := q_ (Kd.R_mono (ok' := fun k_ => some k_ ≠ (.slice Ao16 t215.length co16 : Value).ownBlock ∧ some k_ ≠ (.slice Ao22 t218.length co22 : Value).ownBlock ∧ some k_ ≠ (.slice Ao19 t221.length co19 : Value).ownBlock ∧ some k_ ≠ (.slice Ao21 t224.length co21 : Value).ownBlock) (Kd.R_keptB (HO230.out) hkp (fun k_ hk_ hs_ => (hk_.1.2) hs_)) (fun k_ hk_ => ⟨hk_.1.1.1.1.2, hk_.1.1.1.2, hk_.1.1.2, hk_.1.2⟩)); have n5_ := q_ (hb); clear HO217; clear HO220; clear HO223; clear HO226; clear HO230; clear HB; have HO217 := n0_; have HO220 := n1_; have HO223 := n2_; have HO226 := n3_; have HO230 := n4_; have HB := n5_; clear n0_ n1_ n2_ n3_ n4_ n5_; (try clear hb); (try clear hkp); (try clear hy0)))
    (try simp only [Act.put, List.setIfInBounds_toArray, List.set_cons_zero, List.set_cons_succ])
    go_cut [42] (fun v42 wc => ∃ (kq : Nat) (x42_13 : Bool), v42 = .bool x42_13 ∧ Aside0 (laws_FnExactShrink.j0 kq l0 t218 t224 x42_13 = some r) ∧ Aside0 (kq ≤ k) ∧ Aside0 (Kd.R k67 67 wc w.heap.size (fun k_ => some k_ ≠ ((.slice Ao21 t224.length co21) : Value).ownBlock) (.slice Ao22 t218.length co22) t218) ∧ Aside0 (Kd.R k67 67 wc w.heap.size (fun k_ => some k_ ≠ ((.slice Ao22 t218.length co22) : Value).ownBlock) (.slice Ao21 t224.length co21) t224) ∧ Aside0 (Below w.heap.size w wc))
    case first =>
     have H := HC14.out
     clear HC14
     by_cases c28 : t232 < 0
     ·rw [if_pos c28] at H
      have c28b0 : decide (t232 < 0) = true := decide_eq_true c28
      clear c28
      (first | rw [c28b0] | (simp only [i64_w, i32_w]; rw [c28b0]) | skip)
      have H' := q_ H
      clear H
      go_wp2
      go_meet
      case rel => exact ⟨_, (true), z9_, H', ⟨z67_⟩, ⟨z58_⟩, ⟨z59_⟩, ⟨z0_⟩⟩
     ·rw [if_neg c28] at H
      have c28b0 : decide (t232 < 0) = false := decide_eq_false c28
      clear c28
      (first | rw [c28b0] | (simp only [i64_w, i32_w]; rw [c28b0]) | skip)
      replace H := Option.bind_eq_some_iff.mp H
      obtain ⟨t234, A290, H⟩ := H
      replace H : (laws_FnExactShrink.j0 k l0 t218 t224 (!t234)) = some r := H
      have A29 := q_ A290
      clear A290
      have H' := q_ H
      clear H
      go_wp2_with (first | (go_at_call 19; (with_reducible refine (laws_eqMsgS.calls k _ _ t224 _ _ t218 t234 _ ?side1 ?side2 ?side3 ?side4 A29.out).mono ?_); (case side1 => exact z99_); (case side2 => exact z115_); (case side3 => exact z100_); (case side4 => exact z116_); rintro e w30 ⟨rfl, hb⟩; have n0_ := q_ (Kd.R_below z11_ hb); have n1_ := q_ (Kd.R_below z16_ hb); have n2_ := q_ (Kd.R_below z25_ hb); have n3_ := q_ (Kd.R_below z33_ hb); have n4_ := q_ (Kd.R_below z56_ hb); have n5_ := q_ (below_step z0_ hb); clear HO217; clear HO220; clear HO223; clear HO226; clear HO230; clear HB; have HO217 := n0_; have HO220 := n1_; have HO223 := n2_; have HO226 := n3_; have HO230 := n4_; have HB := n5_; clear n0_ n1_ n2_ n3_ n4_ n5_; (try clear hb); (try clear hb2); (try clear hk); (try clear hi)))
      go_meet
      case rel => exact ⟨_, (!t234), z9_, H', ⟨z67_⟩, ⟨z58_⟩, ⟨z59_⟩, ⟨z0_⟩⟩
    case rest =>
     clear HC14
     try clear c1
     try clear c2
     try clear p2
     try clear c3
     try clear c3b0
     try clear c9
     try clear c12
     try clear c15
     try clear c16
     try clear c17
     try clear c18
     try clear c19
     try clear c20
     try clear c28
     try clear c28b0
     obtain ⟨kq, x42_13, rfl, HA, HJ13, HO_4, HO_6, HB⟩ := hcut
     cases kq with
     | zero => exact absurd HA.out (by simp [laws_FnExactShrink.j0])
     | succ kj13 =>
      have H := HA.out
      clear HA
      simp only [laws_FnExactShrink.j0] at H
      by_cases c31 : x42_13 = true
      ·subst c31
       have H1 : (some false) = some r := z41_
       clear H
       have H := H1
       clear H1
       obtain rfl := Option.some.inj H
       go_wp2
       go_ret
       exact ⟨z3_, z0_⟩
      ·replace c31 := Bool.eq_false_iff.mpr c31
       subst c31
       have H1 : ((laws_markMsgS.f kj13 t224 1).bind fun bt235 => ((laws_heldMsgS.f kj13 bt235.2 1).bind fun t237 => (if t237 < 0 then (some false) else (if t237 = bt235.1 then ((laws_toMsgS.f kj13 l0).bind fun t238 => ((impl_Shrink.f kj13 t238).bind fun t241 => ((laws_eqMsgS.f kj13 t241 t218).bind fun t244 => (if t244 = true then ((laws_heldMsgS.f kj13 bt235.2 1).bind fun t245 => (if t245 < 0 then (some false) else (if t245 = bt235.1 then (some true) else (some false)))) else (some false))))) else (some false))))) = some r := by rw [if_neg (show ¬ (false = true) by decide)] at H; exact H
       clear H
       have H := H1
       clear H1
       replace H := Option.bind_eq_some_iff.mp H
       obtain ⟨⟨t235, t236⟩, A320, H⟩ := H
       replace H : ((laws_heldMsgS.f kj13 t236 1).bind fun t237 => (if t237 < 0 then (some false) else (if t237 = t235 then ((laws_toMsgS.f kj13 l0).bind fun t238 => ((impl_Shrink.f kj13 t238).bind fun t241 => ((laws_eqMsgS.f kj13 t241 t218).bind fun t244 => (if t244 = true then ((laws_heldMsgS.f kj13 t236 1).bind fun t245 => (if t245 < 0 then (some false) else (if t245 = t235 then (some true) else (some false)))) else (some false))))) else (some false)))) = some r := H
       have A32 := q_ A320
       clear A320
       replace H := Option.bind_eq_some_iff.mp H
       obtain ⟨t237, A330, H⟩ := H
       replace H : (if t237 < 0 then (some false) else (if t237 = t235 then ((laws_toMsgS.f kj13 l0).bind fun t238 => ((impl_Shrink.f kj13 t238).bind fun t241 => ((laws_eqMsgS.f kj13 t241 t218).bind fun t244 => (if t244 = true then ((laws_heldMsgS.f kj13 t236 1).bind fun t245 => (if t245 < 0 then (some false) else (if t245 = t235 then (some true) else (some false)))) else (some false))))) else (some false))) = some r := H
       have A33 := q_ A330
       clear A330
       by_cases c34 : t237 < 0
       ·rw [if_pos c34] at H
        have c34b0 : decide (t237 < 0) = true := decide_eq_true c34
        clear c34
        obtain rfl := Option.some.inj H
        go_wp2_with (first | ((with_reducible refine gate_callee (f := 20) rfl ?_); refine goesL_ (some 45) rfl rfl Try.func20 (by kernel_rfl) rfl #[.slice Ao21 t224.length co21, .int .i64 1] rfl z1_ ?_; (with_reducible refine (laws_markMsgS.calls kj13 (fun k_ => some k_ = (.slice Ao21 t224.length co21 : Value).ownBlock) (.slice Ao21 t224.length co21) t224 1 t235 t236 w _ ?side1 ?side2 A32.out).mono ?_); (case side1 => exact z93_); (case side2 => exact z113_); rintro e w35 ⟨rfl, hy0, hb, hkp⟩; refine ⟨_, rfl, ?_⟩; have n0_ := q_ (Kd.R_mono (ok' := fun k_ => some k_ ≠ (.slice Ao21 t224.length co21 : Value).ownBlock) (Kd.R_keptB (HO_4.out) hkp (fun k_ hk_ hs_ => (hk_) hs_)) (fun k_ hk_ => hk_.1)); have n1_ := q_ (Kd.R_reok rfl hy0 (fun k_ e_ => HO_6.out.1 k_ e_)); have n2_ := q_ (hb); clear HO_4; clear HO_6; clear HB; have HO_4 := n0_; have HO_6 := n1_; have HB := n2_; clear n0_ n1_ n2_; (try clear hb); (try clear hkp); (try clear hy0)) | ((with_reducible refine gate_callee (f := 21) rfl ?_); refine goesL_ (some 48) rfl rfl Try.func21 (by kernel_rfl) rfl #[.slice Ao21 t236.length co21, .int .i64 1] rfl z20_ ?_; (with_reducible refine (laws_heldMsgS.calls kj13 _ _ t236 1 t237 _ ?side1 ?side2 A33.out).mono ?_); (case side1 => exact z89_); (case side2 => exact z95_); rintro e w' ⟨rfl, ⟨nd, rfl⟩⟩; refine ⟨_, rfl, ?_⟩))
        go_ret
        exact ⟨z3_, z0_⟩
       ·rw [if_neg c34] at H
        have c34b0 : decide (t237 < 0) = false := decide_eq_false c34
        clear c34
        by_cases c36 : t237 = t235
        ·rw [if_pos c36] at H
         have c36b0 : (t237 == t235) = true := beq_iff_eq.mpr c36
         have c36b1 : (t237 != t235) = false := bne_eq_false_iff_eq.mpr c36
         clear c36
         replace H := Option.bind_eq_some_iff.mp H
         obtain ⟨t238, A370, H⟩ := H
         replace H : ((impl_Shrink.f kj13 t238).bind fun t241 => ((laws_eqMsgS.f kj13 t241 t218).bind fun t244 => (if t244 = true then ((laws_heldMsgS.f kj13 t236 1).bind fun t245 => (if t245 < 0 then (some false) else (if t245 = t235 then (some true) else (some false)))) else (some false)))) = some r := H
         have A37 := q_ A370
         clear A370
         replace H := Option.bind_eq_some_iff.mp H
         obtain ⟨t241, A380, H⟩ := H
         replace H : ((laws_eqMsgS.f kj13 t241 t218).bind fun t244 => (if t244 = true then ((laws_heldMsgS.f kj13 t236 1).bind fun t245 => (if t245 < 0 then (some false) else (if t245 = t235 then (some true) else (some false)))) else (some false))) = some r := H
         have A38 := q_ A380
         clear A380
         replace H := Option.bind_eq_some_iff.mp H
         obtain ⟨t244, A390, H⟩ := H
         replace H : (if t244 = true then ((laws_heldMsgS.f kj13 t236 1).bind fun t245 => (if t245 < 0 then (some false) else (if t245 = t235 then (some true) else (some false)))) else (some false)) = some r := H
         have A39 := q_ A390
         clear A390
         by_cases c40 : t244 = true
         ·subst c40
          have H1 : ((laws_heldMsgS.f kj13 t236 1).bind fun t245 => (if t245 < 0 then (some false) else (if t245 = t235 then (some true) else (some false)))) = some r := z41_
          clear H
          have H := H1
          clear H1
          replace H := Option.bind_eq_some_iff.mp H
          obtain ⟨t245, A410, H⟩ := H
          replace H : (if t245 < 0 then (some false) else (if t245 = t235 then (some true) else (some false))) = some r := H
          have A41 := q_ A410
          clear A410
          by_cases c42 : t245 < 0
          ·rw [if_pos c42] at H
           have c42b0 : decide (t245 < 0) = true := decide_eq_true c42
           clear c42
           obtain rfl := Option.some.inj H
           go_wp2_with (first | ((with_reducible refine gate_callee (f := 20) rfl ?_); refine goesL_ (some 45) rfl rfl Try.func20 (by kernel_rfl) rfl #[.slice Ao21 t224.length co21, .int .i64 1] rfl z1_ ?_; (with_reducible refine (laws_markMsgS.calls kj13 (fun k_ => some k_ = (.slice Ao21 t224.length co21 : Value).ownBlock) (.slice Ao21 t224.length co21) t224 1 t235 t236 w _ ?side1 ?side2 A32.out).mono ?_); (case side1 => exact z93_); (case side2 => exact z113_); rintro e w43 ⟨rfl, hy0, hb, hkp⟩; refine ⟨_, rfl, ?_⟩; have n0_ := q_ (Kd.R_mono (ok' := fun k_ => some k_ ≠ (.slice Ao21 t224.length co21 : Value).ownBlock) (Kd.R_keptB (HO_4.out) hkp (fun k_ hk_ hs_ => (hk_) hs_)) (fun k_ hk_ => hk_.1)); have n1_ := q_ (Kd.R_reok rfl hy0 (fun k_ e_ => HO_6.out.1 k_ e_)); have n2_ := q_ (hb); clear HO_4; clear HO_6; clear HB; have HO_4 := n0_; have HO_6 := n1_; have HB := n2_; clear n0_ n1_ n2_; (try clear hb); (try clear hkp); (try clear hy0)) | ((with_reducible refine gate_callee (f := 21) rfl ?_); refine goesL_ (some 48) rfl rfl Try.func21 (by kernel_rfl) rfl #[.slice Ao21 t236.length co21, .int .i64 1] rfl z20_ ?_; (with_reducible refine (laws_heldMsgS.calls kj13 _ _ t236 1 t237 _ ?side1 ?side2 A33.out).mono ?_); (case side1 => exact z89_); (case side2 => exact z95_); rintro e w' ⟨rfl, ⟨nd, rfl⟩⟩; refine ⟨_, rfl, ?_⟩) | ((with_reducible refine gate_callee (f := 17) rfl ?_); refine goesL_ (some 55) rfl rfl Try.func17 (by kernel_rfl) rfl #[.slice A0 l0.length c0] rfl z1_ ?_; (with_reducible refine (laws_toMsgS.calls kj13 _ _ l0 t238 _ ?side1 ?side2 A37.out).mono ?_); (case side1 => exact z104_); (case side2 => exact HC0.out); rintro e w44 ⟨v239, rfl, ho0, hb⟩; refine ⟨_, rfl, ?_⟩; have n0_ := q_ (Kd.R_elder' z5_ (Kd.R_base ho0) hb); have n1_ := q_ (Kd.R_elder' z19_ (Kd.R_base ho0) hb); have n2_ := q_ (Kd.R_lower (Kd.R_new' (Kd.R_new' ho0 (Kd.R_lt z5_)) (Kd.R_lt z19_)) (below_size z0_)); have n3_ := q_ (below_step z0_ hb); clear HO_4; clear HO_6; clear HB; have HO_4 := n0_; have HO_6 := n1_; have HO240 := n2_; have HB := n3_; clear n0_ n1_ n2_ n3_; (try clear hb); (try clear hb2); (try clear hk); (try clear hi); (try clear ho0); obtain ⟨Ao45, co45, eo45⟩ := Kd.R_slice HO240.out; subst eo45) | ((with_reducible refine gate_callee (f := 18) rfl ?_); refine goesL_ (some 56) rfl rfl Try.func18 (by kernel_rfl) rfl #[.slice Ao45 t238.length co45] rfl z1_ ?_; (with_reducible refine (impl_Shrink.calls kj13 _ _ t238 t241 _ ?side1 ?side2 A38.out).mono ?_); (case side1 => exact z101_); (case side2 => exact z117_); rintro e w46 ⟨v242, rfl, ho0, hb⟩; refine ⟨_, rfl, ?_⟩; have n0_ := q_ (Kd.R_elder' z5_ (Kd.R_base ho0) hb); have n1_ := q_ (Kd.R_elder' z19_ (Kd.R_base ho0) hb); have n2_ := q_ (Kd.R_elder' z32_ (Kd.R_base ho0) hb); have n3_ := q_ (Kd.R_lower (Kd.R_new' (Kd.R_new' (Kd.R_new' ho0 (Kd.R_lt z5_)) (Kd.R_lt z19_)) (Kd.R_lt z32_)) (below_size z0_)); have n4_ := q_ (below_step z0_ hb); clear HO_4; clear HO_6; clear HO240; clear HB; have HO_4 := n0_; have HO_6 := n1_; have HO240 := n2_; have HO243 := n3_; have HB := n4_; clear n0_ n1_ n2_ n3_ n4_; (try clear hb); (try clear hb2); (try clear hk); (try clear hi); (try clear ho0); obtain ⟨Ao47, co47, eo47⟩ := Kd.R_slice HO243.out; subst eo47) | ((with_reducible refine gate_callee (f := 19) rfl ?_); refine goesL_ (some 59) rfl rfl Try.func19 (by kernel_rfl) rfl #[.slice Ao47 t241.length co47, .slice Ao22 t218.length co22] rfl z1_ ?_; (with_reducible refine (laws_eqMsgS.calls kj13 _ _ t241 _ _ t218 true _ ?side1 ?side2 ?side3 ?side4 A39.out).mono ?_); (case side1 => exact z102_); (case side2 => exact z118_); (case side3 => exact z91_); (case side4 => exact z112_); rintro e w48 ⟨rfl, hb⟩; refine ⟨_, rfl, ?_⟩; have n0_ := q_ (Kd.R_below z5_ hb); have n1_ := q_ (Kd.R_below z19_ hb); have n2_ := q_ (Kd.R_below z32_ hb); have n3_ := q_ (Kd.R_below z51_ hb); have n4_ := q_ (below_step z0_ hb); clear HO_4; clear HO_6; clear HO240; clear HO243; clear HB; have HO_4 := n0_; have HO_6 := n1_; have HO240 := n2_; have HO243 := n3_; have HB := n4_; clear n0_ n1_ n2_ n3_ n4_; (try clear hb); (try clear hb2); (try clear hk); (try clear hi)) | ((with_reducible refine gate_callee (f := 21) rfl ?_); refine goesL_ (some 63) rfl rfl Try.func21 (by kernel_rfl) rfl #[.slice Ao21 t236.length co21, .int .i64 1] rfl z20_ ?_; (with_reducible refine (laws_heldMsgS.calls kj13 _ _ t236 1 t245 _ ?side1 ?side2 A41.out).mono ?_); (case side1 => exact z89_); (case side2 => exact z95_); rintro e w' ⟨rfl, ⟨nd, rfl⟩⟩; refine ⟨_, rfl, ?_⟩))
           go_ret
           exact ⟨z3_, z0_⟩
          ·rw [if_neg c42] at H
           have c42b0 : decide (t245 < 0) = false := decide_eq_false c42
           clear c42
           by_cases c49 : t245 = t235
           ·rw [if_pos c49] at H
            have c49b0 : (t245 == t235) = true := beq_iff_eq.mpr c49
            have c49b1 : (t245 != t235) = false := bne_eq_false_iff_eq.mpr c49
            clear c49
            obtain rfl := Option.some.inj H
            go_wp2_with (first | ((with_reducible refine gate_callee (f := 20) rfl ?_); refine goesL_ (some 45) rfl rfl Try.func20 (by kernel_rfl) rfl #[.slice Ao21 t224.length co21, .int .i64 1] rfl z1_ ?_; (with_reducible refine (laws_markMsgS.calls kj13 (fun k_ => some k_ = (.slice Ao21 t224.length co21 : Value).ownBlock) (.slice Ao21 t224.length co21) t224 1 t235 t236 w _ ?side1 ?side2 A32.out).mono ?_); (case side1 => exact z93_); (case side2 => exact z113_); rintro e w50 ⟨rfl, hy0, hb, hkp⟩; refine ⟨_, rfl, ?_⟩; have n0_ := q_ (Kd.R_mono (ok' := fun k_ => some k_ ≠ (.slice Ao21 t224.length co21 : Value).ownBlock) (Kd.R_keptB (HO_4.out) hkp (fun k_ hk_ hs_ => (hk_) hs_)) (fun k_ hk_ => hk_.1)); have n1_ := q_ (Kd.R_reok rfl hy0 (fun k_ e_ => HO_6.out.1 k_ e_)); have n2_ := q_ (hb); clear HO_4; clear HO_6; clear HB; have HO_4 := n0_; have HO_6 := n1_; have HB := n2_; clear n0_ n1_ n2_; (try clear hb); (try clear hkp); (try clear hy0)) | ((with_reducible refine gate_callee (f := 21) rfl ?_); refine goesL_ (some 48) rfl rfl Try.func21 (by kernel_rfl) rfl #[.slice Ao21 t236.length co21, .int .i64 1] rfl z20_ ?_; (with_reducible refine (laws_heldMsgS.calls kj13 _ _ t236 1 t237 _ ?side1 ?side2 A33.out).mono ?_); (case side1 => exact z89_); (case side2 => exact z95_); rintro e w' ⟨rfl, ⟨nd, rfl⟩⟩; refine ⟨_, rfl, ?_⟩) | ((with_reducible refine gate_callee (f := 17) rfl ?_); refine goesL_ (some 55) rfl rfl Try.func17 (by kernel_rfl) rfl #[.slice A0 l0.length c0] rfl z1_ ?_; (with_reducible refine (laws_toMsgS.calls kj13 _ _ l0 t238 _ ?side1 ?side2 A37.out).mono ?_); (case side1 => exact z104_); (case side2 => exact HC0.out); rintro e w51 ⟨v239, rfl, ho0, hb⟩; refine ⟨_, rfl, ?_⟩; have n0_ := q_ (Kd.R_elder' z5_ (Kd.R_base ho0) hb); have n1_ := q_ (Kd.R_elder' z19_ (Kd.R_base ho0) hb); have n2_ := q_ (Kd.R_lower (Kd.R_new' (Kd.R_new' ho0 (Kd.R_lt z5_)) (Kd.R_lt z19_)) (below_size z0_)); have n3_ := q_ (below_step z0_ hb); clear HO_4; clear HO_6; clear HB; have HO_4 := n0_; have HO_6 := n1_; have HO240 := n2_; have HB := n3_; clear n0_ n1_ n2_ n3_; (try clear hb); (try clear hb2); (try clear hk); (try clear hi); (try clear ho0); obtain ⟨Ao52, co52, eo52⟩ := Kd.R_slice HO240.out; subst eo52) | ((with_reducible refine gate_callee (f := 18) rfl ?_); refine goesL_ (some 56) rfl rfl Try.func18 (by kernel_rfl) rfl #[.slice Ao52 t238.length co52] rfl z1_ ?_; (with_reducible refine (impl_Shrink.calls kj13 _ _ t238 t241 _ ?side1 ?side2 A38.out).mono ?_); (case side1 => exact z101_); (case side2 => exact z117_); rintro e w53 ⟨v242, rfl, ho0, hb⟩; refine ⟨_, rfl, ?_⟩; have n0_ := q_ (Kd.R_elder' z5_ (Kd.R_base ho0) hb); have n1_ := q_ (Kd.R_elder' z19_ (Kd.R_base ho0) hb); have n2_ := q_ (Kd.R_elder' z32_ (Kd.R_base ho0) hb); have n3_ := q_ (Kd.R_lower (Kd.R_new' (Kd.R_new' (Kd.R_new' ho0 (Kd.R_lt z5_)) (Kd.R_lt z19_)) (Kd.R_lt z32_)) (below_size z0_)); have n4_ := q_ (below_step z0_ hb); clear HO_4; clear HO_6; clear HO240; clear HB; have HO_4 := n0_; have HO_6 := n1_; have HO240 := n2_; have HO243 := n3_; have HB := n4_; clear n0_ n1_ n2_ n3_ n4_; (try clear hb); (try clear hb2); (try clear hk); (try clear hi); (try clear ho0); obtain ⟨Ao54, co54, eo54⟩ := Kd.R_slice HO243.out; subst eo54) | ((with_reducible refine gate_callee (f := 19) rfl ?_); refine goesL_ (some 59) rfl rfl Try.func19 (by kernel_rfl) rfl #[.slice Ao54 t241.length co54, .slice Ao22 t218.length co22] rfl z1_ ?_; (with_reducible refine (laws_eqMsgS.calls kj13 _ _ t241 _ _ t218 true _ ?side1 ?side2 ?side3 ?side4 A39.out).mono ?_); (case side1 => exact z102_); (case side2 => exact z118_); (case side3 => exact z91_); (case side4 => exact z112_); rintro e w55 ⟨rfl, hb⟩; refine ⟨_, rfl, ?_⟩; have n0_ := q_ (Kd.R_below z5_ hb); have n1_ := q_ (Kd.R_below z19_ hb); have n2_ := q_ (Kd.R_below z32_ hb); have n3_ := q_ (Kd.R_below z51_ hb); have n4_ := q_ (below_step z0_ hb); clear HO_4; clear HO_6; clear HO240; clear HO243; clear HB; have HO_4 := n0_; have HO_6 := n1_; have HO240 := n2_; have HO243 := n3_; have HB := n4_; clear n0_ n1_ n2_ n3_ n4_; (try clear hb); (try clear hb2); (try clear hk); (try clear hi)) | ((with_reducible refine gate_callee (f := 21) rfl ?_); refine goesL_ (some 63) rfl rfl Try.func21 (by kernel_rfl) rfl #[.slice Ao21 t236.length co21, .int .i64 1] rfl z20_ ?_; (with_reducible refine (laws_heldMsgS.calls kj13 _ _ t236 1 t245 _ ?side1 ?side2 A41.out).mono ?_); (case side1 => exact z89_); (case side2 => exact z95_); rintro e w' ⟨rfl, ⟨nd, rfl⟩⟩; refine ⟨_, rfl, ?_⟩))
            go_ret
            exact ⟨z3_, z0_⟩
           ·rw [if_neg c49] at H
            have c49b0 : (t245 == t235) = false := beq_eq_false_iff_ne.mpr c49
            have c49b1 : (t245 != t235) = true := bne_iff_ne.mpr c49
            obtain rfl := Option.some.inj H
            go_wp2_with (first | ((with_reducible refine gate_callee (f := 20) rfl ?_); refine goesL_ (some 45) rfl rfl Try.func20 (by kernel_rfl) rfl #[.slice Ao21 t224.length co21, .int .i64 1] rfl z1_ ?_; (with_reducible refine (laws_markMsgS.calls kj13 (fun k_ => some k_ = (.slice Ao21 t224.length co21 : Value).ownBlock) (.slice Ao21 t224.length co21) t224 1 t235 t236 w _ ?side1 ?side2 A32.out).mono ?_); (case side1 => exact z93_); (case side2 => exact z113_); rintro e w56 ⟨rfl, hy0, hb, hkp⟩; refine ⟨_, rfl, ?_⟩; have n0_ := q_ (Kd.R_mono (ok' := fun k_ => some k_ ≠ (.slice Ao21 t224.length co21 : Value).ownBlock) (Kd.R_keptB (HO_4.out) hkp (fun k_ hk_ hs_ => (hk_) hs_)) (fun k_ hk_ => hk_.1)); have n1_ := q_ (Kd.R_reok rfl hy0 (fun k_ e_ => HO_6.out.1 k_ e_)); have n2_ := q_ (hb); clear HO_4; clear HO_6; clear HB; have HO_4 := n0_; have HO_6 := n1_; have HB := n2_; clear n0_ n1_ n2_; (try clear hb); (try clear hkp); (try clear hy0)) | ((with_reducible refine gate_callee (f := 21) rfl ?_); refine goesL_ (some 48) rfl rfl Try.func21 (by kernel_rfl) rfl #[.slice Ao21 t236.length co21, .int .i64 1] rfl z20_ ?_; (with_reducible refine (laws_heldMsgS.calls kj13 _ _ t236 1 t237 _ ?side1 ?side2 A33.out).mono ?_); (case side1 => exact z89_); (case side2 => exact z95_); rintro e w' ⟨rfl, ⟨nd, rfl⟩⟩; refine ⟨_, rfl, ?_⟩) | ((with_reducible refine gate_callee (f := 17) rfl ?_); refine goesL_ (some 55) rfl rfl Try.func17 (by kernel_rfl) rfl #[.slice A0 l0.length c0] rfl z1_ ?_; (with_reducible refine (laws_toMsgS.calls kj13 _ _ l0 t238 _ ?side1 ?side2 A37.out).mono ?_); (case side1 => exact z104_); (case side2 => exact HC0.out); rintro e w57 ⟨v239, rfl, ho0, hb⟩; refine ⟨_, rfl, ?_⟩; have n0_ := q_ (Kd.R_elder' z5_ (Kd.R_base ho0) hb); have n1_ := q_ (Kd.R_elder' z19_ (Kd.R_base ho0) hb); have n2_ := q_ (Kd.R_lower (Kd.R_new' (Kd.R_new' ho0 (Kd.R_lt z5_)) (Kd.R_lt z19_)) (below_size z0_)); have n3_ := q_ (below_step z0_ hb); clear HO_4; clear HO_6; clear HB; have HO_4 := n0_; have HO_6 := n1_; have HO240 := n2_; have HB := n3_; clear n0_ n1_ n2_ n3_; (try clear hb); (try clear hb2); (try clear hk); (try clear hi); (try clear ho0); obtain ⟨Ao58, co58, eo58⟩ := Kd.R_slice HO240.out; subst eo58) | ((with_reducible refine gate_callee (f := 18) rfl ?_); refine goesL_ (some 56) rfl rfl Try.func18 (by kernel_rfl) rfl #[.slice Ao58 t238.length co58] rfl z1_ ?_; (with_reducible refine (impl_Shrink.calls kj13 _ _ t238 t241 _ ?side1 ?side2 A38.out).mono ?_); (case side1 => exact z101_); (case side2 => exact z117_); rintro e w59 ⟨v242, rfl, ho0, hb⟩; refine ⟨_, rfl, ?_⟩; have n0_ := q_ (Kd.R_elder' z5_ (Kd.R_base ho0) hb); have n1_ := q_ (Kd.R_elder' z19_ (Kd.R_base ho0) hb); have n2_ := q_ (Kd.R_elder' z32_ (Kd.R_base ho0) hb); have n3_ := q_ (Kd.R_lower (Kd.R_new' (Kd.R_new' (Kd.R_new' ho0 (Kd.R_lt z5_)) (Kd.R_lt z19_)) (Kd.R_lt z32_)) (below_size z0_)); have n4_ := q_ (below_step z0_ hb); clear HO_4; clear HO_6; clear HO240; clear HB; have HO_4 := n0_; have HO_6 := n1_; have HO240 := n2_; have HO243 := n3_; have HB := n4_; clear n0_ n1_ n2_ n3_ n4_; (try clear hb); (try clear hb2); (try clear hk); (try clear hi); (try clear ho0); obtain ⟨Ao60, co60, eo60⟩ := Kd.R_slice HO243.out; subst eo60) | ((with_reducible refine gate_callee (f := 19) rfl ?_); refine goesL_ (some 59) rfl rfl Try.func19 (by kernel_rfl) rfl #[.slice Ao60 t241.length co60, .slice Ao22 t218.length co22] rfl z1_ ?_; (with_reducible refine (laws_eqMsgS.calls kj13 _ _ t241 _ _ t218 true _ ?side1 ?side2 ?side3 ?side4 A39.out).mono ?_); (case side1 => exact z102_); (case side2 => exact z118_); (case side3 => exact z91_); (case side4 => exact z112_); rintro e w61 ⟨rfl, hb⟩; refine ⟨_, rfl, ?_⟩; have n0_ := q_ (Kd.R_below z5_ hb); have n1_ := q_ (Kd.R_below z19_ hb); have n2_ := q_ (Kd.R_below z32_ hb); have n3_ := q_ (Kd.R_below z51_ hb); have n4_ := q_ (below_step z0_ hb); clear HO_4; clear HO_6; clear HO240; clear HO243; clear HB; have HO_4 := n0_; have HO_6 := n1_; have HO240 := n2_; have HO243 := n3_; have HB := n4_; clear n0_ n1_ n2_ n3_ n4_; (try clear hb); (try clear hb2); (try clear hk); (try clear hi)) | ((with_reducible refine gate_callee (f := 21) rfl ?_); refine goesL_ (some 63) rfl rfl Try.func21 (by kernel_rfl) rfl #[.slice Ao21 t236.length co21, .int .i64 1] rfl z20_ ?_; (with_reducible refine (laws_heldMsgS.calls kj13 _ _ t236 1 t245 _ ?side1 ?side2 A41.out).mono ?_); (case side1 => exact z89_); (case side2 => exact z95_); rintro e w' ⟨rfl, ⟨nd, rfl⟩⟩; refine ⟨_, rfl, ?_⟩))
            go_ret
            exact ⟨z3_, z0_⟩
         ·replace c40 := Bool.eq_false_iff.mpr c40
          subst c40
          have H1 : (some false) = some r := by rw [if_neg (show ¬ (false = true) by decide)] at H; exact H
          clear H
          have H := H1
          clear H1
          obtain rfl := Option.some.inj H
          go_wp2_with (first | ((with_reducible refine gate_callee (f := 20) rfl ?_); refine goesL_ (some 45) rfl rfl Try.func20 (by kernel_rfl) rfl #[.slice Ao21 t224.length co21, .int .i64 1] rfl z1_ ?_; (with_reducible refine (laws_markMsgS.calls kj13 (fun k_ => some k_ = (.slice Ao21 t224.length co21 : Value).ownBlock) (.slice Ao21 t224.length co21) t224 1 t235 t236 w _ ?side1 ?side2 A32.out).mono ?_); (case side1 => exact z93_); (case side2 => exact z113_); rintro e w62 ⟨rfl, hy0, hb, hkp⟩; refine ⟨_, rfl, ?_⟩; have n0_ := q_ (Kd.R_mono (ok' := fun k_ => some k_ ≠ (.slice Ao21 t224.length co21 : Value).ownBlock) (Kd.R_keptB (HO_4.out) hkp (fun k_ hk_ hs_ => (hk_) hs_)) (fun k_ hk_ => hk_.1)); have n1_ := q_ (Kd.R_reok rfl hy0 (fun k_ e_ => HO_6.out.1 k_ e_)); have n2_ := q_ (hb); clear HO_4; clear HO_6; clear HB; have HO_4 := n0_; have HO_6 := n1_; have HB := n2_; clear n0_ n1_ n2_; (try clear hb); (try clear hkp); (try clear hy0)) | ((with_reducible refine gate_callee (f := 21) rfl ?_); refine goesL_ (some 48) rfl rfl Try.func21 (by kernel_rfl) rfl #[.slice Ao21 t236.length co21, .int .i64 1] rfl z20_ ?_; (with_reducible refine (laws_heldMsgS.calls kj13 _ _ t236 1 t237 _ ?side1 ?side2 A33.out).mono ?_); (case side1 => exact z89_); (case side2 => exact z95_); rintro e w' ⟨rfl, ⟨nd, rfl⟩⟩; refine ⟨_, rfl, ?_⟩) | ((with_reducible refine gate_callee (f := 17) rfl ?_); refine goesL_ (some 55) rfl rfl Try.func17 (by kernel_rfl) rfl #[.slice A0 l0.length c0] rfl z1_ ?_; (with_reducible refine (laws_toMsgS.calls kj13 _ _ l0 t238 _ ?side1 ?side2 A37.out).mono ?_); (case side1 => exact z104_); (case side2 => exact HC0.out); rintro e w63 ⟨v239, rfl, ho0, hb⟩; refine ⟨_, rfl, ?_⟩; have n0_ := q_ (Kd.R_elder' z5_ (Kd.R_base ho0) hb); have n1_ := q_ (Kd.R_elder' z19_ (Kd.R_base ho0) hb); have n2_ := q_ (Kd.R_lower (Kd.R_new' (Kd.R_new' ho0 (Kd.R_lt z5_)) (Kd.R_lt z19_)) (below_size z0_)); have n3_ := q_ (below_step z0_ hb); clear HO_4; clear HO_6; clear HB; have HO_4 := n0_; have HO_6 := n1_; have HO240 := n2_; have HB := n3_; clear n0_ n1_ n2_ n3_; (try clear hb); (try clear hb2); (try clear hk); (try clear hi); (try clear ho0); obtain ⟨Ao64, co64, eo64⟩ := Kd.R_slice HO240.out; subst eo64) | ((with_reducible refine gate_callee (f := 18) rfl ?_); refine goesL_ (some 56) rfl rfl Try.func18 (by kernel_rfl) rfl #[.slice Ao64 t238.length co64] rfl z1_ ?_; (with_reducible refine (impl_Shrink.calls kj13 _ _ t238 t241 _ ?side1 ?side2 A38.out).mono ?_); (case side1 => exact z101_); (case side2 => exact z117_); rintro e w65 ⟨v242, rfl, ho0, hb⟩; refine ⟨_, rfl, ?_⟩; have n0_ := q_ (Kd.R_elder' z5_ (Kd.R_base ho0) hb); have n1_ := q_ (Kd.R_elder' z19_ (Kd.R_base ho0) hb); have n2_ := q_ (Kd.R_elder' z32_ (Kd.R_base ho0) hb); have n3_ := q_ (Kd.R_lower (Kd.R_new' (Kd.R_new' (Kd.R_new' ho0 (Kd.R_lt z5_)) (Kd.R_lt z19_)) (Kd.R_lt z32_)) (below_size z0_)); have n4_ := q_ (below_step z0_ hb); clear HO_4; clear HO_6; clear HO240; clear HB; have HO_4 := n0_; have HO_6 := n1_; have HO240 := n2_; have HO243 := n3_; have HB := n4_; clear n0_ n1_ n2_ n3_ n4_; (try clear hb); (try clear hb2); (try clear hk); (try clear hi); (try clear ho0); obtain ⟨Ao66, co66, eo66⟩ := Kd.R_slice HO243.out; subst eo66) | ((with_reducible refine gate_callee (f := 19) rfl ?_); refine goesL_ (some 59) rfl rfl Try.func19 (by kernel_rfl) rfl #[.slice Ao66 t241.length co66, .slice Ao22 t218.length co22] rfl z1_ ?_; (with_reducible refine (laws_eqMsgS.calls kj13 _ _ t241 _ _ t218 false _ ?side1 ?side2 ?side3 ?side4 A39.out).mono ?_); (case side1 => exact z102_); (case side2 => exact z118_); (case side3 => exact z91_); (case side4 => exact z112_); rintro e w67 ⟨rfl, hb⟩; refine ⟨_, rfl, ?_⟩; have n0_ := q_ (Kd.R_below z5_ hb); have n1_ := q_ (Kd.R_below z19_ hb); have n2_ := q_ (Kd.R_below z32_ hb); have n3_ := q_ (Kd.R_below z51_ hb); have n4_ := q_ (below_step z0_ hb); clear HO_4; clear HO_6; clear HO240; clear HO243; clear HB; have HO_4 := n0_; have HO_6 := n1_; have HO240 := n2_; have HO243 := n3_; have HB := n4_; clear n0_ n1_ n2_ n3_ n4_; (try clear hb); (try clear hb2); (try clear hk); (try clear hi)))
          go_ret
          exact ⟨z3_, z0_⟩
        ·rw [if_neg c36] at H
         have c36b0 : (t237 == t235) = false := beq_eq_false_iff_ne.mpr c36
         have c36b1 : (t237 != t235) = true := bne_iff_ne.mpr c36
         obtain rfl := Option.some.inj H
         go_wp2_with (first | ((with_reducible refine gate_callee (f := 20) rfl ?_); refine goesL_ (some 45) rfl rfl Try.func20 (by kernel_rfl) rfl #[.slice Ao21 t224.length co21, .int .i64 1] rfl z1_ ?_; (with_reducible refine (laws_markMsgS.calls kj13 (fun k_ => some k_ = (.slice Ao21 t224.length co21 : Value).ownBlock) (.slice Ao21 t224.length co21) t224 1 t235 t236 w _ ?side1 ?side2 A32.out).mono ?_); (case side1 => exact z93_); (case side2 => exact z113_); rintro e w68 ⟨rfl, hy0, hb, hkp⟩; refine ⟨_, rfl, ?_⟩; have n0_ := q_ (Kd.R_mono (ok' := fun k_ => some k_ ≠ (.slice Ao21 t224.length co21 : Value).ownBlock) (Kd.R_keptB (HO_4.out) hkp (fun k_ hk_ hs_ => (hk_) hs_)) (fun k_ hk_ => hk_.1)); have n1_ := q_ (Kd.R_reok rfl hy0 (fun k_ e_ => HO_6.out.1 k_ e_)); have n2_ := q_ (hb); clear HO_4; clear HO_6; clear HB; have HO_4 := n0_; have HO_6 := n1_; have HB := n2_; clear n0_ n1_ n2_; (try clear hb); (try clear hkp); (try clear hy0)) | ((with_reducible refine gate_callee (f := 21) rfl ?_); refine goesL_ (some 48) rfl rfl Try.func21 (by kernel_rfl) rfl #[.slice Ao21 t236.length co21, .int .i64 1] rfl z20_ ?_; (with_reducible refine (laws_heldMsgS.calls kj13 _ _ t236 1 t237 _ ?side1 ?side2 A33.out).mono ?_); (case side1 => exact z89_); (case side2 => exact z95_); rintro e w' ⟨rfl, ⟨nd, rfl⟩⟩; refine ⟨_, rfl, ?_⟩))
         go_ret
         exact ⟨z3_, z0_⟩
   ·replace c12 := Bool.eq_false_iff.mpr c12
    subst c12
    have H1 : (some false) = some r := by rw [if_neg (show ¬ (false = true) by decide)] at H; exact H
    clear H
    have H := H1
    clear H1
    obtain rfl := Option.some.inj H
    go_enter Try.func3, Try.ntmps3
    go_wp2_with (first | ((with_reducible refine gate_callee (f := 15) rfl ?_); refine goesL_ (some 13) rfl rfl Try.func15 (by kernel_rfl) rfl #[.slice A0 l0.length c0, .int .i64 1048576] rfl z1_ ?_; (with_reducible refine (laws_szMsgS.calls _ _ l0 1048576 t214 _ ?side1 ?side2 A2.out).mono ?_); (case side1 => exact z90_); (case side2 => exact HC0.out); rintro e w' ⟨rfl, ⟨nd, rfl⟩⟩; refine ⟨_, rfl, ?_⟩) | ((with_reducible refine gate_callee (f := 17) rfl ?_); refine goesL_ (some 17) rfl rfl Try.func17 (by kernel_rfl) rfl #[.slice A0 l0.length c0] rfl z1_ ?_; (with_reducible refine (laws_toMsgS.calls k _ _ l0 t215 _ ?side1 ?side2 A4.out).mono ?_); (case side1 => exact z90_); (case side2 => exact HC0.out); rintro e w69 ⟨v216, rfl, ho0, hb⟩; refine ⟨_, rfl, ?_⟩; have n0_ := q_ (Kd.R_lower ho0 (below_size z0_)); have n1_ := q_ (below_step z0_ hb); clear HB; have HO217 := n0_; have HB := n1_; clear n0_ n1_; (try clear hb); (try clear hb2); (try clear hk); (try clear hi); (try clear ho0); obtain ⟨Ao70, co70, eo70⟩ := Kd.R_slice HO217.out; subst eo70) | ((with_reducible refine gate_callee (f := 16) rfl ?_); refine goesL_ (some 18) rfl rfl Try.func16 (by kernel_rfl) rfl #[.slice Ao70 t215.length co70] rfl z1_ ?_; (with_reducible refine (spec_Shrink.calls k _ _ t215 t218 _ ?side1 ?side2 A5.out).mono ?_); (case side1 => exact z107_); (case side2 => exact (Kd.R_reads' HO217.out).2.1); rintro e w71 ⟨v219, rfl, ho0, hb⟩; refine ⟨_, rfl, ?_⟩; have n0_ := q_ (Kd.R_elder' z11_ (Kd.R_base ho0) hb); have n1_ := q_ (Kd.R_lower (Kd.R_new' ho0 (Kd.R_lt z11_)) (below_size z0_)); have n2_ := q_ (below_step z0_ hb); clear HO217; clear HB; have HO217 := n0_; have HO220 := n1_; have HB := n2_; clear n0_ n1_ n2_; (try clear hb); (try clear hb2); (try clear hk); (try clear hi); (try clear ho0)) | ((with_reducible refine gate_callee (f := 17) rfl ?_); refine goesL_ (some 20) rfl rfl Try.func17 (by kernel_rfl) rfl #[.slice A0 l0.length c0] rfl z1_ ?_; (with_reducible refine (laws_toMsgS.calls k _ _ l0 t221 _ ?side1 ?side2 A6.out).mono ?_); (case side1 => exact z92_); (case side2 => exact HC0.out); rintro e w72 ⟨v222, rfl, ho0, hb⟩; refine ⟨_, rfl, ?_⟩; have n0_ := q_ (Kd.R_elder' z11_ (Kd.R_base ho0) hb); have n1_ := q_ (Kd.R_elder' z16_ (Kd.R_base ho0) hb); have n2_ := q_ (Kd.R_lower (Kd.R_new' (Kd.R_new' ho0 (Kd.R_lt z11_)) (Kd.R_lt z16_)) (below_size z0_)); have n3_ := q_ (below_step z0_ hb); clear HO217; clear HO220; clear HB; have HO217 := n0_; have HO220 := n1_; have HO223 := n2_; have HB := n3_; clear n0_ n1_ n2_ n3_; (try clear hb); (try clear hb2); (try clear hk); (try clear hi); (try clear ho0); obtain ⟨Ao73, co73, eo73⟩ := Kd.R_slice HO223.out; subst eo73) | ((with_reducible refine gate_callee (f := 18) rfl ?_); refine goesL_ (some 22) rfl rfl Try.func18 (by kernel_rfl) rfl #[.slice Ao73 t221.length co73] rfl z1_ ?_; (with_reducible refine (impl_Shrink.calls k _ _ t221 t224 _ ?side1 ?side2 A7.out).mono ?_); (case side1 => exact z96_); (case side2 => exact z114_); rintro e w74 ⟨v225, rfl, ho0, hb⟩; refine ⟨_, rfl, ?_⟩; have n0_ := q_ (Kd.R_elder' z11_ (Kd.R_base ho0) hb); have n1_ := q_ (Kd.R_elder' z16_ (Kd.R_base ho0) hb); have n2_ := q_ (Kd.R_elder' z25_ (Kd.R_base ho0) hb); have n3_ := q_ (Kd.R_lower (Kd.R_new' (Kd.R_new' (Kd.R_new' ho0 (Kd.R_lt z11_)) (Kd.R_lt z16_)) (Kd.R_lt z25_)) (below_size z0_)); have n4_ := q_ (below_step z0_ hb); clear HO217; clear HO220; clear HO223; clear HB; have HO217 := n0_; have HO220 := n1_; have HO223 := n2_; have HO226 := n3_; have HB := n4_; clear n0_ n1_ n2_ n3_ n4_; (try clear hb); (try clear hb2); (try clear hk); (try clear hi); (try clear ho0); obtain ⟨Ao75, co75, eo75⟩ := Kd.R_slice HO226.out; subst eo75; obtain ⟨Ao76, co76, eo76⟩ := Kd.R_slice HO220.out; subst eo76) | ((with_reducible refine gate_callee (f := 19) rfl ?_); refine goesL_ (some 25) rfl rfl Try.func19 (by kernel_rfl) rfl #[.slice Ao75 t224.length co75, .slice Ao76 t218.length co76] rfl z1_ ?_; (with_reducible refine (laws_eqMsgS.calls k _ _ t224 _ _ t218 true _ ?side1 ?side2 ?side3 ?side4 A8.out).mono ?_); (case side1 => exact z99_); (case side2 => exact z115_); (case side3 => exact z100_); (case side4 => exact z116_); rintro e w77 ⟨rfl, hb⟩; refine ⟨_, rfl, ?_⟩; have n0_ := q_ (Kd.R_below z11_ hb); have n1_ := q_ (Kd.R_below z16_ hb); have n2_ := q_ (Kd.R_below z25_ hb); have n3_ := q_ (Kd.R_below z33_ hb); have n4_ := q_ (below_step z0_ hb); clear HO217; clear HO220; clear HO223; clear HO226; clear HB; have HO217 := n0_; have HO220 := n1_; have HO223 := n2_; have HO226 := n3_; have HB := n4_; clear n0_ n1_ n2_ n3_ n4_; (try clear hb); (try clear hb2); (try clear hk); (try clear hi)) | ((with_reducible refine gate_callee (f := 17) rfl ?_); refine goesL_ (some 29) rfl rfl Try.func17 (by kernel_rfl) rfl #[.slice A0 l0.length c0] rfl z1_ ?_; (with_reducible refine (laws_toMsgS.calls k _ _ l0 t228 _ ?side1 ?side2 A10.out).mono ?_); (case side1 => exact z92_); (case side2 => exact HC0.out); rintro e w78 ⟨v229, rfl, ho0, hb⟩; refine ⟨_, rfl, ?_⟩; have n0_ := q_ (Kd.R_elder' z11_ (Kd.R_base ho0) hb); have n1_ := q_ (Kd.R_elder' z16_ (Kd.R_base ho0) hb); have n2_ := q_ (Kd.R_elder' z25_ (Kd.R_base ho0) hb); have n3_ := q_ (Kd.R_elder' z33_ (Kd.R_base ho0) hb); have n4_ := q_ (Kd.R_lower (Kd.R_new' (Kd.R_new' (Kd.R_new' (Kd.R_new' ho0 (Kd.R_lt z11_)) (Kd.R_lt z16_)) (Kd.R_lt z25_)) (Kd.R_lt z33_)) (below_size z0_)); have n5_ := q_ (below_step z0_ hb); clear HO217; clear HO220; clear HO223; clear HO226; clear HB; have HO217 := n0_; have HO220 := n1_; have HO223 := n2_; have HO226 := n3_; have HO230 := n4_; have HB := n5_; clear n0_ n1_ n2_ n3_ n4_ n5_; (try clear hb); (try clear hb2); (try clear hk); (try clear hi); (try clear ho0); obtain ⟨Ao79, co79, eo79⟩ := Kd.R_slice HO230.out; subst eo79) | ((with_reducible refine gate_callee (f := 19) rfl ?_); refine goesL_ (some 30) rfl rfl Try.func19 (by kernel_rfl) rfl #[.slice Ao73 t221.length co73, .slice Ao79 t228.length co79] rfl z1_ ?_; (with_reducible refine (laws_eqMsgS.calls k _ _ t221 _ _ t228 false _ ?side1 ?side2 ?side3 ?side4 A11.out).mono ?_); (case side1 => exact z96_); (case side2 => exact z114_); (case side3 => exact z108_); (case side4 => exact (Kd.R_reads' HO230.out).2.1); rintro e w80 ⟨rfl, hb⟩; refine ⟨_, rfl, ?_⟩; have n0_ := q_ (Kd.R_below z11_ hb); have n1_ := q_ (Kd.R_below z16_ hb); have n2_ := q_ (Kd.R_below z25_ hb); have n3_ := q_ (Kd.R_below z33_ hb); have n4_ := q_ (Kd.R_below z56_ hb); have n5_ := q_ (below_step z0_ hb); clear HO217; clear HO220; clear HO223; clear HO226; clear HO230; clear HB; have HO217 := n0_; have HO220 := n1_; have HO223 := n2_; have HO226 := n3_; have HO230 := n4_; have HB := n5_; clear n0_ n1_ n2_ n3_ n4_ n5_; (try clear hb); (try clear hb2); (try clear hk); (try clear hi)))
    go_ret
    exact ⟨z3_, z0_⟩
  ·replace c9 := Bool.eq_false_iff.mpr c9
   subst c9
   have H1 : (some false) = some r := by rw [if_neg (show ¬ (false = true) by decide)] at H; exact H
   clear H
   have H := H1
   clear H1
   obtain rfl := Option.some.inj H
   go_enter Try.func3, Try.ntmps3
   go_wp2_with (first | ((with_reducible refine gate_callee (f := 15) rfl ?_); refine goesL_ (some 13) rfl rfl Try.func15 (by kernel_rfl) rfl #[.slice A0 l0.length c0, .int .i64 1048576] rfl z1_ ?_; (with_reducible refine (laws_szMsgS.calls _ _ l0 1048576 t214 _ ?side1 ?side2 A2.out).mono ?_); (case side1 => exact z90_); (case side2 => exact HC0.out); rintro e w' ⟨rfl, ⟨nd, rfl⟩⟩; refine ⟨_, rfl, ?_⟩) | ((with_reducible refine gate_callee (f := 17) rfl ?_); refine goesL_ (some 17) rfl rfl Try.func17 (by kernel_rfl) rfl #[.slice A0 l0.length c0] rfl z1_ ?_; (with_reducible refine (laws_toMsgS.calls k _ _ l0 t215 _ ?side1 ?side2 A4.out).mono ?_); (case side1 => exact z90_); (case side2 => exact HC0.out); rintro e w81 ⟨v216, rfl, ho0, hb⟩; refine ⟨_, rfl, ?_⟩; have n0_ := q_ (Kd.R_lower ho0 (below_size z0_)); have n1_ := q_ (below_step z0_ hb); clear HB; have HO217 := n0_; have HB := n1_; clear n0_ n1_; (try clear hb); (try clear hb2); (try clear hk); (try clear hi); (try clear ho0); obtain ⟨Ao82, co82, eo82⟩ := Kd.R_slice HO217.out; subst eo82) | ((with_reducible refine gate_callee (f := 16) rfl ?_); refine goesL_ (some 18) rfl rfl Try.func16 (by kernel_rfl) rfl #[.slice Ao82 t215.length co82] rfl z1_ ?_; (with_reducible refine (spec_Shrink.calls k _ _ t215 t218 _ ?side1 ?side2 A5.out).mono ?_); (case side1 => exact z107_); (case side2 => exact (Kd.R_reads' HO217.out).2.1); rintro e w83 ⟨v219, rfl, ho0, hb⟩; refine ⟨_, rfl, ?_⟩; have n0_ := q_ (Kd.R_elder' z11_ (Kd.R_base ho0) hb); have n1_ := q_ (Kd.R_lower (Kd.R_new' ho0 (Kd.R_lt z11_)) (below_size z0_)); have n2_ := q_ (below_step z0_ hb); clear HO217; clear HB; have HO217 := n0_; have HO220 := n1_; have HB := n2_; clear n0_ n1_ n2_; (try clear hb); (try clear hb2); (try clear hk); (try clear hi); (try clear ho0)) | ((with_reducible refine gate_callee (f := 17) rfl ?_); refine goesL_ (some 20) rfl rfl Try.func17 (by kernel_rfl) rfl #[.slice A0 l0.length c0] rfl z1_ ?_; (with_reducible refine (laws_toMsgS.calls k _ _ l0 t221 _ ?side1 ?side2 A6.out).mono ?_); (case side1 => exact z92_); (case side2 => exact HC0.out); rintro e w84 ⟨v222, rfl, ho0, hb⟩; refine ⟨_, rfl, ?_⟩; have n0_ := q_ (Kd.R_elder' z11_ (Kd.R_base ho0) hb); have n1_ := q_ (Kd.R_elder' z16_ (Kd.R_base ho0) hb); have n2_ := q_ (Kd.R_lower (Kd.R_new' (Kd.R_new' ho0 (Kd.R_lt z11_)) (Kd.R_lt z16_)) (below_size z0_)); have n3_ := q_ (below_step z0_ hb); clear HO217; clear HO220; clear HB; have HO217 := n0_; have HO220 := n1_; have HO223 := n2_; have HB := n3_; clear n0_ n1_ n2_ n3_; (try clear hb); (try clear hb2); (try clear hk); (try clear hi); (try clear ho0); obtain ⟨Ao85, co85, eo85⟩ := Kd.R_slice HO223.out; subst eo85) | ((with_reducible refine gate_callee (f := 18) rfl ?_); refine goesL_ (some 22) rfl rfl Try.func18 (by kernel_rfl) rfl #[.slice Ao85 t221.length co85] rfl z1_ ?_; (with_reducible refine (impl_Shrink.calls k _ _ t221 t224 _ ?side1 ?side2 A7.out).mono ?_); (case side1 => exact z96_); (case side2 => exact z114_); rintro e w86 ⟨v225, rfl, ho0, hb⟩; refine ⟨_, rfl, ?_⟩; have n0_ := q_ (Kd.R_elder' z11_ (Kd.R_base ho0) hb); have n1_ := q_ (Kd.R_elder' z16_ (Kd.R_base ho0) hb); have n2_ := q_ (Kd.R_elder' z25_ (Kd.R_base ho0) hb); have n3_ := q_ (Kd.R_lower (Kd.R_new' (Kd.R_new' (Kd.R_new' ho0 (Kd.R_lt z11_)) (Kd.R_lt z16_)) (Kd.R_lt z25_)) (below_size z0_)); have n4_ := q_ (below_step z0_ hb); clear HO217; clear HO220; clear HO223; clear HB; have HO217 := n0_; have HO220 := n1_; have HO223 := n2_; have HO226 := n3_; have HB := n4_; clear n0_ n1_ n2_ n3_ n4_; (try clear hb); (try clear hb2); (try clear hk); (try clear hi); (try clear ho0); obtain ⟨Ao87, co87, eo87⟩ := Kd.R_slice HO226.out; subst eo87; obtain ⟨Ao88, co88, eo88⟩ := Kd.R_slice HO220.out; subst eo88) | ((with_reducible refine gate_callee (f := 19) rfl ?_); refine goesL_ (some 25) rfl rfl Try.func19 (by kernel_rfl) rfl #[.slice Ao87 t224.length co87, .slice Ao88 t218.length co88] rfl z1_ ?_; (with_reducible refine (laws_eqMsgS.calls k _ _ t224 _ _ t218 false _ ?side1 ?side2 ?side3 ?side4 A8.out).mono ?_); (case side1 => exact z99_); (case side2 => exact z115_); (case side3 => exact z100_); (case side4 => exact z116_); rintro e w89 ⟨rfl, hb⟩; refine ⟨_, rfl, ?_⟩; have n0_ := q_ (Kd.R_below z11_ hb); have n1_ := q_ (Kd.R_below z16_ hb); have n2_ := q_ (Kd.R_below z25_ hb); have n3_ := q_ (Kd.R_below z33_ hb); have n4_ := q_ (below_step z0_ hb); clear HO217; clear HO220; clear HO223; clear HO226; clear HB; have HO217 := n0_; have HO220 := n1_; have HO223 := n2_; have HO226 := n3_; have HB := n4_; clear n0_ n1_ n2_ n3_ n4_; (try clear hb); (try clear hb2); (try clear hk); (try clear hi)))
   go_ret
   exact ⟨z3_, z0_⟩

end Go.Proofs.Ytphlmbhjeoljoaa.PFnExactShrink
