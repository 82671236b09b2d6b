-- Written by a program of this session, which goes by the kit's print. Not trusted: Lean checks it.
import Derived.Test.YtfnndcpaldkkoaaPFnExactTreeDepthx0
import Derived.Test.YtfnndcpaldkkoaaPFnExactTreeDepthx1
import Derived.Test.YtfnndcpaldkkoaaPFnExactTreeDepthx5
import Derived.Test.YtfnndcpaldkkoaaPFnExactTreeDepthx9
import Derived.Test.YtfnndcpaldkkoaaPFnExactTreeDepthx11
namespace Go.Proofs.Ytfnndcpaldkkoaa.PFnExactTreeDepth
open Go.RowKit Go.Proofs.YtfnndcpaldkkoaaW.PrintWords Go.Proofs.YtfnndcpaldkkoaaW.PrintLast Go.Proofs.YtfnndcpaldkkoaaW.PrintMore
attribute [local go_sem] max2_int min2_int max_two min_two max_three min_three max_four min_four   -- for this text's walks alone
set_option linter.unusedVariables false
set_option linter.unusedSimpArgs false

/-! ### laws_FnExactTreeDepth: function 3 -/
def laws_FnExactTreeDepth.f (k : Nat) (a0_0 : Bool) (l0_1 : List (S107)) (l0_2 : List Int) (l0_3 : List (S27)) (l0_4 : List (S109)) : Option (Bool) := (laws_szTree.f k a0_0 l0_1 l0_2 l0_3 l0_4 1048576).bind fun t259 => (if t259 < 0 then (some true) else ((laws_toTree.f k a0_0 l0_1 l0_2 l0_3 l0_4).bind fun bt260 => ((spec_TreeDepth.f k bt260.1 bt260.2.1 bt260.2.2.1 bt260.2.2.2.1 bt260.2.2.2.2).bind fun t273 => ((laws_toTree.f k a0_0 l0_1 l0_2 l0_3 l0_4).bind fun bt274 => ((impl_TreeDepth.f k bt274.1 bt274.2.1 bt274.2.2.1 bt274.2.2.2.1 bt274.2.2.2.2).bind fun t288 => (if t288 = t273 then ((laws_toTree.f k a0_0 l0_1 l0_2 l0_3 l0_4).bind fun bt289 => ((laws_eqTree.f k bt274.1 bt274.2.1 bt274.2.2.1 bt274.2.2.2.1 bt274.2.2.2.2 bt289.1 bt289.2.1 bt289.2.2.1 bt289.2.2.2.1 bt289.2.2.2.2).bind fun t302 => (if t302 = true then (some true) else (some false)))) else (some false)))))))
theorem laws_FnExactTreeDepth.mono : ∀ a0 a1 a2 a3 a4 k, LeO (laws_FnExactTreeDepth.f k a0 a1 a2 a3 a4) (laws_FnExactTreeDepth.f (k + 1) a0 a1 a2 a3 a4) := by
 intro a0 a1 a2 a3 a4 k
 unfold laws_FnExactTreeDepth.f
 repeat' first
   | (with_reducible exact impl_TreeDepth.mono _ _ _ _ _ _)
   | (with_reducible exact laws_eqTree.mono _ _ _ _ _ _ _ _ _ _ _)
   | (with_reducible exact laws_szTree.mono _ _ _ _ _ _ _)
   | (with_reducible exact laws_toTree.mono _ _ _ _ _ _)
   | (with_reducible exact spec_TreeDepth.mono _ _ _ _ _ _)
   | (with_reducible exact LeO.refl _)
   | (with_reducible exact LeO.none _)
   | (with_reducible refine LeO.ite ?_ ?_)
   | (with_reducible refine LeO.bind ?_ (fun _ => ?_))
   | exact impl_TreeDepth.mono _ _ _ _ _ _
   | exact laws_eqTree.mono _ _ _ _ _ _ _ _ _ _ _
   | exact laws_szTree.mono _ _ _ _ _ _ _
   | exact laws_toTree.mono _ _ _ _ _ _
   | exact spec_TreeDepth.mono _ _ _ _ _ _
   | exact LeO.none _
   | refine LeO.ite ?_ ?_
   | refine LeO.bind ?_ (fun _ => ?_)
set_option maxHeartbeats 8000000 in
set_option maxRecDepth 100000 in
theorem laws_FnExactTreeDepth.calls (k : Nat) (a0_0 : Bool) (A0_1 : Option Addr) (c0_1 : Nat) (l0_1 : List (S107)) (A0_2 : Option Addr) (c0_2 : Nat) (l0_2 : List Int) (A0_3 : Option Addr) (c0_3 : Nat) (l0_3 : List (S27)) (A0_4 : Option Addr) (c0_4 : Nat) (l0_4 : List (S109)) (r : Bool) (w : World) (hr0_1 : Kd.C k107 w A0_1 l0_1.length l0_1) (hc0_1 : l0_1.length ≤ c0_1) (hr0_2 : Kd.C (Kd.int .i64) w A0_2 l0_2.length l0_2) (hc0_2 : l0_2.length ≤ c0_2) (hr0_3 : Kd.C k27 w A0_3 l0_3.length l0_3) (hc0_3 : l0_3.length ≤ c0_3) (hr0_4 : Kd.C k109 w A0_4 l0_4.length l0_4) (hc0_4 : l0_4.length ≤ c0_4) (h : laws_FnExactTreeDepth.f k a0_0 l0_1 l0_2 l0_3 l0_4 = some r) :
  Calls Try.prog 3 #[.agg #[.bool a0_0, .slice A0_1 l0_1.length c0_1, .slice A0_2 l0_2.length c0_2, .slice A0_3 l0_3.length c0_3, .slice A0_4 l0_4.length c0_4]] w fun e w' => e = .returned (.bool r) ∧ Below w.heap.size w w' := by
 have hu27 := Try.underlying27
 have hu34 := Try.underlying34
 have HR0_1 := q_ hr0_1
 have HC0_1 := q_ hc0_1
 clear hr0_1 hc0_1
 have HR0_2 := q_ hr0_2
 have HC0_2 := q_ hc0_2
 clear hr0_2 hc0_2
 have HR0_3 := q_ hr0_3
 have HC0_3 := q_ hc0_3
 clear hr0_3 hc0_3
 have HR0_4 := q_ hr0_4
 have HC0_4 := q_ hc0_4
 clear hr0_4 hc0_4
 have HB := q_ (Below.refl w.heap.size w)
 have H : ((laws_szTree.f k a0_0 l0_1 l0_2 l0_3 l0_4 1048576).bind fun t259 => (if t259 < 0 then (some true) else ((laws_toTree.f k a0_0 l0_1 l0_2 l0_3 l0_4).bind fun bt260 => ((spec_TreeDepth.f k bt260.1 bt260.2.1 bt260.2.2.1 bt260.2.2.2.1 bt260.2.2.2.2).bind fun t273 => ((laws_toTree.f k a0_0 l0_1 l0_2 l0_3 l0_4).bind fun bt274 => ((impl_TreeDepth.f k bt274.1 bt274.2.1 bt274.2.2.1 bt274.2.2.2.1 bt274.2.2.2.2).bind fun t288 => (if t288 = t273 then ((laws_toTree.f k a0_0 l0_1 l0_2 l0_3 l0_4).bind fun bt289 => ((laws_eqTree.f k bt274.1 bt274.2.1 bt274.2.2.1 bt274.2.2.2.1 bt274.2.2.2.2 bt289.1 bt289.2.1 bt289.2.2.1 bt289.2.2.2.1 bt289.2.2.2.2).bind fun t302 => (if t302 = true then (some true) else (some false)))) else (some false)))))))) = some r := h
 clear h
 replace H := Option.bind_eq_some_iff.mp H
 obtain ⟨t259, A20, H⟩ := H
 replace H : (if t259 < 0 then (some true) else ((laws_toTree.f k a0_0 l0_1 l0_2 l0_3 l0_4).bind fun bt260 => ((spec_TreeDepth.f k bt260.1 bt260.2.1 bt260.2.2.1 bt260.2.2.2.1 bt260.2.2.2.2).bind fun t273 => ((laws_toTree.f k a0_0 l0_1 l0_2 l0_3 l0_4).bind fun bt274 => ((impl_TreeDepth.f k bt274.1 bt274.2.1 bt274.2.2.1 bt274.2.2.2.1 bt274.2.2.2.2).bind fun t288 => (if t288 = t273 then ((laws_toTree.f k a0_0 l0_1 l0_2 l0_3 l0_4).bind fun bt289 => ((laws_eqTree.f k bt274.1 bt274.2.1 bt274.2.2.1 bt274.2.2.2.1 bt274.2.2.2.2 bt289.1 bt289.2.1 bt289.2.2.1 bt289.2.2.2.1 bt289.2.2.2.2).bind fun t302 => (if t302 = true then (some true) else (some false)))) else (some false))))))) = some r := H
 have A2 := q_ A20
 clear A20
 by_cases c3 : t259 < 0
 ·rw [if_pos c3] at H
  have c3b0 : decide (t259 < 0) = true := decide_eq_true c3
  clear c3
  obtain rfl := Option.some.inj H
  go_enter Try.func3, Try.ntmps3
  go_wp2_with (first | ((with_reducible refine gate_dst (N := 1) rfl ?_); refine box_event ?hg (N := 1) ?hd (cs := #[.bool a0_0, .slice A0_1 l0_1.length c0_1, .slice A0_2 l0_2.length c0_2, .slice A0_3 l0_3.length c0_3, .slice A0_4 l0_4.length c0_4]) (t := 27) ?hr ?_; (case hd => rfl); (case hg => rfl); (case hr => exact z140_); intro gb258 hg w4 hbox hb; have n0_ := q_ (below_step z0_ hb); have n1_ := q_ (hbox); have n2_ := q_ ((z103_ : w.heap.size ≤ gb258)); have n3_ := q_ ((z103_ : w.heap.size ≤ gb258)); clear HB; have HB := n0_; have BK258 := n1_; have GW258 := n2_; have GE258 := n3_; clear n0_ n1_ n2_ n3_; clear hb hbox hg; obtain ⟨hcz5_0, hcz5_1, hcz5_2, hcz5_3, hcz5_4, hfz5_0, hfz5_1, hfz5_2, hfz5_3, hfz5_4⟩ := cs5_ BK258.out) | ((with_reducible refine gate_callee (f := 15) rfl ?_); refine goesL_ (some 9) rfl rfl Try.func15 (by kernel_rfl) rfl #[.agg #[.bool a0_0, .slice A0_1 l0_1.length c0_1, .slice A0_2 l0_2.length c0_2, .slice A0_3 l0_3.length c0_3, .slice A0_4 l0_4.length c0_4], .int .i64 1048576] rfl z1_ ?_; (with_reducible refine (laws_szTree.calls k a0_0 _ _ l0_1 _ _ l0_2 _ _ l0_3 _ _ l0_4 1048576 t259 _ ?side1 ?side2 ?side3 ?side4 ?side5 ?side6 ?side7 ?side8 A2.out).mono ?_); (case side1 => exact z139_); (case side2 => exact z156_); (case side3 => exact z142_); (case side4 => exact z162_); (case side5 => exact z143_); (case side6 => exact z163_); (case side7 => exact z141_); (case side8 => exact z164_); rintro e w6 ⟨rfl, hb⟩; refine ⟨_, rfl, ?_⟩; have n0_ := q_ (below_step z0_ hb); clear HB; have HB := n0_; clear n0_; (try clear hb); (try clear hb2); (try clear hk); (try clear hi)))
  go_ret
  exact ⟨z2_, z0_⟩
 ·rw [if_neg c3] at H
  have c3b0 : decide (t259 < 0) = false := decide_eq_false c3
  clear c3
  replace H := Option.bind_eq_some_iff.mp H
  obtain ⟨⟨t260, t261, t264, t267, t270⟩, A70, H⟩ := H
  replace H : ((spec_TreeDepth.f k t260 t261 t264 t267 t270).bind fun t273 => ((laws_toTree.f k a0_0 l0_1 l0_2 l0_3 l0_4).bind fun bt274 => ((impl_TreeDepth.f k bt274.1 bt274.2.1 bt274.2.2.1 bt274.2.2.2.1 bt274.2.2.2.2).bind fun t288 => (if t288 = t273 then ((laws_toTree.f k a0_0 l0_1 l0_2 l0_3 l0_4).bind fun bt289 => ((laws_eqTree.f k bt274.1 bt274.2.1 bt274.2.2.1 bt274.2.2.2.1 bt274.2.2.2.2 bt289.1 bt289.2.1 bt289.2.2.1 bt289.2.2.2.1 bt289.2.2.2.2).bind fun t302 => (if t302 = true then (some true) else (some false)))) else (some false))))) = some r := H
  have A7 := q_ A70
  clear A70
  replace H := Option.bind_eq_some_iff.mp H
  obtain ⟨t273, A80, H⟩ := H
  replace H : ((laws_toTree.f k a0_0 l0_1 l0_2 l0_3 l0_4).bind fun bt274 => ((impl_TreeDepth.f k bt274.1 bt274.2.1 bt274.2.2.1 bt274.2.2.2.1 bt274.2.2.2.2).bind fun t288 => (if t288 = t273 then ((laws_toTree.f k a0_0 l0_1 l0_2 l0_3 l0_4).bind fun bt289 => ((laws_eqTree.f k bt274.1 bt274.2.1 bt274.2.2.1 bt274.2.2.2.1 bt274.2.2.2.2 bt289.1 bt289.2.1 bt289.2.2.1 bt289.2.2.2.1 bt289.2.2.2.2).bind fun t302 => (if t302 = true then (some true) else (some false)))) else (some false)))) = some r := H
  have A8 := q_ A80
  clear A80
  replace H := Option.bind_eq_some_iff.mp H
  obtain ⟨⟨t274, t275, t278, t281, t284⟩, A90, H⟩ := H
  replace H : ((impl_TreeDepth.f k t274 t275 t278 t281 t284).bind fun t288 => (if t288 = t273 then ((laws_toTree.f k a0_0 l0_1 l0_2 l0_3 l0_4).bind fun bt289 => ((laws_eqTree.f k t274 t275 t278 t281 t284 bt289.1 bt289.2.1 bt289.2.2.1 bt289.2.2.2.1 bt289.2.2.2.2).bind fun t302 => (if t302 = true then (some true) else (some false)))) else (some false))) = some r := H
  have A9 := q_ A90
  clear A90
  replace H := Option.bind_eq_some_iff.mp H
  obtain ⟨t288, A100, H⟩ := H
  replace H : (if t288 = t273 then ((laws_toTree.f k a0_0 l0_1 l0_2 l0_3 l0_4).bind fun bt289 => ((laws_eqTree.f k t274 t275 t278 t281 t284 bt289.1 bt289.2.1 bt289.2.2.1 bt289.2.2.2.1 bt289.2.2.2.2).bind fun t302 => (if t302 = true then (some true) else (some false)))) else (some false)) = some r := H
  have A10 := q_ A100
  clear A100
  by_cases c11 : t288 = t273
  ·rw [if_pos c11] at H
   have c11b0 : (t288 == t273) = true := beq_iff_eq.mpr c11
   have c11b1 : (t288 != t273) = false := bne_eq_false_iff_eq.mpr c11
   clear c11
   replace H := Option.bind_eq_some_iff.mp H
   obtain ⟨⟨t289, t290, t293, t296, t299⟩, A120, H⟩ := H
   replace H : ((laws_eqTree.f k t274 t275 t278 t281 t284 t289 t290 t293 t296 t299).bind fun t302 => (if t302 = true then (some true) else (some false))) = some r := H
   have A12 := q_ A120
   clear A120
   replace H := Option.bind_eq_some_iff.mp H
   obtain ⟨t302, A130, H⟩ := H
   replace H : (if t302 = true then (some true) else (some false)) = some r := H
   have A13 := q_ A130
   clear A130
   by_cases c14 : t302 = true
   ·subst c14
    have H1 : (some true) = some r := z45_
    clear H
    have H := H1
    clear H1
    obtain rfl := Option.some.inj H
    go_enter Try.func3, Try.ntmps3
    try go_wp2_with (first | ((with_reducible refine gate_dst (N := 1) rfl ?_); refine box_event ?hg (N := 1) ?hd (cs := #[.bool a0_0, .slice A0_1 l0_1.length c0_1, .slice A0_2 l0_2.length c0_2, .slice A0_3 l0_3.length c0_3, .slice A0_4 l0_4.length c0_4]) (t := 27) ?hr ?_; (case hd => rfl); (case hg => rfl); (case hr => exact z140_); intro gb258 hg w15 hbox hb; have n0_ := q_ (below_step z0_ hb); have n1_ := q_ (hbox); have n2_ := q_ ((z103_ : w.heap.size ≤ gb258)); have n3_ := q_ ((z103_ : w.heap.size ≤ gb258)); clear HB; have HB := n0_; have BK258 := n1_; have GW258 := n2_; have GE258 := n3_; clear n0_ n1_ n2_ n3_; clear hb hbox hg; obtain ⟨hcz16_0, hcz16_1, hcz16_2, hcz16_3, hcz16_4, hfz16_0, hfz16_1, hfz16_2, hfz16_3, hfz16_4⟩ := cs5_ BK258.out) | ((with_reducible refine gate_callee (f := 15) rfl ?_); refine goesL_ (some 9) rfl rfl Try.func15 (by kernel_rfl) rfl #[.agg #[.bool a0_0, .slice A0_1 l0_1.length c0_1, .slice A0_2 l0_2.length c0_2, .slice A0_3 l0_3.length c0_3, .slice A0_4 l0_4.length c0_4], .int .i64 1048576] rfl z1_ ?_; (with_reducible refine (laws_szTree.calls k a0_0 _ _ l0_1 _ _ l0_2 _ _ l0_3 _ _ l0_4 1048576 t259 _ ?side1 ?side2 ?side3 ?side4 ?side5 ?side6 ?side7 ?side8 A2.out).mono ?_); (case side1 => exact z139_); (case side2 => exact z156_); (case side3 => exact z142_); (case side4 => exact z162_); (case side5 => exact z143_); (case side6 => exact z163_); (case side7 => exact z141_); (case side8 => exact z164_); rintro e w17 ⟨rfl, hb⟩; refine ⟨_, rfl, ?_⟩; have n0_ := q_ (blk_below (g := gb258) (o := .cells #[.bool a0_0, .slice A0_1 l0_1.length c0_1, .slice A0_2 l0_2.length c0_2, .slice A0_3 l0_3.length c0_3, .slice A0_4 l0_4.length c0_4] 27 (0, 0)) z17_ hb); have n1_ := q_ (below_step z5_ hb); clear BK258; clear HB; have BK258 := n0_; have HB := n1_; clear n0_ n1_; (try clear hb); (try clear hb2); (try clear hk); (try clear hi); obtain ⟨hcz18_0, hcz18_1, hcz18_2, hcz18_3, hcz18_4, hfz18_0, hfz18_1, hfz18_2, hfz18_3, hfz18_4⟩ := cs5_ BK258.out) | ((with_reducible refine gate_callee (f := 17) rfl ?_); refine goesL_ (some 13) rfl rfl Try.func17 (by kernel_rfl) rfl #[.agg #[.bool a0_0, .slice A0_1 l0_1.length c0_1, .slice A0_2 l0_2.length c0_2, .slice A0_3 l0_3.length c0_3, .slice A0_4 l0_4.length c0_4]] rfl z1_ ?_; (with_reducible refine (laws_toTree.calls k a0_0 _ _ l0_1 _ _ l0_2 _ _ l0_3 _ _ l0_4 t260 t261 t264 t267 t270 _ ?side1 ?side2 ?side3 ?side4 ?side5 ?side6 ?side7 ?side8 A7.out).mono ?_); (case side1 => exact z139_); (case side2 => exact z156_); (case side3 => exact z142_); (case side4 => exact z162_); (case side5 => exact z143_); (case side6 => exact z163_); (case side7 => exact z141_); (case side8 => exact z164_); rintro e w19 ⟨v262, v265, v268, v271, rfl, ho0, ho1, ho2, ho3, hb⟩; refine ⟨_, rfl, ?_⟩; have n0_ := q_ (Kd.R_lower ho0 (below_size z5_)); have n1_ := q_ (Kd.R_lower ho1 (below_size z5_)); have n2_ := q_ (Kd.R_lower ho2 (below_size z5_)); have n3_ := q_ (Kd.R_lower ho3 (below_size z5_)); have n4_ := q_ (blk_below (g := gb258) (o := .cells #[.bool a0_0, .slice A0_1 l0_1.length c0_1, .slice A0_2 l0_2.length c0_2, .slice A0_3 l0_3.length c0_3, .slice A0_4 l0_4.length c0_4] 27 (0, 0)) z17_ hb); have n5_ := q_ (below_step z5_ hb); clear BK258; clear HB; have HO263 := n0_; have HO266 := n1_; have HO269 := n2_; have HO272 := n3_; have BK258 := n4_; have HB := n5_; clear n0_ n1_ n2_ n3_ n4_ n5_; (try clear hb); (try clear hb2); (try clear hk); (try clear hi); (try clear ho0); (try clear ho1); (try clear ho2); (try clear ho3); obtain ⟨Ao20, co20, eo20⟩ := Kd.R_slice HO263.out; subst eo20; obtain ⟨Ao21, co21, eo21⟩ := Kd.R_slice HO266.out; subst eo21; obtain ⟨Ao22, co22, eo22⟩ := Kd.R_slice HO269.out; subst eo22; obtain ⟨Ao23, co23, eo23⟩ := Kd.R_slice HO272.out; subst eo23) | ((with_reducible refine gate_callee (f := 16) rfl ?_); refine goesL_ (some 14) rfl rfl Try.func16 (by kernel_rfl) rfl #[.agg #[.bool t260, .slice Ao20 t261.length co20, .slice Ao21 t264.length co21, .slice Ao22 t267.length co22, .slice Ao23 t270.length co23]] rfl z1_ ?_; (with_reducible refine (spec_TreeDepth.calls k t260 _ _ t261 _ _ t264 _ _ t267 _ _ t270 t273 _ ?side1 ?side2 ?side3 ?side4 ?side5 ?side6 ?side7 ?side8 A8.out).mono ?_); (case side1 => exact z158_); (case side2 => exact (Kd.R_reads' HO263.out).2.1); (case side3 => exact z159_); (case side4 => exact (Kd.R_reads' HO266.out).2.1); (case side5 => exact z160_); (case side6 => exact (Kd.R_reads' HO269.out).2.1); (case side7 => exact z161_); (case side8 => exact (Kd.R_reads' HO272.out).2.1); rintro e w24 ⟨rfl, hb⟩; refine ⟨_, rfl, ?_⟩; have n0_ := q_ (Kd.R_below z18_ hb); have n1_ := q_ (Kd.R_below z19_ hb); have n2_ := q_ (Kd.R_below z26_ hb); have n3_ := q_ (Kd.R_below z20_ hb); have n4_ := q_ (blk_below (g := gb258) (o := .cells #[.bool a0_0, .slice A0_1 l0_1.length c0_1, .slice A0_2 l0_2.length c0_2, .slice A0_3 l0_3.length c0_3, .slice A0_4 l0_4.length c0_4] 27 (0, 0)) z17_ hb); have n5_ := q_ (below_step z5_ hb); clear HO263; clear HO266; clear HO269; clear HO272; clear BK258; clear HB; have HO263 := n0_; have HO266 := n1_; have HO269 := n2_; have HO272 := n3_; have BK258 := n4_; have HB := n5_; clear n0_ n1_ n2_ n3_ n4_ n5_; (try clear hb); (try clear hb2); (try clear hk); (try clear hi); obtain ⟨hcz25_0, hcz25_1, hcz25_2, hcz25_3, hcz25_4, hfz25_0, hfz25_1, hfz25_2, hfz25_3, hfz25_4⟩ := cs5_ BK258.out) | ((with_reducible refine gate_callee (f := 17) rfl ?_); refine goesL_ (some 16) rfl rfl Try.func17 (by kernel_rfl) rfl #[.agg #[.bool a0_0, .slice A0_1 l0_1.length c0_1, .slice A0_2 l0_2.length c0_2, .slice A0_3 l0_3.length c0_3, .slice A0_4 l0_4.length c0_4]] rfl z1_ ?_; (with_reducible refine (laws_toTree.calls k a0_0 _ _ l0_1 _ _ l0_2 _ _ l0_3 _ _ l0_4 t274 t275 t278 t281 t284 _ ?side1 ?side2 ?side3 ?side4 ?side5 ?side6 ?side7 ?side8 A9.out).mono ?_); (case side1 => exact z139_); (case side2 => exact z156_); (case side3 => exact z142_); (case side4 => exact z162_); (case side5 => exact z143_); (case side6 => exact z163_); (case side7 => exact z141_); (case side8 => exact z164_); rintro e w26 ⟨v276, v279, v282, v285, rfl, ho0, ho1, ho2, ho3, hb⟩; refine ⟨_, rfl, ?_⟩; have n0_ := q_ (Kd.R_elder' z18_ (Kd.R_base ho0) hb); have n1_ := q_ (Kd.R_elder' z19_ (Kd.R_base ho1) hb); have n2_ := q_ (Kd.R_mono (Kd.R_told (Kd.R_told (Kd.R_told (Kd.R_told (Kd.R_old z26_ hb) (Kd.R_base ho0)) (Kd.R_base ho1)) (Kd.R_base ho2)) (Kd.R_base ho3)) (fun _ h_ => h_.1)); have n3_ := q_ (Kd.R_elder' z20_ (Kd.R_base ho3) hb); have n4_ := q_ (Kd.R_lower (Kd.R_new' ho0 (Kd.R_lt z18_)) (below_size z5_)); have n5_ := q_ (Kd.R_lower (Kd.R_new' ho1 (Kd.R_lt z19_)) (below_size z5_)); have n6_ := q_ (Kd.R_lower (Kd.R_new' (Kd.R_new' (Kd.R_new' (Kd.R_new' ho2 (Kd.R_lt z18_)) (Kd.R_lt z19_)) (Kd.R_lt z26_)) (Kd.R_lt z20_)) (below_size z5_)); have n7_ := q_ (Kd.R_lower (Kd.R_new' ho3 (Kd.R_lt z20_)) (below_size z5_)); have n8_ := q_ (blk_below (g := gb258) (o := .cells #[.bool a0_0, .slice A0_1 l0_1.length c0_1, .slice A0_2 l0_2.length c0_2, .slice A0_3 l0_3.length c0_3, .slice A0_4 l0_4.length c0_4] 27 (0, 0)) z17_ hb); have n9_ := q_ (below_step z5_ hb); clear HO263; clear HO266; clear HO269; clear HO272; clear BK258; clear HB; have HO263 := n0_; have HO266 := n1_; have HO269 := n2_; have HO272 := n3_; have HO277 := n4_; have HO280 := n5_; have HO283 := n6_; have HO286 := n7_; have BK258 := n8_; have HB := n9_; clear n0_ n1_ n2_ n3_ n4_ n5_ n6_ n7_ n8_ n9_; (try clear hb); (try clear hb2); (try clear hk); (try clear hi); (try clear ho0); (try clear ho1); (try clear ho2); (try clear ho3)) | ((with_reducible refine gate_dst (N := 5) rfl ?_); refine box_event ?hg (N := 5) ?hd (cs := #[.bool false, .slice none 0 0, .slice none 0 0, .slice none 0 0, .slice none 0 0]) (t := 34) ?hr ?_; (case hd => rfl); (case hg => rfl); (case hr => exact z140_); intro gb287 hg w27 hbox hb; have n0_ := q_ (Kd.R_below z18_ hb); have n1_ := q_ (Kd.R_below z19_ hb); have n2_ := q_ (Kd.R_below (Kd.R_elderB z26_ gb287 (Nat.le_of_eq hg.symm)) hb); have n3_ := q_ (Kd.R_below z20_ hb); have n4_ := q_ (Kd.R_below z47_ hb); have n5_ := q_ (Kd.R_below z48_ hb); have n6_ := q_ (Kd.R_below (Kd.R_elderB z54_ gb287 (Nat.le_of_eq hg.symm)) hb); have n7_ := q_ (Kd.R_below z49_ hb); have n8_ := q_ (blk_below (g := gb258) (o := .cells #[.bool a0_0, .slice A0_1 l0_1.length c0_1, .slice A0_2 l0_2.length c0_2, .slice A0_3 l0_3.length c0_3, .slice A0_4 l0_4.length c0_4] 27 (0, 0)) z17_ hb); have n9_ := q_ (below_step z5_ hb); have n10_ := q_ (hbox); have n11_ := q_ ((z138_ : w.heap.size ≤ gb287)); have n12_ := q_ ((z138_ : w.heap.size ≤ gb287)); have n13_ := q_ ((z118_ : gb258 ≠ gb287)); have n14_ := q_ ((z119_ : gb287 ≠ gb258)); clear HO263; clear HO266; clear HO269; clear HO272; clear HO277; clear HO280; clear HO283; clear HO286; clear BK258; clear HB; have HO263 := n0_; have HO266 := n1_; have HO269 := n2_; have HO272 := n3_; have HO277 := n4_; have HO280 := n5_; have HO283 := n6_; have HO286 := n7_; have BK258 := n8_; have HB := n9_; have BK287 := n10_; have GW287 := n11_; have GE287 := n12_; have NB258_287 := n13_; have NB287_258 := n14_; clear n0_ n1_ n2_ n3_ n4_ n5_ n6_ n7_ n8_ n9_ n10_ n11_ n12_ n13_ n14_; clear hb hbox hg; have hnb28 := NB287_258.out; have hnc28 := NB258_287.out; obtain ⟨hcz29_0, hcz29_1, hcz29_2, hcz29_3, hcz29_4, hfz29_0, hfz29_1, hfz29_2, hfz29_3, hfz29_4⟩ := cs5_ BK287.out; obtain ⟨Ao30, co30, eo30⟩ := Kd.R_slice HO277.out; subst eo30; obtain ⟨Ao31, co31, eo31⟩ := Kd.R_slice HO280.out; subst eo31; obtain ⟨Ao32, co32, eo32⟩ := Kd.R_slice HO283.out; subst eo32; obtain ⟨Ao33, co33, eo33⟩ := Kd.R_slice HO286.out; subst eo33) | ((with_reducible refine gate_callee (f := 18) rfl ?_); refine goesL_ (some 18) rfl rfl Try.func18 (by kernel_rfl) rfl #[.agg #[.bool t274, .slice Ao30 t275.length co30, .slice Ao31 t278.length co31, .slice Ao32 t281.length co32, .slice Ao33 t284.length co33]] rfl z1_ ?_; (with_reducible refine (impl_TreeDepth.calls k t274 _ _ t275 _ _ t278 _ _ t281 _ _ t284 t288 _ ?side1 ?side2 ?side3 ?side4 ?side5 ?side6 ?side7 ?side8 A10.out).mono ?_); (case side1 => refine (Kd.R_reads' (e := 92) (base := w.heap.size) (ok := fun k_ => (True ∧ some k_ ≠ (.slice Ao20 t261.length co20 : Value).ownBlock)) (n := t275.length) (c := co30) ?_).2.2; exact (by (with_reducible repeat (first | apply Kd.R_alloc | apply Kd.R_drewN | apply Kd.R_drew)); exact (Kd.R_mono (Kd.R_far (p := ⟨gb287, 4, none⟩) (Kd.R_far (p := ⟨gb287, 3, none⟩) (Kd.R_far (p := ⟨gb287, 2, none⟩) (Kd.R_far (p := ⟨gb287, 1, none⟩) (Kd.R_far (p := ⟨gb287, 0, none⟩) (Kd.R_types HO277.out BK287.out (by decide)) (fun _ hk => hk.2) (.bool t274)) (fun _ hk => hk.2) (.slice Ao30 t275.length co30)) (fun _ hk => hk.2) (.slice Ao31 t278.length co31)) (fun _ hk => hk.2) (.slice Ao32 t281.length co32)) (fun _ hk => hk.2) (.slice Ao33 t284.length co33)) (fun _ h_ => h_.1)))); (case side2 => exact z201_); (case side3 => refine (Kd.R_reads' (e := 3) (base := w.heap.size) (ok := fun k_ => (True ∧ some k_ ≠ (.slice Ao21 t264.length co21 : Value).ownBlock)) (n := t278.length) (c := co31) ?_).2.2; exact (by (with_reducible repeat (first | apply Kd.R_alloc | apply Kd.R_drewN | apply Kd.R_drew)); exact (Kd.R_mono (Kd.R_far (p := ⟨gb287, 4, none⟩) (Kd.R_far (p := ⟨gb287, 3, none⟩) (Kd.R_far (p := ⟨gb287, 2, none⟩) (Kd.R_far (p := ⟨gb287, 1, none⟩) (Kd.R_far (p := ⟨gb287, 0, none⟩) (Kd.R_types HO280.out BK287.out (by decide)) (fun _ hk => hk.2) (.bool t274)) (fun _ hk => hk.2) (.slice Ao30 t275.length co30)) (fun _ hk => hk.2) (.slice Ao31 t278.length co31)) (fun _ hk => hk.2) (.slice Ao32 t281.length co32)) (fun _ hk => hk.2) (.slice Ao33 t284.length co33)) (fun _ h_ => h_.1)))); (case side4 => exact z202_); (case side5 => refine (Kd.R_reads' (e := 34) (base := w.heap.size) (ok := fun k_ => ((((((some k_ ≠ (.slice Ao30 t275.length co30 : Value).ownBlock ∧ (some k_ ≠ (.slice Ao31 t278.length co31 : Value).ownBlock ∧ some k_ ≠ (.slice Ao33 t284.length co33 : Value).ownBlock)) ∧ some k_ ≠ (.slice Ao20 t261.length co20 : Value).ownBlock) ∧ some k_ ≠ (.slice Ao21 t264.length co21 : Value).ownBlock) ∧ some k_ ≠ (.slice Ao22 t267.length co22 : Value).ownBlock) ∧ some k_ ≠ (.slice Ao23 t270.length co23 : Value).ownBlock) ∧ k_ ≠ gb287)) (n := t281.length) (c := co32) ?_).2.2; exact z41_); (case side6 => exact z203_); (case side7 => refine (Kd.R_reads' (e := 72) (base := w.heap.size) (ok := fun k_ => (True ∧ some k_ ≠ (.slice Ao23 t270.length co23 : Value).ownBlock)) (n := t284.length) (c := co33) ?_).2.2; exact (by (with_reducible repeat (first | apply Kd.R_alloc | apply Kd.R_drewN | apply Kd.R_drew)); exact (Kd.R_mono (Kd.R_far (p := ⟨gb287, 4, none⟩) (Kd.R_far (p := ⟨gb287, 3, none⟩) (Kd.R_far (p := ⟨gb287, 2, none⟩) (Kd.R_far (p := ⟨gb287, 1, none⟩) (Kd.R_far (p := ⟨gb287, 0, none⟩) (Kd.R_types HO286.out BK287.out (by decide)) (fun _ hk => hk.2) (.bool t274)) (fun _ hk => hk.2) (.slice Ao30 t275.length co30)) (fun _ hk => hk.2) (.slice Ao31 t278.length co31)) (fun _ hk => hk.2) (.slice Ao32 t281.length co32)) (fun _ hk => hk.2) (.slice Ao33 t284.length co33)) (fun _ h_ => h_.1)))); (case side8 => exact z204_); rintro e w34 ⟨rfl, hb⟩; refine ⟨_, rfl, ?_⟩; have n0_ := q_ (Kd.R_below (by (with_reducible repeat (first | apply Kd.R_alloc | apply Kd.R_drewN | apply Kd.R_drew)); exact (Kd.R_mono (Kd.R_far (p := ⟨gb287, 4, none⟩) (Kd.R_far (p := ⟨gb287, 3, none⟩) (Kd.R_far (p := ⟨gb287, 2, none⟩) (Kd.R_far (p := ⟨gb287, 1, none⟩) (Kd.R_far (p := ⟨gb287, 0, none⟩) (Kd.R_types HO263.out BK287.out (by decide)) (fun _ hk => hk.2) (.bool t274)) (fun _ hk => hk.2) (.slice Ao30 t275.length co30)) (fun _ hk => hk.2) (.slice Ao31 t278.length co31)) (fun _ hk => hk.2) (.slice Ao32 t281.length co32)) (fun _ hk => hk.2) (.slice Ao33 t284.length co33)) (fun _ h_ => h_.1))) hb); have n1_ := q_ (Kd.R_below (by (with_reducible repeat (first | apply Kd.R_alloc | apply Kd.R_drewN | apply Kd.R_drew)); exact (Kd.R_mono (Kd.R_far (p := ⟨gb287, 4, none⟩) (Kd.R_far (p := ⟨gb287, 3, none⟩) (Kd.R_far (p := ⟨gb287, 2, none⟩) (Kd.R_far (p := ⟨gb287, 1, none⟩) (Kd.R_far (p := ⟨gb287, 0, none⟩) (Kd.R_types HO266.out BK287.out (by decide)) (fun _ hk => hk.2) (.bool t274)) (fun _ hk => hk.2) (.slice Ao30 t275.length co30)) (fun _ hk => hk.2) (.slice Ao31 t278.length co31)) (fun _ hk => hk.2) (.slice Ao32 t281.length co32)) (fun _ hk => hk.2) (.slice Ao33 t284.length co33)) (fun _ h_ => h_.1))) hb); have n2_ := q_ (Kd.R_below (by (with_reducible repeat (first | apply Kd.R_alloc | apply Kd.R_drewN | apply Kd.R_drew)); exact (Kd.R_mono (Kd.R_far (p := ⟨gb287, 4, none⟩) (Kd.R_far (p := ⟨gb287, 3, none⟩) (Kd.R_far (p := ⟨gb287, 2, none⟩) (Kd.R_far (p := ⟨gb287, 1, none⟩) (Kd.R_far (p := ⟨gb287, 0, none⟩) (Kd.R_mono HO269.out (fun k_ hk => (⟨hk, hk.2⟩ : _ ∧ k_ ≠ gb287))) (fun _ hk => hk.2) (.bool t274)) (fun _ hk => hk.2) (.slice Ao30 t275.length co30)) (fun _ hk => hk.2) (.slice Ao31 t278.length co31)) (fun _ hk => hk.2) (.slice Ao32 t281.length co32)) (fun _ hk => hk.2) (.slice Ao33 t284.length co33)) (fun _ h_ => h_.1))) hb); have n3_ := q_ (Kd.R_below (by (with_reducible repeat (first | apply Kd.R_alloc | apply Kd.R_drewN | apply Kd.R_drew)); exact (Kd.R_mono (Kd.R_far (p := ⟨gb287, 4, none⟩) (Kd.R_far (p := ⟨gb287, 3, none⟩) (Kd.R_far (p := ⟨gb287, 2, none⟩) (Kd.R_far (p := ⟨gb287, 1, none⟩) (Kd.R_far (p := ⟨gb287, 0, none⟩) (Kd.R_types HO272.out BK287.out (by decide)) (fun _ hk => hk.2) (.bool t274)) (fun _ hk => hk.2) (.slice Ao30 t275.length co30)) (fun _ hk => hk.2) (.slice Ao31 t278.length co31)) (fun _ hk => hk.2) (.slice Ao32 t281.length co32)) (fun _ hk => hk.2) (.slice Ao33 t284.length co33)) (fun _ h_ => h_.1))) hb); have n4_ := q_ (Kd.R_below (by (with_reducible repeat (first | apply Kd.R_alloc | apply Kd.R_drewN | apply Kd.R_drew)); exact (Kd.R_mono (Kd.R_far (p := ⟨gb287, 4, none⟩) (Kd.R_far (p := ⟨gb287, 3, none⟩) (Kd.R_far (p := ⟨gb287, 2, none⟩) (Kd.R_far (p := ⟨gb287, 1, none⟩) (Kd.R_far (p := ⟨gb287, 0, none⟩) (Kd.R_types HO277.out BK287.out (by decide)) (fun _ hk => hk.2) (.bool t274)) (fun _ hk => hk.2) (.slice Ao30 t275.length co30)) (fun _ hk => hk.2) (.slice Ao31 t278.length co31)) (fun _ hk => hk.2) (.slice Ao32 t281.length co32)) (fun _ hk => hk.2) (.slice Ao33 t284.length co33)) (fun _ h_ => h_.1))) hb); have n5_ := q_ (Kd.R_below (by (with_reducible repeat (first | apply Kd.R_alloc | apply Kd.R_drewN | apply Kd.R_drew)); exact (Kd.R_mono (Kd.R_far (p := ⟨gb287, 4, none⟩) (Kd.R_far (p := ⟨gb287, 3, none⟩) (Kd.R_far (p := ⟨gb287, 2, none⟩) (Kd.R_far (p := ⟨gb287, 1, none⟩) (Kd.R_far (p := ⟨gb287, 0, none⟩) (Kd.R_types HO280.out BK287.out (by decide)) (fun _ hk => hk.2) (.bool t274)) (fun _ hk => hk.2) (.slice Ao30 t275.length co30)) (fun _ hk => hk.2) (.slice Ao31 t278.length co31)) (fun _ hk => hk.2) (.slice Ao32 t281.length co32)) (fun _ hk => hk.2) (.slice Ao33 t284.length co33)) (fun _ h_ => h_.1))) hb); have n6_ := q_ (Kd.R_below z41_ hb); have n7_ := q_ (Kd.R_below (by (with_reducible repeat (first | apply Kd.R_alloc | apply Kd.R_drewN | apply Kd.R_drew)); exact (Kd.R_mono (Kd.R_far (p := ⟨gb287, 4, none⟩) (Kd.R_far (p := ⟨gb287, 3, none⟩) (Kd.R_far (p := ⟨gb287, 2, none⟩) (Kd.R_far (p := ⟨gb287, 1, none⟩) (Kd.R_far (p := ⟨gb287, 0, none⟩) (Kd.R_types HO286.out BK287.out (by decide)) (fun _ hk => hk.2) (.bool t274)) (fun _ hk => hk.2) (.slice Ao30 t275.length co30)) (fun _ hk => hk.2) (.slice Ao31 t278.length co31)) (fun _ hk => hk.2) (.slice Ao32 t281.length co32)) (fun _ hk => hk.2) (.slice Ao33 t284.length co33)) (fun _ h_ => h_.1))) hb); have n8_ := q_ (blk_below (g := gb258) (o := .cells #[.bool a0_0, .slice A0_1 l0_1.length c0_1, .slice A0_2 l0_2.length c0_2, .slice A0_3 l0_3.length c0_3, .slice A0_4 l0_4.length c0_4] 27 (0, 0)) z33_ hb); have n9_ := q_ (blk_below (g := gb287) (o := .cells #[.bool t274, .slice Ao30 t275.length co30, .slice Ao31 t278.length co31, .slice Ao32 t281.length co32, .slice Ao33 t284.length co33] 34 (0, 0)) (by (with_reducible repeat (first | refine blk_drewN ?_ _ | refine blk_drew ?_ | refine blk_alloc ?_ _)); refine blk_put (cs := #[.bool t274, .slice Ao30 t275.length co30, .slice Ao31 t278.length co31, .slice Ao32 t281.length co32, .slice none 0 0]) ?_ 4 _ rfl; (with_reducible repeat (first | refine blk_drewN ?_ _ | refine blk_drew ?_ | refine blk_alloc ?_ _)); refine blk_put (cs := #[.bool t274, .slice Ao30 t275.length co30, .slice Ao31 t278.length co31, .slice none 0 0, .slice none 0 0]) ?_ 3 _ rfl; (with_reducible repeat (first | refine blk_drewN ?_ _ | refine blk_drew ?_ | refine blk_alloc ?_ _)); refine blk_put (cs := #[.bool t274, .slice Ao30 t275.length co30, .slice none 0 0, .slice none 0 0, .slice none 0 0]) ?_ 2 _ rfl; (with_reducible repeat (first | refine blk_drewN ?_ _ | refine blk_drew ?_ | refine blk_alloc ?_ _)); refine blk_put (cs := #[.bool t274, .slice none 0 0, .slice none 0 0, .slice none 0 0, .slice none 0 0]) ?_ 1 _ rfl; (with_reducible repeat (first | refine blk_drewN ?_ _ | refine blk_drew ?_ | refine blk_alloc ?_ _)); refine blk_put (cs := #[.bool false, .slice none 0 0, .slice none 0 0, .slice none 0 0, .slice none 0 0]) ?_ 0 _ rfl; (with_reducible repeat (first | refine blk_drewN ?_ _ | refine blk_drew ?_ | refine blk_alloc ?_ _)); exact BK287.out) hb); have n10_ := q_ (below_step z10_ hb); clear HO263; clear HO266; clear HO269; clear HO272; clear HO277; clear HO280; clear HO283; clear HO286; clear BK258; clear BK287; clear HB; have HO263 := n0_; have HO266 := n1_; have HO269 := n2_; have HO272 := n3_; have HO277 := n4_; have HO280 := n5_; have HO283 := n6_; have HO286 := n7_; have BK258 := n8_; have BK287 := n9_; have HB := n10_; clear n0_ n1_ n2_ n3_ n4_ n5_ n6_ n7_ n8_ n9_ n10_; (try clear hb); (try clear hb2); (try clear hk); (try clear hi)))
    have n0_ := q_ (Kd.R_drew HO263.out)
    have n1_ := q_ (Kd.R_drew HO266.out)
    have n2_ := q_ (Kd.R_drew HO269.out)
    have n3_ := q_ (Kd.R_drew HO272.out)
    have n4_ := q_ (Kd.R_drew HO277.out)
    have n5_ := q_ (Kd.R_drew HO280.out)
    have n6_ := q_ (Kd.R_drew HO283.out)
    have n7_ := q_ (Kd.R_drew HO286.out)
    have n8_ := q_ (blk_drew BK258.out)
    have n9_ := q_ (blk_drew BK287.out)
    have n10_ := q_ (below_drew1 HB.out)
    clear HO263
    clear HO266
    clear HO269
    clear HO272
    clear HO277
    clear HO280
    clear HO283
    clear HO286
    clear BK258
    clear BK287
    clear HB
    have HO263 := n0_
    have HO266 := n1_
    have HO269 := n2_
    have HO272 := n3_
    have HO277 := n4_
    have HO280 := n5_
    have HO283 := n6_
    have HO286 := n7_
    have BK258 := n8_
    have BK287 := n9_
    have HB := n10_
    clear n0_ n1_ n2_ n3_ n4_ n5_ n6_ n7_ n8_ n9_ n10_
    refine start_ (n := 5) (S := fun w' => w'.cell? ⟨gb287, 0, none⟩ = some (.bool t274) ∧ w'.cell? ⟨gb287, 1, none⟩ = some (.slice Ao30 t275.length co30) ∧ w'.cell? ⟨gb287, 2, none⟩ = some (.slice Ao31 t278.length co31) ∧ w'.cell? ⟨gb287, 3, none⟩ = some (.slice Ao32 t281.length co32) ∧ w'.cell? ⟨gb287, 4, none⟩ = some (.slice Ao33 t284.length co33) ∧ w'.cell? ⟨gb258, 0, none⟩ = some (.bool a0_0) ∧ w'.cell? ⟨gb258, 1, none⟩ = some (.slice A0_1 l0_1.length c0_1) ∧ w'.cell? ⟨gb258, 2, none⟩ = some (.slice A0_2 l0_2.length c0_2) ∧ w'.cell? ⟨gb258, 3, none⟩ = some (.slice A0_3 l0_3.length c0_3) ∧ w'.cell? ⟨gb258, 4, none⟩ = some (.slice A0_4 l0_4.length c0_4)) (ds := []) #[false, false, false, false, false] (by kernel_rfl) rfl rfl ⟨(blk_cell BK287.out 0).trans rfl, (blk_cell BK287.out 1).trans rfl, (blk_cell BK287.out 2).trans rfl, (blk_cell BK287.out 3).trans rfl, (blk_cell BK287.out 4).trans rfl, (blk_cell BK258.out 0).trans rfl, (blk_cell BK258.out 1).trans rfl, (blk_cell BK258.out 2).trans rfl, (blk_cell BK258.out 3).trans rfl, (blk_cell BK258.out 4).trans rfl⟩ (fun hHeld => ?_)
    generalize w34.drew = w35 at HO263 HO266 HO269 HO272 HO277 HO280 HO283 HO286 BK258 BK287 HB hHeld ⊢
    refine take_ (i := 0) (N := some 22) (v := ?_) (a' := ?_) #[true, false, false, false, false] rfl rfl (by kernel_rfl) (fun _ _ _ h => h) (Or.inl ⟨by rfl, ?_⟩) hHeld ?_ ?_
    rotate_left
    ·rintro w' ⟨s0, s1, s2, s3, s4, s5, s6, s7, s8, s9⟩
     go_simp
     with_reducible rfl
    rotate_left
    ·simp only [Act.put, List.setIfInBounds_toArray, List.set_cons_zero, List.set_cons_succ, i64_w, i32_w]
     rfl
    refine take_ (i := 1) (N := some 23) (v := ?_) (a' := ?_) #[true, true, false, false, false] rfl rfl (by kernel_rfl) (fun _ _ _ h => h) (Or.inl ⟨by rfl, ?_⟩) hHeld ?_ ?_
    rotate_left
    ·rintro w' ⟨s0, s1, s2, s3, s4, s5, s6, s7, s8, s9⟩
     go_simp
     with_reducible rfl
    rotate_left
    ·simp only [Act.put, List.setIfInBounds_toArray, List.set_cons_zero, List.set_cons_succ, i64_w, i32_w]
     rfl
    refine one_ (i := 2) (N := some 24) #[true, true, true, false, false] rfl rfl (by kernel_rfl) (by decide) (fun K hK => ?_)
    refine goes_ Try.func17 (by kernel_rfl) rfl #[.agg #[.bool a0_0, .slice A0_1 l0_1.length c0_1, .slice A0_2 l0_2.length c0_2, .slice A0_3 l0_3.length c0_3, .slice A0_4 l0_4.length c0_4]] (by rfl) rfl rfl z1_ ?_
    with_reducible refine (laws_toTree.calls k a0_0 _ _ l0_1 _ _ l0_2 _ _ l0_3 _ _ l0_4 t289 t290 t293 t296 t299 _ ?side1 ?side2 ?side3 ?side4 ?side5 ?side6 ?side7 ?side8 A12.out).mono ?_
    (case side1 => exact z139_)
    (case side2 => exact z156_)
    (case side3 => exact z142_)
    (case side4 => exact z162_)
    (case side5 => exact z143_)
    (case side6 => exact z163_)
    (case side7 => exact z141_)
    (case side8 => exact z164_)
    rintro e w36 ⟨v291, v294, v297, v300, rfl, ho0, ho1, ho2, ho3, hb⟩
    refine ⟨_, rfl, ?_⟩
    have n0_ := q_ (Kd.R_elder' z18_ (Kd.R_base ho0) hb)
    have n1_ := q_ (Kd.R_elder' z19_ (Kd.R_base ho1) hb)
    have n2_ := q_ (Kd.R_mono (Kd.R_told (Kd.R_told (Kd.R_told (Kd.R_told (Kd.R_old z26_ hb) (Kd.R_base ho0)) (Kd.R_base ho1)) (Kd.R_base ho2)) (Kd.R_base ho3)) (fun _ h_ => h_.1))
    have n3_ := q_ (Kd.R_elder' z20_ (Kd.R_base ho3) hb)
    have n4_ := q_ (Kd.R_elder' z47_ (Kd.R_base ho0) hb)
    have n5_ := q_ (Kd.R_elder' z48_ (Kd.R_base ho1) hb)
    have n6_ := q_ (Kd.R_mono (Kd.R_told (Kd.R_told (Kd.R_told (Kd.R_told (Kd.R_old z54_ hb) (Kd.R_base ho0)) (Kd.R_base ho1)) (Kd.R_base ho2)) (Kd.R_base ho3)) (fun _ h_ => h_.1))
    have n7_ := q_ (Kd.R_elder' z49_ (Kd.R_base ho3) hb)
    have n8_ := q_ (Kd.R_lower (Kd.R_new' (Kd.R_new' ho0 (Kd.R_lt z18_)) (Kd.R_lt z47_)) (below_size z10_))
    have n9_ := q_ (Kd.R_lower (Kd.R_new' (Kd.R_new' ho1 (Kd.R_lt z19_)) (Kd.R_lt z48_)) (below_size z10_))
    have n10_ := q_ (Kd.R_lower (Kd.R_newB (Kd.R_new' (Kd.R_new' (Kd.R_new' (Kd.R_new' (Kd.R_new' (Kd.R_new' (Kd.R_new' (Kd.R_new' ho2 (Kd.R_lt z18_)) (Kd.R_lt z19_)) (Kd.R_lt z26_)) (Kd.R_lt z20_)) (Kd.R_lt z47_)) (Kd.R_lt z48_)) (Kd.R_lt z54_)) (Kd.R_lt z49_)) (g := gb287) (o := .cells #[.bool t274, .slice Ao30 t275.length co30, .slice Ao31 t278.length co31, .slice Ao32 t281.length co32, .slice Ao33 t284.length co33] 34 (0, 0)) z67_) (below_size z10_))
    have n11_ := q_ (Kd.R_lower (Kd.R_new' (Kd.R_new' ho3 (Kd.R_lt z20_)) (Kd.R_lt z49_)) (below_size z10_))
    have n12_ := q_ (blk_below (g := gb258) (o := .cells #[.bool a0_0, .slice A0_1 l0_1.length c0_1, .slice A0_2 l0_2.length c0_2, .slice A0_3 l0_3.length c0_3, .slice A0_4 l0_4.length c0_4] 27 (0, 0)) z17_ hb)
    have n13_ := q_ (blk_below (g := gb287) (o := .cells #[.bool t274, .slice Ao30 t275.length co30, .slice Ao31 t278.length co31, .slice Ao32 t281.length co32, .slice Ao33 t284.length co33] 34 (0, 0)) z67_ hb)
    have n14_ := q_ (below_step z10_ hb)
    clear HO263
    clear HO266
    clear HO269
    clear HO272
    clear HO277
    clear HO280
    clear HO283
    clear HO286
    clear BK258
    clear BK287
    clear HB
    have HO263 := n0_
    have HO266 := n1_
    have HO269 := n2_
    have HO272 := n3_
    have HO277 := n4_
    have HO280 := n5_
    have HO283 := n6_
    have HO286 := n7_
    have HO292 := n8_
    have HO295 := n9_
    have HO298 := n10_
    have HO301 := n11_
    have BK258 := n12_
    have BK287 := n13_
    have HB := n14_
    clear n0_ n1_ n2_ n3_ n4_ n5_ n6_ n7_ n8_ n9_ n10_ n11_ n12_ n13_ n14_
    (try clear hb)
    (try clear hb2)
    (try clear hk)
    (try clear hi)
    (try clear ho0)
    (try clear ho1)
    (try clear ho2)
    (try clear ho3)
    obtain ⟨Ao37, co37, eo37⟩ := Kd.R_slice HO292.out
    (first | subst eo37 | (injection eo37 with f1_ f2_ f3_; have f4_ := f1_.symm; have f5_ := f3_.symm; clear f1_ f2_ f3_; subst f4_; subst f5_))
    obtain ⟨Ao38, co38, eo38⟩ := Kd.R_slice HO295.out
    (first | subst eo38 | (injection eo38 with f1_ f2_ f3_; have f4_ := f1_.symm; have f5_ := f3_.symm; clear f1_ f2_ f3_; subst f4_; subst f5_))
    obtain ⟨Ao39, co39, eo39⟩ := Kd.R_slice HO298.out
    (first | subst eo39 | (injection eo39 with f1_ f2_ f3_; have f4_ := f1_.symm; have f5_ := f3_.symm; clear f1_ f2_ f3_; subst f4_; subst f5_))
    obtain ⟨Ao40, co40, eo40⟩ := Kd.R_slice HO301.out
    (first | subst eo40 | (injection eo40 with f1_ f2_ f3_; have f4_ := f1_.symm; have f5_ := f3_.symm; clear f1_ f2_ f3_; subst f4_; subst f5_))
    refine hK.out _ _ ⟨(blk_cell BK287.out 0).trans rfl, (blk_cell BK287.out 1).trans rfl, (blk_cell BK287.out 2).trans rfl, (blk_cell BK287.out 3).trans rfl, (blk_cell BK287.out 4).trans rfl, (blk_cell BK258.out 0).trans rfl, (blk_cell BK258.out 1).trans rfl, (blk_cell BK258.out 2).trans rfl, (blk_cell BK258.out 3).trans rfl, (blk_cell BK258.out 4).trans rfl⟩ (fun hHeld => ?_)
    clear hK K
    refine norm_ (a' := ?_) ?_ ?_
    rotate_left
    ·show Act.put _ (some 24) _ = _
     simp only [Act.put, List.setIfInBounds_toArray, List.set_cons_zero, List.set_cons_succ, i64_w, i32_w]
     rfl
    refine one_ (i := 3) (N := some 25) #[true, true, true, true, false] rfl rfl (by kernel_rfl) (by decide) (fun K hK => ?_)
    refine goes_ Try.func19 (by kernel_rfl) rfl #[.agg #[.bool t274, .slice Ao30 t275.length co30, .slice Ao31 t278.length co31, .slice Ao32 t281.length co32, .slice Ao33 t284.length co33], .agg #[.bool t289, .slice Ao37 t290.length co37, .slice Ao38 t293.length co38, .slice Ao39 t296.length co39, .slice Ao40 t299.length co40]] (by rfl) rfl rfl z1_ ?_
    with_reducible refine (laws_eqTree.calls k t274 _ _ t275 _ _ t278 _ _ t281 _ _ t284 t289 _ _ t290 _ _ t293 _ _ t296 _ _ t299 true _ ?side1 ?side2 ?side3 ?side4 ?side5 ?side6 ?side7 ?side8 ?side9 ?side10 ?side11 ?side12 ?side13 ?side14 ?side15 ?side16 A13.out).mono ?_
    (case side1 => exact z189_)
    (case side2 => exact z201_)
    (case side3 => exact z190_)
    (case side4 => exact z202_)
    (case side5 => exact z191_)
    (case side6 => exact z203_)
    (case side7 => exact z192_)
    (case side8 => exact z204_)
    (case side9 => exact z193_)
    (case side10 => exact (Kd.R_reads' HO292.out).2.1)
    (case side11 => exact z194_)
    (case side12 => exact (Kd.R_reads' HO295.out).2.1)
    (case side13 => exact z195_)
    (case side14 => exact (Kd.R_reads' HO298.out).2.1)
    (case side15 => exact z196_)
    (case side16 => exact (Kd.R_reads' HO301.out).2.1)
    rintro e w41 ⟨rfl, hb⟩
    refine ⟨_, rfl, ?_⟩
    have n0_ := q_ (Kd.R_below z18_ hb)
    have n1_ := q_ (Kd.R_below z19_ hb)
    have n2_ := q_ (Kd.R_below z26_ hb)
    have n3_ := q_ (Kd.R_below z20_ hb)
    have n4_ := q_ (Kd.R_below z47_ hb)
    have n5_ := q_ (Kd.R_below z48_ hb)
    have n6_ := q_ (Kd.R_below z54_ hb)
    have n7_ := q_ (Kd.R_below z49_ hb)
    have n8_ := q_ (Kd.R_below z96_ hb)
    have n9_ := q_ (Kd.R_below z97_ hb)
    have n10_ := q_ (Kd.R_below z98_ hb)
    have n11_ := q_ (Kd.R_below z99_ hb)
    have n12_ := q_ (blk_below (g := gb258) (o := .cells #[.bool a0_0, .slice A0_1 l0_1.length c0_1, .slice A0_2 l0_2.length c0_2, .slice A0_3 l0_3.length c0_3, .slice A0_4 l0_4.length c0_4] 27 (0, 0)) z17_ hb)
    have n13_ := q_ (blk_below (g := gb287) (o := .cells #[.bool t274, .slice Ao30 t275.length co30, .slice Ao31 t278.length co31, .slice Ao32 t281.length co32, .slice Ao33 t284.length co33] 34 (0, 0)) z67_ hb)
    have n14_ := q_ (below_step z10_ hb)
    clear HO263
    clear HO266
    clear HO269
    clear HO272
    clear HO277
    clear HO280
    clear HO283
    clear HO286
    clear HO292
    clear HO295
    clear HO298
    clear HO301
    clear BK258
    clear BK287
    clear HB
    have HO263 := n0_
    have HO266 := n1_
    have HO269 := n2_
    have HO272 := n3_
    have HO277 := n4_
    have HO280 := n5_
    have HO283 := n6_
    have HO286 := n7_
    have HO292 := n8_
    have HO295 := n9_
    have HO298 := n10_
    have HO301 := n11_
    have BK258 := n12_
    have BK287 := n13_
    have HB := n14_
    clear n0_ n1_ n2_ n3_ n4_ n5_ n6_ n7_ n8_ n9_ n10_ n11_ n12_ n13_ n14_
    (try clear hb)
    (try clear hb2)
    (try clear hk)
    (try clear hi)
    refine hK.out _ _ ⟨(blk_cell BK287.out 0).trans rfl, (blk_cell BK287.out 1).trans rfl, (blk_cell BK287.out 2).trans rfl, (blk_cell BK287.out 3).trans rfl, (blk_cell BK287.out 4).trans rfl, (blk_cell BK258.out 0).trans rfl, (blk_cell BK258.out 1).trans rfl, (blk_cell BK258.out 2).trans rfl, (blk_cell BK258.out 3).trans rfl, (blk_cell BK258.out 4).trans rfl⟩ (fun hHeld => ?_)
    clear hK K
    refine norm_ (a' := ?_) ?_ ?_
    rotate_left
    ·show Act.put _ (some 25) _ = _
     simp only [Act.put, List.setIfInBounds_toArray, List.set_cons_zero, List.set_cons_succ, i64_w, i32_w]
     rfl
    refine pure_ (i := 4) (N := some 26) (v := ?_) (a' := ?_) #[true, true, true, true, true] rfl rfl (by kernel_rfl) (fun _ _ _ h => h) (Or.inl ⟨by rfl, ?_⟩) ?_ ?_
    rotate_left
    ·intro w'
     go_simp
     with_reducible rfl
    rotate_left
    ·simp only [Act.put, List.setIfInBounds_toArray, List.set_cons_zero, List.set_cons_succ, i64_w, i32_w]
     rfl
    refine done_ (by kernel_rfl) ?_
    try go_wp2
    go_ret
    exact ⟨z2_, z10_⟩
   ·replace c14 := Bool.eq_false_iff.mpr c14
    subst c14
    have H1 : (some false) = some r := by rw [if_neg (show ¬ (false = true) by decide)] at H; exact H
    clear H
    have H := H1
    clear H1
    obtain rfl := Option.some.inj H
    go_enter Try.func3, Try.ntmps3
    try go_wp2_with (first | ((with_reducible refine gate_dst (N := 1) rfl ?_); refine box_event ?hg (N := 1) ?hd (cs := #[.bool a0_0, .slice A0_1 l0_1.length c0_1, .slice A0_2 l0_2.length c0_2, .slice A0_3 l0_3.length c0_3, .slice A0_4 l0_4.length c0_4]) (t := 27) ?hr ?_; (case hd => rfl); (case hg => rfl); (case hr => exact z140_); intro gb258 hg w42 hbox hb; have n0_ := q_ (below_step z0_ hb); have n1_ := q_ (hbox); have n2_ := q_ ((z103_ : w.heap.size ≤ gb258)); have n3_ := q_ ((z103_ : w.heap.size ≤ gb258)); clear HB; have HB := n0_; have BK258 := n1_; have GW258 := n2_; have GE258 := n3_; clear n0_ n1_ n2_ n3_; clear hb hbox hg; obtain ⟨hcz43_0, hcz43_1, hcz43_2, hcz43_3, hcz43_4, hfz43_0, hfz43_1, hfz43_2, hfz43_3, hfz43_4⟩ := cs5_ BK258.out) | ((with_reducible refine gate_callee (f := 15) rfl ?_); refine goesL_ (some 9) rfl rfl Try.func15 (by kernel_rfl) rfl #[.agg #[.bool a0_0, .slice A0_1 l0_1.length c0_1, .slice A0_2 l0_2.length c0_2, .slice A0_3 l0_3.length c0_3, .slice A0_4 l0_4.length c0_4], .int .i64 1048576] rfl z1_ ?_; (with_reducible refine (laws_szTree.calls k a0_0 _ _ l0_1 _ _ l0_2 _ _ l0_3 _ _ l0_4 1048576 t259 _ ?side1 ?side2 ?side3 ?side4 ?side5 ?side6 ?side7 ?side8 A2.out).mono ?_); (case side1 => exact z139_); (case side2 => exact z156_); (case side3 => exact z142_); (case side4 => exact z162_); (case side5 => exact z143_); (case side6 => exact z163_); (case side7 => exact z141_); (case side8 => exact z164_); rintro e w44 ⟨rfl, hb⟩; refine ⟨_, rfl, ?_⟩; have n0_ := q_ (blk_below (g := gb258) (o := .cells #[.bool a0_0, .slice A0_1 l0_1.length c0_1, .slice A0_2 l0_2.length c0_2, .slice A0_3 l0_3.length c0_3, .slice A0_4 l0_4.length c0_4] 27 (0, 0)) z17_ hb); have n1_ := q_ (below_step z5_ hb); clear BK258; clear HB; have BK258 := n0_; have HB := n1_; clear n0_ n1_; (try clear hb); (try clear hb2); (try clear hk); (try clear hi); obtain ⟨hcz45_0, hcz45_1, hcz45_2, hcz45_3, hcz45_4, hfz45_0, hfz45_1, hfz45_2, hfz45_3, hfz45_4⟩ := cs5_ BK258.out) | ((with_reducible refine gate_callee (f := 17) rfl ?_); refine goesL_ (some 13) rfl rfl Try.func17 (by kernel_rfl) rfl #[.agg #[.bool a0_0, .slice A0_1 l0_1.length c0_1, .slice A0_2 l0_2.length c0_2, .slice A0_3 l0_3.length c0_3, .slice A0_4 l0_4.length c0_4]] rfl z1_ ?_; (with_reducible refine (laws_toTree.calls k a0_0 _ _ l0_1 _ _ l0_2 _ _ l0_3 _ _ l0_4 t260 t261 t264 t267 t270 _ ?side1 ?side2 ?side3 ?side4 ?side5 ?side6 ?side7 ?side8 A7.out).mono ?_); (case side1 => exact z139_); (case side2 => exact z156_); (case side3 => exact z142_); (case side4 => exact z162_); (case side5 => exact z143_); (case side6 => exact z163_); (case side7 => exact z141_); (case side8 => exact z164_); rintro e w46 ⟨v262, v265, v268, v271, rfl, ho0, ho1, ho2, ho3, hb⟩; refine ⟨_, rfl, ?_⟩; have n0_ := q_ (Kd.R_lower ho0 (below_size z5_)); have n1_ := q_ (Kd.R_lower ho1 (below_size z5_)); have n2_ := q_ (Kd.R_lower ho2 (below_size z5_)); have n3_ := q_ (Kd.R_lower ho3 (below_size z5_)); have n4_ := q_ (blk_below (g := gb258) (o := .cells #[.bool a0_0, .slice A0_1 l0_1.length c0_1, .slice A0_2 l0_2.length c0_2, .slice A0_3 l0_3.length c0_3, .slice A0_4 l0_4.length c0_4] 27 (0, 0)) z17_ hb); have n5_ := q_ (below_step z5_ hb); clear BK258; clear HB; have HO263 := n0_; have HO266 := n1_; have HO269 := n2_; have HO272 := n3_; have BK258 := n4_; have HB := n5_; clear n0_ n1_ n2_ n3_ n4_ n5_; (try clear hb); (try clear hb2); (try clear hk); (try clear hi); (try clear ho0); (try clear ho1); (try clear ho2); (try clear ho3); obtain ⟨Ao47, co47, eo47⟩ := Kd.R_slice HO263.out; subst eo47; obtain ⟨Ao48, co48, eo48⟩ := Kd.R_slice HO266.out; subst eo48; obtain ⟨Ao49, co49, eo49⟩ := Kd.R_slice HO269.out; subst eo49; obtain ⟨Ao50, co50, eo50⟩ := Kd.R_slice HO272.out; subst eo50) | ((with_reducible refine gate_callee (f := 16) rfl ?_); refine goesL_ (some 14) rfl rfl Try.func16 (by kernel_rfl) rfl #[.agg #[.bool t260, .slice Ao47 t261.length co47, .slice Ao48 t264.length co48, .slice Ao49 t267.length co49, .slice Ao50 t270.length co50]] rfl z1_ ?_; (with_reducible refine (spec_TreeDepth.calls k t260 _ _ t261 _ _ t264 _ _ t267 _ _ t270 t273 _ ?side1 ?side2 ?side3 ?side4 ?side5 ?side6 ?side7 ?side8 A8.out).mono ?_); (case side1 => exact z158_); (case side2 => exact (Kd.R_reads' HO263.out).2.1); (case side3 => exact z159_); (case side4 => exact (Kd.R_reads' HO266.out).2.1); (case side5 => exact z160_); (case side6 => exact (Kd.R_reads' HO269.out).2.1); (case side7 => exact z161_); (case side8 => exact (Kd.R_reads' HO272.out).2.1); rintro e w51 ⟨rfl, hb⟩; refine ⟨_, rfl, ?_⟩; have n0_ := q_ (Kd.R_below z18_ hb); have n1_ := q_ (Kd.R_below z19_ hb); have n2_ := q_ (Kd.R_below z26_ hb); have n3_ := q_ (Kd.R_below z20_ hb); have n4_ := q_ (blk_below (g := gb258) (o := .cells #[.bool a0_0, .slice A0_1 l0_1.length c0_1, .slice A0_2 l0_2.length c0_2, .slice A0_3 l0_3.length c0_3, .slice A0_4 l0_4.length c0_4] 27 (0, 0)) z17_ hb); have n5_ := q_ (below_step z5_ hb); clear HO263; clear HO266; clear HO269; clear HO272; clear BK258; clear HB; have HO263 := n0_; have HO266 := n1_; have HO269 := n2_; have HO272 := n3_; have BK258 := n4_; have HB := n5_; clear n0_ n1_ n2_ n3_ n4_ n5_; (try clear hb); (try clear hb2); (try clear hk); (try clear hi); obtain ⟨hcz52_0, hcz52_1, hcz52_2, hcz52_3, hcz52_4, hfz52_0, hfz52_1, hfz52_2, hfz52_3, hfz52_4⟩ := cs5_ BK258.out) | ((with_reducible refine gate_callee (f := 17) rfl ?_); refine goesL_ (some 16) rfl rfl Try.func17 (by kernel_rfl) rfl #[.agg #[.bool a0_0, .slice A0_1 l0_1.length c0_1, .slice A0_2 l0_2.length c0_2, .slice A0_3 l0_3.length c0_3, .slice A0_4 l0_4.length c0_4]] rfl z1_ ?_; (with_reducible refine (laws_toTree.calls k a0_0 _ _ l0_1 _ _ l0_2 _ _ l0_3 _ _ l0_4 t274 t275 t278 t281 t284 _ ?side1 ?side2 ?side3 ?side4 ?side5 ?side6 ?side7 ?side8 A9.out).mono ?_); (case side1 => exact z139_); (case side2 => exact z156_); (case side3 => exact z142_); (case side4 => exact z162_); (case side5 => exact z143_); (case side6 => exact z163_); (case side7 => exact z141_); (case side8 => exact z164_); rintro e w53 ⟨v276, v279, v282, v285, rfl, ho0, ho1, ho2, ho3, hb⟩; refine ⟨_, rfl, ?_⟩; have n0_ := q_ (Kd.R_elder' z18_ (Kd.R_base ho0) hb); have n1_ := q_ (Kd.R_elder' z19_ (Kd.R_base ho1) hb); have n2_ := q_ (Kd.R_mono (Kd.R_told (Kd.R_told (Kd.R_told (Kd.R_told (Kd.R_old z26_ hb) (Kd.R_base ho0)) (Kd.R_base ho1)) (Kd.R_base ho2)) (Kd.R_base ho3)) (fun _ h_ => h_.1)); have n3_ := q_ (Kd.R_elder' z20_ (Kd.R_base ho3) hb); have n4_ := q_ (Kd.R_lower (Kd.R_new' ho0 (Kd.R_lt z18_)) (below_size z5_)); have n5_ := q_ (Kd.R_lower (Kd.R_new' ho1 (Kd.R_lt z19_)) (below_size z5_)); have n6_ := q_ (Kd.R_lower (Kd.R_new' (Kd.R_new' (Kd.R_new' (Kd.R_new' ho2 (Kd.R_lt z18_)) (Kd.R_lt z19_)) (Kd.R_lt z26_)) (Kd.R_lt z20_)) (below_size z5_)); have n7_ := q_ (Kd.R_lower (Kd.R_new' ho3 (Kd.R_lt z20_)) (below_size z5_)); have n8_ := q_ (blk_below (g := gb258) (o := .cells #[.bool a0_0, .slice A0_1 l0_1.length c0_1, .slice A0_2 l0_2.length c0_2, .slice A0_3 l0_3.length c0_3, .slice A0_4 l0_4.length c0_4] 27 (0, 0)) z17_ hb); have n9_ := q_ (below_step z5_ hb); clear HO263; clear HO266; clear HO269; clear HO272; clear BK258; clear HB; have HO263 := n0_; have HO266 := n1_; have HO269 := n2_; have HO272 := n3_; have HO277 := n4_; have HO280 := n5_; have HO283 := n6_; have HO286 := n7_; have BK258 := n8_; have HB := n9_; clear n0_ n1_ n2_ n3_ n4_ n5_ n6_ n7_ n8_ n9_; (try clear hb); (try clear hb2); (try clear hk); (try clear hi); (try clear ho0); (try clear ho1); (try clear ho2); (try clear ho3)) | ((with_reducible refine gate_dst (N := 5) rfl ?_); refine box_event ?hg (N := 5) ?hd (cs := #[.bool false, .slice none 0 0, .slice none 0 0, .slice none 0 0, .slice none 0 0]) (t := 34) ?hr ?_; (case hd => rfl); (case hg => rfl); (case hr => exact z140_); intro gb287 hg w54 hbox hb; have n0_ := q_ (Kd.R_below z18_ hb); have n1_ := q_ (Kd.R_below z19_ hb); have n2_ := q_ (Kd.R_below (Kd.R_elderB z26_ gb287 (Nat.le_of_eq hg.symm)) hb); have n3_ := q_ (Kd.R_below z20_ hb); have n4_ := q_ (Kd.R_below z47_ hb); have n5_ := q_ (Kd.R_below z48_ hb); have n6_ := q_ (Kd.R_below (Kd.R_elderB z54_ gb287 (Nat.le_of_eq hg.symm)) hb); have n7_ := q_ (Kd.R_below z49_ hb); have n8_ := q_ (blk_below (g := gb258) (o := .cells #[.bool a0_0, .slice A0_1 l0_1.length c0_1, .slice A0_2 l0_2.length c0_2, .slice A0_3 l0_3.length c0_3, .slice A0_4 l0_4.length c0_4] 27 (0, 0)) z17_ hb); have n9_ := q_ (below_step z5_ hb); have n10_ := q_ (hbox); have n11_ := q_ ((z138_ : w.heap.size ≤ gb287)); have n12_ := q_ ((z138_ : w.heap.size ≤ gb287)); have n13_ := q_ ((z118_ : gb258 ≠ gb287)); have n14_ := q_ ((z119_ : gb287 ≠ gb258)); clear HO263; clear HO266; clear HO269; clear HO272; clear HO277; clear HO280; clear HO283; clear HO286; clear BK258; clear HB; have HO263 := n0_; have HO266 := n1_; have HO269 := n2_; have HO272 := n3_; have HO277 := n4_; have HO280 := n5_; have HO283 := n6_; have HO286 := n7_; have BK258 := n8_; have HB := n9_; have BK287 := n10_; have GW287 := n11_; have GE287 := n12_; have NB258_287 := n13_; have NB287_258 := n14_; clear n0_ n1_ n2_ n3_ n4_ n5_ n6_ n7_ n8_ n9_ n10_ n11_ n12_ n13_ n14_; clear hb hbox hg; have hnb55 := NB287_258.out; have hnc55 := NB258_287.out; obtain ⟨hcz56_0, hcz56_1, hcz56_2, hcz56_3, hcz56_4, hfz56_0, hfz56_1, hfz56_2, hfz56_3, hfz56_4⟩ := cs5_ BK287.out; obtain ⟨Ao57, co57, eo57⟩ := Kd.R_slice HO277.out; subst eo57; obtain ⟨Ao58, co58, eo58⟩ := Kd.R_slice HO280.out; subst eo58; obtain ⟨Ao59, co59, eo59⟩ := Kd.R_slice HO283.out; subst eo59; obtain ⟨Ao60, co60, eo60⟩ := Kd.R_slice HO286.out; subst eo60) | ((with_reducible refine gate_callee (f := 18) rfl ?_); refine goesL_ (some 18) rfl rfl Try.func18 (by kernel_rfl) rfl #[.agg #[.bool t274, .slice Ao57 t275.length co57, .slice Ao58 t278.length co58, .slice Ao59 t281.length co59, .slice Ao60 t284.length co60]] rfl z1_ ?_; (with_reducible refine (impl_TreeDepth.calls k t274 _ _ t275 _ _ t278 _ _ t281 _ _ t284 t288 _ ?side1 ?side2 ?side3 ?side4 ?side5 ?side6 ?side7 ?side8 A10.out).mono ?_); (case side1 => refine (Kd.R_reads' (e := 92) (base := w.heap.size) (ok := fun k_ => (True ∧ some k_ ≠ (.slice Ao47 t261.length co47 : Value).ownBlock)) (n := t275.length) (c := co57) ?_).2.2; exact (by (with_reducible repeat (first | apply Kd.R_alloc | apply Kd.R_drewN | apply Kd.R_drew)); exact (Kd.R_mono (Kd.R_far (p := ⟨gb287, 4, none⟩) (Kd.R_far (p := ⟨gb287, 3, none⟩) (Kd.R_far (p := ⟨gb287, 2, none⟩) (Kd.R_far (p := ⟨gb287, 1, none⟩) (Kd.R_far (p := ⟨gb287, 0, none⟩) (Kd.R_types HO277.out BK287.out (by decide)) (fun _ hk => hk.2) (.bool t274)) (fun _ hk => hk.2) (.slice Ao57 t275.length co57)) (fun _ hk => hk.2) (.slice Ao58 t278.length co58)) (fun _ hk => hk.2) (.slice Ao59 t281.length co59)) (fun _ hk => hk.2) (.slice Ao60 t284.length co60)) (fun _ h_ => h_.1)))); (case side2 => exact z201_); (case side3 => refine (Kd.R_reads' (e := 3) (base := w.heap.size) (ok := fun k_ => (True ∧ some k_ ≠ (.slice Ao48 t264.length co48 : Value).ownBlock)) (n := t278.length) (c := co58) ?_).2.2; exact (by (with_reducible repeat (first | apply Kd.R_alloc | apply Kd.R_drewN | apply Kd.R_drew)); exact (Kd.R_mono (Kd.R_far (p := ⟨gb287, 4, none⟩) (Kd.R_far (p := ⟨gb287, 3, none⟩) (Kd.R_far (p := ⟨gb287, 2, none⟩) (Kd.R_far (p := ⟨gb287, 1, none⟩) (Kd.R_far (p := ⟨gb287, 0, none⟩) (Kd.R_types HO280.out BK287.out (by decide)) (fun _ hk => hk.2) (.bool t274)) (fun _ hk => hk.2) (.slice Ao57 t275.length co57)) (fun _ hk => hk.2) (.slice Ao58 t278.length co58)) (fun _ hk => hk.2) (.slice Ao59 t281.length co59)) (fun _ hk => hk.2) (.slice Ao60 t284.length co60)) (fun _ h_ => h_.1)))); (case side4 => exact z202_); (case side5 => refine (Kd.R_reads' (e := 34) (base := w.heap.size) (ok := fun k_ => ((((((some k_ ≠ (.slice Ao57 t275.length co57 : Value).ownBlock ∧ (some k_ ≠ (.slice Ao58 t278.length co58 : Value).ownBlock ∧ some k_ ≠ (.slice Ao60 t284.length co60 : Value).ownBlock)) ∧ some k_ ≠ (.slice Ao47 t261.length co47 : Value).ownBlock) ∧ some k_ ≠ (.slice Ao48 t264.length co48 : Value).ownBlock) ∧ some k_ ≠ (.slice Ao49 t267.length co49 : Value).ownBlock) ∧ some k_ ≠ (.slice Ao50 t270.length co50 : Value).ownBlock) ∧ k_ ≠ gb287)) (n := t281.length) (c := co59) ?_).2.2; exact z42_); (case side6 => exact z203_); (case side7 => refine (Kd.R_reads' (e := 72) (base := w.heap.size) (ok := fun k_ => (True ∧ some k_ ≠ (.slice Ao50 t270.length co50 : Value).ownBlock)) (n := t284.length) (c := co60) ?_).2.2; exact (by (with_reducible repeat (first | apply Kd.R_alloc | apply Kd.R_drewN | apply Kd.R_drew)); exact (Kd.R_mono (Kd.R_far (p := ⟨gb287, 4, none⟩) (Kd.R_far (p := ⟨gb287, 3, none⟩) (Kd.R_far (p := ⟨gb287, 2, none⟩) (Kd.R_far (p := ⟨gb287, 1, none⟩) (Kd.R_far (p := ⟨gb287, 0, none⟩) (Kd.R_types HO286.out BK287.out (by decide)) (fun _ hk => hk.2) (.bool t274)) (fun _ hk => hk.2) (.slice Ao57 t275.length co57)) (fun _ hk => hk.2) (.slice Ao58 t278.length co58)) (fun _ hk => hk.2) (.slice Ao59 t281.length co59)) (fun _ hk => hk.2) (.slice Ao60 t284.length co60)) (fun _ h_ => h_.1)))); (case side8 => exact z204_); rintro e w61 ⟨rfl, hb⟩; refine ⟨_, rfl, ?_⟩; have n0_ := q_ (Kd.R_below (by (with_reducible repeat (first | apply Kd.R_alloc | apply Kd.R_drewN | apply Kd.R_drew)); exact (Kd.R_mono (Kd.R_far (p := ⟨gb287, 4, none⟩) (Kd.R_far (p := ⟨gb287, 3, none⟩) (Kd.R_far (p := ⟨gb287, 2, none⟩) (Kd.R_far (p := ⟨gb287, 1, none⟩) (Kd.R_far (p := ⟨gb287, 0, none⟩) (Kd.R_types HO263.out BK287.out (by decide)) (fun _ hk => hk.2) (.bool t274)) (fun _ hk => hk.2) (.slice Ao57 t275.length co57)) (fun _ hk => hk.2) (.slice Ao58 t278.length co58)) (fun _ hk => hk.2) (.slice Ao59 t281.length co59)) (fun _ hk => hk.2) (.slice Ao60 t284.length co60)) (fun _ h_ => h_.1))) hb); have n1_ := q_ (Kd.R_below (by (with_reducible repeat (first | apply Kd.R_alloc | apply Kd.R_drewN | apply Kd.R_drew)); exact (Kd.R_mono (Kd.R_far (p := ⟨gb287, 4, none⟩) (Kd.R_far (p := ⟨gb287, 3, none⟩) (Kd.R_far (p := ⟨gb287, 2, none⟩) (Kd.R_far (p := ⟨gb287, 1, none⟩) (Kd.R_far (p := ⟨gb287, 0, none⟩) (Kd.R_types HO266.out BK287.out (by decide)) (fun _ hk => hk.2) (.bool t274)) (fun _ hk => hk.2) (.slice Ao57 t275.length co57)) (fun _ hk => hk.2) (.slice Ao58 t278.length co58)) (fun _ hk => hk.2) (.slice Ao59 t281.length co59)) (fun _ hk => hk.2) (.slice Ao60 t284.length co60)) (fun _ h_ => h_.1))) hb); have n2_ := q_ (Kd.R_below (by (with_reducible repeat (first | apply Kd.R_alloc | apply Kd.R_drewN | apply Kd.R_drew)); exact (Kd.R_mono (Kd.R_far (p := ⟨gb287, 4, none⟩) (Kd.R_far (p := ⟨gb287, 3, none⟩) (Kd.R_far (p := ⟨gb287, 2, none⟩) (Kd.R_far (p := ⟨gb287, 1, none⟩) (Kd.R_far (p := ⟨gb287, 0, none⟩) (Kd.R_mono HO269.out (fun k_ hk => (⟨hk, hk.2⟩ : _ ∧ k_ ≠ gb287))) (fun _ hk => hk.2) (.bool t274)) (fun _ hk => hk.2) (.slice Ao57 t275.length co57)) (fun _ hk => hk.2) (.slice Ao58 t278.length co58)) (fun _ hk => hk.2) (.slice Ao59 t281.length co59)) (fun _ hk => hk.2) (.slice Ao60 t284.length co60)) (fun _ h_ => h_.1))) hb); have n3_ := q_ (Kd.R_below (by (with_reducible repeat (first | apply Kd.R_alloc | apply Kd.R_drewN | apply Kd.R_drew)); exact (Kd.R_mono (Kd.R_far (p := ⟨gb287, 4, none⟩) (Kd.R_far (p := ⟨gb287, 3, none⟩) (Kd.R_far (p := ⟨gb287, 2, none⟩) (Kd.R_far (p := ⟨gb287, 1, none⟩) (Kd.R_far (p := ⟨gb287, 0, none⟩) (Kd.R_types HO272.out BK287.out (by decide)) (fun _ hk => hk.2) (.bool t274)) (fun _ hk => hk.2) (.slice Ao57 t275.length co57)) (fun _ hk => hk.2) (.slice Ao58 t278.length co58)) (fun _ hk => hk.2) (.slice Ao59 t281.length co59)) (fun _ hk => hk.2) (.slice Ao60 t284.length co60)) (fun _ h_ => h_.1))) hb); have n4_ := q_ (Kd.R_below (by (with_reducible repeat (first | apply Kd.R_alloc | apply Kd.R_drewN | apply Kd.R_drew)); exact (Kd.R_mono (Kd.R_far (p := ⟨gb287, 4, none⟩) (Kd.R_far (p := ⟨gb287, 3, none⟩) (Kd.R_far (p := ⟨gb287, 2, none⟩) (Kd.R_far (p := ⟨gb287, 1, none⟩) (Kd.R_far (p := ⟨gb287, 0, none⟩) (Kd.R_types HO277.out BK287.out (by decide)) (fun _ hk => hk.2) (.bool t274)) (fun _ hk => hk.2) (.slice Ao57 t275.length co57)) (fun _ hk => hk.2) (.slice Ao58 t278.length co58)) (fun _ hk => hk.2) (.slice Ao59 t281.length co59)) (fun _ hk => hk.2) (.slice Ao60 t284.length co60)) (fun _ h_ => h_.1))) hb); have n5_ := q_ (Kd.R_below (by (with_reducible repeat (first | apply Kd.R_alloc | apply Kd.R_drewN | apply Kd.R_drew)); exact (Kd.R_mono (Kd.R_far (p := ⟨gb287, 4, none⟩) (Kd.R_far (p := ⟨gb287, 3, none⟩) (Kd.R_far (p := ⟨gb287, 2, none⟩) (Kd.R_far (p := ⟨gb287, 1, none⟩) (Kd.R_far (p := ⟨gb287, 0, none⟩) (Kd.R_types HO280.out BK287.out (by decide)) (fun _ hk => hk.2) (.bool t274)) (fun _ hk => hk.2) (.slice Ao57 t275.length co57)) (fun _ hk => hk.2) (.slice Ao58 t278.length co58)) (fun _ hk => hk.2) (.slice Ao59 t281.length co59)) (fun _ hk => hk.2) (.slice Ao60 t284.length co60)) (fun _ h_ => h_.1))) hb); have n6_ := q_ (Kd.R_below z42_ hb); have n7_ := q_ (Kd.R_below (by (with_reducible repeat (first | apply Kd.R_alloc | apply Kd.R_drewN | apply Kd.R_drew)); exact (Kd.R_mono (Kd.R_far (p := ⟨gb287, 4, none⟩) (Kd.R_far (p := ⟨gb287, 3, none⟩) (Kd.R_far (p := ⟨gb287, 2, none⟩) (Kd.R_far (p := ⟨gb287, 1, none⟩) (Kd.R_far (p := ⟨gb287, 0, none⟩) (Kd.R_types HO286.out BK287.out (by decide)) (fun _ hk => hk.2) (.bool t274)) (fun _ hk => hk.2) (.slice Ao57 t275.length co57)) (fun _ hk => hk.2) (.slice Ao58 t278.length co58)) (fun _ hk => hk.2) (.slice Ao59 t281.length co59)) (fun _ hk => hk.2) (.slice Ao60 t284.length co60)) (fun _ h_ => h_.1))) hb); have n8_ := q_ (blk_below (g := gb258) (o := .cells #[.bool a0_0, .slice A0_1 l0_1.length c0_1, .slice A0_2 l0_2.length c0_2, .slice A0_3 l0_3.length c0_3, .slice A0_4 l0_4.length c0_4] 27 (0, 0)) z33_ hb); have n9_ := q_ (blk_below (g := gb287) (o := .cells #[.bool t274, .slice Ao57 t275.length co57, .slice Ao58 t278.length co58, .slice Ao59 t281.length co59, .slice Ao60 t284.length co60] 34 (0, 0)) (by (with_reducible repeat (first | refine blk_drewN ?_ _ | refine blk_drew ?_ | refine blk_alloc ?_ _)); refine blk_put (cs := #[.bool t274, .slice Ao57 t275.length co57, .slice Ao58 t278.length co58, .slice Ao59 t281.length co59, .slice none 0 0]) ?_ 4 _ rfl; (with_reducible repeat (first | refine blk_drewN ?_ _ | refine blk_drew ?_ | refine blk_alloc ?_ _)); refine blk_put (cs := #[.bool t274, .slice Ao57 t275.length co57, .slice Ao58 t278.length co58, .slice none 0 0, .slice none 0 0]) ?_ 3 _ rfl; (with_reducible repeat (first | refine blk_drewN ?_ _ | refine blk_drew ?_ | refine blk_alloc ?_ _)); refine blk_put (cs := #[.bool t274, .slice Ao57 t275.length co57, .slice none 0 0, .slice none 0 0, .slice none 0 0]) ?_ 2 _ rfl; (with_reducible repeat (first | refine blk_drewN ?_ _ | refine blk_drew ?_ | refine blk_alloc ?_ _)); refine blk_put (cs := #[.bool t274, .slice none 0 0, .slice none 0 0, .slice none 0 0, .slice none 0 0]) ?_ 1 _ rfl; (with_reducible repeat (first | refine blk_drewN ?_ _ | refine blk_drew ?_ | refine blk_alloc ?_ _)); refine blk_put (cs := #[.bool false, .slice none 0 0, .slice none 0 0, .slice none 0 0, .slice none 0 0]) ?_ 0 _ rfl; (with_reducible repeat (first | refine blk_drewN ?_ _ | refine blk_drew ?_ | refine blk_alloc ?_ _)); exact BK287.out) hb); have n10_ := q_ (below_step z10_ hb); clear HO263; clear HO266; clear HO269; clear HO272; clear HO277; clear HO280; clear HO283; clear HO286; clear BK258; clear BK287; clear HB; have HO263 := n0_; have HO266 := n1_; have HO269 := n2_; have HO272 := n3_; have HO277 := n4_; have HO280 := n5_; have HO283 := n6_; have HO286 := n7_; have BK258 := n8_; have BK287 := n9_; have HB := n10_; clear n0_ n1_ n2_ n3_ n4_ n5_ n6_ n7_ n8_ n9_ n10_; (try clear hb); (try clear hb2); (try clear hk); (try clear hi)))
    have n0_ := q_ (Kd.R_drew HO263.out)
    have n1_ := q_ (Kd.R_drew HO266.out)
    have n2_ := q_ (Kd.R_drew HO269.out)
    have n3_ := q_ (Kd.R_drew HO272.out)
    have n4_ := q_ (Kd.R_drew HO277.out)
    have n5_ := q_ (Kd.R_drew HO280.out)
    have n6_ := q_ (Kd.R_drew HO283.out)
    have n7_ := q_ (Kd.R_drew HO286.out)
    have n8_ := q_ (blk_drew BK258.out)
    have n9_ := q_ (blk_drew BK287.out)
    have n10_ := q_ (below_drew1 HB.out)
    clear HO263
    clear HO266
    clear HO269
    clear HO272
    clear HO277
    clear HO280
    clear HO283
    clear HO286
    clear BK258
    clear BK287
    clear HB
    have HO263 := n0_
    have HO266 := n1_
    have HO269 := n2_
    have HO272 := n3_
    have HO277 := n4_
    have HO280 := n5_
    have HO283 := n6_
    have HO286 := n7_
    have BK258 := n8_
    have BK287 := n9_
    have HB := n10_
    clear n0_ n1_ n2_ n3_ n4_ n5_ n6_ n7_ n8_ n9_ n10_
    refine start_ (n := 5) (S := fun w' => w'.cell? ⟨gb287, 0, none⟩ = some (.bool t274) ∧ w'.cell? ⟨gb287, 1, none⟩ = some (.slice Ao57 t275.length co57) ∧ w'.cell? ⟨gb287, 2, none⟩ = some (.slice Ao58 t278.length co58) ∧ w'.cell? ⟨gb287, 3, none⟩ = some (.slice Ao59 t281.length co59) ∧ w'.cell? ⟨gb287, 4, none⟩ = some (.slice Ao60 t284.length co60) ∧ w'.cell? ⟨gb258, 0, none⟩ = some (.bool a0_0) ∧ w'.cell? ⟨gb258, 1, none⟩ = some (.slice A0_1 l0_1.length c0_1) ∧ w'.cell? ⟨gb258, 2, none⟩ = some (.slice A0_2 l0_2.length c0_2) ∧ w'.cell? ⟨gb258, 3, none⟩ = some (.slice A0_3 l0_3.length c0_3) ∧ w'.cell? ⟨gb258, 4, none⟩ = some (.slice A0_4 l0_4.length c0_4)) (ds := []) #[false, false, false, false, false] (by kernel_rfl) rfl rfl ⟨(blk_cell BK287.out 0).trans rfl, (blk_cell BK287.out 1).trans rfl, (blk_cell BK287.out 2).trans rfl, (blk_cell BK287.out 3).trans rfl, (blk_cell BK287.out 4).trans rfl, (blk_cell BK258.out 0).trans rfl, (blk_cell BK258.out 1).trans rfl, (blk_cell BK258.out 2).trans rfl, (blk_cell BK258.out 3).trans rfl, (blk_cell BK258.out 4).trans rfl⟩ (fun hHeld => ?_)
    generalize w61.drew = w62 at HO263 HO266 HO269 HO272 HO277 HO280 HO283 HO286 BK258 BK287 HB hHeld ⊢
    refine take_ (i := 0) (N := some 22) (v := ?_) (a' := ?_) #[true, false, false, false, false] rfl rfl (by kernel_rfl) (fun _ _ _ h => h) (Or.inl ⟨by rfl, ?_⟩) hHeld ?_ ?_
    rotate_left
    ·rintro w' ⟨s0, s1, s2, s3, s4, s5, s6, s7, s8, s9⟩
     go_simp
     with_reducible rfl
    rotate_left
    ·simp only [Act.put, List.setIfInBounds_toArray, List.set_cons_zero, List.set_cons_succ, i64_w, i32_w]
     rfl
    refine take_ (i := 1) (N := some 23) (v := ?_) (a' := ?_) #[true, true, false, false, false] rfl rfl (by kernel_rfl) (fun _ _ _ h => h) (Or.inl ⟨by rfl, ?_⟩) hHeld ?_ ?_
    rotate_left
    ·rintro w' ⟨s0, s1, s2, s3, s4, s5, s6, s7, s8, s9⟩
     go_simp
     with_reducible rfl
    rotate_left
    ·simp only [Act.put, List.setIfInBounds_toArray, List.set_cons_zero, List.set_cons_succ, i64_w, i32_w]
     rfl
    refine one_ (i := 2) (N := some 24) #[true, true, true, false, false] rfl rfl (by kernel_rfl) (by decide) (fun K hK => ?_)
    refine goes_ Try.func17 (by kernel_rfl) rfl #[.agg #[.bool a0_0, .slice A0_1 l0_1.length c0_1, .slice A0_2 l0_2.length c0_2, .slice A0_3 l0_3.length c0_3, .slice A0_4 l0_4.length c0_4]] (by rfl) rfl rfl z1_ ?_
    with_reducible refine (laws_toTree.calls k a0_0 _ _ l0_1 _ _ l0_2 _ _ l0_3 _ _ l0_4 t289 t290 t293 t296 t299 _ ?side1 ?side2 ?side3 ?side4 ?side5 ?side6 ?side7 ?side8 A12.out).mono ?_
    (case side1 => exact z139_)
    (case side2 => exact z156_)
    (case side3 => exact z142_)
    (case side4 => exact z162_)
    (case side5 => exact z143_)
    (case side6 => exact z163_)
    (case side7 => exact z141_)
    (case side8 => exact z164_)
    rintro e w63 ⟨v291, v294, v297, v300, rfl, ho0, ho1, ho2, ho3, hb⟩
    refine ⟨_, rfl, ?_⟩
    have n0_ := q_ (Kd.R_elder' z18_ (Kd.R_base ho0) hb)
    have n1_ := q_ (Kd.R_elder' z19_ (Kd.R_base ho1) hb)
    have n2_ := q_ (Kd.R_mono (Kd.R_told (Kd.R_told (Kd.R_told (Kd.R_told (Kd.R_old z26_ hb) (Kd.R_base ho0)) (Kd.R_base ho1)) (Kd.R_base ho2)) (Kd.R_base ho3)) (fun _ h_ => h_.1))
    have n3_ := q_ (Kd.R_elder' z20_ (Kd.R_base ho3) hb)
    have n4_ := q_ (Kd.R_elder' z47_ (Kd.R_base ho0) hb)
    have n5_ := q_ (Kd.R_elder' z48_ (Kd.R_base ho1) hb)
    have n6_ := q_ (Kd.R_mono (Kd.R_told (Kd.R_told (Kd.R_told (Kd.R_told (Kd.R_old z54_ hb) (Kd.R_base ho0)) (Kd.R_base ho1)) (Kd.R_base ho2)) (Kd.R_base ho3)) (fun _ h_ => h_.1))
    have n7_ := q_ (Kd.R_elder' z49_ (Kd.R_base ho3) hb)
    have n8_ := q_ (Kd.R_lower (Kd.R_new' (Kd.R_new' ho0 (Kd.R_lt z18_)) (Kd.R_lt z47_)) (below_size z10_))
    have n9_ := q_ (Kd.R_lower (Kd.R_new' (Kd.R_new' ho1 (Kd.R_lt z19_)) (Kd.R_lt z48_)) (below_size z10_))
    have n10_ := q_ (Kd.R_lower (Kd.R_newB (Kd.R_new' (Kd.R_new' (Kd.R_new' (Kd.R_new' (Kd.R_new' (Kd.R_new' (Kd.R_new' (Kd.R_new' ho2 (Kd.R_lt z18_)) (Kd.R_lt z19_)) (Kd.R_lt z26_)) (Kd.R_lt z20_)) (Kd.R_lt z47_)) (Kd.R_lt z48_)) (Kd.R_lt z54_)) (Kd.R_lt z49_)) (g := gb287) (o := .cells #[.bool t274, .slice Ao57 t275.length co57, .slice Ao58 t278.length co58, .slice Ao59 t281.length co59, .slice Ao60 t284.length co60] 34 (0, 0)) z67_) (below_size z10_))
    have n11_ := q_ (Kd.R_lower (Kd.R_new' (Kd.R_new' ho3 (Kd.R_lt z20_)) (Kd.R_lt z49_)) (below_size z10_))
    have n12_ := q_ (blk_below (g := gb258) (o := .cells #[.bool a0_0, .slice A0_1 l0_1.length c0_1, .slice A0_2 l0_2.length c0_2, .slice A0_3 l0_3.length c0_3, .slice A0_4 l0_4.length c0_4] 27 (0, 0)) z17_ hb)
    have n13_ := q_ (blk_below (g := gb287) (o := .cells #[.bool t274, .slice Ao57 t275.length co57, .slice Ao58 t278.length co58, .slice Ao59 t281.length co59, .slice Ao60 t284.length co60] 34 (0, 0)) z67_ hb)
    have n14_ := q_ (below_step z10_ hb)
    clear HO263
    clear HO266
    clear HO269
    clear HO272
    clear HO277
    clear HO280
    clear HO283
    clear HO286
    clear BK258
    clear BK287
    clear HB
    have HO263 := n0_
    have HO266 := n1_
    have HO269 := n2_
    have HO272 := n3_
    have HO277 := n4_
    have HO280 := n5_
    have HO283 := n6_
    have HO286 := n7_
    have HO292 := n8_
    have HO295 := n9_
    have HO298 := n10_
    have HO301 := n11_
    have BK258 := n12_
    have BK287 := n13_
    have HB := n14_
    clear n0_ n1_ n2_ n3_ n4_ n5_ n6_ n7_ n8_ n9_ n10_ n11_ n12_ n13_ n14_
    (try clear hb)
    (try clear hb2)
    (try clear hk)
    (try clear hi)
    (try clear ho0)
    (try clear ho1)
    (try clear ho2)
    (try clear ho3)
    obtain ⟨Ao64, co64, eo64⟩ := Kd.R_slice HO292.out
    (first | subst eo64 | (injection eo64 with f1_ f2_ f3_; have f4_ := f1_.symm; have f5_ := f3_.symm; clear f1_ f2_ f3_; subst f4_; subst f5_))
    obtain ⟨Ao65, co65, eo65⟩ := Kd.R_slice HO295.out
    (first | subst eo65 | (injection eo65 with f1_ f2_ f3_; have f4_ := f1_.symm; have f5_ := f3_.symm; clear f1_ f2_ f3_; subst f4_; subst f5_))
    obtain ⟨Ao66, co66, eo66⟩ := Kd.R_slice HO298.out
    (first | subst eo66 | (injection eo66 with f1_ f2_ f3_; have f4_ := f1_.symm; have f5_ := f3_.symm; clear f1_ f2_ f3_; subst f4_; subst f5_))
    obtain ⟨Ao67, co67, eo67⟩ := Kd.R_slice HO301.out
    (first | subst eo67 | (injection eo67 with f1_ f2_ f3_; have f4_ := f1_.symm; have f5_ := f3_.symm; clear f1_ f2_ f3_; subst f4_; subst f5_))
    refine hK.out _ _ ⟨(blk_cell BK287.out 0).trans rfl, (blk_cell BK287.out 1).trans rfl, (blk_cell BK287.out 2).trans rfl, (blk_cell BK287.out 3).trans rfl, (blk_cell BK287.out 4).trans rfl, (blk_cell BK258.out 0).trans rfl, (blk_cell BK258.out 1).trans rfl, (blk_cell BK258.out 2).trans rfl, (blk_cell BK258.out 3).trans rfl, (blk_cell BK258.out 4).trans rfl⟩ (fun hHeld => ?_)
    clear hK K
    refine norm_ (a' := ?_) ?_ ?_
    rotate_left
    ·show Act.put _ (some 24) _ = _
     simp only [Act.put, List.setIfInBounds_toArray, List.set_cons_zero, List.set_cons_succ, i64_w, i32_w]
     rfl
    refine one_ (i := 3) (N := some 25) #[true, true, true, true, false] rfl rfl (by kernel_rfl) (by decide) (fun K hK => ?_)
    refine goes_ Try.func19 (by kernel_rfl) rfl #[.agg #[.bool t274, .slice Ao57 t275.length co57, .slice Ao58 t278.length co58, .slice Ao59 t281.length co59, .slice Ao60 t284.length co60], .agg #[.bool t289, .slice Ao64 t290.length co64, .slice Ao65 t293.length co65, .slice Ao66 t296.length co66, .slice Ao67 t299.length co67]] (by rfl) rfl rfl z1_ ?_
    with_reducible refine (laws_eqTree.calls k t274 _ _ t275 _ _ t278 _ _ t281 _ _ t284 t289 _ _ t290 _ _ t293 _ _ t296 _ _ t299 false _ ?side1 ?side2 ?side3 ?side4 ?side5 ?side6 ?side7 ?side8 ?side9 ?side10 ?side11 ?side12 ?side13 ?side14 ?side15 ?side16 A13.out).mono ?_
    (case side1 => exact z189_)
    (case side2 => exact z201_)
    (case side3 => exact z190_)
    (case side4 => exact z202_)
    (case side5 => exact z191_)
    (case side6 => exact z203_)
    (case side7 => exact z192_)
    (case side8 => exact z204_)
    (case side9 => exact z193_)
    (case side10 => exact (Kd.R_reads' HO292.out).2.1)
    (case side11 => exact z194_)
    (case side12 => exact (Kd.R_reads' HO295.out).2.1)
    (case side13 => exact z195_)
    (case side14 => exact (Kd.R_reads' HO298.out).2.1)
    (case side15 => exact z196_)
    (case side16 => exact (Kd.R_reads' HO301.out).2.1)
    rintro e w68 ⟨rfl, hb⟩
    refine ⟨_, rfl, ?_⟩
    have n0_ := q_ (Kd.R_below z18_ hb)
    have n1_ := q_ (Kd.R_below z19_ hb)
    have n2_ := q_ (Kd.R_below z26_ hb)
    have n3_ := q_ (Kd.R_below z20_ hb)
    have n4_ := q_ (Kd.R_below z47_ hb)
    have n5_ := q_ (Kd.R_below z48_ hb)
    have n6_ := q_ (Kd.R_below z54_ hb)
    have n7_ := q_ (Kd.R_below z49_ hb)
    have n8_ := q_ (Kd.R_below z96_ hb)
    have n9_ := q_ (Kd.R_below z97_ hb)
    have n10_ := q_ (Kd.R_below z98_ hb)
    have n11_ := q_ (Kd.R_below z99_ hb)
    have n12_ := q_ (blk_below (g := gb258) (o := .cells #[.bool a0_0, .slice A0_1 l0_1.length c0_1, .slice A0_2 l0_2.length c0_2, .slice A0_3 l0_3.length c0_3, .slice A0_4 l0_4.length c0_4] 27 (0, 0)) z17_ hb)
    have n13_ := q_ (blk_below (g := gb287) (o := .cells #[.bool t274, .slice Ao57 t275.length co57, .slice Ao58 t278.length co58, .slice Ao59 t281.length co59, .slice Ao60 t284.length co60] 34 (0, 0)) z67_ hb)
    have n14_ := q_ (below_step z10_ hb)
    clear HO263
    clear HO266
    clear HO269
    clear HO272
    clear HO277
    clear HO280
    clear HO283
    clear HO286
    clear HO292
    clear HO295
    clear HO298
    clear HO301
    clear BK258
    clear BK287
    clear HB
    have HO263 := n0_
    have HO266 := n1_
    have HO269 := n2_
    have HO272 := n3_
    have HO277 := n4_
    have HO280 := n5_
    have HO283 := n6_
    have HO286 := n7_
    have HO292 := n8_
    have HO295 := n9_
    have HO298 := n10_
    have HO301 := n11_
    have BK258 := n12_
    have BK287 := n13_
    have HB := n14_
    clear n0_ n1_ n2_ n3_ n4_ n5_ n6_ n7_ n8_ n9_ n10_ n11_ n12_ n13_ n14_
    (try clear hb)
    (try clear hb2)
    (try clear hk)
    (try clear hi)
    refine hK.out _ _ ⟨(blk_cell BK287.out 0).trans rfl, (blk_cell BK287.out 1).trans rfl, (blk_cell BK287.out 2).trans rfl, (blk_cell BK287.out 3).trans rfl, (blk_cell BK287.out 4).trans rfl, (blk_cell BK258.out 0).trans rfl, (blk_cell BK258.out 1).trans rfl, (blk_cell BK258.out 2).trans rfl, (blk_cell BK258.out 3).trans rfl, (blk_cell BK258.out 4).trans rfl⟩ (fun hHeld => ?_)
    clear hK K
    refine norm_ (a' := ?_) ?_ ?_
    rotate_left
    ·show Act.put _ (some 25) _ = _
     simp only [Act.put, List.setIfInBounds_toArray, List.set_cons_zero, List.set_cons_succ, i64_w, i32_w]
     rfl
    refine pure_ (i := 4) (N := some 26) (v := ?_) (a' := ?_) #[true, true, true, true, true] rfl rfl (by kernel_rfl) (fun _ _ _ h => h) (Or.inl ⟨by rfl, ?_⟩) ?_ ?_
    rotate_left
    ·intro w'
     go_simp
     with_reducible rfl
    rotate_left
    ·simp only [Act.put, List.setIfInBounds_toArray, List.set_cons_zero, List.set_cons_succ, i64_w, i32_w]
     rfl
    refine done_ (by kernel_rfl) ?_
    try go_wp2
    go_ret
    exact ⟨z2_, z10_⟩
  ·rw [if_neg c11] at H
   have c11b0 : (t288 == t273) = false := beq_eq_false_iff_ne.mpr c11
   have c11b1 : (t288 != t273) = true := bne_iff_ne.mpr c11
   obtain rfl := Option.some.inj H
   go_enter Try.func3, Try.ntmps3
   go_wp2_with (first | ((with_reducible refine gate_dst (N := 1) rfl ?_); refine box_event ?hg (N := 1) ?hd (cs := #[.bool a0_0, .slice A0_1 l0_1.length c0_1, .slice A0_2 l0_2.length c0_2, .slice A0_3 l0_3.length c0_3, .slice A0_4 l0_4.length c0_4]) (t := 27) ?hr ?_; (case hd => rfl); (case hg => rfl); (case hr => exact z140_); intro gb258 hg w69 hbox hb; have n0_ := q_ (below_step z0_ hb); have n1_ := q_ (hbox); have n2_ := q_ ((z103_ : w.heap.size ≤ gb258)); have n3_ := q_ ((z103_ : w.heap.size ≤ gb258)); clear HB; have HB := n0_; have BK258 := n1_; have GW258 := n2_; have GE258 := n3_; clear n0_ n1_ n2_ n3_; clear hb hbox hg; obtain ⟨hcz70_0, hcz70_1, hcz70_2, hcz70_3, hcz70_4, hfz70_0, hfz70_1, hfz70_2, hfz70_3, hfz70_4⟩ := cs5_ BK258.out) | ((with_reducible refine gate_callee (f := 15) rfl ?_); refine goesL_ (some 9) rfl rfl Try.func15 (by kernel_rfl) rfl #[.agg #[.bool a0_0, .slice A0_1 l0_1.length c0_1, .slice A0_2 l0_2.length c0_2, .slice A0_3 l0_3.length c0_3, .slice A0_4 l0_4.length c0_4], .int .i64 1048576] rfl z1_ ?_; (with_reducible refine (laws_szTree.calls k a0_0 _ _ l0_1 _ _ l0_2 _ _ l0_3 _ _ l0_4 1048576 t259 _ ?side1 ?side2 ?side3 ?side4 ?side5 ?side6 ?side7 ?side8 A2.out).mono ?_); (case side1 => exact z139_); (case side2 => exact z156_); (case side3 => exact z142_); (case side4 => exact z162_); (case side5 => exact z143_); (case side6 => exact z163_); (case side7 => exact z141_); (case side8 => exact z164_); rintro e w71 ⟨rfl, hb⟩; refine ⟨_, rfl, ?_⟩; have n0_ := q_ (blk_below (g := gb258) (o := .cells #[.bool a0_0, .slice A0_1 l0_1.length c0_1, .slice A0_2 l0_2.length c0_2, .slice A0_3 l0_3.length c0_3, .slice A0_4 l0_4.length c0_4] 27 (0, 0)) z17_ hb); have n1_ := q_ (below_step z5_ hb); clear BK258; clear HB; have BK258 := n0_; have HB := n1_; clear n0_ n1_; (try clear hb); (try clear hb2); (try clear hk); (try clear hi); obtain ⟨hcz72_0, hcz72_1, hcz72_2, hcz72_3, hcz72_4, hfz72_0, hfz72_1, hfz72_2, hfz72_3, hfz72_4⟩ := cs5_ BK258.out) | ((with_reducible refine gate_callee (f := 17) rfl ?_); refine goesL_ (some 13) rfl rfl Try.func17 (by kernel_rfl) rfl #[.agg #[.bool a0_0, .slice A0_1 l0_1.length c0_1, .slice A0_2 l0_2.length c0_2, .slice A0_3 l0_3.length c0_3, .slice A0_4 l0_4.length c0_4]] rfl z1_ ?_; (with_reducible refine (laws_toTree.calls k a0_0 _ _ l0_1 _ _ l0_2 _ _ l0_3 _ _ l0_4 t260 t261 t264 t267 t270 _ ?side1 ?side2 ?side3 ?side4 ?side5 ?side6 ?side7 ?side8 A7.out).mono ?_); (case side1 => exact z139_); (case side2 => exact z156_); (case side3 => exact z142_); (case side4 => exact z162_); (case side5 => exact z143_); (case side6 => exact z163_); (case side7 => exact z141_); (case side8 => exact z164_); rintro e w73 ⟨v262, v265, v268, v271, rfl, ho0, ho1, ho2, ho3, hb⟩; refine ⟨_, rfl, ?_⟩; have n0_ := q_ (Kd.R_lower ho0 (below_size z5_)); have n1_ := q_ (Kd.R_lower ho1 (below_size z5_)); have n2_ := q_ (Kd.R_lower ho2 (below_size z5_)); have n3_ := q_ (Kd.R_lower ho3 (below_size z5_)); have n4_ := q_ (blk_below (g := gb258) (o := .cells #[.bool a0_0, .slice A0_1 l0_1.length c0_1, .slice A0_2 l0_2.length c0_2, .slice A0_3 l0_3.length c0_3, .slice A0_4 l0_4.length c0_4] 27 (0, 0)) z17_ hb); have n5_ := q_ (below_step z5_ hb); clear BK258; clear HB; have HO263 := n0_; have HO266 := n1_; have HO269 := n2_; have HO272 := n3_; have BK258 := n4_; have HB := n5_; clear n0_ n1_ n2_ n3_ n4_ n5_; (try clear hb); (try clear hb2); (try clear hk); (try clear hi); (try clear ho0); (try clear ho1); (try clear ho2); (try clear ho3); obtain ⟨Ao74, co74, eo74⟩ := Kd.R_slice HO263.out; subst eo74; obtain ⟨Ao75, co75, eo75⟩ := Kd.R_slice HO266.out; subst eo75; obtain ⟨Ao76, co76, eo76⟩ := Kd.R_slice HO269.out; subst eo76; obtain ⟨Ao77, co77, eo77⟩ := Kd.R_slice HO272.out; subst eo77) | ((with_reducible refine gate_callee (f := 16) rfl ?_); refine goesL_ (some 14) rfl rfl Try.func16 (by kernel_rfl) rfl #[.agg #[.bool t260, .slice Ao74 t261.length co74, .slice Ao75 t264.length co75, .slice Ao76 t267.length co76, .slice Ao77 t270.length co77]] rfl z1_ ?_; (with_reducible refine (spec_TreeDepth.calls k t260 _ _ t261 _ _ t264 _ _ t267 _ _ t270 t273 _ ?side1 ?side2 ?side3 ?side4 ?side5 ?side6 ?side7 ?side8 A8.out).mono ?_); (case side1 => exact z158_); (case side2 => exact (Kd.R_reads' HO263.out).2.1); (case side3 => exact z159_); (case side4 => exact (Kd.R_reads' HO266.out).2.1); (case side5 => exact z160_); (case side6 => exact (Kd.R_reads' HO269.out).2.1); (case side7 => exact z161_); (case side8 => exact (Kd.R_reads' HO272.out).2.1); rintro e w78 ⟨rfl, hb⟩; refine ⟨_, rfl, ?_⟩; have n0_ := q_ (Kd.R_below z18_ hb); have n1_ := q_ (Kd.R_below z19_ hb); have n2_ := q_ (Kd.R_below z26_ hb); have n3_ := q_ (Kd.R_below z20_ hb); have n4_ := q_ (blk_below (g := gb258) (o := .cells #[.bool a0_0, .slice A0_1 l0_1.length c0_1, .slice A0_2 l0_2.length c0_2, .slice A0_3 l0_3.length c0_3, .slice A0_4 l0_4.length c0_4] 27 (0, 0)) z17_ hb); have n5_ := q_ (below_step z5_ hb); clear HO263; clear HO266; clear HO269; clear HO272; clear BK258; clear HB; have HO263 := n0_; have HO266 := n1_; have HO269 := n2_; have HO272 := n3_; have BK258 := n4_; have HB := n5_; clear n0_ n1_ n2_ n3_ n4_ n5_; (try clear hb); (try clear hb2); (try clear hk); (try clear hi); obtain ⟨hcz79_0, hcz79_1, hcz79_2, hcz79_3, hcz79_4, hfz79_0, hfz79_1, hfz79_2, hfz79_3, hfz79_4⟩ := cs5_ BK258.out) | ((with_reducible refine gate_callee (f := 17) rfl ?_); refine goesL_ (some 16) rfl rfl Try.func17 (by kernel_rfl) rfl #[.agg #[.bool a0_0, .slice A0_1 l0_1.length c0_1, .slice A0_2 l0_2.length c0_2, .slice A0_3 l0_3.length c0_3, .slice A0_4 l0_4.length c0_4]] rfl z1_ ?_; (with_reducible refine (laws_toTree.calls k a0_0 _ _ l0_1 _ _ l0_2 _ _ l0_3 _ _ l0_4 t274 t275 t278 t281 t284 _ ?side1 ?side2 ?side3 ?side4 ?side5 ?side6 ?side7 ?side8 A9.out).mono ?_); (case side1 => exact z139_); (case side2 => exact z156_); (case side3 => exact z142_); (case side4 => exact z162_); (case side5 => exact z143_); (case side6 => exact z163_); (case side7 => exact z141_); (case side8 => exact z164_); rintro e w80 ⟨v276, v279, v282, v285, rfl, ho0, ho1, ho2, ho3, hb⟩; refine ⟨_, rfl, ?_⟩; have n0_ := q_ (Kd.R_elder' z18_ (Kd.R_base ho0) hb); have n1_ := q_ (Kd.R_elder' z19_ (Kd.R_base ho1) hb); have n2_ := q_ (Kd.R_mono (Kd.R_told (Kd.R_told (Kd.R_told (Kd.R_told (Kd.R_old z26_ hb) (Kd.R_base ho0)) (Kd.R_base ho1)) (Kd.R_base ho2)) (Kd.R_base ho3)) (fun _ h_ => h_.1)); have n3_ := q_ (Kd.R_elder' z20_ (Kd.R_base ho3) hb); have n4_ := q_ (Kd.R_lower (Kd.R_new' ho0 (Kd.R_lt z18_)) (below_size z0_)); have n5_ := q_ (Kd.R_lower (Kd.R_new' ho1 (Kd.R_lt z19_)) (below_size z0_)); have n6_ := q_ (Kd.R_lower (Kd.R_new' (Kd.R_new' (Kd.R_new' (Kd.R_new' ho2 (Kd.R_lt z18_)) (Kd.R_lt z19_)) (Kd.R_lt z26_)) (Kd.R_lt z20_)) (below_size z0_)); have n7_ := q_ (Kd.R_lower (Kd.R_new' ho3 (Kd.R_lt z20_)) (below_size z0_)); have n8_ := q_ (below_step z0_ hb); clear HO263; clear HO266; clear HO269; clear HO272; clear HB; have HO263 := n0_; have HO266 := n1_; have HO269 := n2_; have HO272 := n3_; have HO277 := n4_; have HO280 := n5_; have HO283 := n6_; have HO286 := n7_; have HB := n8_; clear n0_ n1_ n2_ n3_ n4_ n5_ n6_ n7_ n8_; (try clear hb); (try clear hb2); (try clear hk); (try clear hi); (try clear ho0); (try clear ho1); (try clear ho2); (try clear ho3)) | ((with_reducible refine gate_dst (N := 5) rfl ?_); refine box_event ?hg (N := 5) ?hd (cs := #[.bool false, .slice none 0 0, .slice none 0 0, .slice none 0 0, .slice none 0 0]) (t := 34) ?hr ?_; (case hd => rfl); (case hg => rfl); (case hr => exact z140_); intro gb287 hg w81 hbox hb; have n0_ := q_ (Kd.R_below z18_ hb); have n1_ := q_ (Kd.R_below z19_ hb); have n2_ := q_ (Kd.R_below (Kd.R_elderB z26_ gb287 (Nat.le_of_eq hg.symm)) hb); have n3_ := q_ (Kd.R_below z20_ hb); have n4_ := q_ (Kd.R_below z47_ hb); have n5_ := q_ (Kd.R_below z48_ hb); have n6_ := q_ (Kd.R_below (Kd.R_elderB z54_ gb287 (Nat.le_of_eq hg.symm)) hb); have n7_ := q_ (Kd.R_below z49_ hb); have n8_ := q_ (below_step z0_ hb); have n9_ := q_ (hbox); have n10_ := q_ ((z103_ : w.heap.size ≤ gb287)); have n11_ := q_ ((z103_ : w.heap.size ≤ gb287)); clear HO263; clear HO266; clear HO269; clear HO272; clear HO277; clear HO280; clear HO283; clear HO286; clear HB; have HO263 := n0_; have HO266 := n1_; have HO269 := n2_; have HO272 := n3_; have HO277 := n4_; have HO280 := n5_; have HO283 := n6_; have HO286 := n7_; have HB := n8_; have BK287 := n9_; have GW287 := n10_; have GE287 := n11_; clear n0_ n1_ n2_ n3_ n4_ n5_ n6_ n7_ n8_ n9_ n10_ n11_; clear hb hbox hg; obtain ⟨hcz82_0, hcz82_1, hcz82_2, hcz82_3, hcz82_4, hfz82_0, hfz82_1, hfz82_2, hfz82_3, hfz82_4⟩ := cs5_ BK287.out; obtain ⟨Ao83, co83, eo83⟩ := Kd.R_slice HO277.out; subst eo83; obtain ⟨Ao84, co84, eo84⟩ := Kd.R_slice HO280.out; subst eo84; obtain ⟨Ao85, co85, eo85⟩ := Kd.R_slice HO283.out; subst eo85; obtain ⟨Ao86, co86, eo86⟩ := Kd.R_slice HO286.out; subst eo86) | ((with_reducible refine gate_callee (f := 18) rfl ?_); refine goesL_ (some 18) rfl rfl Try.func18 (by kernel_rfl) rfl #[.agg #[.bool t274, .slice Ao83 t275.length co83, .slice Ao84 t278.length co84, .slice Ao85 t281.length co85, .slice Ao86 t284.length co86]] rfl z1_ ?_; (with_reducible refine (impl_TreeDepth.calls k t274 _ _ t275 _ _ t278 _ _ t281 _ _ t284 t288 _ ?side1 ?side2 ?side3 ?side4 ?side5 ?side6 ?side7 ?side8 A10.out).mono ?_); (case side1 => refine (Kd.R_reads' (e := 92) (base := w.heap.size) (ok := fun k_ => (True ∧ some k_ ≠ (.slice Ao74 t261.length co74 : Value).ownBlock)) (n := t275.length) (c := co83) ?_).2.2; exact (by (with_reducible repeat (first | apply Kd.R_alloc | apply Kd.R_drewN | apply Kd.R_drew)); exact (Kd.R_mono (Kd.R_far (p := ⟨gb287, 4, none⟩) (Kd.R_far (p := ⟨gb287, 3, none⟩) (Kd.R_far (p := ⟨gb287, 2, none⟩) (Kd.R_far (p := ⟨gb287, 1, none⟩) (Kd.R_far (p := ⟨gb287, 0, none⟩) (Kd.R_types HO277.out BK287.out (by decide)) (fun _ hk => hk.2) (.bool t274)) (fun _ hk => hk.2) (.slice Ao83 t275.length co83)) (fun _ hk => hk.2) (.slice Ao84 t278.length co84)) (fun _ hk => hk.2) (.slice Ao85 t281.length co85)) (fun _ hk => hk.2) (.slice Ao86 t284.length co86)) (fun _ h_ => h_.1)))); (case side2 => exact z201_); (case side3 => refine (Kd.R_reads' (e := 3) (base := w.heap.size) (ok := fun k_ => (True ∧ some k_ ≠ (.slice Ao75 t264.length co75 : Value).ownBlock)) (n := t278.length) (c := co84) ?_).2.2; exact (by (with_reducible repeat (first | apply Kd.R_alloc | apply Kd.R_drewN | apply Kd.R_drew)); exact (Kd.R_mono (Kd.R_far (p := ⟨gb287, 4, none⟩) (Kd.R_far (p := ⟨gb287, 3, none⟩) (Kd.R_far (p := ⟨gb287, 2, none⟩) (Kd.R_far (p := ⟨gb287, 1, none⟩) (Kd.R_far (p := ⟨gb287, 0, none⟩) (Kd.R_types HO280.out BK287.out (by decide)) (fun _ hk => hk.2) (.bool t274)) (fun _ hk => hk.2) (.slice Ao83 t275.length co83)) (fun _ hk => hk.2) (.slice Ao84 t278.length co84)) (fun _ hk => hk.2) (.slice Ao85 t281.length co85)) (fun _ hk => hk.2) (.slice Ao86 t284.length co86)) (fun _ h_ => h_.1)))); (case side4 => exact z202_); (case side5 => refine (Kd.R_reads' (e := 34) (base := w.heap.size) (ok := fun k_ => ((((((some k_ ≠ (.slice Ao83 t275.length co83 : Value).ownBlock ∧ (some k_ ≠ (.slice Ao84 t278.length co84 : Value).ownBlock ∧ some k_ ≠ (.slice Ao86 t284.length co86 : Value).ownBlock)) ∧ some k_ ≠ (.slice Ao74 t261.length co74 : Value).ownBlock) ∧ some k_ ≠ (.slice Ao75 t264.length co75 : Value).ownBlock) ∧ some k_ ≠ (.slice Ao76 t267.length co76 : Value).ownBlock) ∧ some k_ ≠ (.slice Ao77 t270.length co77 : Value).ownBlock) ∧ k_ ≠ gb287)) (n := t281.length) (c := co85) ?_).2.2; exact z43_); (case side6 => exact z203_); (case side7 => refine (Kd.R_reads' (e := 72) (base := w.heap.size) (ok := fun k_ => (True ∧ some k_ ≠ (.slice Ao77 t270.length co77 : Value).ownBlock)) (n := t284.length) (c := co86) ?_).2.2; exact (by (with_reducible repeat (first | apply Kd.R_alloc | apply Kd.R_drewN | apply Kd.R_drew)); exact (Kd.R_mono (Kd.R_far (p := ⟨gb287, 4, none⟩) (Kd.R_far (p := ⟨gb287, 3, none⟩) (Kd.R_far (p := ⟨gb287, 2, none⟩) (Kd.R_far (p := ⟨gb287, 1, none⟩) (Kd.R_far (p := ⟨gb287, 0, none⟩) (Kd.R_types HO286.out BK287.out (by decide)) (fun _ hk => hk.2) (.bool t274)) (fun _ hk => hk.2) (.slice Ao83 t275.length co83)) (fun _ hk => hk.2) (.slice Ao84 t278.length co84)) (fun _ hk => hk.2) (.slice Ao85 t281.length co85)) (fun _ hk => hk.2) (.slice Ao86 t284.length co86)) (fun _ h_ => h_.1)))); (case side8 => exact z204_); rintro e w87 ⟨rfl, hb⟩; refine ⟨_, rfl, ?_⟩; have n0_ := q_ (Kd.R_below (by (with_reducible repeat (first | apply Kd.R_alloc | apply Kd.R_drewN | apply Kd.R_drew)); exact (Kd.R_mono (Kd.R_far (p := ⟨gb287, 4, none⟩) (Kd.R_far (p := ⟨gb287, 3, none⟩) (Kd.R_far (p := ⟨gb287, 2, none⟩) (Kd.R_far (p := ⟨gb287, 1, none⟩) (Kd.R_far (p := ⟨gb287, 0, none⟩) (Kd.R_types HO263.out BK287.out (by decide)) (fun _ hk => hk.2) (.bool t274)) (fun _ hk => hk.2) (.slice Ao83 t275.length co83)) (fun _ hk => hk.2) (.slice Ao84 t278.length co84)) (fun _ hk => hk.2) (.slice Ao85 t281.length co85)) (fun _ hk => hk.2) (.slice Ao86 t284.length co86)) (fun _ h_ => h_.1))) hb); have n1_ := q_ (Kd.R_below (by (with_reducible repeat (first | apply Kd.R_alloc | apply Kd.R_drewN | apply Kd.R_drew)); exact (Kd.R_mono (Kd.R_far (p := ⟨gb287, 4, none⟩) (Kd.R_far (p := ⟨gb287, 3, none⟩) (Kd.R_far (p := ⟨gb287, 2, none⟩) (Kd.R_far (p := ⟨gb287, 1, none⟩) (Kd.R_far (p := ⟨gb287, 0, none⟩) (Kd.R_types HO266.out BK287.out (by decide)) (fun _ hk => hk.2) (.bool t274)) (fun _ hk => hk.2) (.slice Ao83 t275.length co83)) (fun _ hk => hk.2) (.slice Ao84 t278.length co84)) (fun _ hk => hk.2) (.slice Ao85 t281.length co85)) (fun _ hk => hk.2) (.slice Ao86 t284.length co86)) (fun _ h_ => h_.1))) hb); have n2_ := q_ (Kd.R_below (by (with_reducible repeat (first | apply Kd.R_alloc | apply Kd.R_drewN | apply Kd.R_drew)); exact (Kd.R_mono (Kd.R_far (p := ⟨gb287, 4, none⟩) (Kd.R_far (p := ⟨gb287, 3, none⟩) (Kd.R_far (p := ⟨gb287, 2, none⟩) (Kd.R_far (p := ⟨gb287, 1, none⟩) (Kd.R_far (p := ⟨gb287, 0, none⟩) (Kd.R_mono HO269.out (fun k_ hk => (⟨hk, hk.2⟩ : _ ∧ k_ ≠ gb287))) (fun _ hk => hk.2) (.bool t274)) (fun _ hk => hk.2) (.slice Ao83 t275.length co83)) (fun _ hk => hk.2) (.slice Ao84 t278.length co84)) (fun _ hk => hk.2) (.slice Ao85 t281.length co85)) (fun _ hk => hk.2) (.slice Ao86 t284.length co86)) (fun _ h_ => h_.1))) hb); have n3_ := q_ (Kd.R_below (by (with_reducible repeat (first | apply Kd.R_alloc | apply Kd.R_drewN | apply Kd.R_drew)); exact (Kd.R_mono (Kd.R_far (p := ⟨gb287, 4, none⟩) (Kd.R_far (p := ⟨gb287, 3, none⟩) (Kd.R_far (p := ⟨gb287, 2, none⟩) (Kd.R_far (p := ⟨gb287, 1, none⟩) (Kd.R_far (p := ⟨gb287, 0, none⟩) (Kd.R_types HO272.out BK287.out (by decide)) (fun _ hk => hk.2) (.bool t274)) (fun _ hk => hk.2) (.slice Ao83 t275.length co83)) (fun _ hk => hk.2) (.slice Ao84 t278.length co84)) (fun _ hk => hk.2) (.slice Ao85 t281.length co85)) (fun _ hk => hk.2) (.slice Ao86 t284.length co86)) (fun _ h_ => h_.1))) hb); have n4_ := q_ (Kd.R_below (by (with_reducible repeat (first | apply Kd.R_alloc | apply Kd.R_drewN | apply Kd.R_drew)); exact (Kd.R_mono (Kd.R_far (p := ⟨gb287, 4, none⟩) (Kd.R_far (p := ⟨gb287, 3, none⟩) (Kd.R_far (p := ⟨gb287, 2, none⟩) (Kd.R_far (p := ⟨gb287, 1, none⟩) (Kd.R_far (p := ⟨gb287, 0, none⟩) (Kd.R_types HO277.out BK287.out (by decide)) (fun _ hk => hk.2) (.bool t274)) (fun _ hk => hk.2) (.slice Ao83 t275.length co83)) (fun _ hk => hk.2) (.slice Ao84 t278.length co84)) (fun _ hk => hk.2) (.slice Ao85 t281.length co85)) (fun _ hk => hk.2) (.slice Ao86 t284.length co86)) (fun _ h_ => h_.1))) hb); have n5_ := q_ (Kd.R_below (by (with_reducible repeat (first | apply Kd.R_alloc | apply Kd.R_drewN | apply Kd.R_drew)); exact (Kd.R_mono (Kd.R_far (p := ⟨gb287, 4, none⟩) (Kd.R_far (p := ⟨gb287, 3, none⟩) (Kd.R_far (p := ⟨gb287, 2, none⟩) (Kd.R_far (p := ⟨gb287, 1, none⟩) (Kd.R_far (p := ⟨gb287, 0, none⟩) (Kd.R_types HO280.out BK287.out (by decide)) (fun _ hk => hk.2) (.bool t274)) (fun _ hk => hk.2) (.slice Ao83 t275.length co83)) (fun _ hk => hk.2) (.slice Ao84 t278.length co84)) (fun _ hk => hk.2) (.slice Ao85 t281.length co85)) (fun _ hk => hk.2) (.slice Ao86 t284.length co86)) (fun _ h_ => h_.1))) hb); have n6_ := q_ (Kd.R_below z43_ hb); have n7_ := q_ (Kd.R_below (by (with_reducible repeat (first | apply Kd.R_alloc | apply Kd.R_drewN | apply Kd.R_drew)); exact (Kd.R_mono (Kd.R_far (p := ⟨gb287, 4, none⟩) (Kd.R_far (p := ⟨gb287, 3, none⟩) (Kd.R_far (p := ⟨gb287, 2, none⟩) (Kd.R_far (p := ⟨gb287, 1, none⟩) (Kd.R_far (p := ⟨gb287, 0, none⟩) (Kd.R_types HO286.out BK287.out (by decide)) (fun _ hk => hk.2) (.bool t274)) (fun _ hk => hk.2) (.slice Ao83 t275.length co83)) (fun _ hk => hk.2) (.slice Ao84 t278.length co84)) (fun _ hk => hk.2) (.slice Ao85 t281.length co85)) (fun _ hk => hk.2) (.slice Ao86 t284.length co86)) (fun _ h_ => h_.1))) hb); have n8_ := q_ (blk_below (g := gb287) (o := .cells #[.bool t274, .slice Ao83 t275.length co83, .slice Ao84 t278.length co84, .slice Ao85 t281.length co85, .slice Ao86 t284.length co86] 34 (0, 0)) (by (with_reducible repeat (first | refine blk_drewN ?_ _ | refine blk_drew ?_ | refine blk_alloc ?_ _)); refine blk_put (cs := #[.bool t274, .slice Ao83 t275.length co83, .slice Ao84 t278.length co84, .slice Ao85 t281.length co85, .slice none 0 0]) ?_ 4 _ rfl; (with_reducible repeat (first | refine blk_drewN ?_ _ | refine blk_drew ?_ | refine blk_alloc ?_ _)); refine blk_put (cs := #[.bool t274, .slice Ao83 t275.length co83, .slice Ao84 t278.length co84, .slice none 0 0, .slice none 0 0]) ?_ 3 _ rfl; (with_reducible repeat (first | refine blk_drewN ?_ _ | refine blk_drew ?_ | refine blk_alloc ?_ _)); refine blk_put (cs := #[.bool t274, .slice Ao83 t275.length co83, .slice none 0 0, .slice none 0 0, .slice none 0 0]) ?_ 2 _ rfl; (with_reducible repeat (first | refine blk_drewN ?_ _ | refine blk_drew ?_ | refine blk_alloc ?_ _)); refine blk_put (cs := #[.bool t274, .slice none 0 0, .slice none 0 0, .slice none 0 0, .slice none 0 0]) ?_ 1 _ rfl; (with_reducible repeat (first | refine blk_drewN ?_ _ | refine blk_drew ?_ | refine blk_alloc ?_ _)); refine blk_put (cs := #[.bool false, .slice none 0 0, .slice none 0 0, .slice none 0 0, .slice none 0 0]) ?_ 0 _ rfl; (with_reducible repeat (first | refine blk_drewN ?_ _ | refine blk_drew ?_ | refine blk_alloc ?_ _)); exact BK287.out) hb); have n9_ := q_ (below_step z90_ hb); clear HO263; clear HO266; clear HO269; clear HO272; clear HO277; clear HO280; clear HO283; clear HO286; clear BK287; clear HB; have HO263 := n0_; have HO266 := n1_; have HO269 := n2_; have HO272 := n3_; have HO277 := n4_; have HO280 := n5_; have HO283 := n6_; have HO286 := n7_; have BK287 := n8_; have HB := n9_; clear n0_ n1_ n2_ n3_ n4_ n5_ n6_ n7_ n8_ n9_; (try clear hb); (try clear hb2); (try clear hk); (try clear hi)))
   go_ret
   exact ⟨z2_, z90_⟩

end Go.Proofs.Ytfnndcpaldkkoaa.PFnExactTreeDepth
