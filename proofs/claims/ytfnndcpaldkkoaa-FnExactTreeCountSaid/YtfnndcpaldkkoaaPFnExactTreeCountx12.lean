-- Written by a program of this session, which goes by the kit's print. Not trusted: Lean checks it.
import Derived.Test.YtfnndcpaldkkoaaPFnExactTreeCountx0
import Derived.Test.YtfnndcpaldkkoaaPFnExactTreeCountx1
import Derived.Test.YtfnndcpaldkkoaaPFnExactTreeCountx2
import Derived.Test.YtfnndcpaldkkoaaPFnExactTreeCountx4
import Derived.Test.YtfnndcpaldkkoaaPFnExactTreeCountx8
import Derived.Test.YtfnndcpaldkkoaaPFnExactTreeCountx11
namespace Go.Proofs.Ytfnndcpaldkkoaa.PFnExactTreeCount
open Go.RowKit Go.Proofs.YtfnndcpaldkkoaaW.PrintWords Go.Proofs.YtfnndcpaldkkoaaW.PrintLast Go.Proofs.YtfnndcpaldkkoaaW.PrintMore
attribute [local go_sem] max2_int min2_int max_two min_two max_three min_three max_four min_four   -- for this text's walks alone
set_option linter.unusedVariables false
set_option linter.unusedSimpArgs false

/-! ### laws_FnExactTreeCount: function 6 -/
def laws_FnExactTreeCount.j0 : Nat → Bool → Bool → List (S107) → List Int → List (S27) → List (S109) → Bool → List (S92) → List Int → List (S34) → List (S72) → Option (Bool)
 | 0, _, _, _, _, _, _, _, _, _, _, _ => none
 | k + 1, x34, x280000, x280001, x280002, x280003, x280004, x310000, x310001, x310002, x310003, x310004 => if x34 = true then (some false) else ((laws_toTree.f k x280000 x280001 x280002 x280003 x280004).bind fun bt312 => ((laws_eqTree.f k x310000 x310001 x310002 x310003 x310004 bt312.1 bt312.2.1 bt312.2.2.1 bt312.2.2.2.1 bt312.2.2.2.2).bind fun t325 => (if t325 = true then (some true) else (some false))))
def laws_FnExactTreeCount.f (k : Nat) (a0_0 : Bool) (l0_1 : List (S107)) (l0_2 : List Int) (l0_3 : List (S27)) (l0_4 : List (S109)) : Option (Bool) := (laws_szTree.f k a0_0 l0_1 l0_2 l0_3 l0_4 1048576).bind fun t280 => (if t280 < 0 then (some true) else ((laws_toTree.f k a0_0 l0_1 l0_2 l0_3 l0_4).bind fun bt281 => ((spec_TreeCount.f k bt281.1 bt281.2.1 bt281.2.2.1 bt281.2.2.2.1 bt281.2.2.2.2).bind fun bt294 => ((laws_toTree.f k a0_0 l0_1 l0_2 l0_3 l0_4).bind fun bt296 => ((impl_TreeCount.f k bt296.1 bt296.2.1 bt296.2.2.1 bt296.2.2.2.1 bt296.2.2.2.2).bind fun bt310 => (if bt310.1 = bt294.1 then (laws_FnExactTreeCount.j0 k (bt310.2 != bt294.2) a0_0 l0_1 l0_2 l0_3 l0_4 bt296.1 bt296.2.1 bt296.2.2.1 bt296.2.2.2.1 bt296.2.2.2.2) else (laws_FnExactTreeCount.j0 k true a0_0 l0_1 l0_2 l0_3 l0_4 bt296.1 bt296.2.1 bt296.2.2.1 bt296.2.2.2.1 bt296.2.2.2.2)))))))
theorem laws_FnExactTreeCount.mono_l : ∀ k, (∀ y0 y1 y2 y3 y4 y5 y6 y7 y8 y9 y10, LeO (laws_FnExactTreeCount.j0 k y0 y1 y2 y3 y4 y5 y6 y7 y8 y9 y10) (laws_FnExactTreeCount.j0 (k + 1) y0 y1 y2 y3 y4 y5 y6 y7 y8 y9 y10))
 | 0 => fun _ _ _ _ _ _ _ _ _ _ _ r h => by simp [laws_FnExactTreeCount.j0] at h
 | k + 1 => by
  have ih0 := laws_FnExactTreeCount.mono_l k
  ·intro y0 y1 y2 y3 y4 y5 y6 y7 y8 y9 y10
   unfold laws_FnExactTreeCount.j0
   repeat' first
   | (with_reducible exact ih0 _ _ _ _ _ _ _ _ _ _ _)
   | (with_reducible exact impl_TreeCount.mono _ _ _ _ _ _)
   | (with_reducible exact laws_eqTree.mono _ _ _ _ _ _ _ _ _ _ _)
   | (with_reducible exact laws_szTree.mono _ _ _ _ _ _ _)
   | (with_reducible exact laws_toTree.mono _ _ _ _ _ _)
   | (with_reducible exact spec_TreeCount.mono _ _ _ _ _ _)
   | (with_reducible exact LeO.refl _)
   | (with_reducible exact LeO.none _)
   | (with_reducible refine LeO.ite ?_ ?_)
   | (with_reducible refine LeO.bind ?_ (fun _ => ?_))
   | exact ih0 _ _ _ _ _ _ _ _ _ _ _
   | exact impl_TreeCount.mono _ _ _ _ _ _
   | exact laws_eqTree.mono _ _ _ _ _ _ _ _ _ _ _
   | exact laws_szTree.mono _ _ _ _ _ _ _
   | exact laws_toTree.mono _ _ _ _ _ _
   | exact spec_TreeCount.mono _ _ _ _ _ _
   | exact LeO.none _
   | refine LeO.ite ?_ ?_
   | refine LeO.bind ?_ (fun _ => ?_)
theorem laws_FnExactTreeCount.mono : ∀ a0 a1 a2 a3 a4 k, LeO (laws_FnExactTreeCount.f k a0 a1 a2 a3 a4) (laws_FnExactTreeCount.f (k + 1) a0 a1 a2 a3 a4) := by
 intro a0 a1 a2 a3 a4 k
 have ih0 := laws_FnExactTreeCount.mono_l k
 unfold laws_FnExactTreeCount.f
 repeat' first
   | (with_reducible exact ih0 _ _ _ _ _ _ _ _ _ _ _)
   | (with_reducible exact impl_TreeCount.mono _ _ _ _ _ _)
   | (with_reducible exact laws_eqTree.mono _ _ _ _ _ _ _ _ _ _ _)
   | (with_reducible exact laws_szTree.mono _ _ _ _ _ _ _)
   | (with_reducible exact laws_toTree.mono _ _ _ _ _ _)
   | (with_reducible exact spec_TreeCount.mono _ _ _ _ _ _)
   | (with_reducible exact LeO.refl _)
   | (with_reducible exact LeO.none _)
   | (with_reducible refine LeO.ite ?_ ?_)
   | (with_reducible refine LeO.bind ?_ (fun _ => ?_))
   | exact ih0 _ _ _ _ _ _ _ _ _ _ _
   | exact impl_TreeCount.mono _ _ _ _ _ _
   | exact laws_eqTree.mono _ _ _ _ _ _ _ _ _ _ _
   | exact laws_szTree.mono _ _ _ _ _ _ _
   | exact laws_toTree.mono _ _ _ _ _ _
   | exact spec_TreeCount.mono _ _ _ _ _ _
   | exact LeO.none _
   | refine LeO.ite ?_ ?_
   | refine LeO.bind ?_ (fun _ => ?_)
set_option maxHeartbeats 8000000 in
set_option maxRecDepth 100000 in
theorem laws_FnExactTreeCount.calls (k : Nat) (a0_0 : Bool) (A0_1 : Option Addr) (c0_1 : Nat) (l0_1 : List (S107)) (A0_2 : Option Addr) (c0_2 : Nat) (l0_2 : List Int) (A0_3 : Option Addr) (c0_3 : Nat) (l0_3 : List (S27)) (A0_4 : Option Addr) (c0_4 : Nat) (l0_4 : List (S109)) (r : Bool) (w : World) (hr0_1 : Kd.C k107 w A0_1 l0_1.length l0_1) (hc0_1 : l0_1.length ≤ c0_1) (hr0_2 : Kd.C (Kd.int .i64) w A0_2 l0_2.length l0_2) (hc0_2 : l0_2.length ≤ c0_2) (hr0_3 : Kd.C k27 w A0_3 l0_3.length l0_3) (hc0_3 : l0_3.length ≤ c0_3) (hr0_4 : Kd.C k109 w A0_4 l0_4.length l0_4) (hc0_4 : l0_4.length ≤ c0_4) (h : laws_FnExactTreeCount.f k a0_0 l0_1 l0_2 l0_3 l0_4 = some r) :
  Calls Try.prog 6 #[.agg #[.bool a0_0, .slice A0_1 l0_1.length c0_1, .slice A0_2 l0_2.length c0_2, .slice A0_3 l0_3.length c0_3, .slice A0_4 l0_4.length c0_4]] w fun e w' => e = .returned (.bool r) ∧ Below w.heap.size w w' := by
 have hu27 := Try.underlying27
 have hu34 := Try.underlying34
 have HR0_1 := q_ hr0_1
 have HC0_1 := q_ hc0_1
 clear hr0_1 hc0_1
 have HR0_2 := q_ hr0_2
 have HC0_2 := q_ hc0_2
 clear hr0_2 hc0_2
 have HR0_3 := q_ hr0_3
 have HC0_3 := q_ hc0_3
 clear hr0_3 hc0_3
 have HR0_4 := q_ hr0_4
 have HC0_4 := q_ hc0_4
 clear hr0_4 hc0_4
 have HB := q_ (Below.refl w.heap.size w)
 have H : ((laws_szTree.f k a0_0 l0_1 l0_2 l0_3 l0_4 1048576).bind fun t280 => (if t280 < 0 then (some true) else ((laws_toTree.f k a0_0 l0_1 l0_2 l0_3 l0_4).bind fun bt281 => ((spec_TreeCount.f k bt281.1 bt281.2.1 bt281.2.2.1 bt281.2.2.2.1 bt281.2.2.2.2).bind fun bt294 => ((laws_toTree.f k a0_0 l0_1 l0_2 l0_3 l0_4).bind fun bt296 => ((impl_TreeCount.f k bt296.1 bt296.2.1 bt296.2.2.1 bt296.2.2.2.1 bt296.2.2.2.2).bind fun bt310 => (if bt310.1 = bt294.1 then (laws_FnExactTreeCount.j0 k (bt310.2 != bt294.2) a0_0 l0_1 l0_2 l0_3 l0_4 bt296.1 bt296.2.1 bt296.2.2.1 bt296.2.2.2.1 bt296.2.2.2.2) else (laws_FnExactTreeCount.j0 k true a0_0 l0_1 l0_2 l0_3 l0_4 bt296.1 bt296.2.1 bt296.2.2.1 bt296.2.2.2.1 bt296.2.2.2.2)))))))) = some r := h
 clear h
 replace H := Option.bind_eq_some_iff.mp H
 obtain ⟨t280, A20, H⟩ := H
 replace H : (if t280 < 0 then (some true) else ((laws_toTree.f k a0_0 l0_1 l0_2 l0_3 l0_4).bind fun bt281 => ((spec_TreeCount.f k bt281.1 bt281.2.1 bt281.2.2.1 bt281.2.2.2.1 bt281.2.2.2.2).bind fun bt294 => ((laws_toTree.f k a0_0 l0_1 l0_2 l0_3 l0_4).bind fun bt296 => ((impl_TreeCount.f k bt296.1 bt296.2.1 bt296.2.2.1 bt296.2.2.2.1 bt296.2.2.2.2).bind fun bt310 => (if bt310.1 = bt294.1 then (laws_FnExactTreeCount.j0 k (bt310.2 != bt294.2) a0_0 l0_1 l0_2 l0_3 l0_4 bt296.1 bt296.2.1 bt296.2.2.1 bt296.2.2.2.1 bt296.2.2.2.2) else (laws_FnExactTreeCount.j0 k true a0_0 l0_1 l0_2 l0_3 l0_4 bt296.1 bt296.2.1 bt296.2.2.1 bt296.2.2.2.1 bt296.2.2.2.2))))))) = some r := H
 have A2 := q_ A20
 clear A20
 by_cases c3 : t280 < 0
 ·rw [if_pos c3] at H
  have c3b0 : decide (t280 < 0) = true := decide_eq_true c3
  clear c3
  obtain rfl := Option.some.inj H
  go_enter Try.func6, Try.ntmps6
  go_wp2_with (first | ((with_reducible refine gate_dst (N := 1) rfl ?_); refine box_event ?hg (N := 1) ?hd (cs := #[.bool a0_0, .slice A0_1 l0_1.length c0_1, .slice A0_2 l0_2.length c0_2, .slice A0_3 l0_3.length c0_3, .slice A0_4 l0_4.length c0_4]) (t := 27) ?hr ?_; (case hd => rfl); (case hg => rfl); (case hr => exact z141_); intro gb279 hg w4 hbox hb; have n0_ := q_ (below_step z0_ hb); have n1_ := q_ (hbox); have n2_ := q_ ((z107_ : w.heap.size ≤ gb279)); have n3_ := q_ ((z107_ : w.heap.size ≤ gb279)); clear HB; have HB := n0_; have BK279 := n1_; have GW279 := n2_; have GE279 := n3_; clear n0_ n1_ n2_ n3_; clear hb hbox hg; obtain ⟨hcz5_0, hcz5_1, hcz5_2, hcz5_3, hcz5_4, hfz5_0, hfz5_1, hfz5_2, hfz5_3, hfz5_4⟩ := cs5_ BK279.out) | ((with_reducible refine gate_callee (f := 15) rfl ?_); refine goesL_ (some 11) rfl rfl Try.func15 (by kernel_rfl) rfl #[.agg #[.bool a0_0, .slice A0_1 l0_1.length c0_1, .slice A0_2 l0_2.length c0_2, .slice A0_3 l0_3.length c0_3, .slice A0_4 l0_4.length c0_4], .int .i64 1048576] rfl z1_ ?_; (with_reducible refine (laws_szTree.calls k a0_0 _ _ l0_1 _ _ l0_2 _ _ l0_3 _ _ l0_4 1048576 t280 _ ?side1 ?side2 ?side3 ?side4 ?side5 ?side6 ?side7 ?side8 A2.out).mono ?_); (case side1 => exact z140_); (case side2 => exact z157_); (case side3 => exact z143_); (case side4 => exact z163_); (case side5 => exact z144_); (case side6 => exact z164_); (case side7 => exact z142_); (case side8 => exact z165_); rintro e w6 ⟨rfl, hb⟩; refine ⟨_, rfl, ?_⟩; have n0_ := q_ (below_step z0_ hb); clear HB; have HB := n0_; clear n0_; (try clear hb); (try clear hb2); (try clear hk); (try clear hi)))
  go_ret
  exact ⟨z2_, z0_⟩
 ·rw [if_neg c3] at H
  have c3b0 : decide (t280 < 0) = false := decide_eq_false c3
  clear c3
  replace H := Option.bind_eq_some_iff.mp H
  obtain ⟨⟨t281, t282, t285, t288, t291⟩, A70, H⟩ := H
  replace H : ((spec_TreeCount.f k t281 t282 t285 t288 t291).bind fun bt294 => ((laws_toTree.f k a0_0 l0_1 l0_2 l0_3 l0_4).bind fun bt296 => ((impl_TreeCount.f k bt296.1 bt296.2.1 bt296.2.2.1 bt296.2.2.2.1 bt296.2.2.2.2).bind fun bt310 => (if bt310.1 = bt294.1 then (laws_FnExactTreeCount.j0 k (bt310.2 != bt294.2) a0_0 l0_1 l0_2 l0_3 l0_4 bt296.1 bt296.2.1 bt296.2.2.1 bt296.2.2.2.1 bt296.2.2.2.2) else (laws_FnExactTreeCount.j0 k true a0_0 l0_1 l0_2 l0_3 l0_4 bt296.1 bt296.2.1 bt296.2.2.1 bt296.2.2.2.1 bt296.2.2.2.2))))) = some r := H
  have A7 := q_ A70
  clear A70
  replace H := Option.bind_eq_some_iff.mp H
  obtain ⟨⟨t294, t295⟩, A80, H⟩ := H
  replace H : ((laws_toTree.f k a0_0 l0_1 l0_2 l0_3 l0_4).bind fun bt296 => ((impl_TreeCount.f k bt296.1 bt296.2.1 bt296.2.2.1 bt296.2.2.2.1 bt296.2.2.2.2).bind fun bt310 => (if bt310.1 = t294 then (laws_FnExactTreeCount.j0 k (bt310.2 != t295) a0_0 l0_1 l0_2 l0_3 l0_4 bt296.1 bt296.2.1 bt296.2.2.1 bt296.2.2.2.1 bt296.2.2.2.2) else (laws_FnExactTreeCount.j0 k true a0_0 l0_1 l0_2 l0_3 l0_4 bt296.1 bt296.2.1 bt296.2.2.1 bt296.2.2.2.1 bt296.2.2.2.2)))) = some r := H
  have A8 := q_ A80
  clear A80
  replace H := Option.bind_eq_some_iff.mp H
  obtain ⟨⟨t296, t297, t300, t303, t306⟩, A90, H⟩ := H
  replace H : ((impl_TreeCount.f k t296 t297 t300 t303 t306).bind fun bt310 => (if bt310.1 = t294 then (laws_FnExactTreeCount.j0 k (bt310.2 != t295) a0_0 l0_1 l0_2 l0_3 l0_4 t296 t297 t300 t303 t306) else (laws_FnExactTreeCount.j0 k true a0_0 l0_1 l0_2 l0_3 l0_4 t296 t297 t300 t303 t306))) = some r := H
  have A9 := q_ A90
  clear A90
  replace H := Option.bind_eq_some_iff.mp H
  obtain ⟨⟨t310, t311⟩, A100, H⟩ := H
  replace H : (if t310 = t294 then (laws_FnExactTreeCount.j0 k (t311 != t295) a0_0 l0_1 l0_2 l0_3 l0_4 t296 t297 t300 t303 t306) else (laws_FnExactTreeCount.j0 k true a0_0 l0_1 l0_2 l0_3 l0_4 t296 t297 t300 t303 t306)) = some r := H
  have A10 := q_ A100
  clear A100
  have HC11 := q_ H
  clear H
  go_enter Try.func6, Try.ntmps6
  go_upto_region 8 with (first | ((with_reducible refine gate_dst (N := 1) rfl ?_); refine box_event ?hg (N := 1) ?hd (cs := #[.bool a0_0, .slice A0_1 l0_1.length c0_1, .slice A0_2 l0_2.length c0_2, .slice A0_3 l0_3.length c0_3, .slice A0_4 l0_4.length c0_4]) (t := 27) ?hr ?_; (case hd => rfl); (case hg => rfl); (case hr => exact z141_); intro gb279 hg w12 hbox hb; have n0_ := q_ (below_step z0_ hb); have n1_ := q_ (hbox); have n2_ := q_ ((z107_ : w.heap.size ≤ gb279)); have n3_ := q_ ((z107_ : w.heap.size ≤ gb279)); clear HB; have HB := n0_; have BK279 := n1_; have GW279 := n2_; have GE279 := n3_; clear n0_ n1_ n2_ n3_; clear hb hbox hg; obtain ⟨hcz13_0, hcz13_1, hcz13_2, hcz13_3, hcz13_4, hfz13_0, hfz13_1, hfz13_2, hfz13_3, hfz13_4⟩ := cs5_ BK279.out) | ((with_reducible refine gate_callee (f := 15) rfl ?_); refine goesL_ (some 11) rfl rfl Try.func15 (by kernel_rfl) rfl #[.agg #[.bool a0_0, .slice A0_1 l0_1.length c0_1, .slice A0_2 l0_2.length c0_2, .slice A0_3 l0_3.length c0_3, .slice A0_4 l0_4.length c0_4], .int .i64 1048576] rfl z1_ ?_; (with_reducible refine (laws_szTree.calls k a0_0 _ _ l0_1 _ _ l0_2 _ _ l0_3 _ _ l0_4 1048576 t280 _ ?side1 ?side2 ?side3 ?side4 ?side5 ?side6 ?side7 ?side8 A2.out).mono ?_); (case side1 => exact z140_); (case side2 => exact z157_); (case side3 => exact z143_); (case side4 => exact z163_); (case side5 => exact z144_); (case side6 => exact z164_); (case side7 => exact z142_); (case side8 => exact z165_); rintro e w14 ⟨rfl, hb⟩; refine ⟨_, rfl, ?_⟩; have n0_ := q_ (blk_below (g := gb279) (o := .cells #[.bool a0_0, .slice A0_1 l0_1.length c0_1, .slice A0_2 l0_2.length c0_2, .slice A0_3 l0_3.length c0_3, .slice A0_4 l0_4.length c0_4] 27 (0, 0)) z30_ hb); have n1_ := q_ (below_step z18_ hb); clear BK279; clear HB; have BK279 := n0_; have HB := n1_; clear n0_ n1_; (try clear hb); (try clear hb2); (try clear hk); (try clear hi); obtain ⟨hcz15_0, hcz15_1, hcz15_2, hcz15_3, hcz15_4, hfz15_0, hfz15_1, hfz15_2, hfz15_3, hfz15_4⟩ := cs5_ BK279.out) | ((with_reducible refine gate_callee (f := 17) rfl ?_); refine goesL_ (some 16) rfl rfl Try.func17 (by kernel_rfl) rfl #[.agg #[.bool a0_0, .slice A0_1 l0_1.length c0_1, .slice A0_2 l0_2.length c0_2, .slice A0_3 l0_3.length c0_3, .slice A0_4 l0_4.length c0_4]] rfl z1_ ?_; (with_reducible refine (laws_toTree.calls k a0_0 _ _ l0_1 _ _ l0_2 _ _ l0_3 _ _ l0_4 t281 t282 t285 t288 t291 _ ?side1 ?side2 ?side3 ?side4 ?side5 ?side6 ?side7 ?side8 A7.out).mono ?_); (case side1 => exact z140_); (case side2 => exact z157_); (case side3 => exact z143_); (case side4 => exact z163_); (case side5 => exact z144_); (case side6 => exact z164_); (case side7 => exact z142_); (case side8 => exact z165_); rintro e w16 ⟨v283, v286, v289, v292, rfl, ho0, ho1, ho2, ho3, hb⟩; refine ⟨_, rfl, ?_⟩; have n0_ := q_ (Kd.R_lower ho0 (below_size z18_)); have n1_ := q_ (Kd.R_lower ho1 (below_size z18_)); have n2_ := q_ (Kd.R_lower ho2 (below_size z18_)); have n3_ := q_ (Kd.R_lower ho3 (below_size z18_)); have n4_ := q_ (blk_below (g := gb279) (o := .cells #[.bool a0_0, .slice A0_1 l0_1.length c0_1, .slice A0_2 l0_2.length c0_2, .slice A0_3 l0_3.length c0_3, .slice A0_4 l0_4.length c0_4] 27 (0, 0)) z30_ hb); have n5_ := q_ (below_step z18_ hb); clear BK279; clear HB; have HO284 := n0_; have HO287 := n1_; have HO290 := n2_; have HO293 := n3_; have BK279 := n4_; have HB := n5_; clear n0_ n1_ n2_ n3_ n4_ n5_; (try clear hb); (try clear hb2); (try clear hk); (try clear hi); (try clear ho0); (try clear ho1); (try clear ho2); (try clear ho3); obtain ⟨Ao17, co17, eo17⟩ := Kd.R_slice HO284.out; subst eo17; obtain ⟨Ao18, co18, eo18⟩ := Kd.R_slice HO287.out; subst eo18; obtain ⟨Ao19, co19, eo19⟩ := Kd.R_slice HO290.out; subst eo19; obtain ⟨Ao20, co20, eo20⟩ := Kd.R_slice HO293.out; subst eo20) | ((with_reducible refine gate_callee (f := 24) rfl ?_); refine goesL_ (some 17) rfl rfl Try.func24 (by kernel_rfl) rfl #[.agg #[.bool t281, .slice Ao17 t282.length co17, .slice Ao18 t285.length co18, .slice Ao19 t288.length co19, .slice Ao20 t291.length co20]] rfl z1_ ?_; (with_reducible refine (spec_TreeCount.calls k t281 _ _ t282 _ _ t285 _ _ t288 _ _ t291 t294 t295 _ ?side1 ?side2 ?side3 ?side4 ?side5 ?side6 ?side7 ?side8 A8.out).mono ?_); (case side1 => repeat (first | exact (Kd.R_reads' HO284.out).2.2 | (with_reducible refine Kd.C_alloc ?_ _) | (with_reducible refine Kd.C_drewN ?_ _) | (with_reducible refine Kd.C_drew ?_))); (case side2 => exact (Kd.R_reads' HO284.out).2.1); (case side3 => repeat (first | exact (Kd.R_reads' HO287.out).2.2 | (with_reducible refine Kd.C_alloc ?_ _) | (with_reducible refine Kd.C_drewN ?_ _) | (with_reducible refine Kd.C_drew ?_))); (case side4 => exact (Kd.R_reads' HO287.out).2.1); (case side5 => repeat (first | exact (Kd.R_reads' HO290.out).2.2 | (with_reducible refine Kd.C_alloc ?_ _) | (with_reducible refine Kd.C_drewN ?_ _) | (with_reducible refine Kd.C_drew ?_))); (case side6 => exact (Kd.R_reads' HO290.out).2.1); (case side7 => repeat (first | exact (Kd.R_reads' HO293.out).2.2 | (with_reducible refine Kd.C_alloc ?_ _) | (with_reducible refine Kd.C_drewN ?_ _) | (with_reducible refine Kd.C_drew ?_))); (case side8 => exact (Kd.R_reads' HO293.out).2.1); rintro e w21 ⟨rfl, hb⟩; refine ⟨_, rfl, ?_⟩; have n0_ := q_ (Kd.R_below z74_ hb); have n1_ := q_ (Kd.R_below z75_ hb); have n2_ := q_ (Kd.R_below z82_ hb); have n3_ := q_ (Kd.R_below z76_ hb); have n4_ := q_ (blk_below (g := gb279) (o := .cells #[.bool a0_0, .slice A0_1 l0_1.length c0_1, .slice A0_2 l0_2.length c0_2, .slice A0_3 l0_3.length c0_3, .slice A0_4 l0_4.length c0_4] 27 (0, 0)) z30_ hb); have n5_ := q_ (below_step z18_ hb); clear HO284; clear HO287; clear HO290; clear HO293; clear BK279; clear HB; have HO284 := n0_; have HO287 := n1_; have HO290 := n2_; have HO293 := n3_; have BK279 := n4_; have HB := n5_; clear n0_ n1_ n2_ n3_ n4_ n5_; (try clear hb); (try clear hb2); (try clear hk); (try clear hi); obtain ⟨hcz22_0, hcz22_1, hcz22_2, hcz22_3, hcz22_4, hfz22_0, hfz22_1, hfz22_2, hfz22_3, hfz22_4⟩ := cs5_ BK279.out) | ((with_reducible refine gate_callee (f := 17) rfl ?_); refine goesL_ (some 21) rfl rfl Try.func17 (by kernel_rfl) rfl #[.agg #[.bool a0_0, .slice A0_1 l0_1.length c0_1, .slice A0_2 l0_2.length c0_2, .slice A0_3 l0_3.length c0_3, .slice A0_4 l0_4.length c0_4]] rfl z1_ ?_; (with_reducible refine (laws_toTree.calls k a0_0 _ _ l0_1 _ _ l0_2 _ _ l0_3 _ _ l0_4 t296 t297 t300 t303 t306 _ ?side1 ?side2 ?side3 ?side4 ?side5 ?side6 ?side7 ?side8 A9.out).mono ?_); (case side1 => exact z140_); (case side2 => exact z157_); (case side3 => exact z143_); (case side4 => exact z163_); (case side5 => exact z144_); (case side6 => exact z164_); (case side7 => exact z142_); (case side8 => exact z165_); rintro e w23 ⟨v298, v301, v304, v307, rfl, ho0, ho1, ho2, ho3, hb⟩; refine ⟨_, rfl, ?_⟩; have n0_ := q_ (Kd.R_elder' z74_ (Kd.R_base ho0) hb); have n1_ := q_ (Kd.R_elder' z75_ (Kd.R_base ho1) hb); have n2_ := q_ (Kd.R_mono (Kd.R_told (Kd.R_told (Kd.R_told (Kd.R_told (Kd.R_old z82_ hb) (Kd.R_base ho0)) (Kd.R_base ho1)) (Kd.R_base ho2)) (Kd.R_base ho3)) (fun _ h_ => h_.1)); have n3_ := q_ (Kd.R_elder' z76_ (Kd.R_base ho3) hb); have n4_ := q_ (Kd.R_lower (Kd.R_new' ho0 (Kd.R_lt z74_)) (below_size z18_)); have n5_ := q_ (Kd.R_lower (Kd.R_new' ho1 (Kd.R_lt z75_)) (below_size z18_)); have n6_ := q_ (Kd.R_lower (Kd.R_new' (Kd.R_new' (Kd.R_new' (Kd.R_new' ho2 (Kd.R_lt z74_)) (Kd.R_lt z75_)) (Kd.R_lt z82_)) (Kd.R_lt z76_)) (below_size z18_)); have n7_ := q_ (Kd.R_lower (Kd.R_new' ho3 (Kd.R_lt z76_)) (below_size z18_)); have n8_ := q_ (blk_below (g := gb279) (o := .cells #[.bool a0_0, .slice A0_1 l0_1.length c0_1, .slice A0_2 l0_2.length c0_2, .slice A0_3 l0_3.length c0_3, .slice A0_4 l0_4.length c0_4] 27 (0, 0)) z30_ hb); have n9_ := q_ (below_step z18_ hb); clear HO284; clear HO287; clear HO290; clear HO293; clear BK279; clear HB; have HO284 := n0_; have HO287 := n1_; have HO290 := n2_; have HO293 := n3_; have HO299 := n4_; have HO302 := n5_; have HO305 := n6_; have HO308 := n7_; have BK279 := n8_; have HB := n9_; clear n0_ n1_ n2_ n3_ n4_ n5_ n6_ n7_ n8_ n9_; (try clear hb); (try clear hb2); (try clear hk); (try clear hi); (try clear ho0); (try clear ho1); (try clear ho2); (try clear ho3)) | ((with_reducible refine gate_dst (N := 6) rfl ?_); refine box_event ?hg (N := 6) ?hd (cs := #[.bool false, .slice none 0 0, .slice none 0 0, .slice none 0 0, .slice none 0 0]) (t := 34) ?hr ?_; (case hd => rfl); (case hg => rfl); (case hr => exact z141_); intro gb309 hg w24 hbox hb; have n0_ := q_ (Kd.R_below z74_ hb); have n1_ := q_ (Kd.R_below z75_ hb); have n2_ := q_ (Kd.R_below (Kd.R_elderB z82_ gb309 (Nat.le_of_eq hg.symm)) hb); have n3_ := q_ (Kd.R_below z76_ hb); have n4_ := q_ (Kd.R_below (by (with_reducible repeat (first | apply Kd.R_alloc | apply Kd.R_drewN | apply Kd.R_drew)); exact HO299.out) hb); have n5_ := q_ (Kd.R_below (by (with_reducible repeat (first | apply Kd.R_alloc | apply Kd.R_drewN | apply Kd.R_drew)); exact HO302.out) hb); have n6_ := q_ (Kd.R_below (Kd.R_elderB (by (with_reducible repeat (first | apply Kd.R_alloc | apply Kd.R_drewN | apply Kd.R_drew)); exact HO305.out) gb309 (Nat.le_of_eq hg.symm)) hb); have n7_ := q_ (Kd.R_below (by (with_reducible repeat (first | apply Kd.R_alloc | apply Kd.R_drewN | apply Kd.R_drew)); exact HO308.out) hb); have n8_ := q_ (blk_below (g := gb279) (o := .cells #[.bool a0_0, .slice A0_1 l0_1.length c0_1, .slice A0_2 l0_2.length c0_2, .slice A0_3 l0_3.length c0_3, .slice A0_4 l0_4.length c0_4] 27 (0, 0)) z30_ hb); have n9_ := q_ (below_step z18_ hb); have n10_ := q_ (hbox); have n11_ := q_ ((by rw [hg]; exact (below_size z18_) : w.heap.size ≤ gb309)); have n12_ := q_ ((by rw [hg]; exact (below_size z18_) : w.heap.size ≤ gb309)); have n13_ := q_ ((by rw [hg]; exact Nat.ne_of_lt (blk_lt (g := gb279) (o := .cells #[.bool a0_0, .slice A0_1 l0_1.length c0_1, .slice A0_2 l0_2.length c0_2, .slice A0_3 l0_3.length c0_3, .slice A0_4 l0_4.length c0_4] 27 (0, 0)) z30_) : gb279 ≠ gb309)); have n14_ := q_ ((by rw [hg]; exact Nat.ne_of_gt (blk_lt (g := gb279) (o := .cells #[.bool a0_0, .slice A0_1 l0_1.length c0_1, .slice A0_2 l0_2.length c0_2, .slice A0_3 l0_3.length c0_3, .slice A0_4 l0_4.length c0_4] 27 (0, 0)) z30_) : gb309 ≠ gb279)); clear HO284; clear HO287; clear HO290; clear HO293; clear HO299; clear HO302; clear HO305; clear HO308; clear BK279; clear HB; have HO284 := n0_; have HO287 := n1_; have HO290 := n2_; have HO293 := n3_; have HO299 := n4_; have HO302 := n5_; have HO305 := n6_; have HO308 := n7_; have BK279 := n8_; have HB := n9_; have BK309 := n10_; have GW309 := n11_; have GE309 := n12_; have NB279_309 := n13_; have NB309_279 := n14_; clear n0_ n1_ n2_ n3_ n4_ n5_ n6_ n7_ n8_ n9_ n10_ n11_ n12_ n13_ n14_; clear hb hbox hg; have hnb25 := NB309_279.out; have hnc25 := NB279_309.out; obtain ⟨hcz26_0, hcz26_1, hcz26_2, hcz26_3, hcz26_4, hfz26_0, hfz26_1, hfz26_2, hfz26_3, hfz26_4⟩ := cs5_ BK309.out; obtain ⟨Ao27, co27, eo27⟩ := Kd.R_slice HO299.out; subst eo27; obtain ⟨Ao28, co28, eo28⟩ := Kd.R_slice HO302.out; subst eo28; obtain ⟨Ao29, co29, eo29⟩ := Kd.R_slice HO305.out; subst eo29; obtain ⟨Ao30, co30, eo30⟩ := Kd.R_slice HO308.out; subst eo30) | ((with_reducible refine gate_callee (f := 25) rfl ?_); refine goesL_ (some 24) rfl rfl Try.func25 (by kernel_rfl) rfl #[.agg #[.bool t296, .slice Ao27 t297.length co27, .slice Ao28 t300.length co28, .slice Ao29 t303.length co29, .slice Ao30 t306.length co30]] rfl z1_ ?_; (with_reducible refine (impl_TreeCount.calls k t296 _ _ t297 _ _ t300 _ _ t303 _ _ t306 t310 t311 _ ?side1 ?side2 ?side3 ?side4 ?side5 ?side6 ?side7 ?side8 A10.out).mono ?_); (case side1 => refine (Kd.R_reads' (e := 92) (base := w.heap.size) (ok := fun k_ => (True ∧ some k_ ≠ (.slice Ao17 t282.length co17 : Value).ownBlock)) (n := t297.length) (c := co27) ?_).2.2; exact (by (with_reducible repeat (first | apply Kd.R_alloc | apply Kd.R_drewN | apply Kd.R_drew)); exact (Kd.R_mono (Kd.R_far (p := ⟨gb309, 4, none⟩) (Kd.R_far (p := ⟨gb309, 3, none⟩) (Kd.R_far (p := ⟨gb309, 2, none⟩) (Kd.R_far (p := ⟨gb309, 1, none⟩) (Kd.R_far (p := ⟨gb309, 0, none⟩) (Kd.R_types HO299.out BK309.out (by decide)) (fun _ hk => hk.2) (.bool t296)) (fun _ hk => hk.2) (.slice Ao27 t297.length co27)) (fun _ hk => hk.2) (.slice Ao28 t300.length co28)) (fun _ hk => hk.2) (.slice Ao29 t303.length co29)) (fun _ hk => hk.2) (.slice Ao30 t306.length co30)) (fun _ h_ => h_.1)))); (case side2 => exact (Kd.R_reads' HO299.out).2.1); (case side3 => refine (Kd.R_reads' (e := 3) (base := w.heap.size) (ok := fun k_ => (True ∧ some k_ ≠ (.slice Ao18 t285.length co18 : Value).ownBlock)) (n := t300.length) (c := co28) ?_).2.2; exact (by (with_reducible repeat (first | apply Kd.R_alloc | apply Kd.R_drewN | apply Kd.R_drew)); exact (Kd.R_mono (Kd.R_far (p := ⟨gb309, 4, none⟩) (Kd.R_far (p := ⟨gb309, 3, none⟩) (Kd.R_far (p := ⟨gb309, 2, none⟩) (Kd.R_far (p := ⟨gb309, 1, none⟩) (Kd.R_far (p := ⟨gb309, 0, none⟩) (Kd.R_types HO302.out BK309.out (by decide)) (fun _ hk => hk.2) (.bool t296)) (fun _ hk => hk.2) (.slice Ao27 t297.length co27)) (fun _ hk => hk.2) (.slice Ao28 t300.length co28)) (fun _ hk => hk.2) (.slice Ao29 t303.length co29)) (fun _ hk => hk.2) (.slice Ao30 t306.length co30)) (fun _ h_ => h_.1)))); (case side4 => exact (Kd.R_reads' HO302.out).2.1); (case side5 => refine (Kd.R_reads' (e := 34) (base := w.heap.size) (ok := fun k_ => ((((((some k_ ≠ (.slice Ao27 t297.length co27 : Value).ownBlock ∧ (some k_ ≠ (.slice Ao28 t300.length co28 : Value).ownBlock ∧ some k_ ≠ (.slice Ao30 t306.length co30 : Value).ownBlock)) ∧ some k_ ≠ (.slice Ao17 t282.length co17 : Value).ownBlock) ∧ some k_ ≠ (.slice Ao18 t285.length co18 : Value).ownBlock) ∧ some k_ ≠ (.slice Ao19 t288.length co19 : Value).ownBlock) ∧ some k_ ≠ (.slice Ao20 t291.length co20 : Value).ownBlock) ∧ k_ ≠ gb309)) (n := t303.length) (c := co29) ?_).2.2; exact z39_); (case side6 => exact (Kd.R_reads' HO305.out).2.1); (case side7 => refine (Kd.R_reads' (e := 72) (base := w.heap.size) (ok := fun k_ => (True ∧ some k_ ≠ (.slice Ao20 t291.length co20 : Value).ownBlock)) (n := t306.length) (c := co30) ?_).2.2; exact (by (with_reducible repeat (first | apply Kd.R_alloc | apply Kd.R_drewN | apply Kd.R_drew)); exact (Kd.R_mono (Kd.R_far (p := ⟨gb309, 4, none⟩) (Kd.R_far (p := ⟨gb309, 3, none⟩) (Kd.R_far (p := ⟨gb309, 2, none⟩) (Kd.R_far (p := ⟨gb309, 1, none⟩) (Kd.R_far (p := ⟨gb309, 0, none⟩) (Kd.R_types HO308.out BK309.out (by decide)) (fun _ hk => hk.2) (.bool t296)) (fun _ hk => hk.2) (.slice Ao27 t297.length co27)) (fun _ hk => hk.2) (.slice Ao28 t300.length co28)) (fun _ hk => hk.2) (.slice Ao29 t303.length co29)) (fun _ hk => hk.2) (.slice Ao30 t306.length co30)) (fun _ h_ => h_.1)))); (case side8 => exact (Kd.R_reads' HO308.out).2.1); rintro e w31 ⟨rfl, hb⟩; refine ⟨_, rfl, ?_⟩; have n0_ := q_ (Kd.R_below (by (with_reducible repeat (first | apply Kd.R_alloc | apply Kd.R_drewN | apply Kd.R_drew)); exact (Kd.R_mono (Kd.R_far (p := ⟨gb309, 4, none⟩) (Kd.R_far (p := ⟨gb309, 3, none⟩) (Kd.R_far (p := ⟨gb309, 2, none⟩) (Kd.R_far (p := ⟨gb309, 1, none⟩) (Kd.R_far (p := ⟨gb309, 0, none⟩) (Kd.R_types HO284.out BK309.out (by decide)) (fun _ hk => hk.2) (.bool t296)) (fun _ hk => hk.2) (.slice Ao27 t297.length co27)) (fun _ hk => hk.2) (.slice Ao28 t300.length co28)) (fun _ hk => hk.2) (.slice Ao29 t303.length co29)) (fun _ hk => hk.2) (.slice Ao30 t306.length co30)) (fun _ h_ => h_.1))) hb); have n1_ := q_ (Kd.R_below (by (with_reducible repeat (first | apply Kd.R_alloc | apply Kd.R_drewN | apply Kd.R_drew)); exact (Kd.R_mono (Kd.R_far (p := ⟨gb309, 4, none⟩) (Kd.R_far (p := ⟨gb309, 3, none⟩) (Kd.R_far (p := ⟨gb309, 2, none⟩) (Kd.R_far (p := ⟨gb309, 1, none⟩) (Kd.R_far (p := ⟨gb309, 0, none⟩) (Kd.R_types HO287.out BK309.out (by decide)) (fun _ hk => hk.2) (.bool t296)) (fun _ hk => hk.2) (.slice Ao27 t297.length co27)) (fun _ hk => hk.2) (.slice Ao28 t300.length co28)) (fun _ hk => hk.2) (.slice Ao29 t303.length co29)) (fun _ hk => hk.2) (.slice Ao30 t306.length co30)) (fun _ h_ => h_.1))) hb); have n2_ := q_ (Kd.R_below (by (with_reducible repeat (first | apply Kd.R_alloc | apply Kd.R_drewN | apply Kd.R_drew)); exact (Kd.R_mono (Kd.R_far (p := ⟨gb309, 4, none⟩) (Kd.R_far (p := ⟨gb309, 3, none⟩) (Kd.R_far (p := ⟨gb309, 2, none⟩) (Kd.R_far (p := ⟨gb309, 1, none⟩) (Kd.R_far (p := ⟨gb309, 0, none⟩) (Kd.R_mono HO290.out (fun k_ hk => (⟨hk, hk.2⟩ : _ ∧ k_ ≠ gb309))) (fun _ hk => hk.2) (.bool t296)) (fun _ hk => hk.2) (.slice Ao27 t297.length co27)) (fun _ hk => hk.2) (.slice Ao28 t300.length co28)) (fun _ hk => hk.2) (.slice Ao29 t303.length co29)) (fun _ hk => hk.2) (.slice Ao30 t306.length co30)) (fun _ h_ => h_.1))) hb); have n3_ := q_ (Kd.R_below (by (with_reducible repeat (first | apply Kd.R_alloc | apply Kd.R_drewN | apply Kd.R_drew)); exact (Kd.R_mono (Kd.R_far (p := ⟨gb309, 4, none⟩) (Kd.R_far (p := ⟨gb309, 3, none⟩) (Kd.R_far (p := ⟨gb309, 2, none⟩) (Kd.R_far (p := ⟨gb309, 1, none⟩) (Kd.R_far (p := ⟨gb309, 0, none⟩) (Kd.R_types HO293.out BK309.out (by decide)) (fun _ hk => hk.2) (.bool t296)) (fun _ hk => hk.2) (.slice Ao27 t297.length co27)) (fun _ hk => hk.2) (.slice Ao28 t300.length co28)) (fun _ hk => hk.2) (.slice Ao29 t303.length co29)) (fun _ hk => hk.2) (.slice Ao30 t306.length co30)) (fun _ h_ => h_.1))) hb); have n4_ := q_ (Kd.R_below (by (with_reducible repeat (first | apply Kd.R_alloc | apply Kd.R_drewN | apply Kd.R_drew)); exact (Kd.R_mono (Kd.R_far (p := ⟨gb309, 4, none⟩) (Kd.R_far (p := ⟨gb309, 3, none⟩) (Kd.R_far (p := ⟨gb309, 2, none⟩) (Kd.R_far (p := ⟨gb309, 1, none⟩) (Kd.R_far (p := ⟨gb309, 0, none⟩) (Kd.R_types HO299.out BK309.out (by decide)) (fun _ hk => hk.2) (.bool t296)) (fun _ hk => hk.2) (.slice Ao27 t297.length co27)) (fun _ hk => hk.2) (.slice Ao28 t300.length co28)) (fun _ hk => hk.2) (.slice Ao29 t303.length co29)) (fun _ hk => hk.2) (.slice Ao30 t306.length co30)) (fun _ h_ => h_.1))) hb); have n5_ := q_ (Kd.R_below (by (with_reducible repeat (first | apply Kd.R_alloc | apply Kd.R_drewN | apply Kd.R_drew)); exact (Kd.R_mono (Kd.R_far (p := ⟨gb309, 4, none⟩) (Kd.R_far (p := ⟨gb309, 3, none⟩) (Kd.R_far (p := ⟨gb309, 2, none⟩) (Kd.R_far (p := ⟨gb309, 1, none⟩) (Kd.R_far (p := ⟨gb309, 0, none⟩) (Kd.R_types HO302.out BK309.out (by decide)) (fun _ hk => hk.2) (.bool t296)) (fun _ hk => hk.2) (.slice Ao27 t297.length co27)) (fun _ hk => hk.2) (.slice Ao28 t300.length co28)) (fun _ hk => hk.2) (.slice Ao29 t303.length co29)) (fun _ hk => hk.2) (.slice Ao30 t306.length co30)) (fun _ h_ => h_.1))) hb); have n6_ := q_ (Kd.R_below z39_ hb); have n7_ := q_ (Kd.R_below (by (with_reducible repeat (first | apply Kd.R_alloc | apply Kd.R_drewN | apply Kd.R_drew)); exact (Kd.R_mono (Kd.R_far (p := ⟨gb309, 4, none⟩) (Kd.R_far (p := ⟨gb309, 3, none⟩) (Kd.R_far (p := ⟨gb309, 2, none⟩) (Kd.R_far (p := ⟨gb309, 1, none⟩) (Kd.R_far (p := ⟨gb309, 0, none⟩) (Kd.R_types HO308.out BK309.out (by decide)) (fun _ hk => hk.2) (.bool t296)) (fun _ hk => hk.2) (.slice Ao27 t297.length co27)) (fun _ hk => hk.2) (.slice Ao28 t300.length co28)) (fun _ hk => hk.2) (.slice Ao29 t303.length co29)) (fun _ hk => hk.2) (.slice Ao30 t306.length co30)) (fun _ h_ => h_.1))) hb); have n8_ := q_ (blk_below (g := gb279) (o := .cells #[.bool a0_0, .slice A0_1 l0_1.length c0_1, .slice A0_2 l0_2.length c0_2, .slice A0_3 l0_3.length c0_3, .slice A0_4 l0_4.length c0_4] 27 (0, 0)) (by (with_reducible repeat (first | refine blk_drewN ?_ _ | refine blk_drew ?_ | refine blk_alloc ?_ _)); refine blk_far ?_ NB279_309.out _; (with_reducible repeat (first | refine blk_drewN ?_ _ | refine blk_drew ?_ | refine blk_alloc ?_ _)); refine blk_far ?_ NB279_309.out _; (with_reducible repeat (first | refine blk_drewN ?_ _ | refine blk_drew ?_ | refine blk_alloc ?_ _)); refine blk_far ?_ NB279_309.out _; (with_reducible repeat (first | refine blk_drewN ?_ _ | refine blk_drew ?_ | refine blk_alloc ?_ _)); refine blk_far ?_ NB279_309.out _; (with_reducible repeat (first | refine blk_drewN ?_ _ | refine blk_drew ?_ | refine blk_alloc ?_ _)); refine blk_far ?_ NB279_309.out _; (with_reducible repeat (first | refine blk_drewN ?_ _ | refine blk_drew ?_ | refine blk_alloc ?_ _)); exact BK279.out) hb); have n9_ := q_ (blk_below (g := gb309) (o := .cells #[.bool t296, .slice Ao27 t297.length co27, .slice Ao28 t300.length co28, .slice Ao29 t303.length co29, .slice Ao30 t306.length co30] 34 (0, 0)) (by (with_reducible repeat (first | refine blk_drewN ?_ _ | refine blk_drew ?_ | refine blk_alloc ?_ _)); refine blk_put (cs := #[.bool t296, .slice Ao27 t297.length co27, .slice Ao28 t300.length co28, .slice Ao29 t303.length co29, .slice none 0 0]) ?_ 4 _ rfl; (with_reducible repeat (first | refine blk_drewN ?_ _ | refine blk_drew ?_ | refine blk_alloc ?_ _)); refine blk_put (cs := #[.bool t296, .slice Ao27 t297.length co27, .slice Ao28 t300.length co28, .slice none 0 0, .slice none 0 0]) ?_ 3 _ rfl; (with_reducible repeat (first | refine blk_drewN ?_ _ | refine blk_drew ?_ | refine blk_alloc ?_ _)); refine blk_put (cs := #[.bool t296, .slice Ao27 t297.length co27, .slice none 0 0, .slice none 0 0, .slice none 0 0]) ?_ 2 _ rfl; (with_reducible repeat (first | refine blk_drewN ?_ _ | refine blk_drew ?_ | refine blk_alloc ?_ _)); refine blk_put (cs := #[.bool t296, .slice none 0 0, .slice none 0 0, .slice none 0 0, .slice none 0 0]) ?_ 1 _ rfl; (with_reducible repeat (first | refine blk_drewN ?_ _ | refine blk_drew ?_ | refine blk_alloc ?_ _)); refine blk_put (cs := #[.bool false, .slice none 0 0, .slice none 0 0, .slice none 0 0, .slice none 0 0]) ?_ 0 _ rfl; (with_reducible repeat (first | refine blk_drewN ?_ _ | refine blk_drew ?_ | refine blk_alloc ?_ _)); exact BK309.out) hb); have n10_ := q_ (below_step z10_ hb); clear HO284; clear HO287; clear HO290; clear HO293; clear HO299; clear HO302; clear HO305; clear HO308; clear BK279; clear BK309; clear HB; have HO284 := n0_; have HO287 := n1_; have HO290 := n2_; have HO293 := n3_; have HO299 := n4_; have HO302 := n5_; have HO305 := n6_; have HO308 := n7_; have BK279 := n8_; have BK309 := n9_; have HB := n10_; clear n0_ n1_ n2_ n3_ n4_ n5_ n6_ n7_ n8_ n9_ n10_; (try clear hb); (try clear hb2); (try clear hk); (try clear hi)))
  (try simp only [Act.put, List.setIfInBounds_toArray, List.set_cons_zero, List.set_cons_succ])
  go_cut [34] (fun v34 wc => ∃ (kq : Nat) (x34_10 : Bool), v34 = .bool x34_10 ∧ Aside0 (laws_FnExactTreeCount.j0 kq x34_10 a0_0 l0_1 l0_2 l0_3 l0_4 t296 t297 t300 t303 t306 = some r) ∧ Aside0 (kq ≤ k) ∧ Aside0 (Kd.R k92 92 wc w.heap.size (fun _ => True) (.slice Ao27 t297.length co27) t297) ∧ Aside0 (Kd.R (Kd.int .i64) 3 wc w.heap.size (fun _ => True) (.slice Ao28 t300.length co28) t300) ∧ Aside0 (Kd.R k34 34 wc w.heap.size (fun k_ => some k_ ≠ ((.slice Ao27 t297.length co27) : Value).ownBlock ∧ some k_ ≠ ((.slice Ao28 t300.length co28) : Value).ownBlock ∧ some k_ ≠ ((.slice Ao30 t306.length co30) : Value).ownBlock ∧ k_ ≠ gb309) (.slice Ao29 t303.length co29) t303) ∧ Aside0 (Kd.R k72 72 wc w.heap.size (fun _ => True) (.slice Ao30 t306.length co30) t306) ∧ Aside0 (wc.heap[gb279]? = some (.cells #[.bool a0_0, (.slice A0_1 l0_1.length c0_1), (.slice A0_2 l0_2.length c0_2), (.slice A0_3 l0_3.length c0_3), (.slice A0_4 l0_4.length c0_4)] 27 (0, 0))) ∧ Aside0 (wc.heap[gb309]? = some (.cells #[.bool t296, (.slice Ao27 t297.length co27), (.slice Ao28 t300.length co28), (.slice Ao29 t303.length co29), (.slice Ao30 t306.length co30)] 34 (0, 0))) ∧ Aside0 (Below w.heap.size w wc))
  case first =>
   have H := HC11.out
   clear HC11
   by_cases c32 : t310 = t294
   ·rw [if_pos c32] at H
    have c32b0 : (t310 == t294) = true := beq_iff_eq.mpr c32
    have c32b1 : (t310 != t294) = false := bne_eq_false_iff_eq.mpr c32
    clear c32
    (first | rw [c32b0] | (simp only [i64_w, i32_w]; rw [c32b0]) | skip)
    have H' := q_ H
    clear H
    go_wp2
    go_meet
    case rel => exact ⟨_, ((t311 != t295)), z5_, H', ⟨z73_⟩, ⟨z93_⟩, ⟨z94_⟩, ⟨z86_⟩, ⟨z95_⟩, ⟨z30_⟩, ⟨z48_⟩, ⟨z10_⟩⟩
   ·rw [if_neg c32] at H
    have c32b0 : (t310 == t294) = false := beq_eq_false_iff_ne.mpr c32
    have c32b1 : (t310 != t294) = true := bne_iff_ne.mpr c32
    (first | rw [c32b0] | (simp only [i64_w, i32_w]; rw [c32b0]) | skip)
    have H' := q_ H
    clear H
    go_wp2
    go_meet
    case rel => exact ⟨_, (true), z5_, H', ⟨z73_⟩, ⟨z93_⟩, ⟨z94_⟩, ⟨z86_⟩, ⟨z95_⟩, ⟨z30_⟩, ⟨z48_⟩, ⟨z10_⟩⟩
  case rest =>
   clear HC11
   try clear c1
   try clear c2
   try clear p2
   try clear c3
   try clear c3b0
   try clear c6
   try clear c15
   try clear c17
   try clear c24
   try clear c25
   try clear c32
   try clear c32b0
   try clear c32b1
   try clear hcz13_0
   try clear hcz13_1
   try clear hcz13_2
   try clear hcz13_3
   try clear hcz13_4
   try clear hcz15_0
   try clear hcz15_1
   try clear hcz15_2
   try clear hcz15_3
   try clear hcz15_4
   try clear hcz22_0
   try clear hcz22_1
   try clear hcz22_2
   try clear hcz22_3
   try clear hcz22_4
   try clear hcz26_0
   try clear hcz26_1
   try clear hcz26_2
   try clear hcz26_3
   try clear hcz26_4
   try clear hcz5_0
   try clear hcz5_1
   try clear hcz5_2
   try clear hcz5_3
   try clear hcz5_4
   try clear hfz13_0
   try clear hfz13_1
   try clear hfz13_2
   try clear hfz13_3
   try clear hfz13_4
   try clear hfz15_0
   try clear hfz15_1
   try clear hfz15_2
   try clear hfz15_3
   try clear hfz15_4
   try clear hfz22_0
   try clear hfz22_1
   try clear hfz22_2
   try clear hfz22_3
   try clear hfz22_4
   try clear hfz26_0
   try clear hfz26_1
   try clear hfz26_2
   try clear hfz26_3
   try clear hfz26_4
   try clear hfz5_0
   try clear hfz5_1
   try clear hfz5_2
   try clear hfz5_3
   try clear hfz5_4
   obtain ⟨kq, x34_10, rfl, HA, HJ10, HO_310001, HO_310002, HO_310003, HO_310004, BK279, BK309, HB⟩ := hcut
   cases kq with
   | zero => exact absurd HA.out (by simp [laws_FnExactTreeCount.j0])
   | succ kj10 =>
    have H := HA.out
    clear HA
    simp only [laws_FnExactTreeCount.j0] at H
    by_cases c33 : x34_10 = true
    ·subst c33
     have H1 : (some false) = some r := z38_
     clear H
     have H := H1
     clear H1
     obtain rfl := Option.some.inj H
     go_wp2
     go_ret
     exact ⟨z2_, z10_⟩
    ·replace c33 := Bool.eq_false_iff.mpr c33
     subst c33
     have H1 : ((laws_toTree.f kj10 a0_0 l0_1 l0_2 l0_3 l0_4).bind fun bt312 => ((laws_eqTree.f kj10 t296 t297 t300 t303 t306 bt312.1 bt312.2.1 bt312.2.2.1 bt312.2.2.2.1 bt312.2.2.2.2).bind fun t325 => (if t325 = true then (some true) else (some false)))) = some r := by rw [if_neg (show ¬ (false = true) by decide)] at H; exact H
     clear H
     have H := H1
     clear H1
     replace H := Option.bind_eq_some_iff.mp H
     obtain ⟨⟨t312, t313, t316, t319, t322⟩, A340, H⟩ := H
     replace H : ((laws_eqTree.f kj10 t296 t297 t300 t303 t306 t312 t313 t316 t319 t322).bind fun t325 => (if t325 = true then (some true) else (some false))) = some r := H
     have A34 := q_ A340
     clear A340
     replace H := Option.bind_eq_some_iff.mp H
     obtain ⟨t325, A350, H⟩ := H
     replace H : (if t325 = true then (some true) else (some false)) = some r := H
     have A35 := q_ A350
     clear A350
     by_cases c36 : t325 = true
     ·subst c36
      have H1 : (some true) = some r := z38_
      clear H
      have H := H1
      clear H1
      obtain rfl := Option.some.inj H
      try go_wp2
      have n0_ := q_ (Kd.R_drew HO_310001.out)
      have n1_ := q_ (Kd.R_drew HO_310002.out)
      have n2_ := q_ (Kd.R_drew HO_310003.out)
      have n3_ := q_ (Kd.R_drew HO_310004.out)
      have n4_ := q_ (blk_drew BK279.out)
      have n5_ := q_ (blk_drew BK309.out)
      have n6_ := q_ (below_drew1 HB.out)
      clear HO_310001
      clear HO_310002
      clear HO_310003
      clear HO_310004
      clear BK279
      clear BK309
      clear HB
      have HO_310001 := n0_
      have HO_310002 := n1_
      have HO_310003 := n2_
      have HO_310004 := n3_
      have BK279 := n4_
      have BK309 := n5_
      have HB := n6_
      clear n0_ n1_ n2_ n3_ n4_ n5_ n6_
      refine start_ (n := 5) (S := fun w' => w'.cell? ⟨gb309, 0, none⟩ = some (.bool t296) ∧ w'.cell? ⟨gb309, 1, none⟩ = some (.slice Ao27 t297.length co27) ∧ w'.cell? ⟨gb309, 2, none⟩ = some (.slice Ao28 t300.length co28) ∧ w'.cell? ⟨gb309, 3, none⟩ = some (.slice Ao29 t303.length co29) ∧ w'.cell? ⟨gb309, 4, none⟩ = some (.slice Ao30 t306.length co30) ∧ w'.cell? ⟨gb279, 0, none⟩ = some (.bool a0_0) ∧ w'.cell? ⟨gb279, 1, none⟩ = some (.slice A0_1 l0_1.length c0_1) ∧ w'.cell? ⟨gb279, 2, none⟩ = some (.slice A0_2 l0_2.length c0_2) ∧ w'.cell? ⟨gb279, 3, none⟩ = some (.slice A0_3 l0_3.length c0_3) ∧ w'.cell? ⟨gb279, 4, none⟩ = some (.slice A0_4 l0_4.length c0_4)) (ds := []) #[false, false, false, false, false] (by kernel_rfl) rfl rfl ⟨(blk_cell BK309.out 0).trans rfl, (blk_cell BK309.out 1).trans rfl, (blk_cell BK309.out 2).trans rfl, (blk_cell BK309.out 3).trans rfl, (blk_cell BK309.out 4).trans rfl, (blk_cell BK279.out 0).trans rfl, (blk_cell BK279.out 1).trans rfl, (blk_cell BK279.out 2).trans rfl, (blk_cell BK279.out 3).trans rfl, (blk_cell BK279.out 4).trans rfl⟩ (fun hHeld => ?_)
      generalize wc.drew = w37 at HO_310001 HO_310002 HO_310003 HO_310004 BK279 BK309 HB hHeld ⊢
      refine take_ (i := 0) (N := some 35) (v := ?_) (a' := ?_) #[true, false, false, false, false] rfl rfl (by kernel_rfl) (fun _ _ _ h => h) (Or.inl ⟨by rfl, ?_⟩) hHeld ?_ ?_
      rotate_left
      ·rintro w' ⟨s0, s1, s2, s3, s4, s5, s6, s7, s8, s9⟩
       go_simp
       with_reducible rfl
      rotate_left
      ·simp only [Act.put, List.setIfInBounds_toArray, List.set_cons_zero, List.set_cons_succ, i64_w, i32_w]
       rfl
      refine take_ (i := 1) (N := some 36) (v := ?_) (a' := ?_) #[true, true, false, false, false] rfl rfl (by kernel_rfl) (fun _ _ _ h => h) (Or.inl ⟨by rfl, ?_⟩) hHeld ?_ ?_
      rotate_left
      ·rintro w' ⟨s0, s1, s2, s3, s4, s5, s6, s7, s8, s9⟩
       go_simp
       with_reducible rfl
      rotate_left
      ·simp only [Act.put, List.setIfInBounds_toArray, List.set_cons_zero, List.set_cons_succ, i64_w, i32_w]
       rfl
      refine one_ (i := 2) (N := some 37) #[true, true, true, false, false] rfl rfl (by kernel_rfl) (by decide) (fun K hK => ?_)
      refine goes_ Try.func17 (by kernel_rfl) rfl #[.agg #[.bool a0_0, .slice A0_1 l0_1.length c0_1, .slice A0_2 l0_2.length c0_2, .slice A0_3 l0_3.length c0_3, .slice A0_4 l0_4.length c0_4]] (by rfl) rfl rfl z1_ ?_
      with_reducible refine (laws_toTree.calls kj10 a0_0 _ _ l0_1 _ _ l0_2 _ _ l0_3 _ _ l0_4 t312 t313 t316 t319 t322 _ ?side1 ?side2 ?side3 ?side4 ?side5 ?side6 ?side7 ?side8 A34.out).mono ?_
      (case side1 => exact z140_)
      (case side2 => exact z157_)
      (case side3 => exact z143_)
      (case side4 => exact z163_)
      (case side5 => exact z144_)
      (case side6 => exact z164_)
      (case side7 => exact z142_)
      (case side8 => exact z165_)
      rintro e w38 ⟨v314, v317, v320, v323, rfl, ho0, ho1, ho2, ho3, hb⟩
      refine ⟨_, rfl, ?_⟩
      have n0_ := q_ (Kd.R_elder' z49_ (Kd.R_base ho0) hb)
      have n1_ := q_ (Kd.R_elder' z50_ (Kd.R_base ho1) hb)
      have n2_ := q_ (Kd.R_mono (Kd.R_told (Kd.R_told (Kd.R_told (Kd.R_told (Kd.R_old z65_ hb) (Kd.R_base ho0)) (Kd.R_base ho1)) (Kd.R_base ho2)) (Kd.R_base ho3)) (fun _ h_ => h_.1))
      have n3_ := q_ (Kd.R_elder' z51_ (Kd.R_base ho3) hb)
      have n4_ := q_ (Kd.R_lower (Kd.R_new' ho0 (Kd.R_lt z49_)) (below_size z10_))
      have n5_ := q_ (Kd.R_lower (Kd.R_new' ho1 (Kd.R_lt z50_)) (below_size z10_))
      have n6_ := q_ (Kd.R_lower (Kd.R_newB (Kd.R_new' (Kd.R_new' (Kd.R_new' (Kd.R_new' ho2 (Kd.R_lt z49_)) (Kd.R_lt z50_)) (Kd.R_lt z65_)) (Kd.R_lt z51_)) (g := gb309) (o := .cells #[.bool t296, .slice Ao27 t297.length co27, .slice Ao28 t300.length co28, .slice Ao29 t303.length co29, .slice Ao30 t306.length co30] 34 (0, 0)) z48_) (below_size z10_))
      have n7_ := q_ (Kd.R_lower (Kd.R_new' ho3 (Kd.R_lt z51_)) (below_size z10_))
      have n8_ := q_ (blk_below (g := gb279) (o := .cells #[.bool a0_0, .slice A0_1 l0_1.length c0_1, .slice A0_2 l0_2.length c0_2, .slice A0_3 l0_3.length c0_3, .slice A0_4 l0_4.length c0_4] 27 (0, 0)) z30_ hb)
      have n9_ := q_ (blk_below (g := gb309) (o := .cells #[.bool t296, .slice Ao27 t297.length co27, .slice Ao28 t300.length co28, .slice Ao29 t303.length co29, .slice Ao30 t306.length co30] 34 (0, 0)) z48_ hb)
      have n10_ := q_ (below_step z10_ hb)
      clear HO_310001
      clear HO_310002
      clear HO_310003
      clear HO_310004
      clear BK279
      clear BK309
      clear HB
      have HO_310001 := n0_
      have HO_310002 := n1_
      have HO_310003 := n2_
      have HO_310004 := n3_
      have HO315 := n4_
      have HO318 := n5_
      have HO321 := n6_
      have HO324 := n7_
      have BK279 := n8_
      have BK309 := n9_
      have HB := n10_
      clear n0_ n1_ n2_ n3_ n4_ n5_ n6_ n7_ n8_ n9_ n10_
      (try clear hb)
      (try clear hb2)
      (try clear hk)
      (try clear hi)
      (try clear ho0)
      (try clear ho1)
      (try clear ho2)
      (try clear ho3)
      obtain ⟨Ao39, co39, eo39⟩ := Kd.R_slice HO315.out
      (first | subst eo39 | (injection eo39 with f1_ f2_ f3_; have f4_ := f1_.symm; have f5_ := f3_.symm; clear f1_ f2_ f3_; subst f4_; subst f5_))
      obtain ⟨Ao40, co40, eo40⟩ := Kd.R_slice HO318.out
      (first | subst eo40 | (injection eo40 with f1_ f2_ f3_; have f4_ := f1_.symm; have f5_ := f3_.symm; clear f1_ f2_ f3_; subst f4_; subst f5_))
      obtain ⟨Ao41, co41, eo41⟩ := Kd.R_slice HO321.out
      (first | subst eo41 | (injection eo41 with f1_ f2_ f3_; have f4_ := f1_.symm; have f5_ := f3_.symm; clear f1_ f2_ f3_; subst f4_; subst f5_))
      obtain ⟨Ao42, co42, eo42⟩ := Kd.R_slice HO324.out
      (first | subst eo42 | (injection eo42 with f1_ f2_ f3_; have f4_ := f1_.symm; have f5_ := f3_.symm; clear f1_ f2_ f3_; subst f4_; subst f5_))
      refine hK.out _ _ ⟨(blk_cell BK309.out 0).trans rfl, (blk_cell BK309.out 1).trans rfl, (blk_cell BK309.out 2).trans rfl, (blk_cell BK309.out 3).trans rfl, (blk_cell BK309.out 4).trans rfl, (blk_cell BK279.out 0).trans rfl, (blk_cell BK279.out 1).trans rfl, (blk_cell BK279.out 2).trans rfl, (blk_cell BK279.out 3).trans rfl, (blk_cell BK279.out 4).trans rfl⟩ (fun hHeld => ?_)
      clear hK K
      refine norm_ (a' := ?_) ?_ ?_
      rotate_left
      ·show Act.put _ (some 37) _ = _
       simp only [Act.put, List.setIfInBounds_toArray, List.set_cons_zero, List.set_cons_succ, i64_w, i32_w]
       rfl
      refine one_ (i := 3) (N := some 38) #[true, true, true, true, false] rfl rfl (by kernel_rfl) (by decide) (fun K hK => ?_)
      refine goes_ Try.func19 (by kernel_rfl) rfl #[.agg #[.bool t296, .slice Ao27 t297.length co27, .slice Ao28 t300.length co28, .slice Ao29 t303.length co29, .slice Ao30 t306.length co30], .agg #[.bool t312, .slice Ao39 t313.length co39, .slice Ao40 t316.length co40, .slice Ao41 t319.length co41, .slice Ao42 t322.length co42]] (by rfl) rfl rfl z1_ ?_
      with_reducible refine (laws_eqTree.calls kj10 t296 _ _ t297 _ _ t300 _ _ t303 _ _ t306 t312 _ _ t313 _ _ t316 _ _ t319 _ _ t322 true _ ?side1 ?side2 ?side3 ?side4 ?side5 ?side6 ?side7 ?side8 ?side9 ?side10 ?side11 ?side12 ?side13 ?side14 ?side15 ?side16 A35.out).mono ?_
      (case side1 => exact z178_)
      (case side2 => exact (Kd.R_reads' HO_310001.out).2.1)
      (case side3 => exact z179_)
      (case side4 => exact (Kd.R_reads' HO_310002.out).2.1)
      (case side5 => exact z180_)
      (case side6 => exact (Kd.R_reads' HO_310003.out).2.1)
      (case side7 => exact z181_)
      (case side8 => exact (Kd.R_reads' HO_310004.out).2.1)
      (case side9 => exact z194_)
      (case side10 => exact (Kd.R_reads' HO315.out).2.1)
      (case side11 => exact z195_)
      (case side12 => exact (Kd.R_reads' HO318.out).2.1)
      (case side13 => exact z196_)
      (case side14 => exact (Kd.R_reads' HO321.out).2.1)
      (case side15 => exact z197_)
      (case side16 => exact (Kd.R_reads' HO324.out).2.1)
      rintro e w43 ⟨rfl, hb⟩
      refine ⟨_, rfl, ?_⟩
      have n0_ := q_ (Kd.R_below z49_ hb)
      have n1_ := q_ (Kd.R_below z50_ hb)
      have n2_ := q_ (Kd.R_below z65_ hb)
      have n3_ := q_ (Kd.R_below z51_ hb)
      have n4_ := q_ (Kd.R_below z100_ hb)
      have n5_ := q_ (Kd.R_below z101_ hb)
      have n6_ := q_ (Kd.R_below z102_ hb)
      have n7_ := q_ (Kd.R_below z103_ hb)
      have n8_ := q_ (blk_below (g := gb279) (o := .cells #[.bool a0_0, .slice A0_1 l0_1.length c0_1, .slice A0_2 l0_2.length c0_2, .slice A0_3 l0_3.length c0_3, .slice A0_4 l0_4.length c0_4] 27 (0, 0)) z30_ hb)
      have n9_ := q_ (blk_below (g := gb309) (o := .cells #[.bool t296, .slice Ao27 t297.length co27, .slice Ao28 t300.length co28, .slice Ao29 t303.length co29, .slice Ao30 t306.length co30] 34 (0, 0)) z48_ hb)
      have n10_ := q_ (below_step z10_ hb)
      clear HO_310001
      clear HO_310002
      clear HO_310003
      clear HO_310004
      clear HO315
      clear HO318
      clear HO321
      clear HO324
      clear BK279
      clear BK309
      clear HB
      have HO_310001 := n0_
      have HO_310002 := n1_
      have HO_310003 := n2_
      have HO_310004 := n3_
      have HO315 := n4_
      have HO318 := n5_
      have HO321 := n6_
      have HO324 := n7_
      have BK279 := n8_
      have BK309 := n9_
      have HB := n10_
      clear n0_ n1_ n2_ n3_ n4_ n5_ n6_ n7_ n8_ n9_ n10_
      (try clear hb)
      (try clear hb2)
      (try clear hk)
      (try clear hi)
      refine hK.out _ _ ⟨(blk_cell BK309.out 0).trans rfl, (blk_cell BK309.out 1).trans rfl, (blk_cell BK309.out 2).trans rfl, (blk_cell BK309.out 3).trans rfl, (blk_cell BK309.out 4).trans rfl, (blk_cell BK279.out 0).trans rfl, (blk_cell BK279.out 1).trans rfl, (blk_cell BK279.out 2).trans rfl, (blk_cell BK279.out 3).trans rfl, (blk_cell BK279.out 4).trans rfl⟩ (fun hHeld => ?_)
      clear hK K
      refine norm_ (a' := ?_) ?_ ?_
      rotate_left
      ·show Act.put _ (some 38) _ = _
       simp only [Act.put, List.setIfInBounds_toArray, List.set_cons_zero, List.set_cons_succ, i64_w, i32_w]
       rfl
      refine pure_ (i := 4) (N := some 39) (v := ?_) (a' := ?_) #[true, true, true, true, true] rfl rfl (by kernel_rfl) (fun _ _ _ h => h) (Or.inl ⟨by rfl, ?_⟩) ?_ ?_
      rotate_left
      ·intro w'
       go_simp
       with_reducible rfl
      rotate_left
      ·simp only [Act.put, List.setIfInBounds_toArray, List.set_cons_zero, List.set_cons_succ, i64_w, i32_w]
       rfl
      refine done_ (by kernel_rfl) ?_
      try go_wp2
      go_ret
      exact ⟨z2_, z10_⟩
     ·replace c36 := Bool.eq_false_iff.mpr c36
      subst c36
      have H1 : (some false) = some r := by rw [if_neg (show ¬ (false = true) by decide)] at H; exact H
      clear H
      have H := H1
      clear H1
      obtain rfl := Option.some.inj H
      try go_wp2
      have n0_ := q_ (Kd.R_drew HO_310001.out)
      have n1_ := q_ (Kd.R_drew HO_310002.out)
      have n2_ := q_ (Kd.R_drew HO_310003.out)
      have n3_ := q_ (Kd.R_drew HO_310004.out)
      have n4_ := q_ (blk_drew BK279.out)
      have n5_ := q_ (blk_drew BK309.out)
      have n6_ := q_ (below_drew1 HB.out)
      clear HO_310001
      clear HO_310002
      clear HO_310003
      clear HO_310004
      clear BK279
      clear BK309
      clear HB
      have HO_310001 := n0_
      have HO_310002 := n1_
      have HO_310003 := n2_
      have HO_310004 := n3_
      have BK279 := n4_
      have BK309 := n5_
      have HB := n6_
      clear n0_ n1_ n2_ n3_ n4_ n5_ n6_
      refine start_ (n := 5) (S := fun w' => w'.cell? ⟨gb309, 0, none⟩ = some (.bool t296) ∧ w'.cell? ⟨gb309, 1, none⟩ = some (.slice Ao27 t297.length co27) ∧ w'.cell? ⟨gb309, 2, none⟩ = some (.slice Ao28 t300.length co28) ∧ w'.cell? ⟨gb309, 3, none⟩ = some (.slice Ao29 t303.length co29) ∧ w'.cell? ⟨gb309, 4, none⟩ = some (.slice Ao30 t306.length co30) ∧ w'.cell? ⟨gb279, 0, none⟩ = some (.bool a0_0) ∧ w'.cell? ⟨gb279, 1, none⟩ = some (.slice A0_1 l0_1.length c0_1) ∧ w'.cell? ⟨gb279, 2, none⟩ = some (.slice A0_2 l0_2.length c0_2) ∧ w'.cell? ⟨gb279, 3, none⟩ = some (.slice A0_3 l0_3.length c0_3) ∧ w'.cell? ⟨gb279, 4, none⟩ = some (.slice A0_4 l0_4.length c0_4)) (ds := []) #[false, false, false, false, false] (by kernel_rfl) rfl rfl ⟨(blk_cell BK309.out 0).trans rfl, (blk_cell BK309.out 1).trans rfl, (blk_cell BK309.out 2).trans rfl, (blk_cell BK309.out 3).trans rfl, (blk_cell BK309.out 4).trans rfl, (blk_cell BK279.out 0).trans rfl, (blk_cell BK279.out 1).trans rfl, (blk_cell BK279.out 2).trans rfl, (blk_cell BK279.out 3).trans rfl, (blk_cell BK279.out 4).trans rfl⟩ (fun hHeld => ?_)
      generalize wc.drew = w44 at HO_310001 HO_310002 HO_310003 HO_310004 BK279 BK309 HB hHeld ⊢
      refine take_ (i := 0) (N := some 35) (v := ?_) (a' := ?_) #[true, false, false, false, false] rfl rfl (by kernel_rfl) (fun _ _ _ h => h) (Or.inl ⟨by rfl, ?_⟩) hHeld ?_ ?_
      rotate_left
      ·rintro w' ⟨s0, s1, s2, s3, s4, s5, s6, s7, s8, s9⟩
       go_simp
       with_reducible rfl
      rotate_left
      ·simp only [Act.put, List.setIfInBounds_toArray, List.set_cons_zero, List.set_cons_succ, i64_w, i32_w]
       rfl
      refine take_ (i := 1) (N := some 36) (v := ?_) (a' := ?_) #[true, true, false, false, false] rfl rfl (by kernel_rfl) (fun _ _ _ h => h) (Or.inl ⟨by rfl, ?_⟩) hHeld ?_ ?_
      rotate_left
      ·rintro w' ⟨s0, s1, s2, s3, s4, s5, s6, s7, s8, s9⟩
       go_simp
       with_reducible rfl
      rotate_left
      ·simp only [Act.put, List.setIfInBounds_toArray, List.set_cons_zero, List.set_cons_succ, i64_w, i32_w]
       rfl
      refine one_ (i := 2) (N := some 37) #[true, true, true, false, false] rfl rfl (by kernel_rfl) (by decide) (fun K hK => ?_)
      refine goes_ Try.func17 (by kernel_rfl) rfl #[.agg #[.bool a0_0, .slice A0_1 l0_1.length c0_1, .slice A0_2 l0_2.length c0_2, .slice A0_3 l0_3.length c0_3, .slice A0_4 l0_4.length c0_4]] (by rfl) rfl rfl z1_ ?_
      with_reducible refine (laws_toTree.calls kj10 a0_0 _ _ l0_1 _ _ l0_2 _ _ l0_3 _ _ l0_4 t312 t313 t316 t319 t322 _ ?side1 ?side2 ?side3 ?side4 ?side5 ?side6 ?side7 ?side8 A34.out).mono ?_
      (case side1 => exact z140_)
      (case side2 => exact z157_)
      (case side3 => exact z143_)
      (case side4 => exact z163_)
      (case side5 => exact z144_)
      (case side6 => exact z164_)
      (case side7 => exact z142_)
      (case side8 => exact z165_)
      rintro e w45 ⟨v314, v317, v320, v323, rfl, ho0, ho1, ho2, ho3, hb⟩
      refine ⟨_, rfl, ?_⟩
      have n0_ := q_ (Kd.R_elder' z49_ (Kd.R_base ho0) hb)
      have n1_ := q_ (Kd.R_elder' z50_ (Kd.R_base ho1) hb)
      have n2_ := q_ (Kd.R_mono (Kd.R_told (Kd.R_told (Kd.R_told (Kd.R_told (Kd.R_old z65_ hb) (Kd.R_base ho0)) (Kd.R_base ho1)) (Kd.R_base ho2)) (Kd.R_base ho3)) (fun _ h_ => h_.1))
      have n3_ := q_ (Kd.R_elder' z51_ (Kd.R_base ho3) hb)
      have n4_ := q_ (Kd.R_lower (Kd.R_new' ho0 (Kd.R_lt z49_)) (below_size z10_))
      have n5_ := q_ (Kd.R_lower (Kd.R_new' ho1 (Kd.R_lt z50_)) (below_size z10_))
      have n6_ := q_ (Kd.R_lower (Kd.R_newB (Kd.R_new' (Kd.R_new' (Kd.R_new' (Kd.R_new' ho2 (Kd.R_lt z49_)) (Kd.R_lt z50_)) (Kd.R_lt z65_)) (Kd.R_lt z51_)) (g := gb309) (o := .cells #[.bool t296, .slice Ao27 t297.length co27, .slice Ao28 t300.length co28, .slice Ao29 t303.length co29, .slice Ao30 t306.length co30] 34 (0, 0)) z48_) (below_size z10_))
      have n7_ := q_ (Kd.R_lower (Kd.R_new' ho3 (Kd.R_lt z51_)) (below_size z10_))
      have n8_ := q_ (blk_below (g := gb279) (o := .cells #[.bool a0_0, .slice A0_1 l0_1.length c0_1, .slice A0_2 l0_2.length c0_2, .slice A0_3 l0_3.length c0_3, .slice A0_4 l0_4.length c0_4] 27 (0, 0)) z30_ hb)
      have n9_ := q_ (blk_below (g := gb309) (o := .cells #[.bool t296, .slice Ao27 t297.length co27, .slice Ao28 t300.length co28, .slice Ao29 t303.length co29, .slice Ao30 t306.length co30] 34 (0, 0)) z48_ hb)
      have n10_ := q_ (below_step z10_ hb)
      clear HO_310001
      clear HO_310002
      clear HO_310003
      clear HO_310004
      clear BK279
      clear BK309
      clear HB
      have HO_310001 := n0_
      have HO_310002 := n1_
      have HO_310003 := n2_
      have HO_310004 := n3_
      have HO315 := n4_
      have HO318 := n5_
      have HO321 := n6_
      have HO324 := n7_
      have BK279 := n8_
      have BK309 := n9_
      have HB := n10_
      clear n0_ n1_ n2_ n3_ n4_ n5_ n6_ n7_ n8_ n9_ n10_
      (try clear hb)
      (try clear hb2)
      (try clear hk)
      (try clear hi)
      (try clear ho0)
      (try clear ho1)
      (try clear ho2)
      (try clear ho3)
      obtain ⟨Ao46, co46, eo46⟩ := Kd.R_slice HO315.out
      (first | subst eo46 | (injection eo46 with f1_ f2_ f3_; have f4_ := f1_.symm; have f5_ := f3_.symm; clear f1_ f2_ f3_; subst f4_; subst f5_))
      obtain ⟨Ao47, co47, eo47⟩ := Kd.R_slice HO318.out
      (first | subst eo47 | (injection eo47 with f1_ f2_ f3_; have f4_ := f1_.symm; have f5_ := f3_.symm; clear f1_ f2_ f3_; subst f4_; subst f5_))
      obtain ⟨Ao48, co48, eo48⟩ := Kd.R_slice HO321.out
      (first | subst eo48 | (injection eo48 with f1_ f2_ f3_; have f4_ := f1_.symm; have f5_ := f3_.symm; clear f1_ f2_ f3_; subst f4_; subst f5_))
      obtain ⟨Ao49, co49, eo49⟩ := Kd.R_slice HO324.out
      (first | subst eo49 | (injection eo49 with f1_ f2_ f3_; have f4_ := f1_.symm; have f5_ := f3_.symm; clear f1_ f2_ f3_; subst f4_; subst f5_))
      refine hK.out _ _ ⟨(blk_cell BK309.out 0).trans rfl, (blk_cell BK309.out 1).trans rfl, (blk_cell BK309.out 2).trans rfl, (blk_cell BK309.out 3).trans rfl, (blk_cell BK309.out 4).trans rfl, (blk_cell BK279.out 0).trans rfl, (blk_cell BK279.out 1).trans rfl, (blk_cell BK279.out 2).trans rfl, (blk_cell BK279.out 3).trans rfl, (blk_cell BK279.out 4).trans rfl⟩ (fun hHeld => ?_)
      clear hK K
      refine norm_ (a' := ?_) ?_ ?_
      rotate_left
      ·show Act.put _ (some 37) _ = _
       simp only [Act.put, List.setIfInBounds_toArray, List.set_cons_zero, List.set_cons_succ, i64_w, i32_w]
       rfl
      refine one_ (i := 3) (N := some 38) #[true, true, true, true, false] rfl rfl (by kernel_rfl) (by decide) (fun K hK => ?_)
      refine goes_ Try.func19 (by kernel_rfl) rfl #[.agg #[.bool t296, .slice Ao27 t297.length co27, .slice Ao28 t300.length co28, .slice Ao29 t303.length co29, .slice Ao30 t306.length co30], .agg #[.bool t312, .slice Ao46 t313.length co46, .slice Ao47 t316.length co47, .slice Ao48 t319.length co48, .slice Ao49 t322.length co49]] (by rfl) rfl rfl z1_ ?_
      with_reducible refine (laws_eqTree.calls kj10 t296 _ _ t297 _ _ t300 _ _ t303 _ _ t306 t312 _ _ t313 _ _ t316 _ _ t319 _ _ t322 false _ ?side1 ?side2 ?side3 ?side4 ?side5 ?side6 ?side7 ?side8 ?side9 ?side10 ?side11 ?side12 ?side13 ?side14 ?side15 ?side16 A35.out).mono ?_
      (case side1 => exact z178_)
      (case side2 => exact (Kd.R_reads' HO_310001.out).2.1)
      (case side3 => exact z179_)
      (case side4 => exact (Kd.R_reads' HO_310002.out).2.1)
      (case side5 => exact z180_)
      (case side6 => exact (Kd.R_reads' HO_310003.out).2.1)
      (case side7 => exact z181_)
      (case side8 => exact (Kd.R_reads' HO_310004.out).2.1)
      (case side9 => exact z194_)
      (case side10 => exact (Kd.R_reads' HO315.out).2.1)
      (case side11 => exact z195_)
      (case side12 => exact (Kd.R_reads' HO318.out).2.1)
      (case side13 => exact z196_)
      (case side14 => exact (Kd.R_reads' HO321.out).2.1)
      (case side15 => exact z197_)
      (case side16 => exact (Kd.R_reads' HO324.out).2.1)
      rintro e w50 ⟨rfl, hb⟩
      refine ⟨_, rfl, ?_⟩
      have n0_ := q_ (Kd.R_below z49_ hb)
      have n1_ := q_ (Kd.R_below z50_ hb)
      have n2_ := q_ (Kd.R_below z65_ hb)
      have n3_ := q_ (Kd.R_below z51_ hb)
      have n4_ := q_ (Kd.R_below z100_ hb)
      have n5_ := q_ (Kd.R_below z101_ hb)
      have n6_ := q_ (Kd.R_below z102_ hb)
      have n7_ := q_ (Kd.R_below z103_ hb)
      have n8_ := q_ (blk_below (g := gb279) (o := .cells #[.bool a0_0, .slice A0_1 l0_1.length c0_1, .slice A0_2 l0_2.length c0_2, .slice A0_3 l0_3.length c0_3, .slice A0_4 l0_4.length c0_4] 27 (0, 0)) z30_ hb)
      have n9_ := q_ (blk_below (g := gb309) (o := .cells #[.bool t296, .slice Ao27 t297.length co27, .slice Ao28 t300.length co28, .slice Ao29 t303.length co29, .slice Ao30 t306.length co30] 34 (0, 0)) z48_ hb)
      have n10_ := q_ (below_step z10_ hb)
      clear HO_310001
      clear HO_310002
      clear HO_310003
      clear HO_310004
      clear HO315
      clear HO318
      clear HO321
      clear HO324
      clear BK279
      clear BK309
      clear HB
      have HO_310001 := n0_
      have HO_310002 := n1_
      have HO_310003 := n2_
      have HO_310004 := n3_
      have HO315 := n4_
      have HO318 := n5_
      have HO321 := n6_
      have HO324 := n7_
      have BK279 := n8_
      have BK309 := n9_
      have HB := n10_
      clear n0_ n1_ n2_ n3_ n4_ n5_ n6_ n7_ n8_ n9_ n10_
      (try clear hb)
      (try clear hb2)
      (try clear hk)
      (try clear hi)
      refine hK.out _ _ ⟨(blk_cell BK309.out 0).trans rfl, (blk_cell BK309.out 1).trans rfl, (blk_cell BK309.out 2).trans rfl, (blk_cell BK309.out 3).trans rfl, (blk_cell BK309.out 4).trans rfl, (blk_cell BK279.out 0).trans rfl, (blk_cell BK279.out 1).trans rfl, (blk_cell BK279.out 2).trans rfl, (blk_cell BK279.out 3).trans rfl, (blk_cell BK279.out 4).trans rfl⟩ (fun hHeld => ?_)
      clear hK K
      refine norm_ (a' := ?_) ?_ ?_
      rotate_left
      ·show Act.put _ (some 38) _ = _
       simp only [Act.put, List.setIfInBounds_toArray, List.set_cons_zero, List.set_cons_succ, i64_w, i32_w]
       rfl
      refine pure_ (i := 4) (N := some 39) (v := ?_) (a' := ?_) #[true, true, true, true, true] rfl rfl (by kernel_rfl) (fun _ _ _ h => h) (Or.inl ⟨by rfl, ?_⟩) ?_ ?_
      rotate_left
      ·intro w'
       go_simp
       with_reducible rfl
      rotate_left
      ·simp only [Act.put, List.setIfInBounds_toArray, List.set_cons_zero, List.set_cons_succ, i64_w, i32_w]
       rfl
      refine done_ (by kernel_rfl) ?_
      try go_wp2
      go_ret
      exact ⟨z2_, z10_⟩

end Go.Proofs.Ytfnndcpaldkkoaa.PFnExactTreeCount
