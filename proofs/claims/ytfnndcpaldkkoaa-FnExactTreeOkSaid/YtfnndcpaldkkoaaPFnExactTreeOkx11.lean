-- Written by a program of this session, which goes by the kit's print. Not trusted: Lean checks it.
import Derived.Test.YtfnndcpaldkkoaaPFnExactTreeOkx0
import Derived.Test.YtfnndcpaldkkoaaPFnExactTreeOkx1
import Derived.Test.YtfnndcpaldkkoaaPFnExactTreeOkx2
import Derived.Test.YtfnndcpaldkkoaaPFnExactTreeOkx4
import Derived.Test.YtfnndcpaldkkoaaPFnExactTreeOkx8
import Derived.Test.YtfnndcpaldkkoaaPFnExactTreeOkx10
namespace Go.Proofs.Ytfnndcpaldkkoaa.PFnExactTreeOk
open Go.RowKit Go.Proofs.YtfnndcpaldkkoaaW.PrintWords Go.Proofs.YtfnndcpaldkkoaaW.PrintLast Go.Proofs.YtfnndcpaldkkoaaW.PrintMore
attribute [local go_sem] max2_int min2_int max_two min_two max_three min_three max_four min_four   -- for this text's walks alone
set_option linter.unusedVariables false
set_option linter.unusedSimpArgs false

/-! ### impl_TreeDepth: function 18 -/
def impl_TreeDepth.f (k : Nat) (a0_0 : Bool) (l0_1 : List (S92)) (l0_2 : List Int) (l0_3 : List (S34)) (l0_4 : List (S72)) : Option (Int) := (impl_depthOf.f k a0_0 l0_1 l0_2 l0_3 l0_4 0 1000 7).bind fun t259 => (some t259)
theorem impl_TreeDepth.mono : ∀ a0 a1 a2 a3 a4 k, LeO (impl_TreeDepth.f k a0 a1 a2 a3 a4) (impl_TreeDepth.f (k + 1) a0 a1 a2 a3 a4) := by
 intro a0 a1 a2 a3 a4 k
 unfold impl_TreeDepth.f
 repeat' first
   | (with_reducible exact impl_depthOf.mono _ _ _ _ _ _ _ _ _)
   | (with_reducible exact LeO.refl _)
   | (with_reducible exact LeO.none _)
   | (with_reducible refine LeO.ite ?_ ?_)
   | (with_reducible refine LeO.bind ?_ (fun _ => ?_))
   | exact impl_depthOf.mono _ _ _ _ _ _ _ _ _
   | exact LeO.none _
   | refine LeO.ite ?_ ?_
   | refine LeO.bind ?_ (fun _ => ?_)
set_option maxHeartbeats 8000000 in
set_option maxRecDepth 100000 in
theorem impl_TreeDepth.calls (k : Nat) (a0_0 : Bool) (A0_1 : Option Addr) (c0_1 : Nat) (l0_1 : List (S92)) (A0_2 : Option Addr) (c0_2 : Nat) (l0_2 : List Int) (A0_3 : Option Addr) (c0_3 : Nat) (l0_3 : List (S34)) (A0_4 : Option Addr) (c0_4 : Nat) (l0_4 : List (S72)) (r : Int) (w : World) (hr0_1 : Kd.C k92 w A0_1 l0_1.length l0_1) (hc0_1 : l0_1.length ≤ c0_1) (hr0_2 : Kd.C (Kd.int .i64) w A0_2 l0_2.length l0_2) (hc0_2 : l0_2.length ≤ c0_2) (hr0_3 : Kd.C k34 w A0_3 l0_3.length l0_3) (hc0_3 : l0_3.length ≤ c0_3) (hr0_4 : Kd.C k72 w A0_4 l0_4.length l0_4) (hc0_4 : l0_4.length ≤ c0_4) (h : impl_TreeDepth.f k a0_0 l0_1 l0_2 l0_3 l0_4 = some r) :
  Calls Try.prog 18 #[.agg #[.bool a0_0, .slice A0_1 l0_1.length c0_1, .slice A0_2 l0_2.length c0_2, .slice A0_3 l0_3.length c0_3, .slice A0_4 l0_4.length c0_4]] w fun e w' => e = .returned (.int .i64 r) ∧ Below w.heap.size w w' := by
 have hu34 := Try.underlying34
 have HR0_1 := q_ hr0_1
 have HC0_1 := q_ hc0_1
 clear hr0_1 hc0_1
 have HR0_2 := q_ hr0_2
 have HC0_2 := q_ hc0_2
 clear hr0_2 hc0_2
 have HR0_3 := q_ hr0_3
 have HC0_3 := q_ hc0_3
 clear hr0_3 hc0_3
 have HR0_4 := q_ hr0_4
 have HC0_4 := q_ hc0_4
 clear hr0_4 hc0_4
 have HB := q_ (Below.refl w.heap.size w)
 have H : ((impl_depthOf.f k a0_0 l0_1 l0_2 l0_3 l0_4 0 1000 7).bind fun t259 => (some t259)) = some r := h
 clear h
 replace H := Option.bind_eq_some_iff.mp H
 obtain ⟨t259, A20, H⟩ := H
 replace H : (some t259) = some r := H
 have A2 := q_ A20
 clear A20
 obtain rfl := Option.some.inj H
 go_enter Try.func18, Try.ntmps18
 go_wp2_with (first | ((with_reducible refine gate_dst (N := 1) rfl ?_); refine box_event ?hg (N := 1) ?hd (cs := #[.bool a0_0, .slice A0_1 l0_1.length c0_1, .slice A0_2 l0_2.length c0_2, .slice A0_3 l0_3.length c0_3, .slice A0_4 l0_4.length c0_4]) (t := 34) ?hr ?_; (case hd => rfl); (case hg => rfl); (case hr => exact z141_); intro gb258 hg w3 hbox hb; have n0_ := q_ (below_step z0_ hb); have n1_ := q_ (hbox); have n2_ := q_ ((z104_ : w.heap.size ≤ gb258)); have n3_ := q_ ((z104_ : w.heap.size ≤ gb258)); clear HB; have HB := n0_; have BK258 := n1_; have GW258 := n2_; have GE258 := n3_; clear n0_ n1_ n2_ n3_; clear hb hbox hg; obtain ⟨hcz4_0, hcz4_1, hcz4_2, hcz4_3, hcz4_4, hfz4_0, hfz4_1, hfz4_2, hfz4_3, hfz4_4⟩ := cs5_ BK258.out) | ((with_reducible refine gate_callee (f := 64) rfl ?_); refine goesL_ (some 4) rfl rfl Try.func64 (by kernel_rfl) rfl #[.agg #[.bool a0_0, .slice A0_1 l0_1.length c0_1, .slice A0_2 l0_2.length c0_2, .slice A0_3 l0_3.length c0_3, .slice A0_4 l0_4.length c0_4], .int .i64 0, .int .i64 1000, .int .i64 7] rfl z1_ ?_; (with_reducible refine (impl_depthOf.calls k a0_0 _ _ l0_1 _ _ l0_2 _ _ l0_3 _ _ l0_4 0 1000 7 t259 _ ?side1 ?side2 ?side3 ?side4 ?side5 ?side6 ?side7 ?side8 A2.out).mono ?_); (case side1 => exact z140_); (case side2 => exact z157_); (case side3 => exact z143_); (case side4 => exact z163_); (case side5 => exact z144_); (case side6 => exact z164_); (case side7 => exact z142_); (case side8 => exact z165_); rintro e w5 ⟨rfl, hb⟩; refine ⟨_, rfl, ?_⟩; have n0_ := q_ (below_step z0_ hb); clear HB; have HB := n0_; clear n0_; (try clear hb); (try clear hb2); (try clear hk); (try clear hi)))
 go_ret
 exact ⟨z2_, z0_⟩

/-! ### impl_TreeOk: function 21 -/
def impl_TreeOk.f (k : Nat) (a0_0 : Bool) (l0_1 : List (S92)) (l0_2 : List Int) (l0_3 : List (S34)) (l0_4 : List (S72)) : Option (Bool) := (impl_TreeDepth.f k a0_0 l0_1 l0_2 l0_3 l0_4).bind fun t261 => (some (decide (t261 > 0)))
theorem impl_TreeOk.mono : ∀ a0 a1 a2 a3 a4 k, LeO (impl_TreeOk.f k a0 a1 a2 a3 a4) (impl_TreeOk.f (k + 1) a0 a1 a2 a3 a4) := by
 intro a0 a1 a2 a3 a4 k
 unfold impl_TreeOk.f
 repeat' first
   | (with_reducible exact impl_TreeDepth.mono _ _ _ _ _ _)
   | (with_reducible exact LeO.refl _)
   | (with_reducible exact LeO.none _)
   | (with_reducible refine LeO.ite ?_ ?_)
   | (with_reducible refine LeO.bind ?_ (fun _ => ?_))
   | exact impl_TreeDepth.mono _ _ _ _ _ _
   | exact LeO.none _
   | refine LeO.ite ?_ ?_
   | refine LeO.bind ?_ (fun _ => ?_)
set_option maxHeartbeats 8000000 in
set_option maxRecDepth 100000 in
theorem impl_TreeOk.calls (k : Nat) (a0_0 : Bool) (A0_1 : Option Addr) (c0_1 : Nat) (l0_1 : List (S92)) (A0_2 : Option Addr) (c0_2 : Nat) (l0_2 : List Int) (A0_3 : Option Addr) (c0_3 : Nat) (l0_3 : List (S34)) (A0_4 : Option Addr) (c0_4 : Nat) (l0_4 : List (S72)) (r : Bool) (w : World) (hr0_1 : Kd.C k92 w A0_1 l0_1.length l0_1) (hc0_1 : l0_1.length ≤ c0_1) (hr0_2 : Kd.C (Kd.int .i64) w A0_2 l0_2.length l0_2) (hc0_2 : l0_2.length ≤ c0_2) (hr0_3 : Kd.C k34 w A0_3 l0_3.length l0_3) (hc0_3 : l0_3.length ≤ c0_3) (hr0_4 : Kd.C k72 w A0_4 l0_4.length l0_4) (hc0_4 : l0_4.length ≤ c0_4) (h : impl_TreeOk.f k a0_0 l0_1 l0_2 l0_3 l0_4 = some r) :
  Calls Try.prog 21 #[.agg #[.bool a0_0, .slice A0_1 l0_1.length c0_1, .slice A0_2 l0_2.length c0_2, .slice A0_3 l0_3.length c0_3, .slice A0_4 l0_4.length c0_4]] w fun e w' => e = .returned (.bool r) ∧ Below w.heap.size w w' := by
 have hu34 := Try.underlying34
 have HR0_1 := q_ hr0_1
 have HC0_1 := q_ hc0_1
 clear hr0_1 hc0_1
 have HR0_2 := q_ hr0_2
 have HC0_2 := q_ hc0_2
 clear hr0_2 hc0_2
 have HR0_3 := q_ hr0_3
 have HC0_3 := q_ hc0_3
 clear hr0_3 hc0_3
 have HR0_4 := q_ hr0_4
 have HC0_4 := q_ hc0_4
 clear hr0_4 hc0_4
 have HB := q_ (Below.refl w.heap.size w)
 have H : ((impl_TreeDepth.f k a0_0 l0_1 l0_2 l0_3 l0_4).bind fun t261 => (some (decide (t261 > 0)))) = some r := h
 clear h
 replace H := Option.bind_eq_some_iff.mp H
 obtain ⟨t261, A20, H⟩ := H
 replace H : (some (decide (t261 > 0))) = some r := H
 have A2 := q_ A20
 clear A20
 obtain rfl := Option.some.inj H
 go_enter Try.func21, Try.ntmps21
 go_wp2_with (first | ((with_reducible refine gate_dst (N := 1) rfl ?_); refine box_event ?hg (N := 1) ?hd (cs := #[.bool a0_0, .slice A0_1 l0_1.length c0_1, .slice A0_2 l0_2.length c0_2, .slice A0_3 l0_3.length c0_3, .slice A0_4 l0_4.length c0_4]) (t := 34) ?hr ?_; (case hd => rfl); (case hg => rfl); (case hr => exact z141_); intro gb260 hg w3 hbox hb; have n0_ := q_ (below_step z0_ hb); have n1_ := q_ (hbox); have n2_ := q_ ((z104_ : w.heap.size ≤ gb260)); have n3_ := q_ ((z104_ : w.heap.size ≤ gb260)); clear HB; have HB := n0_; have BK260 := n1_; have GW260 := n2_; have GE260 := n3_; clear n0_ n1_ n2_ n3_; clear hb hbox hg; obtain ⟨hcz4_0, hcz4_1, hcz4_2, hcz4_3, hcz4_4, hfz4_0, hfz4_1, hfz4_2, hfz4_3, hfz4_4⟩ := cs5_ BK260.out) | ((with_reducible refine gate_callee (f := 18) rfl ?_); refine goesL_ (some 4) rfl rfl Try.func18 (by kernel_rfl) rfl #[.agg #[.bool a0_0, .slice A0_1 l0_1.length c0_1, .slice A0_2 l0_2.length c0_2, .slice A0_3 l0_3.length c0_3, .slice A0_4 l0_4.length c0_4]] rfl z1_ ?_; (with_reducible refine (impl_TreeDepth.calls k a0_0 _ _ l0_1 _ _ l0_2 _ _ l0_3 _ _ l0_4 t261 _ ?side1 ?side2 ?side3 ?side4 ?side5 ?side6 ?side7 ?side8 A2.out).mono ?_); (case side1 => exact z140_); (case side2 => exact z157_); (case side3 => exact z143_); (case side4 => exact z163_); (case side5 => exact z144_); (case side6 => exact z164_); (case side7 => exact z142_); (case side8 => exact z165_); rintro e w5 ⟨rfl, hb⟩; refine ⟨_, rfl, ?_⟩; have n0_ := q_ (below_step z0_ hb); clear HB; have HB := n0_; clear n0_; (try clear hb); (try clear hb2); (try clear hk); (try clear hi)))
 go_ret
 exact ⟨z2_, z0_⟩

/-! ### laws_FnExactTreeOk: function 4 -/
def laws_FnExactTreeOk.f (k : Nat) (a0_0 : Bool) (l0_1 : List (S107)) (l0_2 : List Int) (l0_3 : List (S27)) (l0_4 : List (S109)) : Option (Bool) := (laws_szTree.f k a0_0 l0_1 l0_2 l0_3 l0_4 1048576).bind fun t263 => (if t263 < 0 then (some true) else ((laws_toTree.f k a0_0 l0_1 l0_2 l0_3 l0_4).bind fun bt264 => ((spec_TreeOk.f k bt264.1 bt264.2.1 bt264.2.2.1 bt264.2.2.2.1 bt264.2.2.2.2).bind fun t277 => ((laws_toTree.f k a0_0 l0_1 l0_2 l0_3 l0_4).bind fun bt278 => ((impl_TreeOk.f k bt278.1 bt278.2.1 bt278.2.2.1 bt278.2.2.2.1 bt278.2.2.2.2).bind fun t292 => (if (t292 != t277) = true then (some false) else ((laws_toTree.f k a0_0 l0_1 l0_2 l0_3 l0_4).bind fun bt293 => ((laws_eqTree.f k bt278.1 bt278.2.1 bt278.2.2.1 bt278.2.2.2.1 bt278.2.2.2.2 bt293.1 bt293.2.1 bt293.2.2.1 bt293.2.2.2.1 bt293.2.2.2.2).bind fun t306 => (if t306 = true then (some true) else (some false))))))))))
theorem laws_FnExactTreeOk.mono : ∀ a0 a1 a2 a3 a4 k, LeO (laws_FnExactTreeOk.f k a0 a1 a2 a3 a4) (laws_FnExactTreeOk.f (k + 1) a0 a1 a2 a3 a4) := by
 intro a0 a1 a2 a3 a4 k
 unfold laws_FnExactTreeOk.f
 repeat' first
   | (with_reducible exact impl_TreeOk.mono _ _ _ _ _ _)
   | (with_reducible exact laws_eqTree.mono _ _ _ _ _ _ _ _ _ _ _)
   | (with_reducible exact laws_szTree.mono _ _ _ _ _ _ _)
   | (with_reducible exact laws_toTree.mono _ _ _ _ _ _)
   | (with_reducible exact spec_TreeOk.mono _ _ _ _ _ _)
   | (with_reducible exact LeO.refl _)
   | (with_reducible exact LeO.none _)
   | (with_reducible refine LeO.ite ?_ ?_)
   | (with_reducible refine LeO.bind ?_ (fun _ => ?_))
   | exact impl_TreeOk.mono _ _ _ _ _ _
   | exact laws_eqTree.mono _ _ _ _ _ _ _ _ _ _ _
   | exact laws_szTree.mono _ _ _ _ _ _ _
   | exact laws_toTree.mono _ _ _ _ _ _
   | exact spec_TreeOk.mono _ _ _ _ _ _
   | exact LeO.none _
   | refine LeO.ite ?_ ?_
   | refine LeO.bind ?_ (fun _ => ?_)
set_option maxHeartbeats 8000000 in
set_option maxRecDepth 100000 in
theorem laws_FnExactTreeOk.calls (k : Nat) (a0_0 : Bool) (A0_1 : Option Addr) (c0_1 : Nat) (l0_1 : List (S107)) (A0_2 : Option Addr) (c0_2 : Nat) (l0_2 : List Int) (A0_3 : Option Addr) (c0_3 : Nat) (l0_3 : List (S27)) (A0_4 : Option Addr) (c0_4 : Nat) (l0_4 : List (S109)) (r : Bool) (w : World) (hr0_1 : Kd.C k107 w A0_1 l0_1.length l0_1) (hc0_1 : l0_1.length ≤ c0_1) (hr0_2 : Kd.C (Kd.int .i64) w A0_2 l0_2.length l0_2) (hc0_2 : l0_2.length ≤ c0_2) (hr0_3 : Kd.C k27 w A0_3 l0_3.length l0_3) (hc0_3 : l0_3.length ≤ c0_3) (hr0_4 : Kd.C k109 w A0_4 l0_4.length l0_4) (hc0_4 : l0_4.length ≤ c0_4) (h : laws_FnExactTreeOk.f k a0_0 l0_1 l0_2 l0_3 l0_4 = some r) :
  Calls Try.prog 4 #[.agg #[.bool a0_0, .slice A0_1 l0_1.length c0_1, .slice A0_2 l0_2.length c0_2, .slice A0_3 l0_3.length c0_3, .slice A0_4 l0_4.length c0_4]] w fun e w' => e = .returned (.bool r) ∧ Below w.heap.size w w' := by
 have hu27 := Try.underlying27
 have hu34 := Try.underlying34
 have HR0_1 := q_ hr0_1
 have HC0_1 := q_ hc0_1
 clear hr0_1 hc0_1
 have HR0_2 := q_ hr0_2
 have HC0_2 := q_ hc0_2
 clear hr0_2 hc0_2
 have HR0_3 := q_ hr0_3
 have HC0_3 := q_ hc0_3
 clear hr0_3 hc0_3
 have HR0_4 := q_ hr0_4
 have HC0_4 := q_ hc0_4
 clear hr0_4 hc0_4
 have HB := q_ (Below.refl w.heap.size w)
 have H : ((laws_szTree.f k a0_0 l0_1 l0_2 l0_3 l0_4 1048576).bind fun t263 => (if t263 < 0 then (some true) else ((laws_toTree.f k a0_0 l0_1 l0_2 l0_3 l0_4).bind fun bt264 => ((spec_TreeOk.f k bt264.1 bt264.2.1 bt264.2.2.1 bt264.2.2.2.1 bt264.2.2.2.2).bind fun t277 => ((laws_toTree.f k a0_0 l0_1 l0_2 l0_3 l0_4).bind fun bt278 => ((impl_TreeOk.f k bt278.1 bt278.2.1 bt278.2.2.1 bt278.2.2.2.1 bt278.2.2.2.2).bind fun t292 => (if (t292 != t277) = true then (some false) else ((laws_toTree.f k a0_0 l0_1 l0_2 l0_3 l0_4).bind fun bt293 => ((laws_eqTree.f k bt278.1 bt278.2.1 bt278.2.2.1 bt278.2.2.2.1 bt278.2.2.2.2 bt293.1 bt293.2.1 bt293.2.2.1 bt293.2.2.2.1 bt293.2.2.2.2).bind fun t306 => (if t306 = true then (some true) else (some false))))))))))) = some r := h
 clear h
 replace H := Option.bind_eq_some_iff.mp H
 obtain ⟨t263, A20, H⟩ := H
 replace H : (if t263 < 0 then (some true) else ((laws_toTree.f k a0_0 l0_1 l0_2 l0_3 l0_4).bind fun bt264 => ((spec_TreeOk.f k bt264.1 bt264.2.1 bt264.2.2.1 bt264.2.2.2.1 bt264.2.2.2.2).bind fun t277 => ((laws_toTree.f k a0_0 l0_1 l0_2 l0_3 l0_4).bind fun bt278 => ((impl_TreeOk.f k bt278.1 bt278.2.1 bt278.2.2.1 bt278.2.2.2.1 bt278.2.2.2.2).bind fun t292 => (if (t292 != t277) = true then (some false) else ((laws_toTree.f k a0_0 l0_1 l0_2 l0_3 l0_4).bind fun bt293 => ((laws_eqTree.f k bt278.1 bt278.2.1 bt278.2.2.1 bt278.2.2.2.1 bt278.2.2.2.2 bt293.1 bt293.2.1 bt293.2.2.1 bt293.2.2.2.1 bt293.2.2.2.2).bind fun t306 => (if t306 = true then (some true) else (some false)))))))))) = some r := H
 have A2 := q_ A20
 clear A20
 by_cases c3 : t263 < 0
 ·rw [if_pos c3] at H
  have c3b0 : decide (t263 < 0) = true := decide_eq_true c3
  clear c3
  obtain rfl := Option.some.inj H
  go_enter Try.func4, Try.ntmps4
  go_wp2_with (first | ((with_reducible refine gate_dst (N := 1) rfl ?_); refine box_event ?hg (N := 1) ?hd (cs := #[.bool a0_0, .slice A0_1 l0_1.length c0_1, .slice A0_2 l0_2.length c0_2, .slice A0_3 l0_3.length c0_3, .slice A0_4 l0_4.length c0_4]) (t := 27) ?hr ?_; (case hd => rfl); (case hg => rfl); (case hr => exact z141_); intro gb262 hg w4 hbox hb; have n0_ := q_ (below_step z0_ hb); have n1_ := q_ (hbox); have n2_ := q_ ((z104_ : w.heap.size ≤ gb262)); have n3_ := q_ ((z104_ : w.heap.size ≤ gb262)); clear HB; have HB := n0_; have BK262 := n1_; have GW262 := n2_; have GE262 := n3_; clear n0_ n1_ n2_ n3_; clear hb hbox hg; obtain ⟨hcz5_0, hcz5_1, hcz5_2, hcz5_3, hcz5_4, hfz5_0, hfz5_1, hfz5_2, hfz5_3, hfz5_4⟩ := cs5_ BK262.out) | ((with_reducible refine gate_callee (f := 15) rfl ?_); refine goesL_ (some 9) rfl rfl Try.func15 (by kernel_rfl) rfl #[.agg #[.bool a0_0, .slice A0_1 l0_1.length c0_1, .slice A0_2 l0_2.length c0_2, .slice A0_3 l0_3.length c0_3, .slice A0_4 l0_4.length c0_4], .int .i64 1048576] rfl z1_ ?_; (with_reducible refine (laws_szTree.calls k a0_0 _ _ l0_1 _ _ l0_2 _ _ l0_3 _ _ l0_4 1048576 t263 _ ?side1 ?side2 ?side3 ?side4 ?side5 ?side6 ?side7 ?side8 A2.out).mono ?_); (case side1 => exact z140_); (case side2 => exact z157_); (case side3 => exact z143_); (case side4 => exact z163_); (case side5 => exact z144_); (case side6 => exact z164_); (case side7 => exact z142_); (case side8 => exact z165_); rintro e w6 ⟨rfl, hb⟩; refine ⟨_, rfl, ?_⟩; have n0_ := q_ (below_step z0_ hb); clear HB; have HB := n0_; clear n0_; (try clear hb); (try clear hb2); (try clear hk); (try clear hi)))
  go_ret
  exact ⟨z2_, z0_⟩
 ·rw [if_neg c3] at H
  have c3b0 : decide (t263 < 0) = false := decide_eq_false c3
  clear c3
  replace H := Option.bind_eq_some_iff.mp H
  obtain ⟨⟨t264, t265, t268, t271, t274⟩, A70, H⟩ := H
  replace H : ((spec_TreeOk.f k t264 t265 t268 t271 t274).bind fun t277 => ((laws_toTree.f k a0_0 l0_1 l0_2 l0_3 l0_4).bind fun bt278 => ((impl_TreeOk.f k bt278.1 bt278.2.1 bt278.2.2.1 bt278.2.2.2.1 bt278.2.2.2.2).bind fun t292 => (if (t292 != t277) = true then (some false) else ((laws_toTree.f k a0_0 l0_1 l0_2 l0_3 l0_4).bind fun bt293 => ((laws_eqTree.f k bt278.1 bt278.2.1 bt278.2.2.1 bt278.2.2.2.1 bt278.2.2.2.2 bt293.1 bt293.2.1 bt293.2.2.1 bt293.2.2.2.1 bt293.2.2.2.2).bind fun t306 => (if t306 = true then (some true) else (some false)))))))) = some r := H
  have A7 := q_ A70
  clear A70
  replace H := Option.bind_eq_some_iff.mp H
  obtain ⟨t277, A80, H⟩ := H
  replace H : ((laws_toTree.f k a0_0 l0_1 l0_2 l0_3 l0_4).bind fun bt278 => ((impl_TreeOk.f k bt278.1 bt278.2.1 bt278.2.2.1 bt278.2.2.2.1 bt278.2.2.2.2).bind fun t292 => (if (t292 != t277) = true then (some false) else ((laws_toTree.f k a0_0 l0_1 l0_2 l0_3 l0_4).bind fun bt293 => ((laws_eqTree.f k bt278.1 bt278.2.1 bt278.2.2.1 bt278.2.2.2.1 bt278.2.2.2.2 bt293.1 bt293.2.1 bt293.2.2.1 bt293.2.2.2.1 bt293.2.2.2.2).bind fun t306 => (if t306 = true then (some true) else (some false))))))) = some r := H
  have A8 := q_ A80
  clear A80
  replace H := Option.bind_eq_some_iff.mp H
  obtain ⟨⟨t278, t279, t282, t285, t288⟩, A90, H⟩ := H
  replace H : ((impl_TreeOk.f k t278 t279 t282 t285 t288).bind fun t292 => (if (t292 != t277) = true then (some false) else ((laws_toTree.f k a0_0 l0_1 l0_2 l0_3 l0_4).bind fun bt293 => ((laws_eqTree.f k t278 t279 t282 t285 t288 bt293.1 bt293.2.1 bt293.2.2.1 bt293.2.2.2.1 bt293.2.2.2.2).bind fun t306 => (if t306 = true then (some true) else (some false)))))) = some r := H
  have A9 := q_ A90
  clear A90
  replace H := Option.bind_eq_some_iff.mp H
  obtain ⟨t292, A100, H⟩ := H
  replace H : (if (t292 != t277) = true then (some false) else ((laws_toTree.f k a0_0 l0_1 l0_2 l0_3 l0_4).bind fun bt293 => ((laws_eqTree.f k t278 t279 t282 t285 t288 bt293.1 bt293.2.1 bt293.2.2.1 bt293.2.2.2.1 bt293.2.2.2.2).bind fun t306 => (if t306 = true then (some true) else (some false))))) = some r := H
  have A10 := q_ A100
  clear A100
  by_cases c11 : (t292 != t277) = true
  ·rw [if_pos c11] at H
   have c11b0 : (t292 != t277) = true := c11
   (try (have c11b1 : decide (t292 = t277) = false := z101_))
   (try (have c11b2 : (t292 == t277) = false := z101_))
   (try (have c11b3 : ¬ (t292 = t277) := z101_))
   clear c11
   obtain rfl := Option.some.inj H
   go_enter Try.func4, Try.ntmps4
   go_wp2_with (first | ((with_reducible refine gate_dst (N := 1) rfl ?_); refine box_event ?hg (N := 1) ?hd (cs := #[.bool a0_0, .slice A0_1 l0_1.length c0_1, .slice A0_2 l0_2.length c0_2, .slice A0_3 l0_3.length c0_3, .slice A0_4 l0_4.length c0_4]) (t := 27) ?hr ?_; (case hd => rfl); (case hg => rfl); (case hr => exact z141_); intro gb262 hg w12 hbox hb; have n0_ := q_ (below_step z0_ hb); have n1_ := q_ (hbox); have n2_ := q_ ((z104_ : w.heap.size ≤ gb262)); have n3_ := q_ ((z104_ : w.heap.size ≤ gb262)); clear HB; have HB := n0_; have BK262 := n1_; have GW262 := n2_; have GE262 := n3_; clear n0_ n1_ n2_ n3_; clear hb hbox hg; obtain ⟨hcz13_0, hcz13_1, hcz13_2, hcz13_3, hcz13_4, hfz13_0, hfz13_1, hfz13_2, hfz13_3, hfz13_4⟩ := cs5_ BK262.out) | ((with_reducible refine gate_callee (f := 15) rfl ?_); refine goesL_ (some 9) rfl rfl Try.func15 (by kernel_rfl) rfl #[.agg #[.bool a0_0, .slice A0_1 l0_1.length c0_1, .slice A0_2 l0_2.length c0_2, .slice A0_3 l0_3.length c0_3, .slice A0_4 l0_4.length c0_4], .int .i64 1048576] rfl z1_ ?_; (with_reducible refine (laws_szTree.calls k a0_0 _ _ l0_1 _ _ l0_2 _ _ l0_3 _ _ l0_4 1048576 t263 _ ?side1 ?side2 ?side3 ?side4 ?side5 ?side6 ?side7 ?side8 A2.out).mono ?_); (case side1 => exact z140_); (case side2 => exact z157_); (case side3 => exact z143_); (case side4 => exact z163_); (case side5 => exact z144_); (case side6 => exact z164_); (case side7 => exact z142_); (case side8 => exact z165_); rintro e w14 ⟨rfl, hb⟩; refine ⟨_, rfl, ?_⟩; have n0_ := q_ (blk_below (g := gb262) (o := .cells #[.bool a0_0, .slice A0_1 l0_1.length c0_1, .slice A0_2 l0_2.length c0_2, .slice A0_3 l0_3.length c0_3, .slice A0_4 l0_4.length c0_4] 27 (0, 0)) z17_ hb); have n1_ := q_ (below_step z5_ hb); clear BK262; clear HB; have BK262 := n0_; have HB := n1_; clear n0_ n1_; (try clear hb); (try clear hb2); (try clear hk); (try clear hi); obtain ⟨hcz15_0, hcz15_1, hcz15_2, hcz15_3, hcz15_4, hfz15_0, hfz15_1, hfz15_2, hfz15_3, hfz15_4⟩ := cs5_ BK262.out) | ((with_reducible refine gate_callee (f := 17) rfl ?_); refine goesL_ (some 13) rfl rfl Try.func17 (by kernel_rfl) rfl #[.agg #[.bool a0_0, .slice A0_1 l0_1.length c0_1, .slice A0_2 l0_2.length c0_2, .slice A0_3 l0_3.length c0_3, .slice A0_4 l0_4.length c0_4]] rfl z1_ ?_; (with_reducible refine (laws_toTree.calls k a0_0 _ _ l0_1 _ _ l0_2 _ _ l0_3 _ _ l0_4 t264 t265 t268 t271 t274 _ ?side1 ?side2 ?side3 ?side4 ?side5 ?side6 ?side7 ?side8 A7.out).mono ?_); (case side1 => exact z140_); (case side2 => exact z157_); (case side3 => exact z143_); (case side4 => exact z163_); (case side5 => exact z144_); (case side6 => exact z164_); (case side7 => exact z142_); (case side8 => exact z165_); rintro e w16 ⟨v266, v269, v272, v275, rfl, ho0, ho1, ho2, ho3, hb⟩; refine ⟨_, rfl, ?_⟩; have n0_ := q_ (Kd.R_lower ho0 (below_size z5_)); have n1_ := q_ (Kd.R_lower ho1 (below_size z5_)); have n2_ := q_ (Kd.R_lower ho2 (below_size z5_)); have n3_ := q_ (Kd.R_lower ho3 (below_size z5_)); have n4_ := q_ (blk_below (g := gb262) (o := .cells #[.bool a0_0, .slice A0_1 l0_1.length c0_1, .slice A0_2 l0_2.length c0_2, .slice A0_3 l0_3.length c0_3, .slice A0_4 l0_4.length c0_4] 27 (0, 0)) z17_ hb); have n5_ := q_ (below_step z5_ hb); clear BK262; clear HB; have HO267 := n0_; have HO270 := n1_; have HO273 := n2_; have HO276 := n3_; have BK262 := n4_; have HB := n5_; clear n0_ n1_ n2_ n3_ n4_ n5_; (try clear hb); (try clear hb2); (try clear hk); (try clear hi); (try clear ho0); (try clear ho1); (try clear ho2); (try clear ho3); obtain ⟨Ao17, co17, eo17⟩ := Kd.R_slice HO267.out; subst eo17; obtain ⟨Ao18, co18, eo18⟩ := Kd.R_slice HO270.out; subst eo18; obtain ⟨Ao19, co19, eo19⟩ := Kd.R_slice HO273.out; subst eo19; obtain ⟨Ao20, co20, eo20⟩ := Kd.R_slice HO276.out; subst eo20) | ((with_reducible refine gate_callee (f := 20) rfl ?_); refine goesL_ (some 14) rfl rfl Try.func20 (by kernel_rfl) rfl #[.agg #[.bool t264, .slice Ao17 t265.length co17, .slice Ao18 t268.length co18, .slice Ao19 t271.length co19, .slice Ao20 t274.length co20]] rfl z1_ ?_; (with_reducible refine (spec_TreeOk.calls k t264 _ _ t265 _ _ t268 _ _ t271 _ _ t274 t277 _ ?side1 ?side2 ?side3 ?side4 ?side5 ?side6 ?side7 ?side8 A8.out).mono ?_); (case side1 => exact z159_); (case side2 => exact (Kd.R_reads' HO267.out).2.1); (case side3 => exact z160_); (case side4 => exact (Kd.R_reads' HO270.out).2.1); (case side5 => exact z161_); (case side6 => exact (Kd.R_reads' HO273.out).2.1); (case side7 => exact z162_); (case side8 => exact (Kd.R_reads' HO276.out).2.1); rintro e w21 ⟨rfl, hb⟩; refine ⟨_, rfl, ?_⟩; have n0_ := q_ (Kd.R_below z18_ hb); have n1_ := q_ (Kd.R_below z19_ hb); have n2_ := q_ (Kd.R_below z26_ hb); have n3_ := q_ (Kd.R_below z20_ hb); have n4_ := q_ (blk_below (g := gb262) (o := .cells #[.bool a0_0, .slice A0_1 l0_1.length c0_1, .slice A0_2 l0_2.length c0_2, .slice A0_3 l0_3.length c0_3, .slice A0_4 l0_4.length c0_4] 27 (0, 0)) z17_ hb); have n5_ := q_ (below_step z5_ hb); clear HO267; clear HO270; clear HO273; clear HO276; clear BK262; clear HB; have HO267 := n0_; have HO270 := n1_; have HO273 := n2_; have HO276 := n3_; have BK262 := n4_; have HB := n5_; clear n0_ n1_ n2_ n3_ n4_ n5_; (try clear hb); (try clear hb2); (try clear hk); (try clear hi); obtain ⟨hcz22_0, hcz22_1, hcz22_2, hcz22_3, hcz22_4, hfz22_0, hfz22_1, hfz22_2, hfz22_3, hfz22_4⟩ := cs5_ BK262.out) | ((with_reducible refine gate_callee (f := 17) rfl ?_); refine goesL_ (some 16) rfl rfl Try.func17 (by kernel_rfl) rfl #[.agg #[.bool a0_0, .slice A0_1 l0_1.length c0_1, .slice A0_2 l0_2.length c0_2, .slice A0_3 l0_3.length c0_3, .slice A0_4 l0_4.length c0_4]] rfl z1_ ?_; (with_reducible refine (laws_toTree.calls k a0_0 _ _ l0_1 _ _ l0_2 _ _ l0_3 _ _ l0_4 t278 t279 t282 t285 t288 _ ?side1 ?side2 ?side3 ?side4 ?side5 ?side6 ?side7 ?side8 A9.out).mono ?_); (case side1 => exact z140_); (case side2 => exact z157_); (case side3 => exact z143_); (case side4 => exact z163_); (case side5 => exact z144_); (case side6 => exact z164_); (case side7 => exact z142_); (case side8 => exact z165_); rintro e w23 ⟨v280, v283, v286, v289, rfl, ho0, ho1, ho2, ho3, hb⟩; refine ⟨_, rfl, ?_⟩; have n0_ := q_ (Kd.R_elder' z18_ (Kd.R_base ho0) hb); have n1_ := q_ (Kd.R_elder' z19_ (Kd.R_base ho1) hb); have n2_ := q_ (Kd.R_mono (Kd.R_told (Kd.R_told (Kd.R_told (Kd.R_told (Kd.R_old z26_ hb) (Kd.R_base ho0)) (Kd.R_base ho1)) (Kd.R_base ho2)) (Kd.R_base ho3)) (fun _ h_ => h_.1)); have n3_ := q_ (Kd.R_elder' z20_ (Kd.R_base ho3) hb); have n4_ := q_ (Kd.R_lower (Kd.R_new' ho0 (Kd.R_lt z18_)) (below_size z0_)); have n5_ := q_ (Kd.R_lower (Kd.R_new' ho1 (Kd.R_lt z19_)) (below_size z0_)); have n6_ := q_ (Kd.R_lower (Kd.R_new' (Kd.R_new' (Kd.R_new' (Kd.R_new' ho2 (Kd.R_lt z18_)) (Kd.R_lt z19_)) (Kd.R_lt z26_)) (Kd.R_lt z20_)) (below_size z0_)); have n7_ := q_ (Kd.R_lower (Kd.R_new' ho3 (Kd.R_lt z20_)) (below_size z0_)); have n8_ := q_ (below_step z0_ hb); clear HO267; clear HO270; clear HO273; clear HO276; clear HB; have HO267 := n0_; have HO270 := n1_; have HO273 := n2_; have HO276 := n3_; have HO281 := n4_; have HO284 := n5_; have HO287 := n6_; have HO290 := n7_; have HB := n8_; clear n0_ n1_ n2_ n3_ n4_ n5_ n6_ n7_ n8_; (try clear hb); (try clear hb2); (try clear hk); (try clear hi); (try clear ho0); (try clear ho1); (try clear ho2); (try clear ho3)) | ((with_reducible refine gate_dst (N := 5) rfl ?_); refine box_event ?hg (N := 5) ?hd (cs := #[.bool false, .slice none 0 0, .slice none 0 0, .slice none 0 0, .slice none 0 0]) (t := 34) ?hr ?_; (case hd => rfl); (case hg => rfl); (case hr => exact z141_); intro gb291 hg w24 hbox hb; have n0_ := q_ (Kd.R_below z18_ hb); have n1_ := q_ (Kd.R_below z19_ hb); have n2_ := q_ (Kd.R_below (Kd.R_elderB z26_ gb291 (Nat.le_of_eq hg.symm)) hb); have n3_ := q_ (Kd.R_below z20_ hb); have n4_ := q_ (Kd.R_below z47_ hb); have n5_ := q_ (Kd.R_below z48_ hb); have n6_ := q_ (Kd.R_below (Kd.R_elderB z54_ gb291 (Nat.le_of_eq hg.symm)) hb); have n7_ := q_ (Kd.R_below z49_ hb); have n8_ := q_ (below_step z0_ hb); have n9_ := q_ (hbox); have n10_ := q_ ((z104_ : w.heap.size ≤ gb291)); have n11_ := q_ ((z104_ : w.heap.size ≤ gb291)); clear HO267; clear HO270; clear HO273; clear HO276; clear HO281; clear HO284; clear HO287; clear HO290; clear HB; have HO267 := n0_; have HO270 := n1_; have HO273 := n2_; have HO276 := n3_; have HO281 := n4_; have HO284 := n5_; have HO287 := n6_; have HO290 := n7_; have HB := n8_; have BK291 := n9_; have GW291 := n10_; have GE291 := n11_; clear n0_ n1_ n2_ n3_ n4_ n5_ n6_ n7_ n8_ n9_ n10_ n11_; clear hb hbox hg; obtain ⟨hcz25_0, hcz25_1, hcz25_2, hcz25_3, hcz25_4, hfz25_0, hfz25_1, hfz25_2, hfz25_3, hfz25_4⟩ := cs5_ BK291.out; obtain ⟨Ao26, co26, eo26⟩ := Kd.R_slice HO281.out; subst eo26; obtain ⟨Ao27, co27, eo27⟩ := Kd.R_slice HO284.out; subst eo27; obtain ⟨Ao28, co28, eo28⟩ := Kd.R_slice HO287.out; subst eo28; obtain ⟨Ao29, co29, eo29⟩ := Kd.R_slice HO290.out; subst eo29) | ((with_reducible refine gate_callee (f := 21) rfl ?_); refine goesL_ (some 18) rfl rfl Try.func21 (by kernel_rfl) rfl #[.agg #[.bool t278, .slice Ao26 t279.length co26, .slice Ao27 t282.length co27, .slice Ao28 t285.length co28, .slice Ao29 t288.length co29]] rfl z1_ ?_; (with_reducible refine (impl_TreeOk.calls k t278 _ _ t279 _ _ t282 _ _ t285 _ _ t288 t292 _ ?side1 ?side2 ?side3 ?side4 ?side5 ?side6 ?side7 ?side8 A10.out).mono ?_); (case side1 => refine (Kd.R_reads' (e := 92) (base := w.heap.size) (ok := fun k_ => (True ∧ some k_ ≠ (.slice Ao17 t265.length co17 : Value).ownBlock)) (n := t279.length) (c := co26) ?_).2.2; exact (by (with_reducible repeat (first | apply Kd.R_alloc | apply Kd.R_drewN | apply Kd.R_drew)); exact (Kd.R_mono (Kd.R_far (p := ⟨gb291, 4, none⟩) (Kd.R_far (p := ⟨gb291, 3, none⟩) (Kd.R_far (p := ⟨gb291, 2, none⟩) (Kd.R_far (p := ⟨gb291, 1, none⟩) (Kd.R_far (p := ⟨gb291, 0, none⟩) (Kd.R_types HO281.out BK291.out (by decide)) (fun _ hk => hk.2) (.bool t278)) (fun _ hk => hk.2) (.slice Ao26 t279.length co26)) (fun _ hk => hk.2) (.slice Ao27 t282.length co27)) (fun _ hk => hk.2) (.slice Ao28 t285.length co28)) (fun _ hk => hk.2) (.slice Ao29 t288.length co29)) (fun _ h_ => h_.1)))); (case side2 => exact z202_); (case side3 => refine (Kd.R_reads' (e := 3) (base := w.heap.size) (ok := fun k_ => (True ∧ some k_ ≠ (.slice Ao18 t268.length co18 : Value).ownBlock)) (n := t282.length) (c := co27) ?_).2.2; exact (by (with_reducible repeat (first | apply Kd.R_alloc | apply Kd.R_drewN | apply Kd.R_drew)); exact (Kd.R_mono (Kd.R_far (p := ⟨gb291, 4, none⟩) (Kd.R_far (p := ⟨gb291, 3, none⟩) (Kd.R_far (p := ⟨gb291, 2, none⟩) (Kd.R_far (p := ⟨gb291, 1, none⟩) (Kd.R_far (p := ⟨gb291, 0, none⟩) (Kd.R_types HO284.out BK291.out (by decide)) (fun _ hk => hk.2) (.bool t278)) (fun _ hk => hk.2) (.slice Ao26 t279.length co26)) (fun _ hk => hk.2) (.slice Ao27 t282.length co27)) (fun _ hk => hk.2) (.slice Ao28 t285.length co28)) (fun _ hk => hk.2) (.slice Ao29 t288.length co29)) (fun _ h_ => h_.1)))); (case side4 => exact z203_); (case side5 => refine (Kd.R_reads' (e := 34) (base := w.heap.size) (ok := fun k_ => ((((((some k_ ≠ (.slice Ao26 t279.length co26 : Value).ownBlock ∧ (some k_ ≠ (.slice Ao27 t282.length co27 : Value).ownBlock ∧ some k_ ≠ (.slice Ao29 t288.length co29 : Value).ownBlock)) ∧ some k_ ≠ (.slice Ao17 t265.length co17 : Value).ownBlock) ∧ some k_ ≠ (.slice Ao18 t268.length co18 : Value).ownBlock) ∧ some k_ ≠ (.slice Ao19 t271.length co19 : Value).ownBlock) ∧ some k_ ≠ (.slice Ao20 t274.length co20 : Value).ownBlock) ∧ k_ ≠ gb291)) (n := t285.length) (c := co28) ?_).2.2; exact z41_); (case side6 => exact z204_); (case side7 => refine (Kd.R_reads' (e := 72) (base := w.heap.size) (ok := fun k_ => (True ∧ some k_ ≠ (.slice Ao20 t274.length co20 : Value).ownBlock)) (n := t288.length) (c := co29) ?_).2.2; exact (by (with_reducible repeat (first | apply Kd.R_alloc | apply Kd.R_drewN | apply Kd.R_drew)); exact (Kd.R_mono (Kd.R_far (p := ⟨gb291, 4, none⟩) (Kd.R_far (p := ⟨gb291, 3, none⟩) (Kd.R_far (p := ⟨gb291, 2, none⟩) (Kd.R_far (p := ⟨gb291, 1, none⟩) (Kd.R_far (p := ⟨gb291, 0, none⟩) (Kd.R_types HO290.out BK291.out (by decide)) (fun _ hk => hk.2) (.bool t278)) (fun _ hk => hk.2) (.slice Ao26 t279.length co26)) (fun _ hk => hk.2) (.slice Ao27 t282.length co27)) (fun _ hk => hk.2) (.slice Ao28 t285.length co28)) (fun _ hk => hk.2) (.slice Ao29 t288.length co29)) (fun _ h_ => h_.1)))); (case side8 => exact z205_); rintro e w30 ⟨rfl, hb⟩; refine ⟨_, rfl, ?_⟩; have n0_ := q_ (Kd.R_below (by (with_reducible repeat (first | apply Kd.R_alloc | apply Kd.R_drewN | apply Kd.R_drew)); exact (Kd.R_mono (Kd.R_far (p := ⟨gb291, 4, none⟩) (Kd.R_far (p := ⟨gb291, 3, none⟩) (Kd.R_far (p := ⟨gb291, 2, none⟩) (Kd.R_far (p := ⟨gb291, 1, none⟩) (Kd.R_far (p := ⟨gb291, 0, none⟩) (Kd.R_types HO267.out BK291.out (by decide)) (fun _ hk => hk.2) (.bool t278)) (fun _ hk => hk.2) (.slice Ao26 t279.length co26)) (fun _ hk => hk.2) (.slice Ao27 t282.length co27)) (fun _ hk => hk.2) (.slice Ao28 t285.length co28)) (fun _ hk => hk.2) (.slice Ao29 t288.length co29)) (fun _ h_ => h_.1))) hb); have n1_ := q_ (Kd.R_below (by (with_reducible repeat (first | apply Kd.R_alloc | apply Kd.R_drewN | apply Kd.R_drew)); exact (Kd.R_mono (Kd.R_far (p := ⟨gb291, 4, none⟩) (Kd.R_far (p := ⟨gb291, 3, none⟩) (Kd.R_far (p := ⟨gb291, 2, none⟩) (Kd.R_far (p := ⟨gb291, 1, none⟩) (Kd.R_far (p := ⟨gb291, 0, none⟩) (Kd.R_types HO270.out BK291.out (by decide)) (fun _ hk => hk.2) (.bool t278)) (fun _ hk => hk.2) (.slice Ao26 t279.length co26)) (fun _ hk => hk.2) (.slice Ao27 t282.length co27)) (fun _ hk => hk.2) (.slice Ao28 t285.length co28)) (fun _ hk => hk.2) (.slice Ao29 t288.length co29)) (fun _ h_ => h_.1))) hb); have n2_ := q_ (Kd.R_below (by (with_reducible repeat (first | apply Kd.R_alloc | apply Kd.R_drewN | apply Kd.R_drew)); exact (Kd.R_mono (Kd.R_far (p := ⟨gb291, 4, none⟩) (Kd.R_far (p := ⟨gb291, 3, none⟩) (Kd.R_far (p := ⟨gb291, 2, none⟩) (Kd.R_far (p := ⟨gb291, 1, none⟩) (Kd.R_far (p := ⟨gb291, 0, none⟩) (Kd.R_mono HO273.out (fun k_ hk => (⟨hk, hk.2⟩ : _ ∧ k_ ≠ gb291))) (fun _ hk => hk.2) (.bool t278)) (fun _ hk => hk.2) (.slice Ao26 t279.length co26)) (fun _ hk => hk.2) (.slice Ao27 t282.length co27)) (fun _ hk => hk.2) (.slice Ao28 t285.length co28)) (fun _ hk => hk.2) (.slice Ao29 t288.length co29)) (fun _ h_ => h_.1))) hb); have n3_ := q_ (Kd.R_below (by (with_reducible repeat (first | apply Kd.R_alloc | apply Kd.R_drewN | apply Kd.R_drew)); exact (Kd.R_mono (Kd.R_far (p := ⟨gb291, 4, none⟩) (Kd.R_far (p := ⟨gb291, 3, none⟩) (Kd.R_far (p := ⟨gb291, 2, none⟩) (Kd.R_far (p := ⟨gb291, 1, none⟩) (Kd.R_far (p := ⟨gb291, 0, none⟩) (Kd.R_types HO276.out BK291.out (by decide)) (fun _ hk => hk.2) (.bool t278)) (fun _ hk => hk.2) (.slice Ao26 t279.length co26)) (fun _ hk => hk.2) (.slice Ao27 t282.length co27)) (fun _ hk => hk.2) (.slice Ao28 t285.length co28)) (fun _ hk => hk.2) (.slice Ao29 t288.length co29)) (fun _ h_ => h_.1))) hb); have n4_ := q_ (Kd.R_below (by (with_reducible repeat (first | apply Kd.R_alloc | apply Kd.R_drewN | apply Kd.R_drew)); exact (Kd.R_mono (Kd.R_far (p := ⟨gb291, 4, none⟩) (Kd.R_far (p := ⟨gb291, 3, none⟩) (Kd.R_far (p := ⟨gb291, 2, none⟩) (Kd.R_far (p := ⟨gb291, 1, none⟩) (Kd.R_far (p := ⟨gb291, 0, none⟩) (Kd.R_types HO281.out BK291.out (by decide)) (fun _ hk => hk.2) (.bool t278)) (fun _ hk => hk.2) (.slice Ao26 t279.length co26)) (fun _ hk => hk.2) (.slice Ao27 t282.length co27)) (fun _ hk => hk.2) (.slice Ao28 t285.length co28)) (fun _ hk => hk.2) (.slice Ao29 t288.length co29)) (fun _ h_ => h_.1))) hb); have n5_ := q_ (Kd.R_below (by (with_reducible repeat (first | apply Kd.R_alloc | apply Kd.R_drewN | apply Kd.R_drew)); exact (Kd.R_mono (Kd.R_far (p := ⟨gb291, 4, none⟩) (Kd.R_far (p := ⟨gb291, 3, none⟩) (Kd.R_far (p := ⟨gb291, 2, none⟩) (Kd.R_far (p := ⟨gb291, 1, none⟩) (Kd.R_far (p := ⟨gb291, 0, none⟩) (Kd.R_types HO284.out BK291.out (by decide)) (fun _ hk => hk.2) (.bool t278)) (fun _ hk => hk.2) (.slice Ao26 t279.length co26)) (fun _ hk => hk.2) (.slice Ao27 t282.length co27)) (fun _ hk => hk.2) (.slice Ao28 t285.length co28)) (fun _ hk => hk.2) (.slice Ao29 t288.length co29)) (fun _ h_ => h_.1))) hb); have n6_ := q_ (Kd.R_below z41_ hb); have n7_ := q_ (Kd.R_below (by (with_reducible repeat (first | apply Kd.R_alloc | apply Kd.R_drewN | apply Kd.R_drew)); exact (Kd.R_mono (Kd.R_far (p := ⟨gb291, 4, none⟩) (Kd.R_far (p := ⟨gb291, 3, none⟩) (Kd.R_far (p := ⟨gb291, 2, none⟩) (Kd.R_far (p := ⟨gb291, 1, none⟩) (Kd.R_far (p := ⟨gb291, 0, none⟩) (Kd.R_types HO290.out BK291.out (by decide)) (fun _ hk => hk.2) (.bool t278)) (fun _ hk => hk.2) (.slice Ao26 t279.length co26)) (fun _ hk => hk.2) (.slice Ao27 t282.length co27)) (fun _ hk => hk.2) (.slice Ao28 t285.length co28)) (fun _ hk => hk.2) (.slice Ao29 t288.length co29)) (fun _ h_ => h_.1))) hb); have n8_ := q_ (blk_below (g := gb291) (o := .cells #[.bool t278, .slice Ao26 t279.length co26, .slice Ao27 t282.length co27, .slice Ao28 t285.length co28, .slice Ao29 t288.length co29] 34 (0, 0)) (by (with_reducible repeat (first | refine blk_drewN ?_ _ | refine blk_drew ?_ | refine blk_alloc ?_ _)); refine blk_put (cs := #[.bool t278, .slice Ao26 t279.length co26, .slice Ao27 t282.length co27, .slice Ao28 t285.length co28, .slice none 0 0]) ?_ 4 _ rfl; (with_reducible repeat (first | refine blk_drewN ?_ _ | refine blk_drew ?_ | refine blk_alloc ?_ _)); refine blk_put (cs := #[.bool t278, .slice Ao26 t279.length co26, .slice Ao27 t282.length co27, .slice none 0 0, .slice none 0 0]) ?_ 3 _ rfl; (with_reducible repeat (first | refine blk_drewN ?_ _ | refine blk_drew ?_ | refine blk_alloc ?_ _)); refine blk_put (cs := #[.bool t278, .slice Ao26 t279.length co26, .slice none 0 0, .slice none 0 0, .slice none 0 0]) ?_ 2 _ rfl; (with_reducible repeat (first | refine blk_drewN ?_ _ | refine blk_drew ?_ | refine blk_alloc ?_ _)); refine blk_put (cs := #[.bool t278, .slice none 0 0, .slice none 0 0, .slice none 0 0, .slice none 0 0]) ?_ 1 _ rfl; (with_reducible repeat (first | refine blk_drewN ?_ _ | refine blk_drew ?_ | refine blk_alloc ?_ _)); refine blk_put (cs := #[.bool false, .slice none 0 0, .slice none 0 0, .slice none 0 0, .slice none 0 0]) ?_ 0 _ rfl; (with_reducible repeat (first | refine blk_drewN ?_ _ | refine blk_drew ?_ | refine blk_alloc ?_ _)); exact BK291.out) hb); have n9_ := q_ (below_step z90_ hb); clear HO267; clear HO270; clear HO273; clear HO276; clear HO281; clear HO284; clear HO287; clear HO290; clear BK291; clear HB; have HO267 := n0_; have HO270 := n1_; have HO273 := n2_; have HO276 := n3_; have HO281 := n4_; have HO284 := n5_; have HO287 := n6_; have HO290 := n7_; have BK291 := n8_; have HB := n9_; clear n0_ n1_ n2_ n3_ n4_ n5_ n6_ n7_ n8_ n9_; (try clear hb); (try clear hb2); (try clear hk); (try clear hi)))
   go_ret
   exact ⟨z2_, z90_⟩
  ·rw [if_neg c11] at H
   have c11b0 : (t292 != t277) = false := z101_
   (try (have c11b1 : decide (t292 = t277) = true := z101_))
   (try (have c11b2 : (t292 == t277) = true := z101_))
   clear c11
   replace H := Option.bind_eq_some_iff.mp H
   obtain ⟨⟨t293, t294, t297, t300, t303⟩, A310, H⟩ := H
   replace H : ((laws_eqTree.f k t278 t279 t282 t285 t288 t293 t294 t297 t300 t303).bind fun t306 => (if t306 = true then (some true) else (some false))) = some r := H
   have A31 := q_ A310
   clear A310
   replace H := Option.bind_eq_some_iff.mp H
   obtain ⟨t306, A320, H⟩ := H
   replace H : (if t306 = true then (some true) else (some false)) = some r := H
   have A32 := q_ A320
   clear A320
   by_cases c33 : t306 = true
   ·subst c33
    have H1 : (some true) = some r := z45_
    clear H
    have H := H1
    clear H1
    obtain rfl := Option.some.inj H
    go_enter Try.func4, Try.ntmps4
    try go_wp2_with (first | ((with_reducible refine gate_dst (N := 1) rfl ?_); refine box_event ?hg (N := 1) ?hd (cs := #[.bool a0_0, .slice A0_1 l0_1.length c0_1, .slice A0_2 l0_2.length c0_2, .slice A0_3 l0_3.length c0_3, .slice A0_4 l0_4.length c0_4]) (t := 27) ?hr ?_; (case hd => rfl); (case hg => rfl); (case hr => exact z141_); intro gb262 hg w34 hbox hb; have n0_ := q_ (below_step z0_ hb); have n1_ := q_ (hbox); have n2_ := q_ ((z104_ : w.heap.size ≤ gb262)); have n3_ := q_ ((z104_ : w.heap.size ≤ gb262)); clear HB; have HB := n0_; have BK262 := n1_; have GW262 := n2_; have GE262 := n3_; clear n0_ n1_ n2_ n3_; clear hb hbox hg; obtain ⟨hcz35_0, hcz35_1, hcz35_2, hcz35_3, hcz35_4, hfz35_0, hfz35_1, hfz35_2, hfz35_3, hfz35_4⟩ := cs5_ BK262.out) | ((with_reducible refine gate_callee (f := 15) rfl ?_); refine goesL_ (some 9) rfl rfl Try.func15 (by kernel_rfl) rfl #[.agg #[.bool a0_0, .slice A0_1 l0_1.length c0_1, .slice A0_2 l0_2.length c0_2, .slice A0_3 l0_3.length c0_3, .slice A0_4 l0_4.length c0_4], .int .i64 1048576] rfl z1_ ?_; (with_reducible refine (laws_szTree.calls k a0_0 _ _ l0_1 _ _ l0_2 _ _ l0_3 _ _ l0_4 1048576 t263 _ ?side1 ?side2 ?side3 ?side4 ?side5 ?side6 ?side7 ?side8 A2.out).mono ?_); (case side1 => exact z140_); (case side2 => exact z157_); (case side3 => exact z143_); (case side4 => exact z163_); (case side5 => exact z144_); (case side6 => exact z164_); (case side7 => exact z142_); (case side8 => exact z165_); rintro e w36 ⟨rfl, hb⟩; refine ⟨_, rfl, ?_⟩; have n0_ := q_ (blk_below (g := gb262) (o := .cells #[.bool a0_0, .slice A0_1 l0_1.length c0_1, .slice A0_2 l0_2.length c0_2, .slice A0_3 l0_3.length c0_3, .slice A0_4 l0_4.length c0_4] 27 (0, 0)) z17_ hb); have n1_ := q_ (below_step z5_ hb); clear BK262; clear HB; have BK262 := n0_; have HB := n1_; clear n0_ n1_; (try clear hb); (try clear hb2); (try clear hk); (try clear hi); obtain ⟨hcz37_0, hcz37_1, hcz37_2, hcz37_3, hcz37_4, hfz37_0, hfz37_1, hfz37_2, hfz37_3, hfz37_4⟩ := cs5_ BK262.out) | ((with_reducible refine gate_callee (f := 17) rfl ?_); refine goesL_ (some 13) rfl rfl Try.func17 (by kernel_rfl) rfl #[.agg #[.bool a0_0, .slice A0_1 l0_1.length c0_1, .slice A0_2 l0_2.length c0_2, .slice A0_3 l0_3.length c0_3, .slice A0_4 l0_4.length c0_4]] rfl z1_ ?_; (with_reducible refine (laws_toTree.calls k a0_0 _ _ l0_1 _ _ l0_2 _ _ l0_3 _ _ l0_4 t264 t265 t268 t271 t274 _ ?side1 ?side2 ?side3 ?side4 ?side5 ?side6 ?side7 ?side8 A7.out).mono ?_); (case side1 => exact z140_); (case side2 => exact z157_); (case side3 => exact z143_); (case side4 => exact z163_); (case side5 => exact z144_); (case side6 => exact z164_); (case side7 => exact z142_); (case side8 => exact z165_); rintro e w38 ⟨v266, v269, v272, v275, rfl, ho0, ho1, ho2, ho3, hb⟩; refine ⟨_, rfl, ?_⟩; have n0_ := q_ (Kd.R_lower ho0 (below_size z5_)); have n1_ := q_ (Kd.R_lower ho1 (below_size z5_)); have n2_ := q_ (Kd.R_lower ho2 (below_size z5_)); have n3_ := q_ (Kd.R_lower ho3 (below_size z5_)); have n4_ := q_ (blk_below (g := gb262) (o := .cells #[.bool a0_0, .slice A0_1 l0_1.length c0_1, .slice A0_2 l0_2.length c0_2, .slice A0_3 l0_3.length c0_3, .slice A0_4 l0_4.length c0_4] 27 (0, 0)) z17_ hb); have n5_ := q_ (below_step z5_ hb); clear BK262; clear HB; have HO267 := n0_; have HO270 := n1_; have HO273 := n2_; have HO276 := n3_; have BK262 := n4_; have HB := n5_; clear n0_ n1_ n2_ n3_ n4_ n5_; (try clear hb); (try clear hb2); (try clear hk); (try clear hi); (try clear ho0); (try clear ho1); (try clear ho2); (try clear ho3); obtain ⟨Ao39, co39, eo39⟩ := Kd.R_slice HO267.out; subst eo39; obtain ⟨Ao40, co40, eo40⟩ := Kd.R_slice HO270.out; subst eo40; obtain ⟨Ao41, co41, eo41⟩ := Kd.R_slice HO273.out; subst eo41; obtain ⟨Ao42, co42, eo42⟩ := Kd.R_slice HO276.out; subst eo42) | ((with_reducible refine gate_callee (f := 20) rfl ?_); refine goesL_ (some 14) rfl rfl Try.func20 (by kernel_rfl) rfl #[.agg #[.bool t264, .slice Ao39 t265.length co39, .slice Ao40 t268.length co40, .slice Ao41 t271.length co41, .slice Ao42 t274.length co42]] rfl z1_ ?_; (with_reducible refine (spec_TreeOk.calls k t264 _ _ t265 _ _ t268 _ _ t271 _ _ t274 t277 _ ?side1 ?side2 ?side3 ?side4 ?side5 ?side6 ?side7 ?side8 A8.out).mono ?_); (case side1 => exact z159_); (case side2 => exact (Kd.R_reads' HO267.out).2.1); (case side3 => exact z160_); (case side4 => exact (Kd.R_reads' HO270.out).2.1); (case side5 => exact z161_); (case side6 => exact (Kd.R_reads' HO273.out).2.1); (case side7 => exact z162_); (case side8 => exact (Kd.R_reads' HO276.out).2.1); rintro e w43 ⟨rfl, hb⟩; refine ⟨_, rfl, ?_⟩; have n0_ := q_ (Kd.R_below z18_ hb); have n1_ := q_ (Kd.R_below z19_ hb); have n2_ := q_ (Kd.R_below z26_ hb); have n3_ := q_ (Kd.R_below z20_ hb); have n4_ := q_ (blk_below (g := gb262) (o := .cells #[.bool a0_0, .slice A0_1 l0_1.length c0_1, .slice A0_2 l0_2.length c0_2, .slice A0_3 l0_3.length c0_3, .slice A0_4 l0_4.length c0_4] 27 (0, 0)) z17_ hb); have n5_ := q_ (below_step z5_ hb); clear HO267; clear HO270; clear HO273; clear HO276; clear BK262; clear HB; have HO267 := n0_; have HO270 := n1_; have HO273 := n2_; have HO276 := n3_; have BK262 := n4_; have HB := n5_; clear n0_ n1_ n2_ n3_ n4_ n5_; (try clear hb); (try clear hb2); (try clear hk); (try clear hi); obtain ⟨hcz44_0, hcz44_1, hcz44_2, hcz44_3, hcz44_4, hfz44_0, hfz44_1, hfz44_2, hfz44_3, hfz44_4⟩ := cs5_ BK262.out) | ((with_reducible refine gate_callee (f := 17) rfl ?_); refine goesL_ (some 16) rfl rfl Try.func17 (by kernel_rfl) rfl #[.agg #[.bool a0_0, .slice A0_1 l0_1.length c0_1, .slice A0_2 l0_2.length c0_2, .slice A0_3 l0_3.length c0_3, .slice A0_4 l0_4.length c0_4]] rfl z1_ ?_; (with_reducible refine (laws_toTree.calls k a0_0 _ _ l0_1 _ _ l0_2 _ _ l0_3 _ _ l0_4 t278 t279 t282 t285 t288 _ ?side1 ?side2 ?side3 ?side4 ?side5 ?side6 ?side7 ?side8 A9.out).mono ?_); (case side1 => exact z140_); (case side2 => exact z157_); (case side3 => exact z143_); (case side4 => exact z163_); (case side5 => exact z144_); (case side6 => exact z164_); (case side7 => exact z142_); (case side8 => exact z165_); rintro e w45 ⟨v280, v283, v286, v289, rfl, ho0, ho1, ho2, ho3, hb⟩; refine ⟨_, rfl, ?_⟩; have n0_ := q_ (Kd.R_elder' z18_ (Kd.R_base ho0) hb); have n1_ := q_ (Kd.R_elder' z19_ (Kd.R_base ho1) hb); have n2_ := q_ (Kd.R_mono (Kd.R_told (Kd.R_told (Kd.R_told (Kd.R_told (Kd.R_old z26_ hb) (Kd.R_base ho0)) (Kd.R_base ho1)) (Kd.R_base ho2)) (Kd.R_base ho3)) (fun _ h_ => h_.1)); have n3_ := q_ (Kd.R_elder' z20_ (Kd.R_base ho3) hb); have n4_ := q_ (Kd.R_lower (Kd.R_new' ho0 (Kd.R_lt z18_)) (below_size z5_)); have n5_ := q_ (Kd.R_lower (Kd.R_new' ho1 (Kd.R_lt z19_)) (below_size z5_)); have n6_ := q_ (Kd.R_lower (Kd.R_new' (Kd.R_new' (Kd.R_new' (Kd.R_new' ho2 (Kd.R_lt z18_)) (Kd.R_lt z19_)) (Kd.R_lt z26_)) (Kd.R_lt z20_)) (below_size z5_)); have n7_ := q_ (Kd.R_lower (Kd.R_new' ho3 (Kd.R_lt z20_)) (below_size z5_)); have n8_ := q_ (blk_below (g := gb262) (o := .cells #[.bool a0_0, .slice A0_1 l0_1.length c0_1, .slice A0_2 l0_2.length c0_2, .slice A0_3 l0_3.length c0_3, .slice A0_4 l0_4.length c0_4] 27 (0, 0)) z17_ hb); have n9_ := q_ (below_step z5_ hb); clear HO267; clear HO270; clear HO273; clear HO276; clear BK262; clear HB; have HO267 := n0_; have HO270 := n1_; have HO273 := n2_; have HO276 := n3_; have HO281 := n4_; have HO284 := n5_; have HO287 := n6_; have HO290 := n7_; have BK262 := n8_; have HB := n9_; clear n0_ n1_ n2_ n3_ n4_ n5_ n6_ n7_ n8_ n9_; (try clear hb); (try clear hb2); (try clear hk); (try clear hi); (try clear ho0); (try clear ho1); (try clear ho2); (try clear ho3)) | ((with_reducible refine gate_dst (N := 5) rfl ?_); refine box_event ?hg (N := 5) ?hd (cs := #[.bool false, .slice none 0 0, .slice none 0 0, .slice none 0 0, .slice none 0 0]) (t := 34) ?hr ?_; (case hd => rfl); (case hg => rfl); (case hr => exact z141_); intro gb291 hg w46 hbox hb; have n0_ := q_ (Kd.R_below z18_ hb); have n1_ := q_ (Kd.R_below z19_ hb); have n2_ := q_ (Kd.R_below (Kd.R_elderB z26_ gb291 (Nat.le_of_eq hg.symm)) hb); have n3_ := q_ (Kd.R_below z20_ hb); have n4_ := q_ (Kd.R_below z47_ hb); have n5_ := q_ (Kd.R_below z48_ hb); have n6_ := q_ (Kd.R_below (Kd.R_elderB z54_ gb291 (Nat.le_of_eq hg.symm)) hb); have n7_ := q_ (Kd.R_below z49_ hb); have n8_ := q_ (blk_below (g := gb262) (o := .cells #[.bool a0_0, .slice A0_1 l0_1.length c0_1, .slice A0_2 l0_2.length c0_2, .slice A0_3 l0_3.length c0_3, .slice A0_4 l0_4.length c0_4] 27 (0, 0)) z17_ hb); have n9_ := q_ (below_step z5_ hb); have n10_ := q_ (hbox); have n11_ := q_ ((z139_ : w.heap.size ≤ gb291)); have n12_ := q_ ((z139_ : w.heap.size ≤ gb291)); have n13_ := q_ ((z119_ : gb262 ≠ gb291)); have n14_ := q_ ((z120_ : gb291 ≠ gb262)); clear HO267; clear HO270; clear HO273; clear HO276; clear HO281; clear HO284; clear HO287; clear HO290; clear BK262; clear HB; have HO267 := n0_; have HO270 := n1_; have HO273 := n2_; have HO276 := n3_; have HO281 := n4_; have HO284 := n5_; have HO287 := n6_; have HO290 := n7_; have BK262 := n8_; have HB := n9_; have BK291 := n10_; have GW291 := n11_; have GE291 := n12_; have NB262_291 := n13_; have NB291_262 := n14_; clear n0_ n1_ n2_ n3_ n4_ n5_ n6_ n7_ n8_ n9_ n10_ n11_ n12_ n13_ n14_; clear hb hbox hg; have hnb47 := NB291_262.out; have hnc47 := NB262_291.out; obtain ⟨hcz48_0, hcz48_1, hcz48_2, hcz48_3, hcz48_4, hfz48_0, hfz48_1, hfz48_2, hfz48_3, hfz48_4⟩ := cs5_ BK291.out; obtain ⟨Ao49, co49, eo49⟩ := Kd.R_slice HO281.out; subst eo49; obtain ⟨Ao50, co50, eo50⟩ := Kd.R_slice HO284.out; subst eo50; obtain ⟨Ao51, co51, eo51⟩ := Kd.R_slice HO287.out; subst eo51; obtain ⟨Ao52, co52, eo52⟩ := Kd.R_slice HO290.out; subst eo52) | ((with_reducible refine gate_callee (f := 21) rfl ?_); refine goesL_ (some 18) rfl rfl Try.func21 (by kernel_rfl) rfl #[.agg #[.bool t278, .slice Ao49 t279.length co49, .slice Ao50 t282.length co50, .slice Ao51 t285.length co51, .slice Ao52 t288.length co52]] rfl z1_ ?_; (with_reducible refine (impl_TreeOk.calls k t278 _ _ t279 _ _ t282 _ _ t285 _ _ t288 t292 _ ?side1 ?side2 ?side3 ?side4 ?side5 ?side6 ?side7 ?side8 A10.out).mono ?_); (case side1 => refine (Kd.R_reads' (e := 92) (base := w.heap.size) (ok := fun k_ => (True ∧ some k_ ≠ (.slice Ao39 t265.length co39 : Value).ownBlock)) (n := t279.length) (c := co49) ?_).2.2; exact (by (with_reducible repeat (first | apply Kd.R_alloc | apply Kd.R_drewN | apply Kd.R_drew)); exact (Kd.R_mono (Kd.R_far (p := ⟨gb291, 4, none⟩) (Kd.R_far (p := ⟨gb291, 3, none⟩) (Kd.R_far (p := ⟨gb291, 2, none⟩) (Kd.R_far (p := ⟨gb291, 1, none⟩) (Kd.R_far (p := ⟨gb291, 0, none⟩) (Kd.R_types HO281.out BK291.out (by decide)) (fun _ hk => hk.2) (.bool t278)) (fun _ hk => hk.2) (.slice Ao49 t279.length co49)) (fun _ hk => hk.2) (.slice Ao50 t282.length co50)) (fun _ hk => hk.2) (.slice Ao51 t285.length co51)) (fun _ hk => hk.2) (.slice Ao52 t288.length co52)) (fun _ h_ => h_.1)))); (case side2 => exact z202_); (case side3 => refine (Kd.R_reads' (e := 3) (base := w.heap.size) (ok := fun k_ => (True ∧ some k_ ≠ (.slice Ao40 t268.length co40 : Value).ownBlock)) (n := t282.length) (c := co50) ?_).2.2; exact (by (with_reducible repeat (first | apply Kd.R_alloc | apply Kd.R_drewN | apply Kd.R_drew)); exact (Kd.R_mono (Kd.R_far (p := ⟨gb291, 4, none⟩) (Kd.R_far (p := ⟨gb291, 3, none⟩) (Kd.R_far (p := ⟨gb291, 2, none⟩) (Kd.R_far (p := ⟨gb291, 1, none⟩) (Kd.R_far (p := ⟨gb291, 0, none⟩) (Kd.R_types HO284.out BK291.out (by decide)) (fun _ hk => hk.2) (.bool t278)) (fun _ hk => hk.2) (.slice Ao49 t279.length co49)) (fun _ hk => hk.2) (.slice Ao50 t282.length co50)) (fun _ hk => hk.2) (.slice Ao51 t285.length co51)) (fun _ hk => hk.2) (.slice Ao52 t288.length co52)) (fun _ h_ => h_.1)))); (case side4 => exact z203_); (case side5 => refine (Kd.R_reads' (e := 34) (base := w.heap.size) (ok := fun k_ => ((((((some k_ ≠ (.slice Ao49 t279.length co49 : Value).ownBlock ∧ (some k_ ≠ (.slice Ao50 t282.length co50 : Value).ownBlock ∧ some k_ ≠ (.slice Ao52 t288.length co52 : Value).ownBlock)) ∧ some k_ ≠ (.slice Ao39 t265.length co39 : Value).ownBlock) ∧ some k_ ≠ (.slice Ao40 t268.length co40 : Value).ownBlock) ∧ some k_ ≠ (.slice Ao41 t271.length co41 : Value).ownBlock) ∧ some k_ ≠ (.slice Ao42 t274.length co42 : Value).ownBlock) ∧ k_ ≠ gb291)) (n := t285.length) (c := co51) ?_).2.2; exact z42_); (case side6 => exact z204_); (case side7 => refine (Kd.R_reads' (e := 72) (base := w.heap.size) (ok := fun k_ => (True ∧ some k_ ≠ (.slice Ao42 t274.length co42 : Value).ownBlock)) (n := t288.length) (c := co52) ?_).2.2; exact (by (with_reducible repeat (first | apply Kd.R_alloc | apply Kd.R_drewN | apply Kd.R_drew)); exact (Kd.R_mono (Kd.R_far (p := ⟨gb291, 4, none⟩) (Kd.R_far (p := ⟨gb291, 3, none⟩) (Kd.R_far (p := ⟨gb291, 2, none⟩) (Kd.R_far (p := ⟨gb291, 1, none⟩) (Kd.R_far (p := ⟨gb291, 0, none⟩) (Kd.R_types HO290.out BK291.out (by decide)) (fun _ hk => hk.2) (.bool t278)) (fun _ hk => hk.2) (.slice Ao49 t279.length co49)) (fun _ hk => hk.2) (.slice Ao50 t282.length co50)) (fun _ hk => hk.2) (.slice Ao51 t285.length co51)) (fun _ hk => hk.2) (.slice Ao52 t288.length co52)) (fun _ h_ => h_.1)))); (case side8 => exact z205_); rintro e w53 ⟨rfl, hb⟩; refine ⟨_, rfl, ?_⟩; have n0_ := q_ (Kd.R_below (by (with_reducible repeat (first | apply Kd.R_alloc | apply Kd.R_drewN | apply Kd.R_drew)); exact (Kd.R_mono (Kd.R_far (p := ⟨gb291, 4, none⟩) (Kd.R_far (p := ⟨gb291, 3, none⟩) (Kd.R_far (p := ⟨gb291, 2, none⟩) (Kd.R_far (p := ⟨gb291, 1, none⟩) (Kd.R_far (p := ⟨gb291, 0, none⟩) (Kd.R_types HO267.out BK291.out (by decide)) (fun _ hk => hk.2) (.bool t278)) (fun _ hk => hk.2) (.slice Ao49 t279.length co49)) (fun _ hk => hk.2) (.slice Ao50 t282.length co50)) (fun _ hk => hk.2) (.slice Ao51 t285.length co51)) (fun _ hk => hk.2) (.slice Ao52 t288.length co52)) (fun _ h_ => h_.1))) hb); have n1_ := q_ (Kd.R_below (by (with_reducible repeat (first | apply Kd.R_alloc | apply Kd.R_drewN | apply Kd.R_drew)); exact (Kd.R_mono (Kd.R_far (p := ⟨gb291, 4, none⟩) (Kd.R_far (p := ⟨gb291, 3, none⟩) (Kd.R_far (p := ⟨gb291, 2, none⟩) (Kd.R_far (p := ⟨gb291, 1, none⟩) (Kd.R_far (p := ⟨gb291, 0, none⟩) (Kd.R_types HO270.out BK291.out (by decide)) (fun _ hk => hk.2) (.bool t278)) (fun _ hk => hk.2) (.slice Ao49 t279.length co49)) (fun _ hk => hk.2) (.slice Ao50 t282.length co50)) (fun _ hk => hk.2) (.slice Ao51 t285.length co51)) (fun _ hk => hk.2) (.slice Ao52 t288.length co52)) (fun _ h_ => h_.1))) hb); have n2_ := q_ (Kd.R_below (by (with_reducible repeat (first | apply Kd.R_alloc | apply Kd.R_drewN | apply Kd.R_drew)); exact (Kd.R_mono (Kd.R_far (p := ⟨gb291, 4, none⟩) (Kd.R_far (p := ⟨gb291, 3, none⟩) (Kd.R_far (p := ⟨gb291, 2, none⟩) (Kd.R_far (p := ⟨gb291, 1, none⟩) (Kd.R_far (p := ⟨gb291, 0, none⟩) (Kd.R_mono HO273.out (fun k_ hk => (⟨hk, hk.2⟩ : _ ∧ k_ ≠ gb291))) (fun _ hk => hk.2) (.bool t278)) (fun _ hk => hk.2) (.slice Ao49 t279.length co49)) (fun _ hk => hk.2) (.slice Ao50 t282.length co50)) (fun _ hk => hk.2) (.slice Ao51 t285.length co51)) (fun _ hk => hk.2) (.slice Ao52 t288.length co52)) (fun _ h_ => h_.1))) hb); have n3_ := q_ (Kd.R_below (by (with_reducible repeat (first | apply Kd.R_alloc | apply Kd.R_drewN | apply Kd.R_drew)); exact (Kd.R_mono (Kd.R_far (p := ⟨gb291, 4, none⟩) (Kd.R_far (p := ⟨gb291, 3, none⟩) (Kd.R_far (p := ⟨gb291, 2, none⟩) (Kd.R_far (p := ⟨gb291, 1, none⟩) (Kd.R_far (p := ⟨gb291, 0, none⟩) (Kd.R_types HO276.out BK291.out (by decide)) (fun _ hk => hk.2) (.bool t278)) (fun _ hk => hk.2) (.slice Ao49 t279.length co49)) (fun _ hk => hk.2) (.slice Ao50 t282.length co50)) (fun _ hk => hk.2) (.slice Ao51 t285.length co51)) (fun _ hk => hk.2) (.slice Ao52 t288.length co52)) (fun _ h_ => h_.1))) hb); have n4_ := q_ (Kd.R_below (by (with_reducible repeat (first | apply Kd.R_alloc | apply Kd.R_drewN | apply Kd.R_drew)); exact (Kd.R_mono (Kd.R_far (p := ⟨gb291, 4, none⟩) (Kd.R_far (p := ⟨gb291, 3, none⟩) (Kd.R_far (p := ⟨gb291, 2, none⟩) (Kd.R_far (p := ⟨gb291, 1, none⟩) (Kd.R_far (p := ⟨gb291, 0, none⟩) (Kd.R_types HO281.out BK291.out (by decide)) (fun _ hk => hk.2) (.bool t278)) (fun _ hk => hk.2) (.slice Ao49 t279.length co49)) (fun _ hk => hk.2) (.slice Ao50 t282.length co50)) (fun _ hk => hk.2) (.slice Ao51 t285.length co51)) (fun _ hk => hk.2) (.slice Ao52 t288.length co52)) (fun _ h_ => h_.1))) hb); have n5_ := q_ (Kd.R_below (by (with_reducible repeat (first | apply Kd.R_alloc | apply Kd.R_drewN | apply Kd.R_drew)); exact (Kd.R_mono (Kd.R_far (p := ⟨gb291, 4, none⟩) (Kd.R_far (p := ⟨gb291, 3, none⟩) (Kd.R_far (p := ⟨gb291, 2, none⟩) (Kd.R_far (p := ⟨gb291, 1, none⟩) (Kd.R_far (p := ⟨gb291, 0, none⟩) (Kd.R_types HO284.out BK291.out (by decide)) (fun _ hk => hk.2) (.bool t278)) (fun _ hk => hk.2) (.slice Ao49 t279.length co49)) (fun _ hk => hk.2) (.slice Ao50 t282.length co50)) (fun _ hk => hk.2) (.slice Ao51 t285.length co51)) (fun _ hk => hk.2) (.slice Ao52 t288.length co52)) (fun _ h_ => h_.1))) hb); have n6_ := q_ (Kd.R_below z42_ hb); have n7_ := q_ (Kd.R_below (by (with_reducible repeat (first | apply Kd.R_alloc | apply Kd.R_drewN | apply Kd.R_drew)); exact (Kd.R_mono (Kd.R_far (p := ⟨gb291, 4, none⟩) (Kd.R_far (p := ⟨gb291, 3, none⟩) (Kd.R_far (p := ⟨gb291, 2, none⟩) (Kd.R_far (p := ⟨gb291, 1, none⟩) (Kd.R_far (p := ⟨gb291, 0, none⟩) (Kd.R_types HO290.out BK291.out (by decide)) (fun _ hk => hk.2) (.bool t278)) (fun _ hk => hk.2) (.slice Ao49 t279.length co49)) (fun _ hk => hk.2) (.slice Ao50 t282.length co50)) (fun _ hk => hk.2) (.slice Ao51 t285.length co51)) (fun _ hk => hk.2) (.slice Ao52 t288.length co52)) (fun _ h_ => h_.1))) hb); have n8_ := q_ (blk_below (g := gb262) (o := .cells #[.bool a0_0, .slice A0_1 l0_1.length c0_1, .slice A0_2 l0_2.length c0_2, .slice A0_3 l0_3.length c0_3, .slice A0_4 l0_4.length c0_4] 27 (0, 0)) z33_ hb); have n9_ := q_ (blk_below (g := gb291) (o := .cells #[.bool t278, .slice Ao49 t279.length co49, .slice Ao50 t282.length co50, .slice Ao51 t285.length co51, .slice Ao52 t288.length co52] 34 (0, 0)) (by (with_reducible repeat (first | refine blk_drewN ?_ _ | refine blk_drew ?_ | refine blk_alloc ?_ _)); refine blk_put (cs := #[.bool t278, .slice Ao49 t279.length co49, .slice Ao50 t282.length co50, .slice Ao51 t285.length co51, .slice none 0 0]) ?_ 4 _ rfl; (with_reducible repeat (first | refine blk_drewN ?_ _ | refine blk_drew ?_ | refine blk_alloc ?_ _)); refine blk_put (cs := #[.bool t278, .slice Ao49 t279.length co49, .slice Ao50 t282.length co50, .slice none 0 0, .slice none 0 0]) ?_ 3 _ rfl; (with_reducible repeat (first | refine blk_drewN ?_ _ | refine blk_drew ?_ | refine blk_alloc ?_ _)); refine blk_put (cs := #[.bool t278, .slice Ao49 t279.length co49, .slice none 0 0, .slice none 0 0, .slice none 0 0]) ?_ 2 _ rfl; (with_reducible repeat (first | refine blk_drewN ?_ _ | refine blk_drew ?_ | refine blk_alloc ?_ _)); refine blk_put (cs := #[.bool t278, .slice none 0 0, .slice none 0 0, .slice none 0 0, .slice none 0 0]) ?_ 1 _ rfl; (with_reducible repeat (first | refine blk_drewN ?_ _ | refine blk_drew ?_ | refine blk_alloc ?_ _)); refine blk_put (cs := #[.bool false, .slice none 0 0, .slice none 0 0, .slice none 0 0, .slice none 0 0]) ?_ 0 _ rfl; (with_reducible repeat (first | refine blk_drewN ?_ _ | refine blk_drew ?_ | refine blk_alloc ?_ _)); exact BK291.out) hb); have n10_ := q_ (below_step z10_ hb); clear HO267; clear HO270; clear HO273; clear HO276; clear HO281; clear HO284; clear HO287; clear HO290; clear BK262; clear BK291; clear HB; have HO267 := n0_; have HO270 := n1_; have HO273 := n2_; have HO276 := n3_; have HO281 := n4_; have HO284 := n5_; have HO287 := n6_; have HO290 := n7_; have BK262 := n8_; have BK291 := n9_; have HB := n10_; clear n0_ n1_ n2_ n3_ n4_ n5_ n6_ n7_ n8_ n9_ n10_; (try clear hb); (try clear hb2); (try clear hk); (try clear hi)))
    have n0_ := q_ (Kd.R_drew HO267.out)
    have n1_ := q_ (Kd.R_drew HO270.out)
    have n2_ := q_ (Kd.R_drew HO273.out)
    have n3_ := q_ (Kd.R_drew HO276.out)
    have n4_ := q_ (Kd.R_drew HO281.out)
    have n5_ := q_ (Kd.R_drew HO284.out)
    have n6_ := q_ (Kd.R_drew HO287.out)
    have n7_ := q_ (Kd.R_drew HO290.out)
    have n8_ := q_ (blk_drew BK262.out)
    have n9_ := q_ (blk_drew BK291.out)
    have n10_ := q_ (below_drew1 HB.out)
    clear HO267
    clear HO270
    clear HO273
    clear HO276
    clear HO281
    clear HO284
    clear HO287
    clear HO290
    clear BK262
    clear BK291
    clear HB
    have HO267 := n0_
    have HO270 := n1_
    have HO273 := n2_
    have HO276 := n3_
    have HO281 := n4_
    have HO284 := n5_
    have HO287 := n6_
    have HO290 := n7_
    have BK262 := n8_
    have BK291 := n9_
    have HB := n10_
    clear n0_ n1_ n2_ n3_ n4_ n5_ n6_ n7_ n8_ n9_ n10_
    refine start_ (n := 5) (S := fun w' => w'.cell? ⟨gb291, 0, none⟩ = some (.bool t278) ∧ w'.cell? ⟨gb291, 1, none⟩ = some (.slice Ao49 t279.length co49) ∧ w'.cell? ⟨gb291, 2, none⟩ = some (.slice Ao50 t282.length co50) ∧ w'.cell? ⟨gb291, 3, none⟩ = some (.slice Ao51 t285.length co51) ∧ w'.cell? ⟨gb291, 4, none⟩ = some (.slice Ao52 t288.length co52) ∧ w'.cell? ⟨gb262, 0, none⟩ = some (.bool a0_0) ∧ w'.cell? ⟨gb262, 1, none⟩ = some (.slice A0_1 l0_1.length c0_1) ∧ w'.cell? ⟨gb262, 2, none⟩ = some (.slice A0_2 l0_2.length c0_2) ∧ w'.cell? ⟨gb262, 3, none⟩ = some (.slice A0_3 l0_3.length c0_3) ∧ w'.cell? ⟨gb262, 4, none⟩ = some (.slice A0_4 l0_4.length c0_4)) (ds := []) #[false, false, false, false, false] (by kernel_rfl) rfl rfl ⟨(blk_cell BK291.out 0).trans rfl, (blk_cell BK291.out 1).trans rfl, (blk_cell BK291.out 2).trans rfl, (blk_cell BK291.out 3).trans rfl, (blk_cell BK291.out 4).trans rfl, (blk_cell BK262.out 0).trans rfl, (blk_cell BK262.out 1).trans rfl, (blk_cell BK262.out 2).trans rfl, (blk_cell BK262.out 3).trans rfl, (blk_cell BK262.out 4).trans rfl⟩ (fun hHeld => ?_)
    generalize w53.drew = w54 at HO267 HO270 HO273 HO276 HO281 HO284 HO287 HO290 BK262 BK291 HB hHeld ⊢
    refine take_ (i := 0) (N := some 22) (v := ?_) (a' := ?_) #[true, false, false, false, false] rfl rfl (by kernel_rfl) (fun _ _ _ h => h) (Or.inl ⟨by rfl, ?_⟩) hHeld ?_ ?_
    rotate_left
    ·rintro w' ⟨s0, s1, s2, s3, s4, s5, s6, s7, s8, s9⟩
     go_simp
     with_reducible rfl
    rotate_left
    ·simp only [Act.put, List.setIfInBounds_toArray, List.set_cons_zero, List.set_cons_succ, i64_w, i32_w]
     rfl
    refine take_ (i := 1) (N := some 23) (v := ?_) (a' := ?_) #[true, true, false, false, false] rfl rfl (by kernel_rfl) (fun _ _ _ h => h) (Or.inl ⟨by rfl, ?_⟩) hHeld ?_ ?_
    rotate_left
    ·rintro w' ⟨s0, s1, s2, s3, s4, s5, s6, s7, s8, s9⟩
     go_simp
     with_reducible rfl
    rotate_left
    ·simp only [Act.put, List.setIfInBounds_toArray, List.set_cons_zero, List.set_cons_succ, i64_w, i32_w]
     rfl
    refine one_ (i := 2) (N := some 24) #[true, true, true, false, false] rfl rfl (by kernel_rfl) (by decide) (fun K hK => ?_)
    refine goes_ Try.func17 (by kernel_rfl) rfl #[.agg #[.bool a0_0, .slice A0_1 l0_1.length c0_1, .slice A0_2 l0_2.length c0_2, .slice A0_3 l0_3.length c0_3, .slice A0_4 l0_4.length c0_4]] (by rfl) rfl rfl z1_ ?_
    with_reducible refine (laws_toTree.calls k a0_0 _ _ l0_1 _ _ l0_2 _ _ l0_3 _ _ l0_4 t293 t294 t297 t300 t303 _ ?side1 ?side2 ?side3 ?side4 ?side5 ?side6 ?side7 ?side8 A31.out).mono ?_
    (case side1 => exact z140_)
    (case side2 => exact z157_)
    (case side3 => exact z143_)
    (case side4 => exact z163_)
    (case side5 => exact z144_)
    (case side6 => exact z164_)
    (case side7 => exact z142_)
    (case side8 => exact z165_)
    rintro e w55 ⟨v295, v298, v301, v304, rfl, ho0, ho1, ho2, ho3, hb⟩
    refine ⟨_, rfl, ?_⟩
    have n0_ := q_ (Kd.R_elder' z18_ (Kd.R_base ho0) hb)
    have n1_ := q_ (Kd.R_elder' z19_ (Kd.R_base ho1) hb)
    have n2_ := q_ (Kd.R_mono (Kd.R_told (Kd.R_told (Kd.R_told (Kd.R_told (Kd.R_old z26_ hb) (Kd.R_base ho0)) (Kd.R_base ho1)) (Kd.R_base ho2)) (Kd.R_base ho3)) (fun _ h_ => h_.1))
    have n3_ := q_ (Kd.R_elder' z20_ (Kd.R_base ho3) hb)
    have n4_ := q_ (Kd.R_elder' z47_ (Kd.R_base ho0) hb)
    have n5_ := q_ (Kd.R_elder' z48_ (Kd.R_base ho1) hb)
    have n6_ := q_ (Kd.R_mono (Kd.R_told (Kd.R_told (Kd.R_told (Kd.R_told (Kd.R_old z54_ hb) (Kd.R_base ho0)) (Kd.R_base ho1)) (Kd.R_base ho2)) (Kd.R_base ho3)) (fun _ h_ => h_.1))
    have n7_ := q_ (Kd.R_elder' z49_ (Kd.R_base ho3) hb)
    have n8_ := q_ (Kd.R_lower (Kd.R_new' (Kd.R_new' ho0 (Kd.R_lt z18_)) (Kd.R_lt z47_)) (below_size z10_))
    have n9_ := q_ (Kd.R_lower (Kd.R_new' (Kd.R_new' ho1 (Kd.R_lt z19_)) (Kd.R_lt z48_)) (below_size z10_))
    have n10_ := q_ (Kd.R_lower (Kd.R_newB (Kd.R_new' (Kd.R_new' (Kd.R_new' (Kd.R_new' (Kd.R_new' (Kd.R_new' (Kd.R_new' (Kd.R_new' ho2 (Kd.R_lt z18_)) (Kd.R_lt z19_)) (Kd.R_lt z26_)) (Kd.R_lt z20_)) (Kd.R_lt z47_)) (Kd.R_lt z48_)) (Kd.R_lt z54_)) (Kd.R_lt z49_)) (g := gb291) (o := .cells #[.bool t278, .slice Ao49 t279.length co49, .slice Ao50 t282.length co50, .slice Ao51 t285.length co51, .slice Ao52 t288.length co52] 34 (0, 0)) z67_) (below_size z10_))
    have n11_ := q_ (Kd.R_lower (Kd.R_new' (Kd.R_new' ho3 (Kd.R_lt z20_)) (Kd.R_lt z49_)) (below_size z10_))
    have n12_ := q_ (blk_below (g := gb262) (o := .cells #[.bool a0_0, .slice A0_1 l0_1.length c0_1, .slice A0_2 l0_2.length c0_2, .slice A0_3 l0_3.length c0_3, .slice A0_4 l0_4.length c0_4] 27 (0, 0)) z17_ hb)
    have n13_ := q_ (blk_below (g := gb291) (o := .cells #[.bool t278, .slice Ao49 t279.length co49, .slice Ao50 t282.length co50, .slice Ao51 t285.length co51, .slice Ao52 t288.length co52] 34 (0, 0)) z67_ hb)
    have n14_ := q_ (below_step z10_ hb)
    clear HO267
    clear HO270
    clear HO273
    clear HO276
    clear HO281
    clear HO284
    clear HO287
    clear HO290
    clear BK262
    clear BK291
    clear HB
    have HO267 := n0_
    have HO270 := n1_
    have HO273 := n2_
    have HO276 := n3_
    have HO281 := n4_
    have HO284 := n5_
    have HO287 := n6_
    have HO290 := n7_
    have HO296 := n8_
    have HO299 := n9_
    have HO302 := n10_
    have HO305 := n11_
    have BK262 := n12_
    have BK291 := n13_
    have HB := n14_
    clear n0_ n1_ n2_ n3_ n4_ n5_ n6_ n7_ n8_ n9_ n10_ n11_ n12_ n13_ n14_
    (try clear hb)
    (try clear hb2)
    (try clear hk)
    (try clear hi)
    (try clear ho0)
    (try clear ho1)
    (try clear ho2)
    (try clear ho3)
    obtain ⟨Ao56, co56, eo56⟩ := Kd.R_slice HO296.out
    (first | subst eo56 | (injection eo56 with f1_ f2_ f3_; have f4_ := f1_.symm; have f5_ := f3_.symm; clear f1_ f2_ f3_; subst f4_; subst f5_))
    obtain ⟨Ao57, co57, eo57⟩ := Kd.R_slice HO299.out
    (first | subst eo57 | (injection eo57 with f1_ f2_ f3_; have f4_ := f1_.symm; have f5_ := f3_.symm; clear f1_ f2_ f3_; subst f4_; subst f5_))
    obtain ⟨Ao58, co58, eo58⟩ := Kd.R_slice HO302.out
    (first | subst eo58 | (injection eo58 with f1_ f2_ f3_; have f4_ := f1_.symm; have f5_ := f3_.symm; clear f1_ f2_ f3_; subst f4_; subst f5_))
    obtain ⟨Ao59, co59, eo59⟩ := Kd.R_slice HO305.out
    (first | subst eo59 | (injection eo59 with f1_ f2_ f3_; have f4_ := f1_.symm; have f5_ := f3_.symm; clear f1_ f2_ f3_; subst f4_; subst f5_))
    refine hK.out _ _ ⟨(blk_cell BK291.out 0).trans rfl, (blk_cell BK291.out 1).trans rfl, (blk_cell BK291.out 2).trans rfl, (blk_cell BK291.out 3).trans rfl, (blk_cell BK291.out 4).trans rfl, (blk_cell BK262.out 0).trans rfl, (blk_cell BK262.out 1).trans rfl, (blk_cell BK262.out 2).trans rfl, (blk_cell BK262.out 3).trans rfl, (blk_cell BK262.out 4).trans rfl⟩ (fun hHeld => ?_)
    clear hK K
    refine norm_ (a' := ?_) ?_ ?_
    rotate_left
    ·show Act.put _ (some 24) _ = _
     simp only [Act.put, List.setIfInBounds_toArray, List.set_cons_zero, List.set_cons_succ, i64_w, i32_w]
     rfl
    refine one_ (i := 3) (N := some 25) #[true, true, true, true, false] rfl rfl (by kernel_rfl) (by decide) (fun K hK => ?_)
    refine goes_ Try.func19 (by kernel_rfl) rfl #[.agg #[.bool t278, .slice Ao49 t279.length co49, .slice Ao50 t282.length co50, .slice Ao51 t285.length co51, .slice Ao52 t288.length co52], .agg #[.bool t293, .slice Ao56 t294.length co56, .slice Ao57 t297.length co57, .slice Ao58 t300.length co58, .slice Ao59 t303.length co59]] (by rfl) rfl rfl z1_ ?_
    with_reducible refine (laws_eqTree.calls k t278 _ _ t279 _ _ t282 _ _ t285 _ _ t288 t293 _ _ t294 _ _ t297 _ _ t300 _ _ t303 true _ ?side1 ?side2 ?side3 ?side4 ?side5 ?side6 ?side7 ?side8 ?side9 ?side10 ?side11 ?side12 ?side13 ?side14 ?side15 ?side16 A32.out).mono ?_
    (case side1 => exact z190_)
    (case side2 => exact z202_)
    (case side3 => exact z191_)
    (case side4 => exact z203_)
    (case side5 => exact z192_)
    (case side6 => exact z204_)
    (case side7 => exact z193_)
    (case side8 => exact z205_)
    (case side9 => exact z194_)
    (case side10 => exact (Kd.R_reads' HO296.out).2.1)
    (case side11 => exact z195_)
    (case side12 => exact (Kd.R_reads' HO299.out).2.1)
    (case side13 => exact z196_)
    (case side14 => exact (Kd.R_reads' HO302.out).2.1)
    (case side15 => exact z197_)
    (case side16 => exact (Kd.R_reads' HO305.out).2.1)
    rintro e w60 ⟨rfl, hb⟩
    refine ⟨_, rfl, ?_⟩
    have n0_ := q_ (Kd.R_below z18_ hb)
    have n1_ := q_ (Kd.R_below z19_ hb)
    have n2_ := q_ (Kd.R_below z26_ hb)
    have n3_ := q_ (Kd.R_below z20_ hb)
    have n4_ := q_ (Kd.R_below z47_ hb)
    have n5_ := q_ (Kd.R_below z48_ hb)
    have n6_ := q_ (Kd.R_below z54_ hb)
    have n7_ := q_ (Kd.R_below z49_ hb)
    have n8_ := q_ (Kd.R_below z96_ hb)
    have n9_ := q_ (Kd.R_below z97_ hb)
    have n10_ := q_ (Kd.R_below z98_ hb)
    have n11_ := q_ (Kd.R_below z99_ hb)
    have n12_ := q_ (blk_below (g := gb262) (o := .cells #[.bool a0_0, .slice A0_1 l0_1.length c0_1, .slice A0_2 l0_2.length c0_2, .slice A0_3 l0_3.length c0_3, .slice A0_4 l0_4.length c0_4] 27 (0, 0)) z17_ hb)
    have n13_ := q_ (blk_below (g := gb291) (o := .cells #[.bool t278, .slice Ao49 t279.length co49, .slice Ao50 t282.length co50, .slice Ao51 t285.length co51, .slice Ao52 t288.length co52] 34 (0, 0)) z67_ hb)
    have n14_ := q_ (below_step z10_ hb)
    clear HO267
    clear HO270
    clear HO273
    clear HO276
    clear HO281
    clear HO284
    clear HO287
    clear HO290
    clear HO296
    clear HO299
    clear HO302
    clear HO305
    clear BK262
    clear BK291
    clear HB
    have HO267 := n0_
    have HO270 := n1_
    have HO273 := n2_
    have HO276 := n3_
    have HO281 := n4_
    have HO284 := n5_
    have HO287 := n6_
    have HO290 := n7_
    have HO296 := n8_
    have HO299 := n9_
    have HO302 := n10_
    have HO305 := n11_
    have BK262 := n12_
    have BK291 := n13_
    have HB := n14_
    clear n0_ n1_ n2_ n3_ n4_ n5_ n6_ n7_ n8_ n9_ n10_ n11_ n12_ n13_ n14_
    (try clear hb)
    (try clear hb2)
    (try clear hk)
    (try clear hi)
    refine hK.out _ _ ⟨(blk_cell BK291.out 0).trans rfl, (blk_cell BK291.out 1).trans rfl, (blk_cell BK291.out 2).trans rfl, (blk_cell BK291.out 3).trans rfl, (blk_cell BK291.out 4).trans rfl, (blk_cell BK262.out 0).trans rfl, (blk_cell BK262.out 1).trans rfl, (blk_cell BK262.out 2).trans rfl, (blk_cell BK262.out 3).trans rfl, (blk_cell BK262.out 4).trans rfl⟩ (fun hHeld => ?_)
    clear hK K
    refine norm_ (a' := ?_) ?_ ?_
    rotate_left
    ·show Act.put _ (some 25) _ = _
     simp only [Act.put, List.setIfInBounds_toArray, List.set_cons_zero, List.set_cons_succ, i64_w, i32_w]
     rfl
    refine pure_ (i := 4) (N := some 26) (v := ?_) (a' := ?_) #[true, true, true, true, true] rfl rfl (by kernel_rfl) (fun _ _ _ h => h) (Or.inl ⟨by rfl, ?_⟩) ?_ ?_
    rotate_left
    ·intro w'
     go_simp
     with_reducible rfl
    rotate_left
    ·simp only [Act.put, List.setIfInBounds_toArray, List.set_cons_zero, List.set_cons_succ, i64_w, i32_w]
     rfl
    refine done_ (by kernel_rfl) ?_
    try go_wp2
    go_ret
    exact ⟨z2_, z10_⟩
   ·replace c33 := Bool.eq_false_iff.mpr c33
    subst c33
    have H1 : (some false) = some r := by rw [if_neg (show ¬ (false = true) by decide)] at H; exact H
    clear H
    have H := H1
    clear H1
    obtain rfl := Option.some.inj H
    go_enter Try.func4, Try.ntmps4
    try go_wp2_with (first | ((with_reducible refine gate_dst (N := 1) rfl ?_); refine box_event ?hg (N := 1) ?hd (cs := #[.bool a0_0, .slice A0_1 l0_1.length c0_1, .slice A0_2 l0_2.length c0_2, .slice A0_3 l0_3.length c0_3, .slice A0_4 l0_4.length c0_4]) (t := 27) ?hr ?_; (case hd => rfl); (case hg => rfl); (case hr => exact z141_); intro gb262 hg w61 hbox hb; have n0_ := q_ (below_step z0_ hb); have n1_ := q_ (hbox); have n2_ := q_ ((z104_ : w.heap.size ≤ gb262)); have n3_ := q_ ((z104_ : w.heap.size ≤ gb262)); clear HB; have HB := n0_; have BK262 := n1_; have GW262 := n2_; have GE262 := n3_; clear n0_ n1_ n2_ n3_; clear hb hbox hg; obtain ⟨hcz62_0, hcz62_1, hcz62_2, hcz62_3, hcz62_4, hfz62_0, hfz62_1, hfz62_2, hfz62_3, hfz62_4⟩ := cs5_ BK262.out) | ((with_reducible refine gate_callee (f := 15) rfl ?_); refine goesL_ (some 9) rfl rfl Try.func15 (by kernel_rfl) rfl #[.agg #[.bool a0_0, .slice A0_1 l0_1.length c0_1, .slice A0_2 l0_2.length c0_2, .slice A0_3 l0_3.length c0_3, .slice A0_4 l0_4.length c0_4], .int .i64 1048576] rfl z1_ ?_; (with_reducible refine (laws_szTree.calls k a0_0 _ _ l0_1 _ _ l0_2 _ _ l0_3 _ _ l0_4 1048576 t263 _ ?side1 ?side2 ?side3 ?side4 ?side5 ?side6 ?side7 ?side8 A2.out).mono ?_); (case side1 => exact z140_); (case side2 => exact z157_); (case side3 => exact z143_); (case side4 => exact z163_); (case side5 => exact z144_); (case side6 => exact z164_); (case side7 => exact z142_); (case side8 => exact z165_); rintro e w63 ⟨rfl, hb⟩; refine ⟨_, rfl, ?_⟩; have n0_ := q_ (blk_below (g := gb262) (o := .cells #[.bool a0_0, .slice A0_1 l0_1.length c0_1, .slice A0_2 l0_2.length c0_2, .slice A0_3 l0_3.length c0_3, .slice A0_4 l0_4.length c0_4] 27 (0, 0)) z17_ hb); have n1_ := q_ (below_step z5_ hb); clear BK262; clear HB; have BK262 := n0_; have HB := n1_; clear n0_ n1_; (try clear hb); (try clear hb2); (try clear hk); (try clear hi); obtain ⟨hcz64_0, hcz64_1, hcz64_2, hcz64_3, hcz64_4, hfz64_0, hfz64_1, hfz64_2, hfz64_3, hfz64_4⟩ := cs5_ BK262.out) | ((with_reducible refine gate_callee (f := 17) rfl ?_); refine goesL_ (some 13) rfl rfl Try.func17 (by kernel_rfl) rfl #[.agg #[.bool a0_0, .slice A0_1 l0_1.length c0_1, .slice A0_2 l0_2.length c0_2, .slice A0_3 l0_3.length c0_3, .slice A0_4 l0_4.length c0_4]] rfl z1_ ?_; (with_reducible refine (laws_toTree.calls k a0_0 _ _ l0_1 _ _ l0_2 _ _ l0_3 _ _ l0_4 t264 t265 t268 t271 t274 _ ?side1 ?side2 ?side3 ?side4 ?side5 ?side6 ?side7 ?side8 A7.out).mono ?_); (case side1 => exact z140_); (case side2 => exact z157_); (case side3 => exact z143_); (case side4 => exact z163_); (case side5 => exact z144_); (case side6 => exact z164_); (case side7 => exact z142_); (case side8 => exact z165_); rintro e w65 ⟨v266, v269, v272, v275, rfl, ho0, ho1, ho2, ho3, hb⟩; refine ⟨_, rfl, ?_⟩; have n0_ := q_ (Kd.R_lower ho0 (below_size z5_)); have n1_ := q_ (Kd.R_lower ho1 (below_size z5_)); have n2_ := q_ (Kd.R_lower ho2 (below_size z5_)); have n3_ := q_ (Kd.R_lower ho3 (below_size z5_)); have n4_ := q_ (blk_below (g := gb262) (o := .cells #[.bool a0_0, .slice A0_1 l0_1.length c0_1, .slice A0_2 l0_2.length c0_2, .slice A0_3 l0_3.length c0_3, .slice A0_4 l0_4.length c0_4] 27 (0, 0)) z17_ hb); have n5_ := q_ (below_step z5_ hb); clear BK262; clear HB; have HO267 := n0_; have HO270 := n1_; have HO273 := n2_; have HO276 := n3_; have BK262 := n4_; have HB := n5_; clear n0_ n1_ n2_ n3_ n4_ n5_; (try clear hb); (try clear hb2); (try clear hk); (try clear hi); (try clear ho0); (try clear ho1); (try clear ho2); (try clear ho3); obtain ⟨Ao66, co66, eo66⟩ := Kd.R_slice HO267.out; subst eo66; obtain ⟨Ao67, co67, eo67⟩ := Kd.R_slice HO270.out; subst eo67; obtain ⟨Ao68, co68, eo68⟩ := Kd.R_slice HO273.out; subst eo68; obtain ⟨Ao69, co69, eo69⟩ := Kd.R_slice HO276.out; subst eo69) | ((with_reducible refine gate_callee (f := 20) rfl ?_); refine goesL_ (some 14) rfl rfl Try.func20 (by kernel_rfl) rfl #[.agg #[.bool t264, .slice Ao66 t265.length co66, .slice Ao67 t268.length co67, .slice Ao68 t271.length co68, .slice Ao69 t274.length co69]] rfl z1_ ?_; (with_reducible refine (spec_TreeOk.calls k t264 _ _ t265 _ _ t268 _ _ t271 _ _ t274 t277 _ ?side1 ?side2 ?side3 ?side4 ?side5 ?side6 ?side7 ?side8 A8.out).mono ?_); (case side1 => exact z159_); (case side2 => exact (Kd.R_reads' HO267.out).2.1); (case side3 => exact z160_); (case side4 => exact (Kd.R_reads' HO270.out).2.1); (case side5 => exact z161_); (case side6 => exact (Kd.R_reads' HO273.out).2.1); (case side7 => exact z162_); (case side8 => exact (Kd.R_reads' HO276.out).2.1); rintro e w70 ⟨rfl, hb⟩; refine ⟨_, rfl, ?_⟩; have n0_ := q_ (Kd.R_below z18_ hb); have n1_ := q_ (Kd.R_below z19_ hb); have n2_ := q_ (Kd.R_below z26_ hb); have n3_ := q_ (Kd.R_below z20_ hb); have n4_ := q_ (blk_below (g := gb262) (o := .cells #[.bool a0_0, .slice A0_1 l0_1.length c0_1, .slice A0_2 l0_2.length c0_2, .slice A0_3 l0_3.length c0_3, .slice A0_4 l0_4.length c0_4] 27 (0, 0)) z17_ hb); have n5_ := q_ (below_step z5_ hb); clear HO267; clear HO270; clear HO273; clear HO276; clear BK262; clear HB; have HO267 := n0_; have HO270 := n1_; have HO273 := n2_; have HO276 := n3_; have BK262 := n4_; have HB := n5_; clear n0_ n1_ n2_ n3_ n4_ n5_; (try clear hb); (try clear hb2); (try clear hk); (try clear hi); obtain ⟨hcz71_0, hcz71_1, hcz71_2, hcz71_3, hcz71_4, hfz71_0, hfz71_1, hfz71_2, hfz71_3, hfz71_4⟩ := cs5_ BK262.out) | ((with_reducible refine gate_callee (f := 17) rfl ?_); refine goesL_ (some 16) rfl rfl Try.func17 (by kernel_rfl) rfl #[.agg #[.bool a0_0, .slice A0_1 l0_1.length c0_1, .slice A0_2 l0_2.length c0_2, .slice A0_3 l0_3.length c0_3, .slice A0_4 l0_4.length c0_4]] rfl z1_ ?_; (with_reducible refine (laws_toTree.calls k a0_0 _ _ l0_1 _ _ l0_2 _ _ l0_3 _ _ l0_4 t278 t279 t282 t285 t288 _ ?side1 ?side2 ?side3 ?side4 ?side5 ?side6 ?side7 ?side8 A9.out).mono ?_); (case side1 => exact z140_); (case side2 => exact z157_); (case side3 => exact z143_); (case side4 => exact z163_); (case side5 => exact z144_); (case side6 => exact z164_); (case side7 => exact z142_); (case side8 => exact z165_); rintro e w72 ⟨v280, v283, v286, v289, rfl, ho0, ho1, ho2, ho3, hb⟩; refine ⟨_, rfl, ?_⟩; have n0_ := q_ (Kd.R_elder' z18_ (Kd.R_base ho0) hb); have n1_ := q_ (Kd.R_elder' z19_ (Kd.R_base ho1) hb); have n2_ := q_ (Kd.R_mono (Kd.R_told (Kd.R_told (Kd.R_told (Kd.R_told (Kd.R_old z26_ hb) (Kd.R_base ho0)) (Kd.R_base ho1)) (Kd.R_base ho2)) (Kd.R_base ho3)) (fun _ h_ => h_.1)); have n3_ := q_ (Kd.R_elder' z20_ (Kd.R_base ho3) hb); have n4_ := q_ (Kd.R_lower (Kd.R_new' ho0 (Kd.R_lt z18_)) (below_size z5_)); have n5_ := q_ (Kd.R_lower (Kd.R_new' ho1 (Kd.R_lt z19_)) (below_size z5_)); have n6_ := q_ (Kd.R_lower (Kd.R_new' (Kd.R_new' (Kd.R_new' (Kd.R_new' ho2 (Kd.R_lt z18_)) (Kd.R_lt z19_)) (Kd.R_lt z26_)) (Kd.R_lt z20_)) (below_size z5_)); have n7_ := q_ (Kd.R_lower (Kd.R_new' ho3 (Kd.R_lt z20_)) (below_size z5_)); have n8_ := q_ (blk_below (g := gb262) (o := .cells #[.bool a0_0, .slice A0_1 l0_1.length c0_1, .slice A0_2 l0_2.length c0_2, .slice A0_3 l0_3.length c0_3, .slice A0_4 l0_4.length c0_4] 27 (0, 0)) z17_ hb); have n9_ := q_ (below_step z5_ hb); clear HO267; clear HO270; clear HO273; clear HO276; clear BK262; clear HB; have HO267 := n0_; have HO270 := n1_; have HO273 := n2_; have HO276 := n3_; have HO281 := n4_; have HO284 := n5_; have HO287 := n6_; have HO290 := n7_; have BK262 := n8_; have HB := n9_; clear n0_ n1_ n2_ n3_ n4_ n5_ n6_ n7_ n8_ n9_; (try clear hb); (try clear hb2); (try clear hk); (try clear hi); (try clear ho0); (try clear ho1); (try clear ho2); (try clear ho3)) | ((with_reducible refine gate_dst (N := 5) rfl ?_); refine box_event ?hg (N := 5) ?hd (cs := #[.bool false, .slice none 0 0, .slice none 0 0, .slice none 0 0, .slice none 0 0]) (t := 34) ?hr ?_; (case hd => rfl); (case hg => rfl); (case hr => exact z141_); intro gb291 hg w73 hbox hb; have n0_ := q_ (Kd.R_below z18_ hb); have n1_ := q_ (Kd.R_below z19_ hb); have n2_ := q_ (Kd.R_below (Kd.R_elderB z26_ gb291 (Nat.le_of_eq hg.symm)) hb); have n3_ := q_ (Kd.R_below z20_ hb); have n4_ := q_ (Kd.R_below z47_ hb); have n5_ := q_ (Kd.R_below z48_ hb); have n6_ := q_ (Kd.R_below (Kd.R_elderB z54_ gb291 (Nat.le_of_eq hg.symm)) hb); have n7_ := q_ (Kd.R_below z49_ hb); have n8_ := q_ (blk_below (g := gb262) (o := .cells #[.bool a0_0, .slice A0_1 l0_1.length c0_1, .slice A0_2 l0_2.length c0_2, .slice A0_3 l0_3.length c0_3, .slice A0_4 l0_4.length c0_4] 27 (0, 0)) z17_ hb); have n9_ := q_ (below_step z5_ hb); have n10_ := q_ (hbox); have n11_ := q_ ((z139_ : w.heap.size ≤ gb291)); have n12_ := q_ ((z139_ : w.heap.size ≤ gb291)); have n13_ := q_ ((z119_ : gb262 ≠ gb291)); have n14_ := q_ ((z120_ : gb291 ≠ gb262)); clear HO267; clear HO270; clear HO273; clear HO276; clear HO281; clear HO284; clear HO287; clear HO290; clear BK262; clear HB; have HO267 := n0_; have HO270 := n1_; have HO273 := n2_; have HO276 := n3_; have HO281 := n4_; have HO284 := n5_; have HO287 := n6_; have HO290 := n7_; have BK262 := n8_; have HB := n9_; have BK291 := n10_; have GW291 := n11_; have GE291 := n12_; have NB262_291 := n13_; have NB291_262 := n14_; clear n0_ n1_ n2_ n3_ n4_ n5_ n6_ n7_ n8_ n9_ n10_ n11_ n12_ n13_ n14_; clear hb hbox hg; have hnb74 := NB291_262.out; have hnc74 := NB262_291.out; obtain ⟨hcz75_0, hcz75_1, hcz75_2, hcz75_3, hcz75_4, hfz75_0, hfz75_1, hfz75_2, hfz75_3, hfz75_4⟩ := cs5_ BK291.out; obtain ⟨Ao76, co76, eo76⟩ := Kd.R_slice HO281.out; subst eo76; obtain ⟨Ao77, co77, eo77⟩ := Kd.R_slice HO284.out; subst eo77; obtain ⟨Ao78, co78, eo78⟩ := Kd.R_slice HO287.out; subst eo78; obtain ⟨Ao79, co79, eo79⟩ := Kd.R_slice HO290.out; subst eo79) | ((with_reducible refine gate_callee (f := 21) rfl ?_); refine goesL_ (some 18) rfl rfl Try.func21 (by kernel_rfl) rfl #[.agg #[.bool t278, .slice Ao76 t279.length co76, .slice Ao77 t282.length co77, .slice Ao78 t285.length co78, .slice Ao79 t288.length co79]] rfl z1_ ?_; (with_reducible refine (impl_TreeOk.calls k t278 _ _ t279 _ _ t282 _ _ t285 _ _ t288 t292 _ ?side1 ?side2 ?side3 ?side4 ?side5 ?side6 ?side7 ?side8 A10.out).mono ?_); (case side1 => refine (Kd.R_reads' (e := 92) (base := w.heap.size) (ok := fun k_ => (True ∧ some k_ ≠ (.slice Ao66 t265.length co66 : Value).ownBlock)) (n := t279.length) (c := co76) ?_).2.2; exact (by (with_reducible repeat (first | apply Kd.R_alloc | apply Kd.R_drewN | apply Kd.R_drew)); exact (Kd.R_mono (Kd.R_far (p := ⟨gb291, 4, none⟩) (Kd.R_far (p := ⟨gb291, 3, none⟩) (Kd.R_far (p := ⟨gb291, 2, none⟩) (Kd.R_far (p := ⟨gb291, 1, none⟩) (Kd.R_far (p := ⟨gb291, 0, none⟩) (Kd.R_types HO281.out BK291.out (by decide)) (fun _ hk => hk.2) (.bool t278)) (fun _ hk => hk.2) (.slice Ao76 t279.length co76)) (fun _ hk => hk.2) (.slice Ao77 t282.length co77)) (fun _ hk => hk.2) (.slice Ao78 t285.length co78)) (fun _ hk => hk.2) (.slice Ao79 t288.length co79)) (fun _ h_ => h_.1)))); (case side2 => exact z202_); (case side3 => refine (Kd.R_reads' (e := 3) (base := w.heap.size) (ok := fun k_ => (True ∧ some k_ ≠ (.slice Ao67 t268.length co67 : Value).ownBlock)) (n := t282.length) (c := co77) ?_).2.2; exact (by (with_reducible repeat (first | apply Kd.R_alloc | apply Kd.R_drewN | apply Kd.R_drew)); exact (Kd.R_mono (Kd.R_far (p := ⟨gb291, 4, none⟩) (Kd.R_far (p := ⟨gb291, 3, none⟩) (Kd.R_far (p := ⟨gb291, 2, none⟩) (Kd.R_far (p := ⟨gb291, 1, none⟩) (Kd.R_far (p := ⟨gb291, 0, none⟩) (Kd.R_types HO284.out BK291.out (by decide)) (fun _ hk => hk.2) (.bool t278)) (fun _ hk => hk.2) (.slice Ao76 t279.length co76)) (fun _ hk => hk.2) (.slice Ao77 t282.length co77)) (fun _ hk => hk.2) (.slice Ao78 t285.length co78)) (fun _ hk => hk.2) (.slice Ao79 t288.length co79)) (fun _ h_ => h_.1)))); (case side4 => exact z203_); (case side5 => refine (Kd.R_reads' (e := 34) (base := w.heap.size) (ok := fun k_ => ((((((some k_ ≠ (.slice Ao76 t279.length co76 : Value).ownBlock ∧ (some k_ ≠ (.slice Ao77 t282.length co77 : Value).ownBlock ∧ some k_ ≠ (.slice Ao79 t288.length co79 : Value).ownBlock)) ∧ some k_ ≠ (.slice Ao66 t265.length co66 : Value).ownBlock) ∧ some k_ ≠ (.slice Ao67 t268.length co67 : Value).ownBlock) ∧ some k_ ≠ (.slice Ao68 t271.length co68 : Value).ownBlock) ∧ some k_ ≠ (.slice Ao69 t274.length co69 : Value).ownBlock) ∧ k_ ≠ gb291)) (n := t285.length) (c := co78) ?_).2.2; exact z43_); (case side6 => exact z204_); (case side7 => refine (Kd.R_reads' (e := 72) (base := w.heap.size) (ok := fun k_ => (True ∧ some k_ ≠ (.slice Ao69 t274.length co69 : Value).ownBlock)) (n := t288.length) (c := co79) ?_).2.2; exact (by (with_reducible repeat (first | apply Kd.R_alloc | apply Kd.R_drewN | apply Kd.R_drew)); exact (Kd.R_mono (Kd.R_far (p := ⟨gb291, 4, none⟩) (Kd.R_far (p := ⟨gb291, 3, none⟩) (Kd.R_far (p := ⟨gb291, 2, none⟩) (Kd.R_far (p := ⟨gb291, 1, none⟩) (Kd.R_far (p := ⟨gb291, 0, none⟩) (Kd.R_types HO290.out BK291.out (by decide)) (fun _ hk => hk.2) (.bool t278)) (fun _ hk => hk.2) (.slice Ao76 t279.length co76)) (fun _ hk => hk.2) (.slice Ao77 t282.length co77)) (fun _ hk => hk.2) (.slice Ao78 t285.length co78)) (fun _ hk => hk.2) (.slice Ao79 t288.length co79)) (fun _ h_ => h_.1)))); (case side8 => exact z205_); rintro e w80 ⟨rfl, hb⟩; refine ⟨_, rfl, ?_⟩; have n0_ := q_ (Kd.R_below (by (with_reducible repeat (first | apply Kd.R_alloc | apply Kd.R_drewN | apply Kd.R_drew)); exact (Kd.R_mono (Kd.R_far (p := ⟨gb291, 4, none⟩) (Kd.R_far (p := ⟨gb291, 3, none⟩) (Kd.R_far (p := ⟨gb291, 2, none⟩) (Kd.R_far (p := ⟨gb291, 1, none⟩) (Kd.R_far (p := ⟨gb291, 0, none⟩) (Kd.R_types HO267.out BK291.out (by decide)) (fun _ hk => hk.2) (.bool t278)) (fun _ hk => hk.2) (.slice Ao76 t279.length co76)) (fun _ hk => hk.2) (.slice Ao77 t282.length co77)) (fun _ hk => hk.2) (.slice Ao78 t285.length co78)) (fun _ hk => hk.2) (.slice Ao79 t288.length co79)) (fun _ h_ => h_.1))) hb); have n1_ := q_ (Kd.R_below (by (with_reducible repeat (first | apply Kd.R_alloc | apply Kd.R_drewN | apply Kd.R_drew)); exact (Kd.R_mono (Kd.R_far (p := ⟨gb291, 4, none⟩) (Kd.R_far (p := ⟨gb291, 3, none⟩) (Kd.R_far (p := ⟨gb291, 2, none⟩) (Kd.R_far (p := ⟨gb291, 1, none⟩) (Kd.R_far (p := ⟨gb291, 0, none⟩) (Kd.R_types HO270.out BK291.out (by decide)) (fun _ hk => hk.2) (.bool t278)) (fun _ hk => hk.2) (.slice Ao76 t279.length co76)) (fun _ hk => hk.2) (.slice Ao77 t282.length co77)) (fun _ hk => hk.2) (.slice Ao78 t285.length co78)) (fun _ hk => hk.2) (.slice Ao79 t288.length co79)) (fun _ h_ => h_.1))) hb); have n2_ := q_ (Kd.R_below (by (with_reducible repeat (first | apply Kd.R_alloc | apply Kd.R_drewN | apply Kd.R_drew)); exact (Kd.R_mono (Kd.R_far (p := ⟨gb291, 4, none⟩) (Kd.R_far (p := ⟨gb291, 3, none⟩) (Kd.R_far (p := ⟨gb291, 2, none⟩) (Kd.R_far (p := ⟨gb291, 1, none⟩) (Kd.R_far (p := ⟨gb291, 0, none⟩) (Kd.R_mono HO273.out (fun k_ hk => (⟨hk, hk.2⟩ : _ ∧ k_ ≠ gb291))) (fun _ hk => hk.2) (.bool t278)) (fun _ hk => hk.2) (.slice Ao76 t279.length co76)) (fun _ hk => hk.2) (.slice Ao77 t282.length co77)) (fun _ hk => hk.2) (.slice Ao78 t285.length co78)) (fun _ hk => hk.2) (.slice Ao79 t288.length co79)) (fun _ h_ => h_.1))) hb); have n3_ := q_ (Kd.R_below (by (with_reducible repeat (first | apply Kd.R_alloc | apply Kd.R_drewN | apply Kd.R_drew)); exact (Kd.R_mono (Kd.R_far (p := ⟨gb291, 4, none⟩) (Kd.R_far (p := ⟨gb291, 3, none⟩) (Kd.R_far (p := ⟨gb291, 2, none⟩) (Kd.R_far (p := ⟨gb291, 1, none⟩) (Kd.R_far (p := ⟨gb291, 0, none⟩) (Kd.R_types HO276.out BK291.out (by decide)) (fun _ hk => hk.2) (.bool t278)) (fun _ hk => hk.2) (.slice Ao76 t279.length co76)) (fun _ hk => hk.2) (.slice Ao77 t282.length co77)) (fun _ hk => hk.2) (.slice Ao78 t285.length co78)) (fun _ hk => hk.2) (.slice Ao79 t288.length co79)) (fun _ h_ => h_.1))) hb); have n4_ := q_ (Kd.R_below (by (with_reducible repeat (first | apply Kd.R_alloc | apply Kd.R_drewN | apply Kd.R_drew)); exact (Kd.R_mono (Kd.R_far (p := ⟨gb291, 4, none⟩) (Kd.R_far (p := ⟨gb291, 3, none⟩) (Kd.R_far (p := ⟨gb291, 2, none⟩) (Kd.R_far (p := ⟨gb291, 1, none⟩) (Kd.R_far (p := ⟨gb291, 0, none⟩) (Kd.R_types HO281.out BK291.out (by decide)) (fun _ hk => hk.2) (.bool t278)) (fun _ hk => hk.2) (.slice Ao76 t279.length co76)) (fun _ hk => hk.2) (.slice Ao77 t282.length co77)) (fun _ hk => hk.2) (.slice Ao78 t285.length co78)) (fun _ hk => hk.2) (.slice Ao79 t288.length co79)) (fun _ h_ => h_.1))) hb); have n5_ := q_ (Kd.R_below (by (with_reducible repeat (first | apply Kd.R_alloc | apply Kd.R_drewN | apply Kd.R_drew)); exact (Kd.R_mono (Kd.R_far (p := ⟨gb291, 4, none⟩) (Kd.R_far (p := ⟨gb291, 3, none⟩) (Kd.R_far (p := ⟨gb291, 2, none⟩) (Kd.R_far (p := ⟨gb291, 1, none⟩) (Kd.R_far (p := ⟨gb291, 0, none⟩) (Kd.R_types HO284.out BK291.out (by decide)) (fun _ hk => hk.2) (.bool t278)) (fun _ hk => hk.2) (.slice Ao76 t279.length co76)) (fun _ hk => hk.2) (.slice Ao77 t282.length co77)) (fun _ hk => hk.2) (.slice Ao78 t285.length co78)) (fun _ hk => hk.2) (.slice Ao79 t288.length co79)) (fun _ h_ => h_.1))) hb); have n6_ := q_ (Kd.R_below z43_ hb); have n7_ := q_ (Kd.R_below (by (with_reducible repeat (first | apply Kd.R_alloc | apply Kd.R_drewN | apply Kd.R_drew)); exact (Kd.R_mono (Kd.R_far (p := ⟨gb291, 4, none⟩) (Kd.R_far (p := ⟨gb291, 3, none⟩) (Kd.R_far (p := ⟨gb291, 2, none⟩) (Kd.R_far (p := ⟨gb291, 1, none⟩) (Kd.R_far (p := ⟨gb291, 0, none⟩) (Kd.R_types HO290.out BK291.out (by decide)) (fun _ hk => hk.2) (.bool t278)) (fun _ hk => hk.2) (.slice Ao76 t279.length co76)) (fun _ hk => hk.2) (.slice Ao77 t282.length co77)) (fun _ hk => hk.2) (.slice Ao78 t285.length co78)) (fun _ hk => hk.2) (.slice Ao79 t288.length co79)) (fun _ h_ => h_.1))) hb); have n8_ := q_ (blk_below (g := gb262) (o := .cells #[.bool a0_0, .slice A0_1 l0_1.length c0_1, .slice A0_2 l0_2.length c0_2, .slice A0_3 l0_3.length c0_3, .slice A0_4 l0_4.length c0_4] 27 (0, 0)) z33_ hb); have n9_ := q_ (blk_below (g := gb291) (o := .cells #[.bool t278, .slice Ao76 t279.length co76, .slice Ao77 t282.length co77, .slice Ao78 t285.length co78, .slice Ao79 t288.length co79] 34 (0, 0)) (by (with_reducible repeat (first | refine blk_drewN ?_ _ | refine blk_drew ?_ | refine blk_alloc ?_ _)); refine blk_put (cs := #[.bool t278, .slice Ao76 t279.length co76, .slice Ao77 t282.length co77, .slice Ao78 t285.length co78, .slice none 0 0]) ?_ 4 _ rfl; (with_reducible repeat (first | refine blk_drewN ?_ _ | refine blk_drew ?_ | refine blk_alloc ?_ _)); refine blk_put (cs := #[.bool t278, .slice Ao76 t279.length co76, .slice Ao77 t282.length co77, .slice none 0 0, .slice none 0 0]) ?_ 3 _ rfl; (with_reducible repeat (first | refine blk_drewN ?_ _ | refine blk_drew ?_ | refine blk_alloc ?_ _)); refine blk_put (cs := #[.bool t278, .slice Ao76 t279.length co76, .slice none 0 0, .slice none 0 0, .slice none 0 0]) ?_ 2 _ rfl; (with_reducible repeat (first | refine blk_drewN ?_ _ | refine blk_drew ?_ | refine blk_alloc ?_ _)); refine blk_put (cs := #[.bool t278, .slice none 0 0, .slice none 0 0, .slice none 0 0, .slice none 0 0]) ?_ 1 _ rfl; (with_reducible repeat (first | refine blk_drewN ?_ _ | refine blk_drew ?_ | refine blk_alloc ?_ _)); refine blk_put (cs := #[.bool false, .slice none 0 0, .slice none 0 0, .slice none 0 0, .slice none 0 0]) ?_ 0 _ rfl; (with_reducible repeat (first | refine blk_drewN ?_ _ | refine blk_drew ?_ | refine blk_alloc ?_ _)); exact BK291.out) hb); have n10_ := q_ (below_step z10_ hb); clear HO267; clear HO270; clear HO273; clear HO276; clear HO281; clear HO284; clear HO287; clear HO290; clear BK262; clear BK291; clear HB; have HO267 := n0_; have HO270 := n1_; have HO273 := n2_; have HO276 := n3_; have HO281 := n4_; have HO284 := n5_; have HO287 := n6_; have HO290 := n7_; have BK262 := n8_; have BK291 := n9_; have HB := n10_; clear n0_ n1_ n2_ n3_ n4_ n5_ n6_ n7_ n8_ n9_ n10_; (try clear hb); (try clear hb2); (try clear hk); (try clear hi)))
    have n0_ := q_ (Kd.R_drew HO267.out)
    have n1_ := q_ (Kd.R_drew HO270.out)
    have n2_ := q_ (Kd.R_drew HO273.out)
    have n3_ := q_ (Kd.R_drew HO276.out)
    have n4_ := q_ (Kd.R_drew HO281.out)
    have n5_ := q_ (Kd.R_drew HO284.out)
    have n6_ := q_ (Kd.R_drew HO287.out)
    have n7_ := q_ (Kd.R_drew HO290.out)
    have n8_ := q_ (blk_drew BK262.out)
    have n9_ := q_ (blk_drew BK291.out)
    have n10_ := q_ (below_drew1 HB.out)
    clear HO267
    clear HO270
    clear HO273
    clear HO276
    clear HO281
    clear HO284
    clear HO287
    clear HO290
    clear BK262
    clear BK291
    clear HB
    have HO267 := n0_
    have HO270 := n1_
    have HO273 := n2_
    have HO276 := n3_
    have HO281 := n4_
    have HO284 := n5_
    have HO287 := n6_
    have HO290 := n7_
    have BK262 := n8_
    have BK291 := n9_
    have HB := n10_
    clear n0_ n1_ n2_ n3_ n4_ n5_ n6_ n7_ n8_ n9_ n10_
    refine start_ (n := 5) (S := fun w' => w'.cell? ⟨gb291, 0, none⟩ = some (.bool t278) ∧ w'.cell? ⟨gb291, 1, none⟩ = some (.slice Ao76 t279.length co76) ∧ w'.cell? ⟨gb291, 2, none⟩ = some (.slice Ao77 t282.length co77) ∧ w'.cell? ⟨gb291, 3, none⟩ = some (.slice Ao78 t285.length co78) ∧ w'.cell? ⟨gb291, 4, none⟩ = some (.slice Ao79 t288.length co79) ∧ w'.cell? ⟨gb262, 0, none⟩ = some (.bool a0_0) ∧ w'.cell? ⟨gb262, 1, none⟩ = some (.slice A0_1 l0_1.length c0_1) ∧ w'.cell? ⟨gb262, 2, none⟩ = some (.slice A0_2 l0_2.length c0_2) ∧ w'.cell? ⟨gb262, 3, none⟩ = some (.slice A0_3 l0_3.length c0_3) ∧ w'.cell? ⟨gb262, 4, none⟩ = some (.slice A0_4 l0_4.length c0_4)) (ds := []) #[false, false, false, false, false] (by kernel_rfl) rfl rfl ⟨(blk_cell BK291.out 0).trans rfl, (blk_cell BK291.out 1).trans rfl, (blk_cell BK291.out 2).trans rfl, (blk_cell BK291.out 3).trans rfl, (blk_cell BK291.out 4).trans rfl, (blk_cell BK262.out 0).trans rfl, (blk_cell BK262.out 1).trans rfl, (blk_cell BK262.out 2).trans rfl, (blk_cell BK262.out 3).trans rfl, (blk_cell BK262.out 4).trans rfl⟩ (fun hHeld => ?_)
    generalize w80.drew = w81 at HO267 HO270 HO273 HO276 HO281 HO284 HO287 HO290 BK262 BK291 HB hHeld ⊢
    refine take_ (i := 0) (N := some 22) (v := ?_) (a' := ?_) #[true, false, false, false, false] rfl rfl (by kernel_rfl) (fun _ _ _ h => h) (Or.inl ⟨by rfl, ?_⟩) hHeld ?_ ?_
    rotate_left
    ·rintro w' ⟨s0, s1, s2, s3, s4, s5, s6, s7, s8, s9⟩
     go_simp
     with_reducible rfl
    rotate_left
    ·simp only [Act.put, List.setIfInBounds_toArray, List.set_cons_zero, List.set_cons_succ, i64_w, i32_w]
     rfl
    refine take_ (i := 1) (N := some 23) (v := ?_) (a' := ?_) #[true, true, false, false, false] rfl rfl (by kernel_rfl) (fun _ _ _ h => h) (Or.inl ⟨by rfl, ?_⟩) hHeld ?_ ?_
    rotate_left
    ·rintro w' ⟨s0, s1, s2, s3, s4, s5, s6, s7, s8, s9⟩
     go_simp
     with_reducible rfl
    rotate_left
    ·simp only [Act.put, List.setIfInBounds_toArray, List.set_cons_zero, List.set_cons_succ, i64_w, i32_w]
     rfl
    refine one_ (i := 2) (N := some 24) #[true, true, true, false, false] rfl rfl (by kernel_rfl) (by decide) (fun K hK => ?_)
    refine goes_ Try.func17 (by kernel_rfl) rfl #[.agg #[.bool a0_0, .slice A0_1 l0_1.length c0_1, .slice A0_2 l0_2.length c0_2, .slice A0_3 l0_3.length c0_3, .slice A0_4 l0_4.length c0_4]] (by rfl) rfl rfl z1_ ?_
    with_reducible refine (laws_toTree.calls k a0_0 _ _ l0_1 _ _ l0_2 _ _ l0_3 _ _ l0_4 t293 t294 t297 t300 t303 _ ?side1 ?side2 ?side3 ?side4 ?side5 ?side6 ?side7 ?side8 A31.out).mono ?_
    (case side1 => exact z140_)
    (case side2 => exact z157_)
    (case side3 => exact z143_)
    (case side4 => exact z163_)
    (case side5 => exact z144_)
    (case side6 => exact z164_)
    (case side7 => exact z142_)
    (case side8 => exact z165_)
    rintro e w82 ⟨v295, v298, v301, v304, rfl, ho0, ho1, ho2, ho3, hb⟩
    refine ⟨_, rfl, ?_⟩
    have n0_ := q_ (Kd.R_elder' z18_ (Kd.R_base ho0) hb)
    have n1_ := q_ (Kd.R_elder' z19_ (Kd.R_base ho1) hb)
    have n2_ := q_ (Kd.R_mono (Kd.R_told (Kd.R_told (Kd.R_told (Kd.R_told (Kd.R_old z26_ hb) (Kd.R_base ho0)) (Kd.R_base ho1)) (Kd.R_base ho2)) (Kd.R_base ho3)) (fun _ h_ => h_.1))
    have n3_ := q_ (Kd.R_elder' z20_ (Kd.R_base ho3) hb)
    have n4_ := q_ (Kd.R_elder' z47_ (Kd.R_base ho0) hb)
    have n5_ := q_ (Kd.R_elder' z48_ (Kd.R_base ho1) hb)
    have n6_ := q_ (Kd.R_mono (Kd.R_told (Kd.R_told (Kd.R_told (Kd.R_told (Kd.R_old z54_ hb) (Kd.R_base ho0)) (Kd.R_base ho1)) (Kd.R_base ho2)) (Kd.R_base ho3)) (fun _ h_ => h_.1))
    have n7_ := q_ (Kd.R_elder' z49_ (Kd.R_base ho3) hb)
    have n8_ := q_ (Kd.R_lower (Kd.R_new' (Kd.R_new' ho0 (Kd.R_lt z18_)) (Kd.R_lt z47_)) (below_size z10_))
    have n9_ := q_ (Kd.R_lower (Kd.R_new' (Kd.R_new' ho1 (Kd.R_lt z19_)) (Kd.R_lt z48_)) (below_size z10_))
    have n10_ := q_ (Kd.R_lower (Kd.R_newB (Kd.R_new' (Kd.R_new' (Kd.R_new' (Kd.R_new' (Kd.R_new' (Kd.R_new' (Kd.R_new' (Kd.R_new' ho2 (Kd.R_lt z18_)) (Kd.R_lt z19_)) (Kd.R_lt z26_)) (Kd.R_lt z20_)) (Kd.R_lt z47_)) (Kd.R_lt z48_)) (Kd.R_lt z54_)) (Kd.R_lt z49_)) (g := gb291) (o := .cells #[.bool t278, .slice Ao76 t279.length co76, .slice Ao77 t282.length co77, .slice Ao78 t285.length co78, .slice Ao79 t288.length co79] 34 (0, 0)) z67_) (below_size z10_))
    have n11_ := q_ (Kd.R_lower (Kd.R_new' (Kd.R_new' ho3 (Kd.R_lt z20_)) (Kd.R_lt z49_)) (below_size z10_))
    have n12_ := q_ (blk_below (g := gb262) (o := .cells #[.bool a0_0, .slice A0_1 l0_1.length c0_1, .slice A0_2 l0_2.length c0_2, .slice A0_3 l0_3.length c0_3, .slice A0_4 l0_4.length c0_4] 27 (0, 0)) z17_ hb)
    have n13_ := q_ (blk_below (g := gb291) (o := .cells #[.bool t278, .slice Ao76 t279.length co76, .slice Ao77 t282.length co77, .slice Ao78 t285.length co78, .slice Ao79 t288.length co79] 34 (0, 0)) z67_ hb)
    have n14_ := q_ (below_step z10_ hb)
    clear HO267
    clear HO270
    clear HO273
    clear HO276
    clear HO281
    clear HO284
    clear HO287
    clear HO290
    clear BK262
    clear BK291
    clear HB
    have HO267 := n0_
    have HO270 := n1_
    have HO273 := n2_
    have HO276 := n3_
    have HO281 := n4_
    have HO284 := n5_
    have HO287 := n6_
    have HO290 := n7_
    have HO296 := n8_
    have HO299 := n9_
    have HO302 := n10_
    have HO305 := n11_
    have BK262 := n12_
    have BK291 := n13_
    have HB := n14_
    clear n0_ n1_ n2_ n3_ n4_ n5_ n6_ n7_ n8_ n9_ n10_ n11_ n12_ n13_ n14_
    (try clear hb)
    (try clear hb2)
    (try clear hk)
    (try clear hi)
    (try clear ho0)
    (try clear ho1)
    (try clear ho2)
    (try clear ho3)
    obtain ⟨Ao83, co83, eo83⟩ := Kd.R_slice HO296.out
    (first | subst eo83 | (injection eo83 with f1_ f2_ f3_; have f4_ := f1_.symm; have f5_ := f3_.symm; clear f1_ f2_ f3_; subst f4_; subst f5_))
    obtain ⟨Ao84, co84, eo84⟩ := Kd.R_slice HO299.out
    (first | subst eo84 | (injection eo84 with f1_ f2_ f3_; have f4_ := f1_.symm; have f5_ := f3_.symm; clear f1_ f2_ f3_; subst f4_; subst f5_))
    obtain ⟨Ao85, co85, eo85⟩ := Kd.R_slice HO302.out
    (first | subst eo85 | (injection eo85 with f1_ f2_ f3_; have f4_ := f1_.symm; have f5_ := f3_.symm; clear f1_ f2_ f3_; subst f4_; subst f5_))
    obtain ⟨Ao86, co86, eo86⟩ := Kd.R_slice HO305.out
    (first | subst eo86 | (injection eo86 with f1_ f2_ f3_; have f4_ := f1_.symm; have f5_ := f3_.symm; clear f1_ f2_ f3_; subst f4_; subst f5_))
    refine hK.out _ _ ⟨(blk_cell BK291.out 0).trans rfl, (blk_cell BK291.out 1).trans rfl, (blk_cell BK291.out 2).trans rfl, (blk_cell BK291.out 3).trans rfl, (blk_cell BK291.out 4).trans rfl, (blk_cell BK262.out 0).trans rfl, (blk_cell BK262.out 1).trans rfl, (blk_cell BK262.out 2).trans rfl, (blk_cell BK262.out 3).trans rfl, (blk_cell BK262.out 4).trans rfl⟩ (fun hHeld => ?_)
    clear hK K
    refine norm_ (a' := ?_) ?_ ?_
    rotate_left
    ·show Act.put _ (some 24) _ = _
     simp only [Act.put, List.setIfInBounds_toArray, List.set_cons_zero, List.set_cons_succ, i64_w, i32_w]
     rfl
    refine one_ (i := 3) (N := some 25) #[true, true, true, true, false] rfl rfl (by kernel_rfl) (by decide) (fun K hK => ?_)
    refine goes_ Try.func19 (by kernel_rfl) rfl #[.agg #[.bool t278, .slice Ao76 t279.length co76, .slice Ao77 t282.length co77, .slice Ao78 t285.length co78, .slice Ao79 t288.length co79], .agg #[.bool t293, .slice Ao83 t294.length co83, .slice Ao84 t297.length co84, .slice Ao85 t300.length co85, .slice Ao86 t303.length co86]] (by rfl) rfl rfl z1_ ?_
    with_reducible refine (laws_eqTree.calls k t278 _ _ t279 _ _ t282 _ _ t285 _ _ t288 t293 _ _ t294 _ _ t297 _ _ t300 _ _ t303 false _ ?side1 ?side2 ?side3 ?side4 ?side5 ?side6 ?side7 ?side8 ?side9 ?side10 ?side11 ?side12 ?side13 ?side14 ?side15 ?side16 A32.out).mono ?_
    (case side1 => exact z190_)
    (case side2 => exact z202_)
    (case side3 => exact z191_)
    (case side4 => exact z203_)
    (case side5 => exact z192_)
    (case side6 => exact z204_)
    (case side7 => exact z193_)
    (case side8 => exact z205_)
    (case side9 => exact z194_)
    (case side10 => exact (Kd.R_reads' HO296.out).2.1)
    (case side11 => exact z195_)
    (case side12 => exact (Kd.R_reads' HO299.out).2.1)
    (case side13 => exact z196_)
    (case side14 => exact (Kd.R_reads' HO302.out).2.1)
    (case side15 => exact z197_)
    (case side16 => exact (Kd.R_reads' HO305.out).2.1)
    rintro e w87 ⟨rfl, hb⟩
    refine ⟨_, rfl, ?_⟩
    have n0_ := q_ (Kd.R_below z18_ hb)
    have n1_ := q_ (Kd.R_below z19_ hb)
    have n2_ := q_ (Kd.R_below z26_ hb)
    have n3_ := q_ (Kd.R_below z20_ hb)
    have n4_ := q_ (Kd.R_below z47_ hb)
    have n5_ := q_ (Kd.R_below z48_ hb)
    have n6_ := q_ (Kd.R_below z54_ hb)
    have n7_ := q_ (Kd.R_below z49_ hb)
    have n8_ := q_ (Kd.R_below z96_ hb)
    have n9_ := q_ (Kd.R_below z97_ hb)
    have n10_ := q_ (Kd.R_below z98_ hb)
    have n11_ := q_ (Kd.R_below z99_ hb)
    have n12_ := q_ (blk_below (g := gb262) (o := .cells #[.bool a0_0, .slice A0_1 l0_1.length c0_1, .slice A0_2 l0_2.length c0_2, .slice A0_3 l0_3.length c0_3, .slice A0_4 l0_4.length c0_4] 27 (0, 0)) z17_ hb)
    have n13_ := q_ (blk_below (g := gb291) (o := .cells #[.bool t278, .slice Ao76 t279.length co76, .slice Ao77 t282.length co77, .slice Ao78 t285.length co78, .slice Ao79 t288.length co79] 34 (0, 0)) z67_ hb)
    have n14_ := q_ (below_step z10_ hb)
    clear HO267
    clear HO270
    clear HO273
    clear HO276
    clear HO281
    clear HO284
    clear HO287
    clear HO290
    clear HO296
    clear HO299
    clear HO302
    clear HO305
    clear BK262
    clear BK291
    clear HB
    have HO267 := n0_
    have HO270 := n1_
    have HO273 := n2_
    have HO276 := n3_
    have HO281 := n4_
    have HO284 := n5_
    have HO287 := n6_
    have HO290 := n7_
    have HO296 := n8_
    have HO299 := n9_
    have HO302 := n10_
    have HO305 := n11_
    have BK262 := n12_
    have BK291 := n13_
    have HB := n14_
    clear n0_ n1_ n2_ n3_ n4_ n5_ n6_ n7_ n8_ n9_ n10_ n11_ n12_ n13_ n14_
    (try clear hb)
    (try clear hb2)
    (try clear hk)
    (try clear hi)
    refine hK.out _ _ ⟨(blk_cell BK291.out 0).trans rfl, (blk_cell BK291.out 1).trans rfl, (blk_cell BK291.out 2).trans rfl, (blk_cell BK291.out 3).trans rfl, (blk_cell BK291.out 4).trans rfl, (blk_cell BK262.out 0).trans rfl, (blk_cell BK262.out 1).trans rfl, (blk_cell BK262.out 2).trans rfl, (blk_cell BK262.out 3).trans rfl, (blk_cell BK262.out 4).trans rfl⟩ (fun hHeld => ?_)
    clear hK K
    refine norm_ (a' := ?_) ?_ ?_
    rotate_left
    ·show Act.put _ (some 25) _ = _
     simp only [Act.put, List.setIfInBounds_toArray, List.set_cons_zero, List.set_cons_succ, i64_w, i32_w]
     rfl
    refine pure_ (i := 4) (N := some 26) (v := ?_) (a' := ?_) #[true, true, true, true, true] rfl rfl (by kernel_rfl) (fun _ _ _ h => h) (Or.inl ⟨by rfl, ?_⟩) ?_ ?_
    rotate_left
    ·intro w'
     go_simp
     with_reducible rfl
    rotate_left
    ·simp only [Act.put, List.setIfInBounds_toArray, List.set_cons_zero, List.set_cons_succ, i64_w, i32_w]
     rfl
    refine done_ (by kernel_rfl) ?_
    try go_wp2
    go_ret
    exact ⟨z2_, z10_⟩

end Go.Proofs.Ytfnndcpaldkkoaa.PFnExactTreeOk
