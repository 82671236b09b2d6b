-- Written by a program of this session, which goes by the kit's print. Not trusted: Lean checks it.
import Derived.Test.YtphlmbhjeoljoaaPFnExactMapDox0
import Derived.Test.YtphlmbhjeoljoaaPFnExactMapDox1
import Derived.Test.YtphlmbhjeoljoaaPFnExactMapDox4
import Derived.Test.YtphlmbhjeoljoaaPFnExactMapDox6
import Derived.Test.YtphlmbhjeoljoaaPFnExactMapDox7
namespace Go.Proofs.Ytphlmbhjeoljoaa.PFnExactMapDo
open Go.RowKit Go.Proofs.YtphlmbhjeoljoaaW.PrintWords Go.Proofs.YtphlmbhjeoljoaaW.PrintLast Go.Proofs.YtphlmbhjeoljoaaW.PrintMore
attribute [local go_sem] max2_int min2_int max_two min_two max_three min_three max_four min_four   -- for this text's walks alone
set_option linter.unusedVariables false
set_option linter.unusedSimpArgs false

/-! ### laws_FnExactMapDo: function 7 -/
def laws_FnExactMapDo.j0 : Nat → List (S149) → List (S147) → List (S147) → Bool → Int → Int → Int → Option (Bool)
 | 0, _, _, _, _, _, _, _ => none
 | k + 1, x0, x6, x8, x48, x240000, x240001, x240002 => if x48 = true then (some false) else ((laws_markPairS.f k x8 1).bind fun bt267 => ((laws_heldPairS.f k bt267.2 1).bind fun t269 => (if t269 < 0 then (some false) else (if t269 = bt267.1 then ((laws_toPairS.f k x0).bind fun t270 => ((laws_toMsg.f x240000 x240001 x240002).bind fun bt273 => ((impl_MapDo.f k t270 bt273.1 bt273.2.1 bt273.2.2).bind fun t276 => ((laws_eqPairS.f k t276 x6).bind fun t279 => (if t279 = true then ((laws_heldPairS.f k bt267.2 1).bind fun t280 => (if t280 < 0 then (some false) else (if t280 = bt267.1 then (some true) else (some false)))) else (some false)))))) else (some false)))))
def laws_FnExactMapDo.f (k : Nat) (l0 : List (S149)) (a1_0 : Int) (a1_1 : Int) (a1_2 : Int) : Option (Bool) := (laws_szPairS.f l0 1048576).bind fun t240 => (if t240 < 0 then (some true) else ((laws_toPairS.f k l0).bind fun t241 => ((laws_toMsg.f a1_0 a1_1 a1_2).bind fun bt244 => ((spec_MapDo.f k t241 bt244.1 bt244.2.1 bt244.2.2).bind fun t247 => ((laws_toPairS.f k l0).bind fun t250 => ((laws_toMsg.f a1_0 a1_1 a1_2).bind fun bt253 => ((impl_MapDo.f k t250 bt253.1 bt253.2.1 bt253.2.2).bind fun t256 => ((laws_eqPairS.f k t256 t247).bind fun t259 => (if t259 = true then ((laws_toPairS.f k l0).bind fun t260 => ((laws_eqPairS.f k t250 t260).bind fun t263 => (if t263 = true then ((laws_markPairS.f k t250 1).bind fun bt264 => (if bt264.1 < 0 then (laws_FnExactMapDo.j0 k l0 t247 t256 true a1_0 a1_1 a1_2) else ((laws_eqPairS.f k t256 t247).bind fun t266 => (laws_FnExactMapDo.j0 k l0 t247 t256 (!t266) a1_0 a1_1 a1_2)))) else (some false)))) else (some false))))))))))
theorem laws_FnExactMapDo.mono_l : ∀ k, (∀ y0 y1 y2 y3 y4 y5 y6, LeO (laws_FnExactMapDo.j0 k y0 y1 y2 y3 y4 y5 y6) (laws_FnExactMapDo.j0 (k + 1) y0 y1 y2 y3 y4 y5 y6))
 | 0 => fun _ _ _ _ _ _ _ r h => by simp [laws_FnExactMapDo.j0] at h
 | k + 1 => by
  have ih0 := laws_FnExactMapDo.mono_l k
  ·intro y0 y1 y2 y3 y4 y5 y6
   unfold laws_FnExactMapDo.j0
   repeat' first
   | (with_reducible exact ih0 _ _ _ _ _ _ _)
   | (with_reducible exact impl_MapDo.mono _ _ _ _ _)
   | (with_reducible exact laws_eqPairS.mono _ _ _)
   | (with_reducible exact laws_heldPairS.mono _ _ _)
   | (with_reducible exact laws_markPairS.mono _ _ _)
   | (with_reducible exact laws_toPairS.mono _ _)
   | (with_reducible exact spec_MapDo.mono _ _ _ _ _)
   | (with_reducible exact LeO.refl _)
   | (with_reducible exact LeO.none _)
   | (with_reducible refine LeO.ite ?_ ?_)
   | (with_reducible refine LeO.bind ?_ (fun _ => ?_))
   | exact ih0 _ _ _ _ _ _ _
   | exact impl_MapDo.mono _ _ _ _ _
   | exact laws_eqPairS.mono _ _ _
   | exact laws_heldPairS.mono _ _ _
   | exact laws_markPairS.mono _ _ _
   | exact laws_toPairS.mono _ _
   | exact spec_MapDo.mono _ _ _ _ _
   | exact LeO.none _
   | refine LeO.ite ?_ ?_
   | refine LeO.bind ?_ (fun _ => ?_)
theorem laws_FnExactMapDo.mono : ∀ a0 a1 a2 a3 k, LeO (laws_FnExactMapDo.f k a0 a1 a2 a3) (laws_FnExactMapDo.f (k + 1) a0 a1 a2 a3) := by
 intro a0 a1 a2 a3 k
 have ih0 := laws_FnExactMapDo.mono_l k
 unfold laws_FnExactMapDo.f
 repeat' first
   | (with_reducible exact ih0 _ _ _ _ _ _ _)
   | (with_reducible exact impl_MapDo.mono _ _ _ _ _)
   | (with_reducible exact laws_eqPairS.mono _ _ _)
   | (with_reducible exact laws_heldPairS.mono _ _ _)
   | (with_reducible exact laws_markPairS.mono _ _ _)
   | (with_reducible exact laws_toPairS.mono _ _)
   | (with_reducible exact spec_MapDo.mono _ _ _ _ _)
   | (with_reducible exact LeO.refl _)
   | (with_reducible exact LeO.none _)
   | (with_reducible refine LeO.ite ?_ ?_)
   | (with_reducible refine LeO.bind ?_ (fun _ => ?_))
   | exact ih0 _ _ _ _ _ _ _
   | exact impl_MapDo.mono _ _ _ _ _
   | exact laws_eqPairS.mono _ _ _
   | exact laws_heldPairS.mono _ _ _
   | exact laws_markPairS.mono _ _ _
   | exact laws_toPairS.mono _ _
   | exact spec_MapDo.mono _ _ _ _ _
   | exact LeO.none _
   | refine LeO.ite ?_ ?_
   | refine LeO.bind ?_ (fun _ => ?_)
set_option maxHeartbeats 8000000 in
set_option maxRecDepth 100000 in
theorem laws_FnExactMapDo.calls (k : Nat) (A0 : Option Addr) (c0 : Nat) (l0 : List (S149)) (a1_0 : Int) (a1_1 : Int) (a1_2 : Int) (r : Bool) (w : World) (hr0 : Kd.C k149 w A0 l0.length l0) (hc0 : l0.length ≤ c0) (h : laws_FnExactMapDo.f k l0 a1_0 a1_1 a1_2 = some r) :
  Calls Try.prog 7 #[.slice A0 l0.length c0, .agg #[.int .i64 a1_0, .int .i64 a1_1, .int .i64 a1_2]] w fun e w' => e = .returned (.bool r) ∧ Below w.heap.size w w' := by
 have hu63 := Try.underlying63
 have HR0 := q_ hr0
 have HC0 := q_ hc0
 clear hr0 hc0
 have HB := q_ (Below.refl w.heap.size w)
 have H : ((laws_szPairS.f l0 1048576).bind fun t240 => (if t240 < 0 then (some true) else ((laws_toPairS.f k l0).bind fun t241 => ((laws_toMsg.f a1_0 a1_1 a1_2).bind fun bt244 => ((spec_MapDo.f k t241 bt244.1 bt244.2.1 bt244.2.2).bind fun t247 => ((laws_toPairS.f k l0).bind fun t250 => ((laws_toMsg.f a1_0 a1_1 a1_2).bind fun bt253 => ((impl_MapDo.f k t250 bt253.1 bt253.2.1 bt253.2.2).bind fun t256 => ((laws_eqPairS.f k t256 t247).bind fun t259 => (if t259 = true then ((laws_toPairS.f k l0).bind fun t260 => ((laws_eqPairS.f k t250 t260).bind fun t263 => (if t263 = true then ((laws_markPairS.f k t250 1).bind fun bt264 => (if bt264.1 < 0 then (laws_FnExactMapDo.j0 k l0 t247 t256 true a1_0 a1_1 a1_2) else ((laws_eqPairS.f k t256 t247).bind fun t266 => (laws_FnExactMapDo.j0 k l0 t247 t256 (!t266) a1_0 a1_1 a1_2)))) else (some false)))) else (some false))))))))))) = some r := h
 clear h
 replace H := Option.bind_eq_some_iff.mp H
 obtain ⟨t240, A30, H⟩ := H
 replace H : (if t240 < 0 then (some true) else ((laws_toPairS.f k l0).bind fun t241 => ((laws_toMsg.f a1_0 a1_1 a1_2).bind fun bt244 => ((spec_MapDo.f k t241 bt244.1 bt244.2.1 bt244.2.2).bind fun t247 => ((laws_toPairS.f k l0).bind fun t250 => ((laws_toMsg.f a1_0 a1_1 a1_2).bind fun bt253 => ((impl_MapDo.f k t250 bt253.1 bt253.2.1 bt253.2.2).bind fun t256 => ((laws_eqPairS.f k t256 t247).bind fun t259 => (if t259 = true then ((laws_toPairS.f k l0).bind fun t260 => ((laws_eqPairS.f k t250 t260).bind fun t263 => (if t263 = true then ((laws_markPairS.f k t250 1).bind fun bt264 => (if bt264.1 < 0 then (laws_FnExactMapDo.j0 k l0 t247 t256 true a1_0 a1_1 a1_2) else ((laws_eqPairS.f k t256 t247).bind fun t266 => (laws_FnExactMapDo.j0 k l0 t247 t256 (!t266) a1_0 a1_1 a1_2)))) else (some false)))) else (some false)))))))))) = some r := H
 have A3 := q_ A30
 clear A30
 by_cases c4 : t240 < 0
 ·rw [if_pos c4] at H
  have c4b0 : decide (t240 < 0) = true := decide_eq_true c4
  clear c4
  obtain rfl := Option.some.inj H
  go_enter Try.func7, Try.ntmps7
  go_wp2_with (first | ((with_reducible refine gate_dst (N := 3) rfl ?_); refine box_event ?hg (N := 3) ?hd (cs := #[.int .i64 a1_0, .int .i64 a1_1, .int .i64 a1_2]) (t := 63) ?hr ?_; (case hd => rfl); (case hg => rfl); (case hr => exact z77_); intro gb239 hg w5 hbox hb; have n0_ := q_ (below_step z0_ hb); have n1_ := q_ (hbox); have n2_ := q_ ((z60_ : w.heap.size ≤ gb239)); have n3_ := q_ ((z60_ : w.heap.size ≤ gb239)); clear HB; have HB := n0_; have BK239 := n1_; have GW239 := n2_; have GE239 := n3_; clear n0_ n1_ n2_ n3_; clear hb hbox hg) | ((with_reducible refine gate_callee (f := 47) rfl ?_); refine goesL_ (some 15) rfl rfl Try.func47 (by kernel_rfl) rfl #[.slice A0 l0.length c0, .int .i64 1048576] rfl z1_ ?_; (with_reducible refine (laws_szPairS.calls _ _ l0 1048576 t240 _ ?side1 ?side2 A3.out).mono ?_); (case side1 => exact z76_); (case side2 => exact HC0.out); rintro e w' ⟨rfl, ⟨nd, rfl⟩⟩; refine ⟨_, rfl, ?_⟩))
  go_ret
  exact ⟨z4_, z0_⟩
 ·rw [if_neg c4] at H
  have c4b0 : decide (t240 < 0) = false := decide_eq_false c4
  clear c4
  replace H := Option.bind_eq_some_iff.mp H
  obtain ⟨t241, A60, H⟩ := H
  replace H : ((laws_toMsg.f a1_0 a1_1 a1_2).bind fun bt244 => ((spec_MapDo.f k t241 bt244.1 bt244.2.1 bt244.2.2).bind fun t247 => ((laws_toPairS.f k l0).bind fun t250 => ((laws_toMsg.f a1_0 a1_1 a1_2).bind fun bt253 => ((impl_MapDo.f k t250 bt253.1 bt253.2.1 bt253.2.2).bind fun t256 => ((laws_eqPairS.f k t256 t247).bind fun t259 => (if t259 = true then ((laws_toPairS.f k l0).bind fun t260 => ((laws_eqPairS.f k t250 t260).bind fun t263 => (if t263 = true then ((laws_markPairS.f k t250 1).bind fun bt264 => (if bt264.1 < 0 then (laws_FnExactMapDo.j0 k l0 t247 t256 true a1_0 a1_1 a1_2) else ((laws_eqPairS.f k t256 t247).bind fun t266 => (laws_FnExactMapDo.j0 k l0 t247 t256 (!t266) a1_0 a1_1 a1_2)))) else (some false)))) else (some false)))))))) = some r := H
  have A6 := q_ A60
  clear A60
  replace H := Option.bind_eq_some_iff.mp H
  obtain ⟨⟨t244, t245, t246⟩, A70, H⟩ := H
  replace H : ((spec_MapDo.f k t241 t244 t245 t246).bind fun t247 => ((laws_toPairS.f k l0).bind fun t250 => ((laws_toMsg.f a1_0 a1_1 a1_2).bind fun bt253 => ((impl_MapDo.f k t250 bt253.1 bt253.2.1 bt253.2.2).bind fun t256 => ((laws_eqPairS.f k t256 t247).bind fun t259 => (if t259 = true then ((laws_toPairS.f k l0).bind fun t260 => ((laws_eqPairS.f k t250 t260).bind fun t263 => (if t263 = true then ((laws_markPairS.f k t250 1).bind fun bt264 => (if bt264.1 < 0 then (laws_FnExactMapDo.j0 k l0 t247 t256 true a1_0 a1_1 a1_2) else ((laws_eqPairS.f k t256 t247).bind fun t266 => (laws_FnExactMapDo.j0 k l0 t247 t256 (!t266) a1_0 a1_1 a1_2)))) else (some false)))) else (some false))))))) = some r := H
  have A7 := q_ A70
  clear A70
  replace H := Option.bind_eq_some_iff.mp H
  obtain ⟨t247, A80, H⟩ := H
  replace H : ((laws_toPairS.f k l0).bind fun t250 => ((laws_toMsg.f a1_0 a1_1 a1_2).bind fun bt253 => ((impl_MapDo.f k t250 bt253.1 bt253.2.1 bt253.2.2).bind fun t256 => ((laws_eqPairS.f k t256 t247).bind fun t259 => (if t259 = true then ((laws_toPairS.f k l0).bind fun t260 => ((laws_eqPairS.f k t250 t260).bind fun t263 => (if t263 = true then ((laws_markPairS.f k t250 1).bind fun bt264 => (if bt264.1 < 0 then (laws_FnExactMapDo.j0 k l0 t247 t256 true a1_0 a1_1 a1_2) else ((laws_eqPairS.f k t256 t247).bind fun t266 => (laws_FnExactMapDo.j0 k l0 t247 t256 (!t266) a1_0 a1_1 a1_2)))) else (some false)))) else (some false)))))) = some r := H
  have A8 := q_ A80
  clear A80
  replace H := Option.bind_eq_some_iff.mp H
  obtain ⟨t250, A90, H⟩ := H
  replace H : ((laws_toMsg.f a1_0 a1_1 a1_2).bind fun bt253 => ((impl_MapDo.f k t250 bt253.1 bt253.2.1 bt253.2.2).bind fun t256 => ((laws_eqPairS.f k t256 t247).bind fun t259 => (if t259 = true then ((laws_toPairS.f k l0).bind fun t260 => ((laws_eqPairS.f k t250 t260).bind fun t263 => (if t263 = true then ((laws_markPairS.f k t250 1).bind fun bt264 => (if bt264.1 < 0 then (laws_FnExactMapDo.j0 k l0 t247 t256 true a1_0 a1_1 a1_2) else ((laws_eqPairS.f k t256 t247).bind fun t266 => (laws_FnExactMapDo.j0 k l0 t247 t256 (!t266) a1_0 a1_1 a1_2)))) else (some false)))) else (some false))))) = some r := H
  have A9 := q_ A90
  clear A90
  replace H := Option.bind_eq_some_iff.mp H
  obtain ⟨⟨t253, t254, t255⟩, A100, H⟩ := H
  replace H : ((impl_MapDo.f k t250 t253 t254 t255).bind fun t256 => ((laws_eqPairS.f k t256 t247).bind fun t259 => (if t259 = true then ((laws_toPairS.f k l0).bind fun t260 => ((laws_eqPairS.f k t250 t260).bind fun t263 => (if t263 = true then ((laws_markPairS.f k t250 1).bind fun bt264 => (if bt264.1 < 0 then (laws_FnExactMapDo.j0 k l0 t247 t256 true a1_0 a1_1 a1_2) else ((laws_eqPairS.f k t256 t247).bind fun t266 => (laws_FnExactMapDo.j0 k l0 t247 t256 (!t266) a1_0 a1_1 a1_2)))) else (some false)))) else (some false)))) = some r := H
  have A10 := q_ A100
  clear A100
  replace H := Option.bind_eq_some_iff.mp H
  obtain ⟨t256, A110, H⟩ := H
  replace H : ((laws_eqPairS.f k t256 t247).bind fun t259 => (if t259 = true then ((laws_toPairS.f k l0).bind fun t260 => ((laws_eqPairS.f k t250 t260).bind fun t263 => (if t263 = true then ((laws_markPairS.f k t250 1).bind fun bt264 => (if bt264.1 < 0 then (laws_FnExactMapDo.j0 k l0 t247 t256 true a1_0 a1_1 a1_2) else ((laws_eqPairS.f k t256 t247).bind fun t266 => (laws_FnExactMapDo.j0 k l0 t247 t256 (!t266) a1_0 a1_1 a1_2)))) else (some false)))) else (some false))) = some r := H
  have A11 := q_ A110
  clear A110
  replace H := Option.bind_eq_some_iff.mp H
  obtain ⟨t259, A120, H⟩ := H
  replace H : (if t259 = true then ((laws_toPairS.f k l0).bind fun t260 => ((laws_eqPairS.f k t250 t260).bind fun t263 => (if t263 = true then ((laws_markPairS.f k t250 1).bind fun bt264 => (if bt264.1 < 0 then (laws_FnExactMapDo.j0 k l0 t247 t256 true a1_0 a1_1 a1_2) else ((laws_eqPairS.f k t256 t247).bind fun t266 => (laws_FnExactMapDo.j0 k l0 t247 t256 (!t266) a1_0 a1_1 a1_2)))) else (some false)))) else (some false)) = some r := H
  have A12 := q_ A120
  clear A120
  by_cases c13 : t259 = true
  ·subst c13
   have H1 : ((laws_toPairS.f k l0).bind fun t260 => ((laws_eqPairS.f k t250 t260).bind fun t263 => (if t263 = true then ((laws_markPairS.f k t250 1).bind fun bt264 => (if bt264.1 < 0 then (laws_FnExactMapDo.j0 k l0 t247 t256 true a1_0 a1_1 a1_2) else ((laws_eqPairS.f k t256 t247).bind fun t266 => (laws_FnExactMapDo.j0 k l0 t247 t256 (!t266) a1_0 a1_1 a1_2)))) else (some false)))) = some r := z32_
   clear H
   have H := H1
   clear H1
   replace H := Option.bind_eq_some_iff.mp H
   obtain ⟨t260, A140, H⟩ := H
   replace H : ((laws_eqPairS.f k t250 t260).bind fun t263 => (if t263 = true then ((laws_markPairS.f k t250 1).bind fun bt264 => (if bt264.1 < 0 then (laws_FnExactMapDo.j0 k l0 t247 t256 true a1_0 a1_1 a1_2) else ((laws_eqPairS.f k t256 t247).bind fun t266 => (laws_FnExactMapDo.j0 k l0 t247 t256 (!t266) a1_0 a1_1 a1_2)))) else (some false))) = some r := H
   have A14 := q_ A140
   clear A140
   replace H := Option.bind_eq_some_iff.mp H
   obtain ⟨t263, A150, H⟩ := H
   replace H : (if t263 = true then ((laws_markPairS.f k t250 1).bind fun bt264 => (if bt264.1 < 0 then (laws_FnExactMapDo.j0 k l0 t247 t256 true a1_0 a1_1 a1_2) else ((laws_eqPairS.f k t256 t247).bind fun t266 => (laws_FnExactMapDo.j0 k l0 t247 t256 (!t266) a1_0 a1_1 a1_2)))) else (some false)) = some r := H
   have A15 := q_ A150
   clear A150
   by_cases c16 : t263 = true
   ·subst c16
    have H1 : ((laws_markPairS.f k t250 1).bind fun bt264 => (if bt264.1 < 0 then (laws_FnExactMapDo.j0 k l0 t247 t256 true a1_0 a1_1 a1_2) else ((laws_eqPairS.f k t256 t247).bind fun t266 => (laws_FnExactMapDo.j0 k l0 t247 t256 (!t266) a1_0 a1_1 a1_2)))) = some r := z32_
    clear H
    have H := H1
    clear H1
    replace H := Option.bind_eq_some_iff.mp H
    obtain ⟨⟨t264, t265⟩, A170, H⟩ := H
    replace H : (if t264 < 0 then (laws_FnExactMapDo.j0 k l0 t247 t256 true a1_0 a1_1 a1_2) else ((laws_eqPairS.f k t256 t247).bind fun t266 => (laws_FnExactMapDo.j0 k l0 t247 t256 (!t266) a1_0 a1_1 a1_2))) = some r := H
    have A17 := q_ A170
    clear A170
    have HC18 := q_ H
    clear H
    go_enter Try.func7, Try.ntmps7
    try go_wp2_with (first | ((with_reducible refine gate_dst (N := 3) rfl ?_); refine box_event ?hg (N := 3) ?hd (cs := #[.int .i64 a1_0, .int .i64 a1_1, .int .i64 a1_2]) (t := 63) ?hr ?_; (case hd => rfl); (case hg => rfl); (case hr => exact z77_); intro gb239 hg w19 hbox hb; have n0_ := q_ (below_step z0_ hb); have n1_ := q_ (hbox); have n2_ := q_ ((z60_ : w.heap.size ≤ gb239)); have n3_ := q_ ((z60_ : w.heap.size ≤ gb239)); clear HB; have HB := n0_; have BK239 := n1_; have GW239 := n2_; have GE239 := n3_; clear n0_ n1_ n2_ n3_; clear hb hbox hg) | ((with_reducible refine gate_callee (f := 47) rfl ?_); refine goesL_ (some 15) rfl rfl Try.func47 (by kernel_rfl) rfl #[.slice A0 l0.length c0, .int .i64 1048576] rfl z1_ ?_; (with_reducible refine (laws_szPairS.calls _ _ l0 1048576 t240 _ ?side1 ?side2 A3.out).mono ?_); (case side1 => exact z76_); (case side2 => exact HC0.out); rintro e w' ⟨rfl, ⟨nd, rfl⟩⟩; refine ⟨_, rfl, ?_⟩))
    (try (rw [drewN_self w19]; generalize hq_ : World.drewN w19 _ = w19; have n0_ : Aside0 (w19.heap[gb239]? = some (.cells #[.int .i64 a1_0, .int .i64 a1_1, .int .i64 a1_2] 63 (0, 0))) := ⟨z72_⟩; have n1_ : Aside0 (Below w.heap.size w w19) := ⟨z73_⟩; clear BK239 HB hq_; have BK239 := n0_; have HB := n1_; clear n0_ n1_))
    have n0_ := q_ (blk_drew BK239.out)
    have n1_ := q_ (below_drew1 HB.out)
    clear BK239
    clear HB
    have BK239 := n0_
    have HB := n1_
    clear n0_ n1_
    refine start_ (n := 6) (S := fun w' => w'.cell? ⟨gb239, 0, none⟩ = some (.int .i64 a1_0) ∧ w'.cell? ⟨gb239, 1, none⟩ = some (.int .i64 a1_1) ∧ w'.cell? ⟨gb239, 2, none⟩ = some (.int .i64 a1_2)) (ds := []) #[false, false, false, false, false, false] (by kernel_rfl) rfl rfl ⟨(blk_cell BK239.out 0).trans rfl, (blk_cell BK239.out 1).trans rfl, (blk_cell BK239.out 2).trans rfl⟩ (fun hHeld => ?_)
    generalize w19.drew = w20 at BK239 HB hHeld ⊢
    refine pure_ (i := 0) (N := some 18) (v := ?_) (a' := ?_) #[true, false, false, false, false, false] rfl rfl (by kernel_rfl) (fun _ _ _ h => h) (Or.inl ⟨by rfl, ?_⟩) ?_ ?_
    rotate_left
    ·intro w'
     go_simp
     with_reducible rfl
    rotate_left
    ·simp only [Act.put, List.setIfInBounds_toArray, List.set_cons_zero, List.set_cons_succ, i64_w, i32_w]
     rfl
    refine take_ (i := 2) (N := some 20) (v := ?_) (a' := ?_) #[true, false, true, false, false, false] rfl rfl (by kernel_rfl) (fun _ _ _ h => h) (Or.inl ⟨by rfl, ?_⟩) hHeld ?_ ?_
    rotate_left
    ·rintro w' ⟨s0, s1, s2⟩
     go_simp
     with_reducible rfl
    rotate_left
    ·simp only [Act.put, List.setIfInBounds_toArray, List.set_cons_zero, List.set_cons_succ, i64_w, i32_w]
     rfl
    refine one_ (i := 1) (N := some 19) #[true, true, true, false, false, false] rfl rfl (by kernel_rfl) (by decide) (fun K hK => ?_)
    refine goes_ Try.func49 (by kernel_rfl) rfl #[.slice A0 l0.length c0] (by rfl) rfl rfl z1_ ?_
    with_reducible refine (laws_toPairS.calls k _ _ l0 t241 _ ?side1 ?side2 A6.out).mono ?_
    (case side1 => exact z76_)
    (case side2 => exact HC0.out)
    rintro e w21 ⟨v242, rfl, ho0, hb⟩
    refine ⟨_, rfl, ?_⟩
    have n0_ := q_ (Kd.R_lower ho0 (below_size z2_))
    have n1_ := q_ (blk_below (g := gb239) (o := .cells #[.int .i64 a1_0, .int .i64 a1_1, .int .i64 a1_2] 63 (0, 0)) z5_ hb)
    have n2_ := q_ (below_step z2_ hb)
    clear BK239
    clear HB
    have HO243 := n0_
    have BK239 := n1_
    have HB := n2_
    clear n0_ n1_ n2_
    (try clear hb)
    (try clear hb2)
    (try clear hk)
    (try clear hi)
    (try clear ho0)
    refine hK.out _ _ ⟨(blk_cell BK239.out 0).trans rfl, (blk_cell BK239.out 1).trans rfl, (blk_cell BK239.out 2).trans rfl⟩ (fun hHeld => ?_)
    clear hK K
    refine norm_ (a' := ?_) ?_ ?_
    rotate_left
    ·show Act.put _ (some 19) _ = _
     simp only [Act.put, List.setIfInBounds_toArray, List.set_cons_zero, List.set_cons_succ, i64_w, i32_w]
     rfl
    refine one_ (i := 3) (N := some 21) #[true, true, true, true, false, false] rfl rfl (by kernel_rfl) (by decide) (fun K hK => ?_)
    refine goes_ Try.func50 (by kernel_rfl) rfl #[.agg #[.int .i64 a1_0, .int .i64 a1_1, .int .i64 a1_2]] (by rfl) rfl rfl z1_ ?_
    with_reducible refine (laws_toMsg.calls a1_0 a1_1 a1_2 t244 t245 t246 _ A7.out).mono ?_
    rintro e w22 ⟨rfl, hb⟩
    refine ⟨_, rfl, ?_⟩
    have n0_ := q_ (Kd.R_below z6_ hb)
    have n1_ := q_ (blk_below (g := gb239) (o := .cells #[.int .i64 a1_0, .int .i64 a1_1, .int .i64 a1_2] 63 (0, 0)) z5_ hb)
    have n2_ := q_ (below_step z2_ hb)
    clear HO243
    clear BK239
    clear HB
    have HO243 := n0_
    have BK239 := n1_
    have HB := n2_
    clear n0_ n1_ n2_
    (try clear hb)
    (try clear hb2)
    (try clear hk)
    (try clear hi)
    obtain ⟨Ao23, co23, eo23⟩ := Kd.R_slice HO243.out
    (first | subst eo23 | (injection eo23 with f1_ f2_ f3_; have f4_ := f1_.symm; have f5_ := f3_.symm; clear f1_ f2_ f3_; subst f4_; subst f5_))
    refine hK.out _ _ ⟨(blk_cell BK239.out 0).trans rfl, (blk_cell BK239.out 1).trans rfl, (blk_cell BK239.out 2).trans rfl⟩ (fun hHeld => ?_)
    clear hK K
    refine norm_ (a' := ?_) ?_ ?_
    rotate_left
    ·show Act.put _ (some 21) _ = _
     simp only [Act.put, List.setIfInBounds_toArray, List.set_cons_zero, List.set_cons_succ, i64_w, i32_w]
     rfl
    refine one_ (i := 4) (N := some 22) #[true, true, true, true, true, false] rfl rfl (by kernel_rfl) (by decide) (fun K hK => ?_)
    refine goes_ Try.func48 (by kernel_rfl) rfl #[.slice Ao23 t241.length co23, .agg #[.int .i64 t244, .int .i64 t245, .int .i64 t246]] (by rfl) rfl rfl z1_ ?_
    with_reducible refine (spec_MapDo.calls k _ _ t241 t244 t245 t246 t247 _ ?side1 ?side2 A8.out).mono ?_
    (case side1 => exact z88_)
    (case side2 => exact (Kd.R_reads' HO243.out).2.1)
    rintro e w24 ⟨v248, rfl, ho0, hb⟩
    refine ⟨_, rfl, ?_⟩
    have n0_ := q_ (Kd.R_elder' z6_ (Kd.R_base ho0) hb)
    have n1_ := q_ (Kd.R_lower (Kd.R_new' ho0 (Kd.R_lt z6_)) (below_size z2_))
    have n2_ := q_ (blk_below (g := gb239) (o := .cells #[.int .i64 a1_0, .int .i64 a1_1, .int .i64 a1_2] 63 (0, 0)) z5_ hb)
    have n3_ := q_ (below_step z2_ hb)
    clear HO243
    clear BK239
    clear HB
    have HO243 := n0_
    have HO249 := n1_
    have BK239 := n2_
    have HB := n3_
    clear n0_ n1_ n2_ n3_
    (try clear hb)
    (try clear hb2)
    (try clear hk)
    (try clear hi)
    (try clear ho0)
    refine hK.out _ _ ⟨(blk_cell BK239.out 0).trans rfl, (blk_cell BK239.out 1).trans rfl, (blk_cell BK239.out 2).trans rfl⟩ (fun hHeld => ?_)
    clear hK K
    refine norm_ (a' := ?_) ?_ ?_
    rotate_left
    ·show Act.put _ (some 22) _ = _
     simp only [Act.put, List.setIfInBounds_toArray, List.set_cons_zero, List.set_cons_succ, i64_w, i32_w]
     rfl
    refine pure_ (i := 5) (N := some 6) (v := ?_) (a' := ?_) #[true, true, true, true, true, true] rfl rfl (by kernel_rfl) (fun _ _ _ h => h) (Or.inl ⟨by rfl, ?_⟩) ?_ ?_
    rotate_left
    ·intro w'
     go_simp
     with_reducible rfl
    rotate_left
    ·simp only [Act.put, List.setIfInBounds_toArray, List.set_cons_zero, List.set_cons_succ, i64_w, i32_w]
     rfl
    refine done_ (by kernel_rfl) ?_
    go_upto_region 14 with (first | ((with_reducible refine gate_callee (f := 49) rfl ?_); refine goesL_ (some 24) rfl rfl Try.func49 (by kernel_rfl) rfl #[.slice A0 l0.length c0] rfl z1_ ?_; (with_reducible refine (laws_toPairS.calls k _ _ l0 t250 _ ?side1 ?side2 A9.out).mono ?_); (case side1 => exact z76_); (case side2 => exact HC0.out); rintro e w25 ⟨v251, rfl, ho0, hb⟩; refine ⟨_, rfl, ?_⟩; have n0_ := q_ (Kd.R_elder' z6_ (Kd.R_base ho0) hb); have n1_ := q_ (Kd.R_elder' z11_ (Kd.R_base ho0) hb); have n2_ := q_ (Kd.R_lower (Kd.R_new' (Kd.R_new' ho0 (Kd.R_lt z6_)) (Kd.R_lt z11_)) (below_size z2_)); have n3_ := q_ (blk_below (g := gb239) (o := .cells #[.int .i64 a1_0, .int .i64 a1_1, .int .i64 a1_2] 63 (0, 0)) z5_ hb); have n4_ := q_ (below_step z2_ hb); clear HO243; clear HO249; clear BK239; clear HB; have HO243 := n0_; have HO249 := n1_; have HO252 := n2_; have BK239 := n3_; have HB := n4_; clear n0_ n1_ n2_ n3_ n4_; (try clear hb); (try clear hb2); (try clear hk); (try clear hi); (try clear ho0); obtain ⟨hcz26_0, hcz26_1, hcz26_2, hfz26_0, hfz26_1, hfz26_2⟩ := cs3_ BK239.out) | ((with_reducible refine gate_callee (f := 50) rfl ?_); refine goesL_ (some 27) rfl rfl Try.func50 (by kernel_rfl) rfl #[.agg #[.int .i64 a1_0, .int .i64 a1_1, .int .i64 a1_2]] rfl z1_ ?_; (with_reducible refine (laws_toMsg.calls a1_0 a1_1 a1_2 t253 t254 t255 _ A10.out).mono ?_); rintro e w27 ⟨rfl, hb⟩; refine ⟨_, rfl, ?_⟩; have n0_ := q_ (Kd.R_below z6_ hb); have n1_ := q_ (Kd.R_below z11_ hb); have n2_ := q_ (Kd.R_below z12_ hb); have n3_ := q_ (blk_below (g := gb239) (o := .cells #[.int .i64 a1_0, .int .i64 a1_1, .int .i64 a1_2] 63 (0, 0)) z5_ hb); have n4_ := q_ (below_step z2_ hb); clear HO243; clear HO249; clear HO252; clear BK239; clear HB; have HO243 := n0_; have HO249 := n1_; have HO252 := n2_; have BK239 := n3_; have HB := n4_; clear n0_ n1_ n2_ n3_ n4_; (try clear hb); (try clear hb2); (try clear hk); (try clear hi); obtain ⟨Ao28, co28, eo28⟩ := Kd.R_slice HO252.out; subst eo28) | ((with_reducible refine gate_callee (f := 51) rfl ?_); refine goesL_ (some 28) rfl rfl Try.func51 (by kernel_rfl) rfl #[.slice Ao28 t250.length co28, .agg #[.int .i64 t253, .int .i64 t254, .int .i64 t255]] rfl z1_ ?_; (with_reducible refine (impl_MapDo.calls k _ _ t250 t253 t254 t255 t256 _ ?side1 ?side2 A11.out).mono ?_); (case side1 => exact z80_); (case side2 => exact z95_); rintro e w29 ⟨v257, rfl, ho0, hb⟩; refine ⟨_, rfl, ?_⟩; have n0_ := q_ (Kd.R_elder' z6_ (Kd.R_base ho0) hb); have n1_ := q_ (Kd.R_elder' z11_ (Kd.R_base ho0) hb); have n2_ := q_ (Kd.R_elder' z12_ (Kd.R_base ho0) hb); have n3_ := q_ (Kd.R_lower (Kd.R_new' (Kd.R_new' (Kd.R_new' ho0 (Kd.R_lt z6_)) (Kd.R_lt z11_)) (Kd.R_lt z12_)) (below_size z2_)); have n4_ := q_ (blk_below (g := gb239) (o := .cells #[.int .i64 a1_0, .int .i64 a1_1, .int .i64 a1_2] 63 (0, 0)) z5_ hb); have n5_ := q_ (below_step z2_ hb); clear HO243; clear HO249; clear HO252; clear BK239; clear HB; have HO243 := n0_; have HO249 := n1_; have HO252 := n2_; have HO258 := n3_; have BK239 := n4_; have HB := n5_; clear n0_ n1_ n2_ n3_ n4_ n5_; (try clear hb); (try clear hb2); (try clear hk); (try clear hi); (try clear ho0); obtain ⟨Ao30, co30, eo30⟩ := Kd.R_slice HO258.out; subst eo30; obtain ⟨Ao31, co31, eo31⟩ := Kd.R_slice HO249.out; subst eo31) | ((with_reducible refine gate_callee (f := 52) rfl ?_); refine goesL_ (some 31) rfl rfl Try.func52 (by kernel_rfl) rfl #[.slice Ao30 t256.length co30, .slice Ao31 t247.length co31] rfl z1_ ?_; (with_reducible refine (laws_eqPairS.calls k _ _ t256 _ _ t247 true _ ?side1 ?side2 ?side3 ?side4 A12.out).mono ?_); (case side1 => exact z83_); (case side2 => exact z97_); (case side3 => exact z84_); (case side4 => exact z98_); rintro e w32 ⟨rfl, hb⟩; refine ⟨_, rfl, ?_⟩; have n0_ := q_ (Kd.R_below z6_ hb); have n1_ := q_ (Kd.R_below z11_ hb); have n2_ := q_ (Kd.R_below z12_ hb); have n3_ := q_ (Kd.R_below z25_ hb); have n4_ := q_ (blk_below (g := gb239) (o := .cells #[.int .i64 a1_0, .int .i64 a1_1, .int .i64 a1_2] 63 (0, 0)) z5_ hb); have n5_ := q_ (below_step z2_ hb); clear HO243; clear HO249; clear HO252; clear HO258; clear BK239; clear HB; have HO243 := n0_; have HO249 := n1_; have HO252 := n2_; have HO258 := n3_; have BK239 := n4_; have HB := n5_; clear n0_ n1_ n2_ n3_ n4_ n5_; (try clear hb); (try clear hb2); (try clear hk); (try clear hi)) | ((with_reducible refine gate_callee (f := 49) rfl ?_); refine goesL_ (some 35) rfl rfl Try.func49 (by kernel_rfl) rfl #[.slice A0 l0.length c0] rfl z1_ ?_; (with_reducible refine (laws_toPairS.calls k _ _ l0 t260 _ ?side1 ?side2 A14.out).mono ?_); (case side1 => exact z76_); (case side2 => exact HC0.out); rintro e w33 ⟨v261, rfl, ho0, hb⟩; refine ⟨_, rfl, ?_⟩; have n0_ := q_ (Kd.R_elder' z6_ (Kd.R_base ho0) hb); have n1_ := q_ (Kd.R_elder' z11_ (Kd.R_base ho0) hb); have n2_ := q_ (Kd.R_elder' z12_ (Kd.R_base ho0) hb); have n3_ := q_ (Kd.R_elder' z25_ (Kd.R_base ho0) hb); have n4_ := q_ (Kd.R_lower (Kd.R_new' (Kd.R_new' (Kd.R_new' (Kd.R_new' ho0 (Kd.R_lt z6_)) (Kd.R_lt z11_)) (Kd.R_lt z12_)) (Kd.R_lt z25_)) (below_size z2_)); have n5_ := q_ (blk_below (g := gb239) (o := .cells #[.int .i64 a1_0, .int .i64 a1_1, .int .i64 a1_2] 63 (0, 0)) z5_ hb); have n6_ := q_ (below_step z2_ hb); clear HO243; clear HO249; clear HO252; clear HO258; clear BK239; clear HB; have HO243 := n0_; have HO249 := n1_; have HO252 := n2_; have HO258 := n3_; have HO262 := n4_; have BK239 := n5_; have HB := n6_; clear n0_ n1_ n2_ n3_ n4_ n5_ n6_; (try clear hb); (try clear hb2); (try clear hk); (try clear hi); (try clear ho0); obtain ⟨Ao34, co34, eo34⟩ := Kd.R_slice HO262.out; subst eo34) | ((with_reducible refine gate_callee (f := 52) rfl ?_); refine goesL_ (some 36) rfl rfl Try.func52 (by kernel_rfl) rfl #[.slice Ao28 t250.length co28, .slice Ao34 t260.length co34] rfl z1_ ?_; (with_reducible refine (laws_eqPairS.calls k _ _ t250 _ _ t260 true _ ?side1 ?side2 ?side3 ?side4 A15.out).mono ?_); (case side1 => exact z80_); (case side2 => exact z95_); (case side3 => exact z89_); (case side4 => exact (Kd.R_reads' HO262.out).2.1); rintro e w35 ⟨rfl, hb⟩; refine ⟨_, rfl, ?_⟩; have n0_ := q_ (Kd.R_below z6_ hb); have n1_ := q_ (Kd.R_below z11_ hb); have n2_ := q_ (Kd.R_below z12_ hb); have n3_ := q_ (Kd.R_below z25_ hb); have n4_ := q_ (Kd.R_below z48_ hb); have n5_ := q_ (blk_below (g := gb239) (o := .cells #[.int .i64 a1_0, .int .i64 a1_1, .int .i64 a1_2] 63 (0, 0)) z5_ hb); have n6_ := q_ (below_step z2_ hb); clear HO243; clear HO249; clear HO252; clear HO258; clear HO262; clear BK239; clear HB; have HO243 := n0_; have HO249 := n1_; have HO252 := n2_; have HO258 := n3_; have HO262 := n4_; have BK239 := n5_; have HB := n6_; clear n0_ n1_ n2_ n3_ n4_ n5_ n6_; (try clear hb); (try clear hb2); (try clear hk); (try clear hi)) | ((with_reducible refine gate_callee (f := 53) rfl ?_); refine goesL_ (some 40) rfl rfl Try.func53 (by kernel_rfl) rfl #[.slice Ao28 t250.length co28, .int .i64 1] rfl z1_ ?_; (with_reducible refine (laws_markPairS.calls k (fun k_ => some k_ = (.slice Ao28 t250.length co28 : Value).ownBlock) (.slice Ao28 t250.length co28) t250 1 t264 t265 w _ ?side1 ?side2 A17.out).mono ?_); (case side1 => exact z81_); (case side2 => exact Kd.R_tight rfl HO252.out); rintro e w36 ⟨rfl, hy0, hb, hkp⟩; refine ⟨_, rfl, ?_⟩; have n0_ := q_ (blk_kept z5_ hkp (fun hs_ => (fun e_ => (Kd.R_ne HO252.out BK239.out (by decide)) e_) hs_)); have n1_ := q_ (Kd.R_mono (ok' := fun k_ => some k_ ≠ (.slice Ao31 t247.length co31 : Value).ownBlock ∧ some k_ ≠ (.slice Ao28 t250.length co28 : Value).ownBlock ∧ some k_ ≠ (.slice Ao30 t256.length co30 : Value).ownBlock ∧ some k_ ≠ (.slice Ao34 t260.length co34 : Value).ownBlock) (Kd.R_keptB (HO243.out) hkp (fun k_ hk_ hs_ => (hk_.1.1.2) hs_)) (fun k_ hk_ => ⟨hk_.1.1.1.1.2, hk_.1.1.1.2, hk_.1.1.2, hk_.1.2⟩)); have n2_ := q_ (Kd.R_mono (ok' := fun k_ => some k_ ≠ (.slice Ao23 t241.length co23 : Value).ownBlock ∧ some k_ ≠ (.slice Ao28 t250.length co28 : Value).ownBlock ∧ some k_ ≠ (.slice Ao30 t256.length co30 : Value).ownBlock ∧ some k_ ≠ (.slice Ao34 t260.length co34 : Value).ownBlock) (Kd.R_keptB (HO249.out) hkp (fun k_ hk_ hs_ => (hk_.1.1.2) hs_)) (fun k_ hk_ => ⟨hk_.1.1.1.1.2, hk_.1.1.1.2, hk_.1.1.2, hk_.1.2⟩)); have n3_ := q_ (Kd.R_reok rfl hy0 (fun k_ e_ => HO252.out.1 k_ e_)); have n4_ := q_ (Kd.R_mono (ok' := fun k_ => some k_ ≠ (.slice Ao23 t241.length co23 : Value).ownBlock ∧ some k_ ≠ (.slice Ao31 t247.length co31 : Value).ownBlock ∧ some k_ ≠ (.slice Ao28 t250.length co28 : Value).ownBlock ∧ some k_ ≠ (.slice Ao34 t260.length co34 : Value).ownBlock) (Kd.R_keptB (HO258.out) hkp (fun k_ hk_ hs_ => (hk_.1.2) hs_)) (fun k_ hk_ => ⟨hk_.1.1.1.1.2, hk_.1.1.1.2, hk_.1.1.2, hk_.1.2⟩)); have n5_ := q_ (Kd.R_mono (ok' := fun k_ => some k_ ≠ (.slice Ao23 t241.length co23 : Value).ownBlock ∧ some k_ ≠ (.slice Ao31 t247.length co31 : Value).ownBlock ∧ some k_ ≠ (.slice Ao28 t250.length co28 : Value).ownBlock ∧ some k_ ≠ (.slice Ao30 t256.length co30 : Value).ownBlock) (Kd.R_keptB (HO262.out) hkp (fun k_ hk_ hs_ => (hk_.1.2) hs_)) (fun k_ hk_ => ⟨hk_.1.1.1.1.2, hk_.1.1.1.2, hk_.1.1.2, hk_.1.2⟩)); have n6_ := q_ (hb); clear BK239; clear HO243; clear HO249; clear HO252; clear HO258; clear HO262; clear HB; have BK239 := n0_; have HO243 := n1_; have HO249 := n2_; have HO252 := n3_; have HO258 := n4_; have HO262 := n5_; have HB := n6_; clear n0_ n1_ n2_ n3_ n4_ n5_ n6_; (try clear hb); (try clear hkp); (try clear hy0)))
    (try simp only [Act.put, List.setIfInBounds_toArray, List.set_cons_zero, List.set_cons_succ])
    go_cut [48] (fun v48 wc => ∃ (kq : Nat) (x48_17 : Bool), v48 = .bool x48_17 ∧ Aside0 (laws_FnExactMapDo.j0 kq l0 t247 t256 x48_17 a1_0 a1_1 a1_2 = some r) ∧ Aside0 (kq ≤ k) ∧ Aside0 (Kd.R k147 147 wc w.heap.size (fun k_ => some k_ ≠ ((.slice Ao30 t256.length co30) : Value).ownBlock) (.slice Ao31 t247.length co31) t247) ∧ Aside0 (Kd.R k147 147 wc w.heap.size (fun k_ => some k_ ≠ ((.slice Ao31 t247.length co31) : Value).ownBlock) (.slice Ao30 t256.length co30) t256) ∧ Aside0 (wc.heap[gb239]? = some (.cells #[.int .i64 a1_0, .int .i64 a1_1, .int .i64 a1_2] 63 (0, 0))) ∧ Aside0 (Below w.heap.size w wc))
    case first =>
     have H := HC18.out
     clear HC18
     by_cases c37 : t264 < 0
     ·rw [if_pos c37] at H
      have c37b0 : decide (t264 < 0) = true := decide_eq_true c37
      clear c37
      (first | rw [c37b0] | (simp only [i64_w, i32_w]; rw [c37b0]) | skip)
      have H' := q_ H
      clear H
      go_wp2
      go_meet
      case rel => exact ⟨_, (true), z8_, H', ⟨z50_⟩, ⟨z51_⟩, ⟨z52_⟩, ⟨z5_⟩, ⟨z2_⟩⟩
     ·rw [if_neg c37] at H
      have c37b0 : decide (t264 < 0) = false := decide_eq_false c37
      clear c37
      (first | rw [c37b0] | (simp only [i64_w, i32_w]; rw [c37b0]) | skip)
      replace H := Option.bind_eq_some_iff.mp H
      obtain ⟨t266, A380, H⟩ := H
      replace H : (laws_FnExactMapDo.j0 k l0 t247 t256 (!t266) a1_0 a1_1 a1_2) = some r := H
      have A38 := q_ A380
      clear A380
      have H' := q_ H
      clear H
      go_wp2_with (first | (go_at_call 52; (with_reducible refine (laws_eqPairS.calls k _ _ t256 _ _ t247 t266 _ ?side1 ?side2 ?side3 ?side4 A38.out).mono ?_); (case side1 => exact z83_); (case side2 => exact z97_); (case side3 => exact z84_); (case side4 => exact z98_); rintro e w39 ⟨rfl, hb⟩; have n0_ := q_ (Kd.R_below z6_ hb); have n1_ := q_ (Kd.R_below z11_ hb); have n2_ := q_ (Kd.R_below z12_ hb); have n3_ := q_ (Kd.R_below z25_ hb); have n4_ := q_ (Kd.R_below z48_ hb); have n5_ := q_ (blk_below (g := gb239) (o := .cells #[.int .i64 a1_0, .int .i64 a1_1, .int .i64 a1_2] 63 (0, 0)) z5_ hb); have n6_ := q_ (below_step z2_ hb); clear HO243; clear HO249; clear HO252; clear HO258; clear HO262; clear BK239; clear HB; have HO243 := n0_; have HO249 := n1_; have HO252 := n2_; have HO258 := n3_; have HO262 := n4_; have BK239 := n5_; have HB := n6_; clear n0_ n1_ n2_ n3_ n4_ n5_ n6_; (try clear hb); (try clear hb2); (try clear hk); (try clear hi)))
      go_meet
      case rel => exact ⟨_, (!t266), z8_, H', ⟨z50_⟩, ⟨z51_⟩, ⟨z52_⟩, ⟨z5_⟩, ⟨z2_⟩⟩
    case rest =>
     clear HC18
     try clear c1
     try clear p2
     try clear c3
     try clear c4
     try clear c4b0
     try clear c5
     try clear c7
     try clear c13
     try clear c16
     try clear c37
     try clear c37b0
     try clear hcz26_0
     try clear hcz26_1
     try clear hcz26_2
     try clear hfz26_0
     try clear hfz26_1
     try clear hfz26_2
     obtain ⟨kq, x48_17, rfl, HA, HJ17, HO_6, HO_8, BK239, HB⟩ := hcut
     cases kq with
     | zero => exact absurd HA.out (by simp [laws_FnExactMapDo.j0])
     | succ kj17 =>
      have H := HA.out
      clear HA
      simp only [laws_FnExactMapDo.j0] at H
      by_cases c40 : x48_17 = true
      ·subst c40
       have H1 : (some false) = some r := z32_
       clear H
       have H := H1
       clear H1
       obtain rfl := Option.some.inj H
       go_wp2
       go_ret
       exact ⟨z4_, z2_⟩
      ·replace c40 := Bool.eq_false_iff.mpr c40
       subst c40
       have H1 : ((laws_markPairS.f kj17 t256 1).bind fun bt267 => ((laws_heldPairS.f kj17 bt267.2 1).bind fun t269 => (if t269 < 0 then (some false) else (if t269 = bt267.1 then ((laws_toPairS.f kj17 l0).bind fun t270 => ((laws_toMsg.f a1_0 a1_1 a1_2).bind fun bt273 => ((impl_MapDo.f kj17 t270 bt273.1 bt273.2.1 bt273.2.2).bind fun t276 => ((laws_eqPairS.f kj17 t276 t247).bind fun t279 => (if t279 = true then ((laws_heldPairS.f kj17 bt267.2 1).bind fun t280 => (if t280 < 0 then (some false) else (if t280 = bt267.1 then (some true) else (some false)))) else (some false)))))) else (some false))))) = some r := by rw [if_neg (show ¬ (false = true) by decide)] at H; exact H
       clear H
       have H := H1
       clear H1
       replace H := Option.bind_eq_some_iff.mp H
       obtain ⟨⟨t267, t268⟩, A410, H⟩ := H
       replace H : ((laws_heldPairS.f kj17 t268 1).bind fun t269 => (if t269 < 0 then (some false) else (if t269 = t267 then ((laws_toPairS.f kj17 l0).bind fun t270 => ((laws_toMsg.f a1_0 a1_1 a1_2).bind fun bt273 => ((impl_MapDo.f kj17 t270 bt273.1 bt273.2.1 bt273.2.2).bind fun t276 => ((laws_eqPairS.f kj17 t276 t247).bind fun t279 => (if t279 = true then ((laws_heldPairS.f kj17 t268 1).bind fun t280 => (if t280 < 0 then (some false) else (if t280 = t267 then (some true) else (some false)))) else (some false)))))) else (some false)))) = some r := H
       have A41 := q_ A410
       clear A410
       replace H := Option.bind_eq_some_iff.mp H
       obtain ⟨t269, A420, H⟩ := H
       replace H : (if t269 < 0 then (some false) else (if t269 = t267 then ((laws_toPairS.f kj17 l0).bind fun t270 => ((laws_toMsg.f a1_0 a1_1 a1_2).bind fun bt273 => ((impl_MapDo.f kj17 t270 bt273.1 bt273.2.1 bt273.2.2).bind fun t276 => ((laws_eqPairS.f kj17 t276 t247).bind fun t279 => (if t279 = true then ((laws_heldPairS.f kj17 t268 1).bind fun t280 => (if t280 < 0 then (some false) else (if t280 = t267 then (some true) else (some false)))) else (some false)))))) else (some false))) = some r := H
       have A42 := q_ A420
       clear A420
       by_cases c43 : t269 < 0
       ·rw [if_pos c43] at H
        have c43b0 : decide (t269 < 0) = true := decide_eq_true c43
        clear c43
        obtain rfl := Option.some.inj H
        go_wp2_with (first | ((with_reducible refine gate_callee (f := 53) rfl ?_); refine goesL_ (some 51) rfl rfl Try.func53 (by kernel_rfl) rfl #[.slice Ao30 t256.length co30, .int .i64 1] rfl z1_ ?_; (with_reducible refine (laws_markPairS.calls kj17 (fun k_ => some k_ = (.slice Ao30 t256.length co30 : Value).ownBlock) (.slice Ao30 t256.length co30) t256 1 t267 t268 w _ ?side1 ?side2 A41.out).mono ?_); (case side1 => exact z82_); (case side2 => exact z94_); rintro e w44 ⟨rfl, hy0, hb, hkp⟩; refine ⟨_, rfl, ?_⟩; have n0_ := q_ (Kd.R_mono (ok' := fun k_ => some k_ ≠ (.slice Ao30 t256.length co30 : Value).ownBlock) (Kd.R_keptB (HO_6.out) hkp (fun k_ hk_ hs_ => (hk_) hs_)) (fun k_ hk_ => hk_.1)); have n1_ := q_ (Kd.R_reok rfl hy0 (fun k_ e_ => HO_8.out.1 k_ e_)); have n2_ := q_ (hb); clear HO_6; clear HO_8; clear HB; have HO_6 := n0_; have HO_8 := n1_; have HB := n2_; clear n0_ n1_ n2_; (try clear hb); (try clear hkp); (try clear hy0)) | ((with_reducible refine gate_callee (f := 54) rfl ?_); refine goesL_ (some 54) rfl rfl Try.func54 (by kernel_rfl) rfl #[.slice Ao30 t268.length co30, .int .i64 1] rfl z13_ ?_; (with_reducible refine (laws_heldPairS.calls kj17 _ _ t268 1 t269 _ ?side1 ?side2 A42.out).mono ?_); (case side1 => exact z78_); (case side2 => exact z79_); rintro e w' ⟨rfl, ⟨nd, rfl⟩⟩; refine ⟨_, rfl, ?_⟩))
        go_ret
        exact ⟨z4_, z0_⟩
       ·rw [if_neg c43] at H
        have c43b0 : decide (t269 < 0) = false := decide_eq_false c43
        clear c43
        by_cases c45 : t269 = t267
        ·rw [if_pos c45] at H
         have c45b0 : (t269 == t267) = true := beq_iff_eq.mpr c45
         have c45b1 : (t269 != t267) = false := bne_eq_false_iff_eq.mpr c45
         clear c45
         replace H := Option.bind_eq_some_iff.mp H
         obtain ⟨t270, A460, H⟩ := H
         replace H : ((laws_toMsg.f a1_0 a1_1 a1_2).bind fun bt273 => ((impl_MapDo.f kj17 t270 bt273.1 bt273.2.1 bt273.2.2).bind fun t276 => ((laws_eqPairS.f kj17 t276 t247).bind fun t279 => (if t279 = true then ((laws_heldPairS.f kj17 t268 1).bind fun t280 => (if t280 < 0 then (some false) else (if t280 = t267 then (some true) else (some false)))) else (some false))))) = some r := H
         have A46 := q_ A460
         clear A460
         replace H := Option.bind_eq_some_iff.mp H
         obtain ⟨⟨t273, t274, t275⟩, A470, H⟩ := H
         replace H : ((impl_MapDo.f kj17 t270 t273 t274 t275).bind fun t276 => ((laws_eqPairS.f kj17 t276 t247).bind fun t279 => (if t279 = true then ((laws_heldPairS.f kj17 t268 1).bind fun t280 => (if t280 < 0 then (some false) else (if t280 = t267 then (some true) else (some false)))) else (some false)))) = some r := H
         have A47 := q_ A470
         clear A470
         replace H := Option.bind_eq_some_iff.mp H
         obtain ⟨t276, A480, H⟩ := H
         replace H : ((laws_eqPairS.f kj17 t276 t247).bind fun t279 => (if t279 = true then ((laws_heldPairS.f kj17 t268 1).bind fun t280 => (if t280 < 0 then (some false) else (if t280 = t267 then (some true) else (some false)))) else (some false))) = some r := H
         have A48 := q_ A480
         clear A480
         replace H := Option.bind_eq_some_iff.mp H
         obtain ⟨t279, A490, H⟩ := H
         replace H : (if t279 = true then ((laws_heldPairS.f kj17 t268 1).bind fun t280 => (if t280 < 0 then (some false) else (if t280 = t267 then (some true) else (some false)))) else (some false)) = some r := H
         have A49 := q_ A490
         clear A490
         by_cases c50 : t279 = true
         ·subst c50
          have H1 : ((laws_heldPairS.f kj17 t268 1).bind fun t280 => (if t280 < 0 then (some false) else (if t280 = t267 then (some true) else (some false)))) = some r := z32_
          clear H
          have H := H1
          clear H1
          replace H := Option.bind_eq_some_iff.mp H
          obtain ⟨t280, A510, H⟩ := H
          replace H : (if t280 < 0 then (some false) else (if t280 = t267 then (some true) else (some false))) = some r := H
          have A51 := q_ A510
          clear A510
          by_cases c52 : t280 < 0
          ·rw [if_pos c52] at H
           have c52b0 : decide (t280 < 0) = true := decide_eq_true c52
           clear c52
           obtain rfl := Option.some.inj H
           try go_wp2_with (first | ((with_reducible refine gate_callee (f := 53) rfl ?_); refine goesL_ (some 51) rfl rfl Try.func53 (by kernel_rfl) rfl #[.slice Ao30 t256.length co30, .int .i64 1] rfl z1_ ?_; (with_reducible refine (laws_markPairS.calls kj17 (fun k_ => some k_ = (.slice Ao30 t256.length co30 : Value).ownBlock) (.slice Ao30 t256.length co30) t256 1 t267 t268 w _ ?side1 ?side2 A41.out).mono ?_); (case side1 => exact z81_); (case side2 => exact z94_); rintro e w53 ⟨rfl, hy0, hb, hkp⟩; refine ⟨_, rfl, ?_⟩; have n0_ := q_ (Kd.R_mono (ok' := fun k_ => some k_ ≠ (.slice Ao30 t256.length co30 : Value).ownBlock) (Kd.R_keptB (HO_6.out) hkp (fun k_ hk_ hs_ => (hk_) hs_)) (fun k_ hk_ => hk_.1)); have n1_ := q_ (Kd.R_reok rfl hy0 (fun k_ e_ => HO_8.out.1 k_ e_)); have n2_ := q_ (blk_kept z5_ hkp (fun hs_ => (fun e_ => (Kd.R_ne HO_8.out BK239.out (by decide)) e_) hs_)); have n3_ := q_ (hb); clear HO_6; clear HO_8; clear BK239; clear HB; have HO_6 := n0_; have HO_8 := n1_; have BK239 := n2_; have HB := n3_; clear n0_ n1_ n2_ n3_; (try clear hb); (try clear hkp); (try clear hy0)) | ((with_reducible refine gate_callee (f := 54) rfl ?_); refine goesL_ (some 54) rfl rfl Try.func54 (by kernel_rfl) rfl #[.slice Ao30 t268.length co30, .int .i64 1] rfl z13_ ?_; (with_reducible refine (laws_heldPairS.calls kj17 _ _ t268 1 t269 _ ?side1 ?side2 A42.out).mono ?_); (case side1 => exact z78_); (case side2 => exact z79_); rintro e w' ⟨rfl, ⟨nd, rfl⟩⟩; refine ⟨_, rfl, ?_⟩))
           (try (rw [drewN_self w53]; generalize hq_ : World.drewN w53 _ = w53; have n0_ : Aside0 (Kd.R k147 147 w53 w.heap.size (fun k_ => some k_ ≠ (.slice Ao30 t256.length co30 : Value).ownBlock) (.slice Ao31 t247.length co31) t247) := ⟨z75_⟩; have n1_ : Aside0 (Kd.R k147 147 w53 w.heap.size (fun k_ => some k_ ≠ (.slice Ao31 t247.length co31 : Value).ownBlock) (.slice Ao30 t256.length co30) t268) := ⟨z74_⟩; have n2_ : Aside0 (w53.heap[gb239]? = some (.cells #[.int .i64 a1_0, .int .i64 a1_1, .int .i64 a1_2] 63 (0, 0))) := ⟨z72_⟩; have n3_ : Aside0 (Below w.heap.size w w53) := ⟨z73_⟩; clear HO_6 HO_8 BK239 HB hq_; have HO_6 := n0_; have HO_8 := n1_; have BK239 := n2_; have HB := n3_; clear n0_ n1_ n2_ n3_))
           have n0_ := q_ (Kd.R_drew HO_6.out)
           have n1_ := q_ (Kd.R_drew HO_8.out)
           have n2_ := q_ (blk_drew BK239.out)
           have n3_ := q_ (below_drew1 HB.out)
           clear HO_6
           clear HO_8
           clear BK239
           clear HB
           have HO_6 := n0_
           have HO_8 := n1_
           have BK239 := n2_
           have HB := n3_
           clear n0_ n1_ n2_ n3_
           refine start_ (n := 6) (S := fun w' => w'.cell? ⟨gb239, 0, none⟩ = some (.int .i64 a1_0) ∧ w'.cell? ⟨gb239, 1, none⟩ = some (.int .i64 a1_1) ∧ w'.cell? ⟨gb239, 2, none⟩ = some (.int .i64 a1_2)) (ds := []) #[false, false, false, false, false, false] (by kernel_rfl) rfl rfl ⟨(blk_cell BK239.out 0).trans rfl, (blk_cell BK239.out 1).trans rfl, (blk_cell BK239.out 2).trans rfl⟩ (fun hHeld => ?_)
           generalize w53.drew = w54 at HO_6 HO_8 BK239 HB hHeld ⊢
           refine pure_ (i := 0) (N := some 60) (v := ?_) (a' := ?_) #[true, false, false, false, false, false] rfl rfl (by kernel_rfl) (fun _ _ _ h => h) (Or.inl ⟨by rfl, ?_⟩) ?_ ?_
           rotate_left
           ·intro w'
            go_simp
            with_reducible rfl
           rotate_left
           ·simp only [Act.put, List.setIfInBounds_toArray, List.set_cons_zero, List.set_cons_succ, i64_w, i32_w]
            rfl
           refine take_ (i := 2) (N := some 62) (v := ?_) (a' := ?_) #[true, false, true, false, false, false] rfl rfl (by kernel_rfl) (fun _ _ _ h => h) (Or.inl ⟨by rfl, ?_⟩) hHeld ?_ ?_
           rotate_left
           ·rintro w' ⟨s0, s1, s2⟩
            go_simp
            with_reducible rfl
           rotate_left
           ·simp only [Act.put, List.setIfInBounds_toArray, List.set_cons_zero, List.set_cons_succ, i64_w, i32_w]
            rfl
           refine one_ (i := 1) (N := some 61) #[true, true, true, false, false, false] rfl rfl (by kernel_rfl) (by decide) (fun K hK => ?_)
           refine goes_ Try.func49 (by kernel_rfl) rfl #[.slice A0 l0.length c0] (by rfl) rfl rfl z1_ ?_
           with_reducible refine (laws_toPairS.calls kj17 _ _ l0 t270 _ ?side1 ?side2 A46.out).mono ?_
           (case side1 => exact z76_)
           (case side2 => exact HC0.out)
           rintro e w55 ⟨v271, rfl, ho0, hb⟩
           refine ⟨_, rfl, ?_⟩
           have n0_ := q_ (Kd.R_elder' z9_ (Kd.R_base ho0) hb)
           have n1_ := q_ (Kd.R_elder' z10_ (Kd.R_base ho0) hb)
           have n2_ := q_ (Kd.R_lower (Kd.R_new' (Kd.R_new' ho0 (Kd.R_lt z9_)) (Kd.R_lt z10_)) (below_size z2_))
           have n3_ := q_ (blk_below (g := gb239) (o := .cells #[.int .i64 a1_0, .int .i64 a1_1, .int .i64 a1_2] 63 (0, 0)) z5_ hb)
           have n4_ := q_ (below_step z2_ hb)
           clear HO_6
           clear HO_8
           clear BK239
           clear HB
           have HO_6 := n0_
           have HO_8 := n1_
           have HO272 := n2_
           have BK239 := n3_
           have HB := n4_
           clear n0_ n1_ n2_ n3_ n4_
           (try clear hb)
           (try clear hb2)
           (try clear hk)
           (try clear hi)
           (try clear ho0)
           refine hK.out _ _ ⟨(blk_cell BK239.out 0).trans rfl, (blk_cell BK239.out 1).trans rfl, (blk_cell BK239.out 2).trans rfl⟩ (fun hHeld => ?_)
           clear hK K
           refine norm_ (a' := ?_) ?_ ?_
           rotate_left
           ·show Act.put _ (some 61) _ = _
            simp only [Act.put, List.setIfInBounds_toArray, List.set_cons_zero, List.set_cons_succ, i64_w, i32_w]
            rfl
           refine one_ (i := 3) (N := some 63) #[true, true, true, true, false, false] rfl rfl (by kernel_rfl) (by decide) (fun K hK => ?_)
           refine goes_ Try.func50 (by kernel_rfl) rfl #[.agg #[.int .i64 a1_0, .int .i64 a1_1, .int .i64 a1_2]] (by rfl) rfl rfl z1_ ?_
           with_reducible refine (laws_toMsg.calls a1_0 a1_1 a1_2 t273 t274 t275 _ A47.out).mono ?_
           rintro e w56 ⟨rfl, hb⟩
           refine ⟨_, rfl, ?_⟩
           have n0_ := q_ (Kd.R_below z9_ hb)
           have n1_ := q_ (Kd.R_below z10_ hb)
           have n2_ := q_ (Kd.R_below z16_ hb)
           have n3_ := q_ (blk_below (g := gb239) (o := .cells #[.int .i64 a1_0, .int .i64 a1_1, .int .i64 a1_2] 63 (0, 0)) z5_ hb)
           have n4_ := q_ (below_step z2_ hb)
           clear HO_6
           clear HO_8
           clear HO272
           clear BK239
           clear HB
           have HO_6 := n0_
           have HO_8 := n1_
           have HO272 := n2_
           have BK239 := n3_
           have HB := n4_
           clear n0_ n1_ n2_ n3_ n4_
           (try clear hb)
           (try clear hb2)
           (try clear hk)
           (try clear hi)
           obtain ⟨Ao57, co57, eo57⟩ := Kd.R_slice HO272.out
           (first | subst eo57 | (injection eo57 with f1_ f2_ f3_; have f4_ := f1_.symm; have f5_ := f3_.symm; clear f1_ f2_ f3_; subst f4_; subst f5_))
           refine hK.out _ _ ⟨(blk_cell BK239.out 0).trans rfl, (blk_cell BK239.out 1).trans rfl, (blk_cell BK239.out 2).trans rfl⟩ (fun hHeld => ?_)
           clear hK K
           refine norm_ (a' := ?_) ?_ ?_
           rotate_left
           ·show Act.put _ (some 63) _ = _
            simp only [Act.put, List.setIfInBounds_toArray, List.set_cons_zero, List.set_cons_succ, i64_w, i32_w]
            rfl
           refine one_ (i := 4) (N := some 64) #[true, true, true, true, true, false] rfl rfl (by kernel_rfl) (by decide) (fun K hK => ?_)
           refine goes_ Try.func51 (by kernel_rfl) rfl #[.slice Ao57 t270.length co57, .agg #[.int .i64 t273, .int .i64 t274, .int .i64 t275]] (by rfl) rfl rfl z1_ ?_
           with_reducible refine (impl_MapDo.calls kj17 _ _ t270 t273 t274 t275 t276 _ ?side1 ?side2 A48.out).mono ?_
           (case side1 => exact z85_)
           (case side2 => exact z99_)
           rintro e w58 ⟨v277, rfl, ho0, hb⟩
           refine ⟨_, rfl, ?_⟩
           have n0_ := q_ (Kd.R_elder' z9_ (Kd.R_base ho0) hb)
           have n1_ := q_ (Kd.R_elder' z10_ (Kd.R_base ho0) hb)
           have n2_ := q_ (Kd.R_elder' z16_ (Kd.R_base ho0) hb)
           have n3_ := q_ (Kd.R_lower (Kd.R_new' (Kd.R_new' (Kd.R_new' ho0 (Kd.R_lt z9_)) (Kd.R_lt z10_)) (Kd.R_lt z16_)) (below_size z2_))
           have n4_ := q_ (blk_below (g := gb239) (o := .cells #[.int .i64 a1_0, .int .i64 a1_1, .int .i64 a1_2] 63 (0, 0)) z5_ hb)
           have n5_ := q_ (below_step z2_ hb)
           clear HO_6
           clear HO_8
           clear HO272
           clear BK239
           clear HB
           have HO_6 := n0_
           have HO_8 := n1_
           have HO272 := n2_
           have HO278 := n3_
           have BK239 := n4_
           have HB := n5_
           clear n0_ n1_ n2_ n3_ n4_ n5_
           (try clear hb)
           (try clear hb2)
           (try clear hk)
           (try clear hi)
           (try clear ho0)
           refine hK.out _ _ ⟨(blk_cell BK239.out 0).trans rfl, (blk_cell BK239.out 1).trans rfl, (blk_cell BK239.out 2).trans rfl⟩ (fun hHeld => ?_)
           clear hK K
           refine norm_ (a' := ?_) ?_ ?_
           rotate_left
           ·show Act.put _ (some 64) _ = _
            simp only [Act.put, List.setIfInBounds_toArray, List.set_cons_zero, List.set_cons_succ, i64_w, i32_w]
            rfl
           refine pure_ (i := 5) (N := some 12) (v := ?_) (a' := ?_) #[true, true, true, true, true, true] rfl rfl (by kernel_rfl) (fun _ _ _ h => h) (Or.inl ⟨by rfl, ?_⟩) ?_ ?_
           rotate_left
           ·intro w'
            go_simp
            with_reducible rfl
           rotate_left
           ·simp only [Act.put, List.setIfInBounds_toArray, List.set_cons_zero, List.set_cons_succ, i64_w, i32_w]
            rfl
           refine done_ (by kernel_rfl) ?_
           obtain ⟨Ao59, co59, eo59⟩ := Kd.R_slice HO278.out
           subst eo59
           try go_wp2_with (first | ((with_reducible refine gate_callee (f := 52) rfl ?_); refine goesL_ (some 67) rfl rfl Try.func52 (by kernel_rfl) rfl #[.slice Ao59 t276.length co59, .slice Ao31 t247.length co31] rfl z1_ ?_; (with_reducible refine (laws_eqPairS.calls kj17 _ _ t276 _ _ t247 true _ ?side1 ?side2 ?side3 ?side4 A49.out).mono ?_); (case side1 => exact z86_); (case side2 => exact z100_); (case side3 => exact z87_); (case side4 => exact (Kd.R_reads' HO_6.out).2.1); rintro e w60 ⟨rfl, hb⟩; refine ⟨_, rfl, ?_⟩; have n0_ := q_ (Kd.R_below z9_ hb); have n1_ := q_ (Kd.R_below z10_ hb); have n2_ := q_ (Kd.R_below z16_ hb); have n3_ := q_ (Kd.R_below z43_ hb); have n4_ := q_ (below_step z0_ hb); clear HO_6; clear HO_8; clear HO272; clear HO278; clear HB; have HO_6 := n0_; have HO_8 := n1_; have HO272 := n2_; have HO278 := n3_; have HB := n4_; clear n0_ n1_ n2_ n3_ n4_; (try clear hb); (try clear hb2); (try clear hk); (try clear hi)) | ((with_reducible refine gate_callee (f := 54) rfl ?_); refine goesL_ (some 71) rfl rfl Try.func54 (by kernel_rfl) rfl #[.slice Ao30 t268.length co30, .int .i64 1] rfl z13_ ?_; (with_reducible refine (laws_heldPairS.calls kj17 _ _ t268 1 t280 _ ?side1 ?side2 A51.out).mono ?_); (case side1 => exact z78_); (case side2 => exact z79_); rintro e w' ⟨rfl, ⟨nd, rfl⟩⟩; refine ⟨_, rfl, ?_⟩))
           go_ret
           exact ⟨z4_, z0_⟩
          ·rw [if_neg c52] at H
           have c52b0 : decide (t280 < 0) = false := decide_eq_false c52
           clear c52
           by_cases c61 : t280 = t267
           ·rw [if_pos c61] at H
            have c61b0 : (t280 == t267) = true := beq_iff_eq.mpr c61
            have c61b1 : (t280 != t267) = false := bne_eq_false_iff_eq.mpr c61
            clear c61
            obtain rfl := Option.some.inj H
            try go_wp2_with (first | ((with_reducible refine gate_callee (f := 53) rfl ?_); refine goesL_ (some 51) rfl rfl Try.func53 (by kernel_rfl) rfl #[.slice Ao30 t256.length co30, .int .i64 1] rfl z1_ ?_; (with_reducible refine (laws_markPairS.calls kj17 (fun k_ => some k_ = (.slice Ao30 t256.length co30 : Value).ownBlock) (.slice Ao30 t256.length co30) t256 1 t267 t268 w _ ?side1 ?side2 A41.out).mono ?_); (case side1 => exact z81_); (case side2 => exact z94_); rintro e w62 ⟨rfl, hy0, hb, hkp⟩; refine ⟨_, rfl, ?_⟩; have n0_ := q_ (Kd.R_mono (ok' := fun k_ => some k_ ≠ (.slice Ao30 t256.length co30 : Value).ownBlock) (Kd.R_keptB (HO_6.out) hkp (fun k_ hk_ hs_ => (hk_) hs_)) (fun k_ hk_ => hk_.1)); have n1_ := q_ (Kd.R_reok rfl hy0 (fun k_ e_ => HO_8.out.1 k_ e_)); have n2_ := q_ (blk_kept z5_ hkp (fun hs_ => (fun e_ => (Kd.R_ne HO_8.out BK239.out (by decide)) e_) hs_)); have n3_ := q_ (hb); clear HO_6; clear HO_8; clear BK239; clear HB; have HO_6 := n0_; have HO_8 := n1_; have BK239 := n2_; have HB := n3_; clear n0_ n1_ n2_ n3_; (try clear hb); (try clear hkp); (try clear hy0)) | ((with_reducible refine gate_callee (f := 54) rfl ?_); refine goesL_ (some 54) rfl rfl Try.func54 (by kernel_rfl) rfl #[.slice Ao30 t268.length co30, .int .i64 1] rfl z13_ ?_; (with_reducible refine (laws_heldPairS.calls kj17 _ _ t268 1 t269 _ ?side1 ?side2 A42.out).mono ?_); (case side1 => exact z78_); (case side2 => exact z79_); rintro e w' ⟨rfl, ⟨nd, rfl⟩⟩; refine ⟨_, rfl, ?_⟩))
            (try (rw [drewN_self w62]; generalize hq_ : World.drewN w62 _ = w62; have n0_ : Aside0 (Kd.R k147 147 w62 w.heap.size (fun k_ => some k_ ≠ (.slice Ao30 t256.length co30 : Value).ownBlock) (.slice Ao31 t247.length co31) t247) := ⟨z75_⟩; have n1_ : Aside0 (Kd.R k147 147 w62 w.heap.size (fun k_ => some k_ ≠ (.slice Ao31 t247.length co31 : Value).ownBlock) (.slice Ao30 t256.length co30) t268) := ⟨z74_⟩; have n2_ : Aside0 (w62.heap[gb239]? = some (.cells #[.int .i64 a1_0, .int .i64 a1_1, .int .i64 a1_2] 63 (0, 0))) := ⟨z72_⟩; have n3_ : Aside0 (Below w.heap.size w w62) := ⟨z73_⟩; clear HO_6 HO_8 BK239 HB hq_; have HO_6 := n0_; have HO_8 := n1_; have BK239 := n2_; have HB := n3_; clear n0_ n1_ n2_ n3_))
            have n0_ := q_ (Kd.R_drew HO_6.out)
            have n1_ := q_ (Kd.R_drew HO_8.out)
            have n2_ := q_ (blk_drew BK239.out)
            have n3_ := q_ (below_drew1 HB.out)
            clear HO_6
            clear HO_8
            clear BK239
            clear HB
            have HO_6 := n0_
            have HO_8 := n1_
            have BK239 := n2_
            have HB := n3_
            clear n0_ n1_ n2_ n3_
            refine start_ (n := 6) (S := fun w' => w'.cell? ⟨gb239, 0, none⟩ = some (.int .i64 a1_0) ∧ w'.cell? ⟨gb239, 1, none⟩ = some (.int .i64 a1_1) ∧ w'.cell? ⟨gb239, 2, none⟩ = some (.int .i64 a1_2)) (ds := []) #[false, false, false, false, false, false] (by kernel_rfl) rfl rfl ⟨(blk_cell BK239.out 0).trans rfl, (blk_cell BK239.out 1).trans rfl, (blk_cell BK239.out 2).trans rfl⟩ (fun hHeld => ?_)
            generalize w62.drew = w63 at HO_6 HO_8 BK239 HB hHeld ⊢
            refine pure_ (i := 0) (N := some 60) (v := ?_) (a' := ?_) #[true, false, false, false, false, false] rfl rfl (by kernel_rfl) (fun _ _ _ h => h) (Or.inl ⟨by rfl, ?_⟩) ?_ ?_
            rotate_left
            ·intro w'
             go_simp
             with_reducible rfl
            rotate_left
            ·simp only [Act.put, List.setIfInBounds_toArray, List.set_cons_zero, List.set_cons_succ, i64_w, i32_w]
             rfl
            refine take_ (i := 2) (N := some 62) (v := ?_) (a' := ?_) #[true, false, true, false, false, false] rfl rfl (by kernel_rfl) (fun _ _ _ h => h) (Or.inl ⟨by rfl, ?_⟩) hHeld ?_ ?_
            rotate_left
            ·rintro w' ⟨s0, s1, s2⟩
             go_simp
             with_reducible rfl
            rotate_left
            ·simp only [Act.put, List.setIfInBounds_toArray, List.set_cons_zero, List.set_cons_succ, i64_w, i32_w]
             rfl
            refine one_ (i := 1) (N := some 61) #[true, true, true, false, false, false] rfl rfl (by kernel_rfl) (by decide) (fun K hK => ?_)
            refine goes_ Try.func49 (by kernel_rfl) rfl #[.slice A0 l0.length c0] (by rfl) rfl rfl z1_ ?_
            with_reducible refine (laws_toPairS.calls kj17 _ _ l0 t270 _ ?side1 ?side2 A46.out).mono ?_
            (case side1 => exact z76_)
            (case side2 => exact HC0.out)
            rintro e w64 ⟨v271, rfl, ho0, hb⟩
            refine ⟨_, rfl, ?_⟩
            have n0_ := q_ (Kd.R_elder' z9_ (Kd.R_base ho0) hb)
            have n1_ := q_ (Kd.R_elder' z10_ (Kd.R_base ho0) hb)
            have n2_ := q_ (Kd.R_lower (Kd.R_new' (Kd.R_new' ho0 (Kd.R_lt z9_)) (Kd.R_lt z10_)) (below_size z2_))
            have n3_ := q_ (blk_below (g := gb239) (o := .cells #[.int .i64 a1_0, .int .i64 a1_1, .int .i64 a1_2] 63 (0, 0)) z5_ hb)
            have n4_ := q_ (below_step z2_ hb)
            clear HO_6
            clear HO_8
            clear BK239
            clear HB
            have HO_6 := n0_
            have HO_8 := n1_
            have HO272 := n2_
            have BK239 := n3_
            have HB := n4_
            clear n0_ n1_ n2_ n3_ n4_
            (try clear hb)
            (try clear hb2)
            (try clear hk)
            (try clear hi)
            (try clear ho0)
            refine hK.out _ _ ⟨(blk_cell BK239.out 0).trans rfl, (blk_cell BK239.out 1).trans rfl, (blk_cell BK239.out 2).trans rfl⟩ (fun hHeld => ?_)
            clear hK K
            refine norm_ (a' := ?_) ?_ ?_
            rotate_left
            ·show Act.put _ (some 61) _ = _
             simp only [Act.put, List.setIfInBounds_toArray, List.set_cons_zero, List.set_cons_succ, i64_w, i32_w]
             rfl
            refine one_ (i := 3) (N := some 63) #[true, true, true, true, false, false] rfl rfl (by kernel_rfl) (by decide) (fun K hK => ?_)
            refine goes_ Try.func50 (by kernel_rfl) rfl #[.agg #[.int .i64 a1_0, .int .i64 a1_1, .int .i64 a1_2]] (by rfl) rfl rfl z1_ ?_
            with_reducible refine (laws_toMsg.calls a1_0 a1_1 a1_2 t273 t274 t275 _ A47.out).mono ?_
            rintro e w65 ⟨rfl, hb⟩
            refine ⟨_, rfl, ?_⟩
            have n0_ := q_ (Kd.R_below z9_ hb)
            have n1_ := q_ (Kd.R_below z10_ hb)
            have n2_ := q_ (Kd.R_below z16_ hb)
            have n3_ := q_ (blk_below (g := gb239) (o := .cells #[.int .i64 a1_0, .int .i64 a1_1, .int .i64 a1_2] 63 (0, 0)) z5_ hb)
            have n4_ := q_ (below_step z2_ hb)
            clear HO_6
            clear HO_8
            clear HO272
            clear BK239
            clear HB
            have HO_6 := n0_
            have HO_8 := n1_
            have HO272 := n2_
            have BK239 := n3_
            have HB := n4_
            clear n0_ n1_ n2_ n3_ n4_
            (try clear hb)
            (try clear hb2)
            (try clear hk)
            (try clear hi)
            obtain ⟨Ao66, co66, eo66⟩ := Kd.R_slice HO272.out
            (first | subst eo66 | (injection eo66 with f1_ f2_ f3_; have f4_ := f1_.symm; have f5_ := f3_.symm; clear f1_ f2_ f3_; subst f4_; subst f5_))
            refine hK.out _ _ ⟨(blk_cell BK239.out 0).trans rfl, (blk_cell BK239.out 1).trans rfl, (blk_cell BK239.out 2).trans rfl⟩ (fun hHeld => ?_)
            clear hK K
            refine norm_ (a' := ?_) ?_ ?_
            rotate_left
            ·show Act.put _ (some 63) _ = _
             simp only [Act.put, List.setIfInBounds_toArray, List.set_cons_zero, List.set_cons_succ, i64_w, i32_w]
             rfl
            refine one_ (i := 4) (N := some 64) #[true, true, true, true, true, false] rfl rfl (by kernel_rfl) (by decide) (fun K hK => ?_)
            refine goes_ Try.func51 (by kernel_rfl) rfl #[.slice Ao66 t270.length co66, .agg #[.int .i64 t273, .int .i64 t274, .int .i64 t275]] (by rfl) rfl rfl z1_ ?_
            with_reducible refine (impl_MapDo.calls kj17 _ _ t270 t273 t274 t275 t276 _ ?side1 ?side2 A48.out).mono ?_
            (case side1 => exact z85_)
            (case side2 => exact z99_)
            rintro e w67 ⟨v277, rfl, ho0, hb⟩
            refine ⟨_, rfl, ?_⟩
            have n0_ := q_ (Kd.R_elder' z9_ (Kd.R_base ho0) hb)
            have n1_ := q_ (Kd.R_elder' z10_ (Kd.R_base ho0) hb)
            have n2_ := q_ (Kd.R_elder' z16_ (Kd.R_base ho0) hb)
            have n3_ := q_ (Kd.R_lower (Kd.R_new' (Kd.R_new' (Kd.R_new' ho0 (Kd.R_lt z9_)) (Kd.R_lt z10_)) (Kd.R_lt z16_)) (below_size z2_))
            have n4_ := q_ (blk_below (g := gb239) (o := .cells #[.int .i64 a1_0, .int .i64 a1_1, .int .i64 a1_2] 63 (0, 0)) z5_ hb)
            have n5_ := q_ (below_step z2_ hb)
            clear HO_6
            clear HO_8
            clear HO272
            clear BK239
            clear HB
            have HO_6 := n0_
            have HO_8 := n1_
            have HO272 := n2_
            have HO278 := n3_
            have BK239 := n4_
            have HB := n5_
            clear n0_ n1_ n2_ n3_ n4_ n5_
            (try clear hb)
            (try clear hb2)
            (try clear hk)
            (try clear hi)
            (try clear ho0)
            refine hK.out _ _ ⟨(blk_cell BK239.out 0).trans rfl, (blk_cell BK239.out 1).trans rfl, (blk_cell BK239.out 2).trans rfl⟩ (fun hHeld => ?_)
            clear hK K
            refine norm_ (a' := ?_) ?_ ?_
            rotate_left
            ·show Act.put _ (some 64) _ = _
             simp only [Act.put, List.setIfInBounds_toArray, List.set_cons_zero, List.set_cons_succ, i64_w, i32_w]
             rfl
            refine pure_ (i := 5) (N := some 12) (v := ?_) (a' := ?_) #[true, true, true, true, true, true] rfl rfl (by kernel_rfl) (fun _ _ _ h => h) (Or.inl ⟨by rfl, ?_⟩) ?_ ?_
            rotate_left
            ·intro w'
             go_simp
             with_reducible rfl
            rotate_left
            ·simp only [Act.put, List.setIfInBounds_toArray, List.set_cons_zero, List.set_cons_succ, i64_w, i32_w]
             rfl
            refine done_ (by kernel_rfl) ?_
            obtain ⟨Ao68, co68, eo68⟩ := Kd.R_slice HO278.out
            subst eo68
            try go_wp2_with (first | ((with_reducible refine gate_callee (f := 52) rfl ?_); refine goesL_ (some 67) rfl rfl Try.func52 (by kernel_rfl) rfl #[.slice Ao68 t276.length co68, .slice Ao31 t247.length co31] rfl z1_ ?_; (with_reducible refine (laws_eqPairS.calls kj17 _ _ t276 _ _ t247 true _ ?side1 ?side2 ?side3 ?side4 A49.out).mono ?_); (case side1 => exact z86_); (case side2 => exact z100_); (case side3 => exact z87_); (case side4 => exact (Kd.R_reads' HO_6.out).2.1); rintro e w69 ⟨rfl, hb⟩; refine ⟨_, rfl, ?_⟩; have n0_ := q_ (Kd.R_below z9_ hb); have n1_ := q_ (Kd.R_below z10_ hb); have n2_ := q_ (Kd.R_below z16_ hb); have n3_ := q_ (Kd.R_below z43_ hb); have n4_ := q_ (below_step z0_ hb); clear HO_6; clear HO_8; clear HO272; clear HO278; clear HB; have HO_6 := n0_; have HO_8 := n1_; have HO272 := n2_; have HO278 := n3_; have HB := n4_; clear n0_ n1_ n2_ n3_ n4_; (try clear hb); (try clear hb2); (try clear hk); (try clear hi)) | ((with_reducible refine gate_callee (f := 54) rfl ?_); refine goesL_ (some 71) rfl rfl Try.func54 (by kernel_rfl) rfl #[.slice Ao30 t268.length co30, .int .i64 1] rfl z13_ ?_; (with_reducible refine (laws_heldPairS.calls kj17 _ _ t268 1 t280 _ ?side1 ?side2 A51.out).mono ?_); (case side1 => exact z78_); (case side2 => exact z79_); rintro e w' ⟨rfl, ⟨nd, rfl⟩⟩; refine ⟨_, rfl, ?_⟩))
            go_ret
            exact ⟨z4_, z0_⟩
           ·rw [if_neg c61] at H
            have c61b0 : (t280 == t267) = false := beq_eq_false_iff_ne.mpr c61
            have c61b1 : (t280 != t267) = true := bne_iff_ne.mpr c61
            obtain rfl := Option.some.inj H
            try go_wp2_with (first | ((with_reducible refine gate_callee (f := 53) rfl ?_); refine goesL_ (some 51) rfl rfl Try.func53 (by kernel_rfl) rfl #[.slice Ao30 t256.length co30, .int .i64 1] rfl z1_ ?_; (with_reducible refine (laws_markPairS.calls kj17 (fun k_ => some k_ = (.slice Ao30 t256.length co30 : Value).ownBlock) (.slice Ao30 t256.length co30) t256 1 t267 t268 w _ ?side1 ?side2 A41.out).mono ?_); (case side1 => exact z81_); (case side2 => exact z94_); rintro e w70 ⟨rfl, hy0, hb, hkp⟩; refine ⟨_, rfl, ?_⟩; have n0_ := q_ (Kd.R_mono (ok' := fun k_ => some k_ ≠ (.slice Ao30 t256.length co30 : Value).ownBlock) (Kd.R_keptB (HO_6.out) hkp (fun k_ hk_ hs_ => (hk_) hs_)) (fun k_ hk_ => hk_.1)); have n1_ := q_ (Kd.R_reok rfl hy0 (fun k_ e_ => HO_8.out.1 k_ e_)); have n2_ := q_ (blk_kept z5_ hkp (fun hs_ => (fun e_ => (Kd.R_ne HO_8.out BK239.out (by decide)) e_) hs_)); have n3_ := q_ (hb); clear HO_6; clear HO_8; clear BK239; clear HB; have HO_6 := n0_; have HO_8 := n1_; have BK239 := n2_; have HB := n3_; clear n0_ n1_ n2_ n3_; (try clear hb); (try clear hkp); (try clear hy0)) | ((with_reducible refine gate_callee (f := 54) rfl ?_); refine goesL_ (some 54) rfl rfl Try.func54 (by kernel_rfl) rfl #[.slice Ao30 t268.length co30, .int .i64 1] rfl z13_ ?_; (with_reducible refine (laws_heldPairS.calls kj17 _ _ t268 1 t269 _ ?side1 ?side2 A42.out).mono ?_); (case side1 => exact z78_); (case side2 => exact z79_); rintro e w' ⟨rfl, ⟨nd, rfl⟩⟩; refine ⟨_, rfl, ?_⟩))
            (try (rw [drewN_self w70]; generalize hq_ : World.drewN w70 _ = w70; have n0_ : Aside0 (Kd.R k147 147 w70 w.heap.size (fun k_ => some k_ ≠ (.slice Ao30 t256.length co30 : Value).ownBlock) (.slice Ao31 t247.length co31) t247) := ⟨z75_⟩; have n1_ : Aside0 (Kd.R k147 147 w70 w.heap.size (fun k_ => some k_ ≠ (.slice Ao31 t247.length co31 : Value).ownBlock) (.slice Ao30 t256.length co30) t268) := ⟨z74_⟩; have n2_ : Aside0 (w70.heap[gb239]? = some (.cells #[.int .i64 a1_0, .int .i64 a1_1, .int .i64 a1_2] 63 (0, 0))) := ⟨z72_⟩; have n3_ : Aside0 (Below w.heap.size w w70) := ⟨z73_⟩; clear HO_6 HO_8 BK239 HB hq_; have HO_6 := n0_; have HO_8 := n1_; have BK239 := n2_; have HB := n3_; clear n0_ n1_ n2_ n3_))
            have n0_ := q_ (Kd.R_drew HO_6.out)
            have n1_ := q_ (Kd.R_drew HO_8.out)
            have n2_ := q_ (blk_drew BK239.out)
            have n3_ := q_ (below_drew1 HB.out)
            clear HO_6
            clear HO_8
            clear BK239
            clear HB
            have HO_6 := n0_
            have HO_8 := n1_
            have BK239 := n2_
            have HB := n3_
            clear n0_ n1_ n2_ n3_
            refine start_ (n := 6) (S := fun w' => w'.cell? ⟨gb239, 0, none⟩ = some (.int .i64 a1_0) ∧ w'.cell? ⟨gb239, 1, none⟩ = some (.int .i64 a1_1) ∧ w'.cell? ⟨gb239, 2, none⟩ = some (.int .i64 a1_2)) (ds := []) #[false, false, false, false, false, false] (by kernel_rfl) rfl rfl ⟨(blk_cell BK239.out 0).trans rfl, (blk_cell BK239.out 1).trans rfl, (blk_cell BK239.out 2).trans rfl⟩ (fun hHeld => ?_)
            generalize w70.drew = w71 at HO_6 HO_8 BK239 HB hHeld ⊢
            refine pure_ (i := 0) (N := some 60) (v := ?_) (a' := ?_) #[true, false, false, false, false, false] rfl rfl (by kernel_rfl) (fun _ _ _ h => h) (Or.inl ⟨by rfl, ?_⟩) ?_ ?_
            rotate_left
            ·intro w'
             go_simp
             with_reducible rfl
            rotate_left
            ·simp only [Act.put, List.setIfInBounds_toArray, List.set_cons_zero, List.set_cons_succ, i64_w, i32_w]
             rfl
            refine take_ (i := 2) (N := some 62) (v := ?_) (a' := ?_) #[true, false, true, false, false, false] rfl rfl (by kernel_rfl) (fun _ _ _ h => h) (Or.inl ⟨by rfl, ?_⟩) hHeld ?_ ?_
            rotate_left
            ·rintro w' ⟨s0, s1, s2⟩
             go_simp
             with_reducible rfl
            rotate_left
            ·simp only [Act.put, List.setIfInBounds_toArray, List.set_cons_zero, List.set_cons_succ, i64_w, i32_w]
             rfl
            refine one_ (i := 1) (N := some 61) #[true, true, true, false, false, false] rfl rfl (by kernel_rfl) (by decide) (fun K hK => ?_)
            refine goes_ Try.func49 (by kernel_rfl) rfl #[.slice A0 l0.length c0] (by rfl) rfl rfl z1_ ?_
            with_reducible refine (laws_toPairS.calls kj17 _ _ l0 t270 _ ?side1 ?side2 A46.out).mono ?_
            (case side1 => exact z76_)
            (case side2 => exact HC0.out)
            rintro e w72 ⟨v271, rfl, ho0, hb⟩
            refine ⟨_, rfl, ?_⟩
            have n0_ := q_ (Kd.R_elder' z9_ (Kd.R_base ho0) hb)
            have n1_ := q_ (Kd.R_elder' z10_ (Kd.R_base ho0) hb)
            have n2_ := q_ (Kd.R_lower (Kd.R_new' (Kd.R_new' ho0 (Kd.R_lt z9_)) (Kd.R_lt z10_)) (below_size z2_))
            have n3_ := q_ (blk_below (g := gb239) (o := .cells #[.int .i64 a1_0, .int .i64 a1_1, .int .i64 a1_2] 63 (0, 0)) z5_ hb)
            have n4_ := q_ (below_step z2_ hb)
            clear HO_6
            clear HO_8
            clear BK239
            clear HB
            have HO_6 := n0_
            have HO_8 := n1_
            have HO272 := n2_
            have BK239 := n3_
            have HB := n4_
            clear n0_ n1_ n2_ n3_ n4_
            (try clear hb)
            (try clear hb2)
            (try clear hk)
            (try clear hi)
            (try clear ho0)
            refine hK.out _ _ ⟨(blk_cell BK239.out 0).trans rfl, (blk_cell BK239.out 1).trans rfl, (blk_cell BK239.out 2).trans rfl⟩ (fun hHeld => ?_)
            clear hK K
            refine norm_ (a' := ?_) ?_ ?_
            rotate_left
            ·show Act.put _ (some 61) _ = _
             simp only [Act.put, List.setIfInBounds_toArray, List.set_cons_zero, List.set_cons_succ, i64_w, i32_w]
             rfl
            refine one_ (i := 3) (N := some 63) #[true, true, true, true, false, false] rfl rfl (by kernel_rfl) (by decide) (fun K hK => ?_)
            refine goes_ Try.func50 (by kernel_rfl) rfl #[.agg #[.int .i64 a1_0, .int .i64 a1_1, .int .i64 a1_2]] (by rfl) rfl rfl z1_ ?_
            with_reducible refine (laws_toMsg.calls a1_0 a1_1 a1_2 t273 t274 t275 _ A47.out).mono ?_
            rintro e w73 ⟨rfl, hb⟩
            refine ⟨_, rfl, ?_⟩
            have n0_ := q_ (Kd.R_below z9_ hb)
            have n1_ := q_ (Kd.R_below z10_ hb)
            have n2_ := q_ (Kd.R_below z16_ hb)
            have n3_ := q_ (blk_below (g := gb239) (o := .cells #[.int .i64 a1_0, .int .i64 a1_1, .int .i64 a1_2] 63 (0, 0)) z5_ hb)
            have n4_ := q_ (below_step z2_ hb)
            clear HO_6
            clear HO_8
            clear HO272
            clear BK239
            clear HB
            have HO_6 := n0_
            have HO_8 := n1_
            have HO272 := n2_
            have BK239 := n3_
            have HB := n4_
            clear n0_ n1_ n2_ n3_ n4_
            (try clear hb)
            (try clear hb2)
            (try clear hk)
            (try clear hi)
            obtain ⟨Ao74, co74, eo74⟩ := Kd.R_slice HO272.out
            (first | subst eo74 | (injection eo74 with f1_ f2_ f3_; have f4_ := f1_.symm; have f5_ := f3_.symm; clear f1_ f2_ f3_; subst f4_; subst f5_))
            refine hK.out _ _ ⟨(blk_cell BK239.out 0).trans rfl, (blk_cell BK239.out 1).trans rfl, (blk_cell BK239.out 2).trans rfl⟩ (fun hHeld => ?_)
            clear hK K
            refine norm_ (a' := ?_) ?_ ?_
            rotate_left
            ·show Act.put _ (some 63) _ = _
             simp only [Act.put, List.setIfInBounds_toArray, List.set_cons_zero, List.set_cons_succ, i64_w, i32_w]
             rfl
            refine one_ (i := 4) (N := some 64) #[true, true, true, true, true, false] rfl rfl (by kernel_rfl) (by decide) (fun K hK => ?_)
            refine goes_ Try.func51 (by kernel_rfl) rfl #[.slice Ao74 t270.length co74, .agg #[.int .i64 t273, .int .i64 t274, .int .i64 t275]] (by rfl) rfl rfl z1_ ?_
            with_reducible refine (impl_MapDo.calls kj17 _ _ t270 t273 t274 t275 t276 _ ?side1 ?side2 A48.out).mono ?_
            (case side1 => exact z85_)
            (case side2 => exact z99_)
            rintro e w75 ⟨v277, rfl, ho0, hb⟩
            refine ⟨_, rfl, ?_⟩
            have n0_ := q_ (Kd.R_elder' z9_ (Kd.R_base ho0) hb)
            have n1_ := q_ (Kd.R_elder' z10_ (Kd.R_base ho0) hb)
            have n2_ := q_ (Kd.R_elder' z16_ (Kd.R_base ho0) hb)
            have n3_ := q_ (Kd.R_lower (Kd.R_new' (Kd.R_new' (Kd.R_new' ho0 (Kd.R_lt z9_)) (Kd.R_lt z10_)) (Kd.R_lt z16_)) (below_size z2_))
            have n4_ := q_ (blk_below (g := gb239) (o := .cells #[.int .i64 a1_0, .int .i64 a1_1, .int .i64 a1_2] 63 (0, 0)) z5_ hb)
            have n5_ := q_ (below_step z2_ hb)
            clear HO_6
            clear HO_8
            clear HO272
            clear BK239
            clear HB
            have HO_6 := n0_
            have HO_8 := n1_
            have HO272 := n2_
            have HO278 := n3_
            have BK239 := n4_
            have HB := n5_
            clear n0_ n1_ n2_ n3_ n4_ n5_
            (try clear hb)
            (try clear hb2)
            (try clear hk)
            (try clear hi)
            (try clear ho0)
            refine hK.out _ _ ⟨(blk_cell BK239.out 0).trans rfl, (blk_cell BK239.out 1).trans rfl, (blk_cell BK239.out 2).trans rfl⟩ (fun hHeld => ?_)
            clear hK K
            refine norm_ (a' := ?_) ?_ ?_
            rotate_left
            ·show Act.put _ (some 64) _ = _
             simp only [Act.put, List.setIfInBounds_toArray, List.set_cons_zero, List.set_cons_succ, i64_w, i32_w]
             rfl
            refine pure_ (i := 5) (N := some 12) (v := ?_) (a' := ?_) #[true, true, true, true, true, true] rfl rfl (by kernel_rfl) (fun _ _ _ h => h) (Or.inl ⟨by rfl, ?_⟩) ?_ ?_
            rotate_left
            ·intro w'
             go_simp
             with_reducible rfl
            rotate_left
            ·simp only [Act.put, List.setIfInBounds_toArray, List.set_cons_zero, List.set_cons_succ, i64_w, i32_w]
             rfl
            refine done_ (by kernel_rfl) ?_
            obtain ⟨Ao76, co76, eo76⟩ := Kd.R_slice HO278.out
            subst eo76
            try go_wp2_with (first | ((with_reducible refine gate_callee (f := 52) rfl ?_); refine goesL_ (some 67) rfl rfl Try.func52 (by kernel_rfl) rfl #[.slice Ao76 t276.length co76, .slice Ao31 t247.length co31] rfl z1_ ?_; (with_reducible refine (laws_eqPairS.calls kj17 _ _ t276 _ _ t247 true _ ?side1 ?side2 ?side3 ?side4 A49.out).mono ?_); (case side1 => exact z86_); (case side2 => exact z100_); (case side3 => exact z87_); (case side4 => exact (Kd.R_reads' HO_6.out).2.1); rintro e w77 ⟨rfl, hb⟩; refine ⟨_, rfl, ?_⟩; have n0_ := q_ (Kd.R_below z9_ hb); have n1_ := q_ (Kd.R_below z10_ hb); have n2_ := q_ (Kd.R_below z16_ hb); have n3_ := q_ (Kd.R_below z43_ hb); have n4_ := q_ (below_step z0_ hb); clear HO_6; clear HO_8; clear HO272; clear HO278; clear HB; have HO_6 := n0_; have HO_8 := n1_; have HO272 := n2_; have HO278 := n3_; have HB := n4_; clear n0_ n1_ n2_ n3_ n4_; (try clear hb); (try clear hb2); (try clear hk); (try clear hi)) | ((with_reducible refine gate_callee (f := 54) rfl ?_); refine goesL_ (some 71) rfl rfl Try.func54 (by kernel_rfl) rfl #[.slice Ao30 t268.length co30, .int .i64 1] rfl z13_ ?_; (with_reducible refine (laws_heldPairS.calls kj17 _ _ t268 1 t280 _ ?side1 ?side2 A51.out).mono ?_); (case side1 => exact z78_); (case side2 => exact z79_); rintro e w' ⟨rfl, ⟨nd, rfl⟩⟩; refine ⟨_, rfl, ?_⟩))
            go_ret
            exact ⟨z4_, z0_⟩
         ·replace c50 := Bool.eq_false_iff.mpr c50
          subst c50
          have H1 : (some false) = some r := by rw [if_neg (show ¬ (false = true) by decide)] at H; exact H
          clear H
          have H := H1
          clear H1
          obtain rfl := Option.some.inj H
          try go_wp2_with (first | ((with_reducible refine gate_callee (f := 53) rfl ?_); refine goesL_ (some 51) rfl rfl Try.func53 (by kernel_rfl) rfl #[.slice Ao30 t256.length co30, .int .i64 1] rfl z1_ ?_; (with_reducible refine (laws_markPairS.calls kj17 (fun k_ => some k_ = (.slice Ao30 t256.length co30 : Value).ownBlock) (.slice Ao30 t256.length co30) t256 1 t267 t268 w _ ?side1 ?side2 A41.out).mono ?_); (case side1 => exact z81_); (case side2 => exact z94_); rintro e w78 ⟨rfl, hy0, hb, hkp⟩; refine ⟨_, rfl, ?_⟩; have n0_ := q_ (Kd.R_mono (ok' := fun k_ => some k_ ≠ (.slice Ao30 t256.length co30 : Value).ownBlock) (Kd.R_keptB (HO_6.out) hkp (fun k_ hk_ hs_ => (hk_) hs_)) (fun k_ hk_ => hk_.1)); have n1_ := q_ (Kd.R_reok rfl hy0 (fun k_ e_ => HO_8.out.1 k_ e_)); have n2_ := q_ (blk_kept z5_ hkp (fun hs_ => (fun e_ => (Kd.R_ne HO_8.out BK239.out (by decide)) e_) hs_)); have n3_ := q_ (hb); clear HO_6; clear HO_8; clear BK239; clear HB; have HO_6 := n0_; have HO_8 := n1_; have BK239 := n2_; have HB := n3_; clear n0_ n1_ n2_ n3_; (try clear hb); (try clear hkp); (try clear hy0)) | ((with_reducible refine gate_callee (f := 54) rfl ?_); refine goesL_ (some 54) rfl rfl Try.func54 (by kernel_rfl) rfl #[.slice Ao30 t268.length co30, .int .i64 1] rfl z13_ ?_; (with_reducible refine (laws_heldPairS.calls kj17 _ _ t268 1 t269 _ ?side1 ?side2 A42.out).mono ?_); (case side1 => exact z78_); (case side2 => exact z79_); rintro e w' ⟨rfl, ⟨nd, rfl⟩⟩; refine ⟨_, rfl, ?_⟩))
          (try (rw [drewN_self w78]; generalize hq_ : World.drewN w78 _ = w78; have n0_ : Aside0 (Kd.R k147 147 w78 w.heap.size (fun k_ => some k_ ≠ (.slice Ao30 t256.length co30 : Value).ownBlock) (.slice Ao31 t247.length co31) t247) := ⟨z75_⟩; have n1_ : Aside0 (Kd.R k147 147 w78 w.heap.size (fun k_ => some k_ ≠ (.slice Ao31 t247.length co31 : Value).ownBlock) (.slice Ao30 t256.length co30) t268) := ⟨z74_⟩; have n2_ : Aside0 (w78.heap[gb239]? = some (.cells #[.int .i64 a1_0, .int .i64 a1_1, .int .i64 a1_2] 63 (0, 0))) := ⟨z72_⟩; have n3_ : Aside0 (Below w.heap.size w w78) := ⟨z73_⟩; clear HO_6 HO_8 BK239 HB hq_; have HO_6 := n0_; have HO_8 := n1_; have BK239 := n2_; have HB := n3_; clear n0_ n1_ n2_ n3_))
          have n0_ := q_ (Kd.R_drew HO_6.out)
          have n1_ := q_ (Kd.R_drew HO_8.out)
          have n2_ := q_ (blk_drew BK239.out)
          have n3_ := q_ (below_drew1 HB.out)
          clear HO_6
          clear HO_8
          clear BK239
          clear HB
          have HO_6 := n0_
          have HO_8 := n1_
          have BK239 := n2_
          have HB := n3_
          clear n0_ n1_ n2_ n3_
          refine start_ (n := 6) (S := fun w' => w'.cell? ⟨gb239, 0, none⟩ = some (.int .i64 a1_0) ∧ w'.cell? ⟨gb239, 1, none⟩ = some (.int .i64 a1_1) ∧ w'.cell? ⟨gb239, 2, none⟩ = some (.int .i64 a1_2)) (ds := []) #[false, false, false, false, false, false] (by kernel_rfl) rfl rfl ⟨(blk_cell BK239.out 0).trans rfl, (blk_cell BK239.out 1).trans rfl, (blk_cell BK239.out 2).trans rfl⟩ (fun hHeld => ?_)
          generalize w78.drew = w79 at HO_6 HO_8 BK239 HB hHeld ⊢
          refine pure_ (i := 0) (N := some 60) (v := ?_) (a' := ?_) #[true, false, false, false, false, false] rfl rfl (by kernel_rfl) (fun _ _ _ h => h) (Or.inl ⟨by rfl, ?_⟩) ?_ ?_
          rotate_left
          ·intro w'
           go_simp
           with_reducible rfl
          rotate_left
          ·simp only [Act.put, List.setIfInBounds_toArray, List.set_cons_zero, List.set_cons_succ, i64_w, i32_w]
           rfl
          refine take_ (i := 2) (N := some 62) (v := ?_) (a' := ?_) #[true, false, true, false, false, false] rfl rfl (by kernel_rfl) (fun _ _ _ h => h) (Or.inl ⟨by rfl, ?_⟩) hHeld ?_ ?_
          rotate_left
          ·rintro w' ⟨s0, s1, s2⟩
           go_simp
           with_reducible rfl
          rotate_left
          ·simp only [Act.put, List.setIfInBounds_toArray, List.set_cons_zero, List.set_cons_succ, i64_w, i32_w]
           rfl
          refine one_ (i := 1) (N := some 61) #[true, true, true, false, false, false] rfl rfl (by kernel_rfl) (by decide) (fun K hK => ?_)
          refine goes_ Try.func49 (by kernel_rfl) rfl #[.slice A0 l0.length c0] (by rfl) rfl rfl z1_ ?_
          with_reducible refine (laws_toPairS.calls kj17 _ _ l0 t270 _ ?side1 ?side2 A46.out).mono ?_
          (case side1 => exact z76_)
          (case side2 => exact HC0.out)
          rintro e w80 ⟨v271, rfl, ho0, hb⟩
          refine ⟨_, rfl, ?_⟩
          have n0_ := q_ (Kd.R_elder' z9_ (Kd.R_base ho0) hb)
          have n1_ := q_ (Kd.R_elder' z10_ (Kd.R_base ho0) hb)
          have n2_ := q_ (Kd.R_lower (Kd.R_new' (Kd.R_new' ho0 (Kd.R_lt z9_)) (Kd.R_lt z10_)) (below_size z2_))
          have n3_ := q_ (blk_below (g := gb239) (o := .cells #[.int .i64 a1_0, .int .i64 a1_1, .int .i64 a1_2] 63 (0, 0)) z5_ hb)
          have n4_ := q_ (below_step z2_ hb)
          clear HO_6
          clear HO_8
          clear BK239
          clear HB
          have HO_6 := n0_
          have HO_8 := n1_
          have HO272 := n2_
          have BK239 := n3_
          have HB := n4_
          clear n0_ n1_ n2_ n3_ n4_
          (try clear hb)
          (try clear hb2)
          (try clear hk)
          (try clear hi)
          (try clear ho0)
          refine hK.out _ _ ⟨(blk_cell BK239.out 0).trans rfl, (blk_cell BK239.out 1).trans rfl, (blk_cell BK239.out 2).trans rfl⟩ (fun hHeld => ?_)
          clear hK K
          refine norm_ (a' := ?_) ?_ ?_
          rotate_left
          ·show Act.put _ (some 61) _ = _
           simp only [Act.put, List.setIfInBounds_toArray, List.set_cons_zero, List.set_cons_succ, i64_w, i32_w]
           rfl
          refine one_ (i := 3) (N := some 63) #[true, true, true, true, false, false] rfl rfl (by kernel_rfl) (by decide) (fun K hK => ?_)
          refine goes_ Try.func50 (by kernel_rfl) rfl #[.agg #[.int .i64 a1_0, .int .i64 a1_1, .int .i64 a1_2]] (by rfl) rfl rfl z1_ ?_
          with_reducible refine (laws_toMsg.calls a1_0 a1_1 a1_2 t273 t274 t275 _ A47.out).mono ?_
          rintro e w81 ⟨rfl, hb⟩
          refine ⟨_, rfl, ?_⟩
          have n0_ := q_ (Kd.R_below z9_ hb)
          have n1_ := q_ (Kd.R_below z10_ hb)
          have n2_ := q_ (Kd.R_below z16_ hb)
          have n3_ := q_ (blk_below (g := gb239) (o := .cells #[.int .i64 a1_0, .int .i64 a1_1, .int .i64 a1_2] 63 (0, 0)) z5_ hb)
          have n4_ := q_ (below_step z2_ hb)
          clear HO_6
          clear HO_8
          clear HO272
          clear BK239
          clear HB
          have HO_6 := n0_
          have HO_8 := n1_
          have HO272 := n2_
          have BK239 := n3_
          have HB := n4_
          clear n0_ n1_ n2_ n3_ n4_
          (try clear hb)
          (try clear hb2)
          (try clear hk)
          (try clear hi)
          obtain ⟨Ao82, co82, eo82⟩ := Kd.R_slice HO272.out
          (first | subst eo82 | (injection eo82 with f1_ f2_ f3_; have f4_ := f1_.symm; have f5_ := f3_.symm; clear f1_ f2_ f3_; subst f4_; subst f5_))
          refine hK.out _ _ ⟨(blk_cell BK239.out 0).trans rfl, (blk_cell BK239.out 1).trans rfl, (blk_cell BK239.out 2).trans rfl⟩ (fun hHeld => ?_)
          clear hK K
          refine norm_ (a' := ?_) ?_ ?_
          rotate_left
          ·show Act.put _ (some 63) _ = _
           simp only [Act.put, List.setIfInBounds_toArray, List.set_cons_zero, List.set_cons_succ, i64_w, i32_w]
           rfl
          refine one_ (i := 4) (N := some 64) #[true, true, true, true, true, false] rfl rfl (by kernel_rfl) (by decide) (fun K hK => ?_)
          refine goes_ Try.func51 (by kernel_rfl) rfl #[.slice Ao82 t270.length co82, .agg #[.int .i64 t273, .int .i64 t274, .int .i64 t275]] (by rfl) rfl rfl z1_ ?_
          with_reducible refine (impl_MapDo.calls kj17 _ _ t270 t273 t274 t275 t276 _ ?side1 ?side2 A48.out).mono ?_
          (case side1 => exact z85_)
          (case side2 => exact z99_)
          rintro e w83 ⟨v277, rfl, ho0, hb⟩
          refine ⟨_, rfl, ?_⟩
          have n0_ := q_ (Kd.R_elder' z9_ (Kd.R_base ho0) hb)
          have n1_ := q_ (Kd.R_elder' z10_ (Kd.R_base ho0) hb)
          have n2_ := q_ (Kd.R_elder' z16_ (Kd.R_base ho0) hb)
          have n3_ := q_ (Kd.R_lower (Kd.R_new' (Kd.R_new' (Kd.R_new' ho0 (Kd.R_lt z9_)) (Kd.R_lt z10_)) (Kd.R_lt z16_)) (below_size z2_))
          have n4_ := q_ (blk_below (g := gb239) (o := .cells #[.int .i64 a1_0, .int .i64 a1_1, .int .i64 a1_2] 63 (0, 0)) z5_ hb)
          have n5_ := q_ (below_step z2_ hb)
          clear HO_6
          clear HO_8
          clear HO272
          clear BK239
          clear HB
          have HO_6 := n0_
          have HO_8 := n1_
          have HO272 := n2_
          have HO278 := n3_
          have BK239 := n4_
          have HB := n5_
          clear n0_ n1_ n2_ n3_ n4_ n5_
          (try clear hb)
          (try clear hb2)
          (try clear hk)
          (try clear hi)
          (try clear ho0)
          refine hK.out _ _ ⟨(blk_cell BK239.out 0).trans rfl, (blk_cell BK239.out 1).trans rfl, (blk_cell BK239.out 2).trans rfl⟩ (fun hHeld => ?_)
          clear hK K
          refine norm_ (a' := ?_) ?_ ?_
          rotate_left
          ·show Act.put _ (some 64) _ = _
           simp only [Act.put, List.setIfInBounds_toArray, List.set_cons_zero, List.set_cons_succ, i64_w, i32_w]
           rfl
          refine pure_ (i := 5) (N := some 12) (v := ?_) (a' := ?_) #[true, true, true, true, true, true] rfl rfl (by kernel_rfl) (fun _ _ _ h => h) (Or.inl ⟨by rfl, ?_⟩) ?_ ?_
          rotate_left
          ·intro w'
           go_simp
           with_reducible rfl
          rotate_left
          ·simp only [Act.put, List.setIfInBounds_toArray, List.set_cons_zero, List.set_cons_succ, i64_w, i32_w]
           rfl
          refine done_ (by kernel_rfl) ?_
          obtain ⟨Ao84, co84, eo84⟩ := Kd.R_slice HO278.out
          subst eo84
          try go_wp2_with (first | ((with_reducible refine gate_callee (f := 52) rfl ?_); refine goesL_ (some 67) rfl rfl Try.func52 (by kernel_rfl) rfl #[.slice Ao84 t276.length co84, .slice Ao31 t247.length co31] rfl z1_ ?_; (with_reducible refine (laws_eqPairS.calls kj17 _ _ t276 _ _ t247 false _ ?side1 ?side2 ?side3 ?side4 A49.out).mono ?_); (case side1 => exact z86_); (case side2 => exact z100_); (case side3 => exact z87_); (case side4 => exact (Kd.R_reads' HO_6.out).2.1); rintro e w85 ⟨rfl, hb⟩; refine ⟨_, rfl, ?_⟩; have n0_ := q_ (Kd.R_below z9_ hb); have n1_ := q_ (Kd.R_below z10_ hb); have n2_ := q_ (Kd.R_below z16_ hb); have n3_ := q_ (Kd.R_below z43_ hb); have n4_ := q_ (below_step z0_ hb); clear HO_6; clear HO_8; clear HO272; clear HO278; clear HB; have HO_6 := n0_; have HO_8 := n1_; have HO272 := n2_; have HO278 := n3_; have HB := n4_; clear n0_ n1_ n2_ n3_ n4_; (try clear hb); (try clear hb2); (try clear hk); (try clear hi)))
          go_ret
          exact ⟨z4_, z0_⟩
        ·rw [if_neg c45] at H
         have c45b0 : (t269 == t267) = false := beq_eq_false_iff_ne.mpr c45
         have c45b1 : (t269 != t267) = true := bne_iff_ne.mpr c45
         obtain rfl := Option.some.inj H
         go_wp2_with (first | ((with_reducible refine gate_callee (f := 53) rfl ?_); refine goesL_ (some 51) rfl rfl Try.func53 (by kernel_rfl) rfl #[.slice Ao30 t256.length co30, .int .i64 1] rfl z1_ ?_; (with_reducible refine (laws_markPairS.calls kj17 (fun k_ => some k_ = (.slice Ao30 t256.length co30 : Value).ownBlock) (.slice Ao30 t256.length co30) t256 1 t267 t268 w _ ?side1 ?side2 A41.out).mono ?_); (case side1 => exact z82_); (case side2 => exact z94_); rintro e w86 ⟨rfl, hy0, hb, hkp⟩; refine ⟨_, rfl, ?_⟩; have n0_ := q_ (Kd.R_mono (ok' := fun k_ => some k_ ≠ (.slice Ao30 t256.length co30 : Value).ownBlock) (Kd.R_keptB (HO_6.out) hkp (fun k_ hk_ hs_ => (hk_) hs_)) (fun k_ hk_ => hk_.1)); have n1_ := q_ (Kd.R_reok rfl hy0 (fun k_ e_ => HO_8.out.1 k_ e_)); have n2_ := q_ (hb); clear HO_6; clear HO_8; clear HB; have HO_6 := n0_; have HO_8 := n1_; have HB := n2_; clear n0_ n1_ n2_; (try clear hb); (try clear hkp); (try clear hy0)) | ((with_reducible refine gate_callee (f := 54) rfl ?_); refine goesL_ (some 54) rfl rfl Try.func54 (by kernel_rfl) rfl #[.slice Ao30 t268.length co30, .int .i64 1] rfl z13_ ?_; (with_reducible refine (laws_heldPairS.calls kj17 _ _ t268 1 t269 _ ?side1 ?side2 A42.out).mono ?_); (case side1 => exact z78_); (case side2 => exact z79_); rintro e w' ⟨rfl, ⟨nd, rfl⟩⟩; refine ⟨_, rfl, ?_⟩))
         go_ret
         exact ⟨z4_, z0_⟩
   ·replace c16 := Bool.eq_false_iff.mpr c16
    subst c16
    have H1 : (some false) = some r := by rw [if_neg (show ¬ (false = true) by decide)] at H; exact H
    clear H
    have H := H1
    clear H1
    obtain rfl := Option.some.inj H
    go_enter Try.func7, Try.ntmps7
    try go_wp2_with (first | ((with_reducible refine gate_dst (N := 3) rfl ?_); refine box_event ?hg (N := 3) ?hd (cs := #[.int .i64 a1_0, .int .i64 a1_1, .int .i64 a1_2]) (t := 63) ?hr ?_; (case hd => rfl); (case hg => rfl); (case hr => exact z77_); intro gb239 hg w87 hbox hb; have n0_ := q_ (below_step z0_ hb); have n1_ := q_ (hbox); have n2_ := q_ ((z60_ : w.heap.size ≤ gb239)); have n3_ := q_ ((z60_ : w.heap.size ≤ gb239)); clear HB; have HB := n0_; have BK239 := n1_; have GW239 := n2_; have GE239 := n3_; clear n0_ n1_ n2_ n3_; clear hb hbox hg) | ((with_reducible refine gate_callee (f := 47) rfl ?_); refine goesL_ (some 15) rfl rfl Try.func47 (by kernel_rfl) rfl #[.slice A0 l0.length c0, .int .i64 1048576] rfl z1_ ?_; (with_reducible refine (laws_szPairS.calls _ _ l0 1048576 t240 _ ?side1 ?side2 A3.out).mono ?_); (case side1 => exact z76_); (case side2 => exact HC0.out); rintro e w' ⟨rfl, ⟨nd, rfl⟩⟩; refine ⟨_, rfl, ?_⟩))
    (try (rw [drewN_self w87]; generalize hq_ : World.drewN w87 _ = w87; have n0_ : Aside0 (w87.heap[gb239]? = some (.cells #[.int .i64 a1_0, .int .i64 a1_1, .int .i64 a1_2] 63 (0, 0))) := ⟨z72_⟩; have n1_ : Aside0 (Below w.heap.size w w87) := ⟨z73_⟩; clear BK239 HB hq_; have BK239 := n0_; have HB := n1_; clear n0_ n1_))
    have n0_ := q_ (blk_drew BK239.out)
    have n1_ := q_ (below_drew1 HB.out)
    clear BK239
    clear HB
    have BK239 := n0_
    have HB := n1_
    clear n0_ n1_
    refine start_ (n := 6) (S := fun w' => w'.cell? ⟨gb239, 0, none⟩ = some (.int .i64 a1_0) ∧ w'.cell? ⟨gb239, 1, none⟩ = some (.int .i64 a1_1) ∧ w'.cell? ⟨gb239, 2, none⟩ = some (.int .i64 a1_2)) (ds := []) #[false, false, false, false, false, false] (by kernel_rfl) rfl rfl ⟨(blk_cell BK239.out 0).trans rfl, (blk_cell BK239.out 1).trans rfl, (blk_cell BK239.out 2).trans rfl⟩ (fun hHeld => ?_)
    generalize w87.drew = w88 at BK239 HB hHeld ⊢
    refine pure_ (i := 0) (N := some 18) (v := ?_) (a' := ?_) #[true, false, false, false, false, false] rfl rfl (by kernel_rfl) (fun _ _ _ h => h) (Or.inl ⟨by rfl, ?_⟩) ?_ ?_
    rotate_left
    ·intro w'
     go_simp
     with_reducible rfl
    rotate_left
    ·simp only [Act.put, List.setIfInBounds_toArray, List.set_cons_zero, List.set_cons_succ, i64_w, i32_w]
     rfl
    refine take_ (i := 2) (N := some 20) (v := ?_) (a' := ?_) #[true, false, true, false, false, false] rfl rfl (by kernel_rfl) (fun _ _ _ h => h) (Or.inl ⟨by rfl, ?_⟩) hHeld ?_ ?_
    rotate_left
    ·rintro w' ⟨s0, s1, s2⟩
     go_simp
     with_reducible rfl
    rotate_left
    ·simp only [Act.put, List.setIfInBounds_toArray, List.set_cons_zero, List.set_cons_succ, i64_w, i32_w]
     rfl
    refine one_ (i := 1) (N := some 19) #[true, true, true, false, false, false] rfl rfl (by kernel_rfl) (by decide) (fun K hK => ?_)
    refine goes_ Try.func49 (by kernel_rfl) rfl #[.slice A0 l0.length c0] (by rfl) rfl rfl z1_ ?_
    with_reducible refine (laws_toPairS.calls k _ _ l0 t241 _ ?side1 ?side2 A6.out).mono ?_
    (case side1 => exact z76_)
    (case side2 => exact HC0.out)
    rintro e w89 ⟨v242, rfl, ho0, hb⟩
    refine ⟨_, rfl, ?_⟩
    have n0_ := q_ (Kd.R_lower ho0 (below_size z2_))
    have n1_ := q_ (blk_below (g := gb239) (o := .cells #[.int .i64 a1_0, .int .i64 a1_1, .int .i64 a1_2] 63 (0, 0)) z5_ hb)
    have n2_ := q_ (below_step z2_ hb)
    clear BK239
    clear HB
    have HO243 := n0_
    have BK239 := n1_
    have HB := n2_
    clear n0_ n1_ n2_
    (try clear hb)
    (try clear hb2)
    (try clear hk)
    (try clear hi)
    (try clear ho0)
    refine hK.out _ _ ⟨(blk_cell BK239.out 0).trans rfl, (blk_cell BK239.out 1).trans rfl, (blk_cell BK239.out 2).trans rfl⟩ (fun hHeld => ?_)
    clear hK K
    refine norm_ (a' := ?_) ?_ ?_
    rotate_left
    ·show Act.put _ (some 19) _ = _
     simp only [Act.put, List.setIfInBounds_toArray, List.set_cons_zero, List.set_cons_succ, i64_w, i32_w]
     rfl
    refine one_ (i := 3) (N := some 21) #[true, true, true, true, false, false] rfl rfl (by kernel_rfl) (by decide) (fun K hK => ?_)
    refine goes_ Try.func50 (by kernel_rfl) rfl #[.agg #[.int .i64 a1_0, .int .i64 a1_1, .int .i64 a1_2]] (by rfl) rfl rfl z1_ ?_
    with_reducible refine (laws_toMsg.calls a1_0 a1_1 a1_2 t244 t245 t246 _ A7.out).mono ?_
    rintro e w90 ⟨rfl, hb⟩
    refine ⟨_, rfl, ?_⟩
    have n0_ := q_ (Kd.R_below z6_ hb)
    have n1_ := q_ (blk_below (g := gb239) (o := .cells #[.int .i64 a1_0, .int .i64 a1_1, .int .i64 a1_2] 63 (0, 0)) z5_ hb)
    have n2_ := q_ (below_step z2_ hb)
    clear HO243
    clear BK239
    clear HB
    have HO243 := n0_
    have BK239 := n1_
    have HB := n2_
    clear n0_ n1_ n2_
    (try clear hb)
    (try clear hb2)
    (try clear hk)
    (try clear hi)
    obtain ⟨Ao91, co91, eo91⟩ := Kd.R_slice HO243.out
    (first | subst eo91 | (injection eo91 with f1_ f2_ f3_; have f4_ := f1_.symm; have f5_ := f3_.symm; clear f1_ f2_ f3_; subst f4_; subst f5_))
    refine hK.out _ _ ⟨(blk_cell BK239.out 0).trans rfl, (blk_cell BK239.out 1).trans rfl, (blk_cell BK239.out 2).trans rfl⟩ (fun hHeld => ?_)
    clear hK K
    refine norm_ (a' := ?_) ?_ ?_
    rotate_left
    ·show Act.put _ (some 21) _ = _
     simp only [Act.put, List.setIfInBounds_toArray, List.set_cons_zero, List.set_cons_succ, i64_w, i32_w]
     rfl
    refine one_ (i := 4) (N := some 22) #[true, true, true, true, true, false] rfl rfl (by kernel_rfl) (by decide) (fun K hK => ?_)
    refine goes_ Try.func48 (by kernel_rfl) rfl #[.slice Ao91 t241.length co91, .agg #[.int .i64 t244, .int .i64 t245, .int .i64 t246]] (by rfl) rfl rfl z1_ ?_
    with_reducible refine (spec_MapDo.calls k _ _ t241 t244 t245 t246 t247 _ ?side1 ?side2 A8.out).mono ?_
    (case side1 => exact z88_)
    (case side2 => exact (Kd.R_reads' HO243.out).2.1)
    rintro e w92 ⟨v248, rfl, ho0, hb⟩
    refine ⟨_, rfl, ?_⟩
    have n0_ := q_ (Kd.R_elder' z6_ (Kd.R_base ho0) hb)
    have n1_ := q_ (Kd.R_lower (Kd.R_new' ho0 (Kd.R_lt z6_)) (below_size z2_))
    have n2_ := q_ (blk_below (g := gb239) (o := .cells #[.int .i64 a1_0, .int .i64 a1_1, .int .i64 a1_2] 63 (0, 0)) z5_ hb)
    have n3_ := q_ (below_step z2_ hb)
    clear HO243
    clear BK239
    clear HB
    have HO243 := n0_
    have HO249 := n1_
    have BK239 := n2_
    have HB := n3_
    clear n0_ n1_ n2_ n3_
    (try clear hb)
    (try clear hb2)
    (try clear hk)
    (try clear hi)
    (try clear ho0)
    refine hK.out _ _ ⟨(blk_cell BK239.out 0).trans rfl, (blk_cell BK239.out 1).trans rfl, (blk_cell BK239.out 2).trans rfl⟩ (fun hHeld => ?_)
    clear hK K
    refine norm_ (a' := ?_) ?_ ?_
    rotate_left
    ·show Act.put _ (some 22) _ = _
     simp only [Act.put, List.setIfInBounds_toArray, List.set_cons_zero, List.set_cons_succ, i64_w, i32_w]
     rfl
    refine pure_ (i := 5) (N := some 6) (v := ?_) (a' := ?_) #[true, true, true, true, true, true] rfl rfl (by kernel_rfl) (fun _ _ _ h => h) (Or.inl ⟨by rfl, ?_⟩) ?_ ?_
    rotate_left
    ·intro w'
     go_simp
     with_reducible rfl
    rotate_left
    ·simp only [Act.put, List.setIfInBounds_toArray, List.set_cons_zero, List.set_cons_succ, i64_w, i32_w]
     rfl
    refine done_ (by kernel_rfl) ?_
    try go_wp2_with (first | ((with_reducible refine gate_callee (f := 49) rfl ?_); refine goesL_ (some 24) rfl rfl Try.func49 (by kernel_rfl) rfl #[.slice A0 l0.length c0] rfl z1_ ?_; (with_reducible refine (laws_toPairS.calls k _ _ l0 t250 _ ?side1 ?side2 A9.out).mono ?_); (case side1 => exact z76_); (case side2 => exact HC0.out); rintro e w93 ⟨v251, rfl, ho0, hb⟩; refine ⟨_, rfl, ?_⟩; have n0_ := q_ (Kd.R_elder' z6_ (Kd.R_base ho0) hb); have n1_ := q_ (Kd.R_elder' z11_ (Kd.R_base ho0) hb); have n2_ := q_ (Kd.R_lower (Kd.R_new' (Kd.R_new' ho0 (Kd.R_lt z6_)) (Kd.R_lt z11_)) (below_size z2_)); have n3_ := q_ (blk_below (g := gb239) (o := .cells #[.int .i64 a1_0, .int .i64 a1_1, .int .i64 a1_2] 63 (0, 0)) z5_ hb); have n4_ := q_ (below_step z2_ hb); clear HO243; clear HO249; clear BK239; clear HB; have HO243 := n0_; have HO249 := n1_; have HO252 := n2_; have BK239 := n3_; have HB := n4_; clear n0_ n1_ n2_ n3_ n4_; (try clear hb); (try clear hb2); (try clear hk); (try clear hi); (try clear ho0); obtain ⟨hcz94_0, hcz94_1, hcz94_2, hfz94_0, hfz94_1, hfz94_2⟩ := cs3_ BK239.out) | ((with_reducible refine gate_callee (f := 50) rfl ?_); refine goesL_ (some 27) rfl rfl Try.func50 (by kernel_rfl) rfl #[.agg #[.int .i64 a1_0, .int .i64 a1_1, .int .i64 a1_2]] rfl z1_ ?_; (with_reducible refine (laws_toMsg.calls a1_0 a1_1 a1_2 t253 t254 t255 _ A10.out).mono ?_); rintro e w95 ⟨rfl, hb⟩; refine ⟨_, rfl, ?_⟩; have n0_ := q_ (Kd.R_below z6_ hb); have n1_ := q_ (Kd.R_below z11_ hb); have n2_ := q_ (Kd.R_below z12_ hb); have n3_ := q_ (below_step z0_ hb); clear HO243; clear HO249; clear HO252; clear HB; have HO243 := n0_; have HO249 := n1_; have HO252 := n2_; have HB := n3_; clear n0_ n1_ n2_ n3_; (try clear hb); (try clear hb2); (try clear hk); (try clear hi); obtain ⟨Ao96, co96, eo96⟩ := Kd.R_slice HO252.out; subst eo96) | ((with_reducible refine gate_callee (f := 51) rfl ?_); refine goesL_ (some 28) rfl rfl Try.func51 (by kernel_rfl) rfl #[.slice Ao96 t250.length co96, .agg #[.int .i64 t253, .int .i64 t254, .int .i64 t255]] rfl z1_ ?_; (with_reducible refine (impl_MapDo.calls k _ _ t250 t253 t254 t255 t256 _ ?side1 ?side2 A11.out).mono ?_); (case side1 => exact z80_); (case side2 => exact z95_); rintro e w97 ⟨v257, rfl, ho0, hb⟩; refine ⟨_, rfl, ?_⟩; have n0_ := q_ (Kd.R_elder' z6_ (Kd.R_base ho0) hb); have n1_ := q_ (Kd.R_elder' z11_ (Kd.R_base ho0) hb); have n2_ := q_ (Kd.R_elder' z12_ (Kd.R_base ho0) hb); have n3_ := q_ (Kd.R_lower (Kd.R_new' (Kd.R_new' (Kd.R_new' ho0 (Kd.R_lt z6_)) (Kd.R_lt z11_)) (Kd.R_lt z12_)) (below_size z0_)); have n4_ := q_ (below_step z0_ hb); clear HO243; clear HO249; clear HO252; clear HB; have HO243 := n0_; have HO249 := n1_; have HO252 := n2_; have HO258 := n3_; have HB := n4_; clear n0_ n1_ n2_ n3_ n4_; (try clear hb); (try clear hb2); (try clear hk); (try clear hi); (try clear ho0); obtain ⟨Ao98, co98, eo98⟩ := Kd.R_slice HO258.out; subst eo98; obtain ⟨Ao99, co99, eo99⟩ := Kd.R_slice HO249.out; subst eo99) | ((with_reducible refine gate_callee (f := 52) rfl ?_); refine goesL_ (some 31) rfl rfl Try.func52 (by kernel_rfl) rfl #[.slice Ao98 t256.length co98, .slice Ao99 t247.length co99] rfl z1_ ?_; (with_reducible refine (laws_eqPairS.calls k _ _ t256 _ _ t247 true _ ?side1 ?side2 ?side3 ?side4 A12.out).mono ?_); (case side1 => exact z83_); (case side2 => exact z97_); (case side3 => exact z84_); (case side4 => exact z98_); rintro e w100 ⟨rfl, hb⟩; refine ⟨_, rfl, ?_⟩; have n0_ := q_ (Kd.R_below z6_ hb); have n1_ := q_ (Kd.R_below z11_ hb); have n2_ := q_ (Kd.R_below z12_ hb); have n3_ := q_ (Kd.R_below z25_ hb); have n4_ := q_ (below_step z0_ hb); clear HO243; clear HO249; clear HO252; clear HO258; clear HB; have HO243 := n0_; have HO249 := n1_; have HO252 := n2_; have HO258 := n3_; have HB := n4_; clear n0_ n1_ n2_ n3_ n4_; (try clear hb); (try clear hb2); (try clear hk); (try clear hi)) | ((with_reducible refine gate_callee (f := 49) rfl ?_); refine goesL_ (some 35) rfl rfl Try.func49 (by kernel_rfl) rfl #[.slice A0 l0.length c0] rfl z1_ ?_; (with_reducible refine (laws_toPairS.calls k _ _ l0 t260 _ ?side1 ?side2 A14.out).mono ?_); (case side1 => exact z76_); (case side2 => exact HC0.out); rintro e w101 ⟨v261, rfl, ho0, hb⟩; refine ⟨_, rfl, ?_⟩; have n0_ := q_ (Kd.R_elder' z6_ (Kd.R_base ho0) hb); have n1_ := q_ (Kd.R_elder' z11_ (Kd.R_base ho0) hb); have n2_ := q_ (Kd.R_elder' z12_ (Kd.R_base ho0) hb); have n3_ := q_ (Kd.R_elder' z25_ (Kd.R_base ho0) hb); have n4_ := q_ (Kd.R_lower (Kd.R_new' (Kd.R_new' (Kd.R_new' (Kd.R_new' ho0 (Kd.R_lt z6_)) (Kd.R_lt z11_)) (Kd.R_lt z12_)) (Kd.R_lt z25_)) (below_size z0_)); have n5_ := q_ (below_step z0_ hb); clear HO243; clear HO249; clear HO252; clear HO258; clear HB; have HO243 := n0_; have HO249 := n1_; have HO252 := n2_; have HO258 := n3_; have HO262 := n4_; have HB := n5_; clear n0_ n1_ n2_ n3_ n4_ n5_; (try clear hb); (try clear hb2); (try clear hk); (try clear hi); (try clear ho0); obtain ⟨Ao102, co102, eo102⟩ := Kd.R_slice HO262.out; subst eo102) | ((with_reducible refine gate_callee (f := 52) rfl ?_); refine goesL_ (some 36) rfl rfl Try.func52 (by kernel_rfl) rfl #[.slice Ao96 t250.length co96, .slice Ao102 t260.length co102] rfl z1_ ?_; (with_reducible refine (laws_eqPairS.calls k _ _ t250 _ _ t260 false _ ?side1 ?side2 ?side3 ?side4 A15.out).mono ?_); (case side1 => exact z80_); (case side2 => exact z95_); (case side3 => exact z89_); (case side4 => exact (Kd.R_reads' HO262.out).2.1); rintro e w103 ⟨rfl, hb⟩; refine ⟨_, rfl, ?_⟩; have n0_ := q_ (Kd.R_below z6_ hb); have n1_ := q_ (Kd.R_below z11_ hb); have n2_ := q_ (Kd.R_below z12_ hb); have n3_ := q_ (Kd.R_below z25_ hb); have n4_ := q_ (Kd.R_below z48_ hb); have n5_ := q_ (below_step z0_ hb); clear HO243; clear HO249; clear HO252; clear HO258; clear HO262; clear HB; have HO243 := n0_; have HO249 := n1_; have HO252 := n2_; have HO258 := n3_; have HO262 := n4_; have HB := n5_; clear n0_ n1_ n2_ n3_ n4_ n5_; (try clear hb); (try clear hb2); (try clear hk); (try clear hi)))
    go_ret
    exact ⟨z4_, z0_⟩
  ·replace c13 := Bool.eq_false_iff.mpr c13
   subst c13
   have H1 : (some false) = some r := by rw [if_neg (show ¬ (false = true) by decide)] at H; exact H
   clear H
   have H := H1
   clear H1
   obtain rfl := Option.some.inj H
   go_enter Try.func7, Try.ntmps7
   try go_wp2_with (first | ((with_reducible refine gate_dst (N := 3) rfl ?_); refine box_event ?hg (N := 3) ?hd (cs := #[.int .i64 a1_0, .int .i64 a1_1, .int .i64 a1_2]) (t := 63) ?hr ?_; (case hd => rfl); (case hg => rfl); (case hr => exact z77_); intro gb239 hg w104 hbox hb; have n0_ := q_ (below_step z0_ hb); have n1_ := q_ (hbox); have n2_ := q_ ((z60_ : w.heap.size ≤ gb239)); have n3_ := q_ ((z60_ : w.heap.size ≤ gb239)); clear HB; have HB := n0_; have BK239 := n1_; have GW239 := n2_; have GE239 := n3_; clear n0_ n1_ n2_ n3_; clear hb hbox hg) | ((with_reducible refine gate_callee (f := 47) rfl ?_); refine goesL_ (some 15) rfl rfl Try.func47 (by kernel_rfl) rfl #[.slice A0 l0.length c0, .int .i64 1048576] rfl z1_ ?_; (with_reducible refine (laws_szPairS.calls _ _ l0 1048576 t240 _ ?side1 ?side2 A3.out).mono ?_); (case side1 => exact z76_); (case side2 => exact HC0.out); rintro e w' ⟨rfl, ⟨nd, rfl⟩⟩; refine ⟨_, rfl, ?_⟩))
   (try (rw [drewN_self w104]; generalize hq_ : World.drewN w104 _ = w104; have n0_ : Aside0 (w104.heap[gb239]? = some (.cells #[.int .i64 a1_0, .int .i64 a1_1, .int .i64 a1_2] 63 (0, 0))) := ⟨z72_⟩; have n1_ : Aside0 (Below w.heap.size w w104) := ⟨z73_⟩; clear BK239 HB hq_; have BK239 := n0_; have HB := n1_; clear n0_ n1_))
   have n0_ := q_ (blk_drew BK239.out)
   have n1_ := q_ (below_drew1 HB.out)
   clear BK239
   clear HB
   have BK239 := n0_
   have HB := n1_
   clear n0_ n1_
   refine start_ (n := 6) (S := fun w' => w'.cell? ⟨gb239, 0, none⟩ = some (.int .i64 a1_0) ∧ w'.cell? ⟨gb239, 1, none⟩ = some (.int .i64 a1_1) ∧ w'.cell? ⟨gb239, 2, none⟩ = some (.int .i64 a1_2)) (ds := []) #[false, false, false, false, false, false] (by kernel_rfl) rfl rfl ⟨(blk_cell BK239.out 0).trans rfl, (blk_cell BK239.out 1).trans rfl, (blk_cell BK239.out 2).trans rfl⟩ (fun hHeld => ?_)
   generalize w104.drew = w105 at BK239 HB hHeld ⊢
   refine pure_ (i := 0) (N := some 18) (v := ?_) (a' := ?_) #[true, false, false, false, false, false] rfl rfl (by kernel_rfl) (fun _ _ _ h => h) (Or.inl ⟨by rfl, ?_⟩) ?_ ?_
   rotate_left
   ·intro w'
    go_simp
    with_reducible rfl
   rotate_left
   ·simp only [Act.put, List.setIfInBounds_toArray, List.set_cons_zero, List.set_cons_succ, i64_w, i32_w]
    rfl
   refine take_ (i := 2) (N := some 20) (v := ?_) (a' := ?_) #[true, false, true, false, false, false] rfl rfl (by kernel_rfl) (fun _ _ _ h => h) (Or.inl ⟨by rfl, ?_⟩) hHeld ?_ ?_
   rotate_left
   ·rintro w' ⟨s0, s1, s2⟩
    go_simp
    with_reducible rfl
   rotate_left
   ·simp only [Act.put, List.setIfInBounds_toArray, List.set_cons_zero, List.set_cons_succ, i64_w, i32_w]
    rfl
   refine one_ (i := 1) (N := some 19) #[true, true, true, false, false, false] rfl rfl (by kernel_rfl) (by decide) (fun K hK => ?_)
   refine goes_ Try.func49 (by kernel_rfl) rfl #[.slice A0 l0.length c0] (by rfl) rfl rfl z1_ ?_
   with_reducible refine (laws_toPairS.calls k _ _ l0 t241 _ ?side1 ?side2 A6.out).mono ?_
   (case side1 => exact z76_)
   (case side2 => exact HC0.out)
   rintro e w106 ⟨v242, rfl, ho0, hb⟩
   refine ⟨_, rfl, ?_⟩
   have n0_ := q_ (Kd.R_lower ho0 (below_size z2_))
   have n1_ := q_ (blk_below (g := gb239) (o := .cells #[.int .i64 a1_0, .int .i64 a1_1, .int .i64 a1_2] 63 (0, 0)) z5_ hb)
   have n2_ := q_ (below_step z2_ hb)
   clear BK239
   clear HB
   have HO243 := n0_
   have BK239 := n1_
   have HB := n2_
   clear n0_ n1_ n2_
   (try clear hb)
   (try clear hb2)
   (try clear hk)
   (try clear hi)
   (try clear ho0)
   refine hK.out _ _ ⟨(blk_cell BK239.out 0).trans rfl, (blk_cell BK239.out 1).trans rfl, (blk_cell BK239.out 2).trans rfl⟩ (fun hHeld => ?_)
   clear hK K
   refine norm_ (a' := ?_) ?_ ?_
   rotate_left
   ·show Act.put _ (some 19) _ = _
    simp only [Act.put, List.setIfInBounds_toArray, List.set_cons_zero, List.set_cons_succ, i64_w, i32_w]
    rfl
   refine one_ (i := 3) (N := some 21) #[true, true, true, true, false, false] rfl rfl (by kernel_rfl) (by decide) (fun K hK => ?_)
   refine goes_ Try.func50 (by kernel_rfl) rfl #[.agg #[.int .i64 a1_0, .int .i64 a1_1, .int .i64 a1_2]] (by rfl) rfl rfl z1_ ?_
   with_reducible refine (laws_toMsg.calls a1_0 a1_1 a1_2 t244 t245 t246 _ A7.out).mono ?_
   rintro e w107 ⟨rfl, hb⟩
   refine ⟨_, rfl, ?_⟩
   have n0_ := q_ (Kd.R_below z6_ hb)
   have n1_ := q_ (blk_below (g := gb239) (o := .cells #[.int .i64 a1_0, .int .i64 a1_1, .int .i64 a1_2] 63 (0, 0)) z5_ hb)
   have n2_ := q_ (below_step z2_ hb)
   clear HO243
   clear BK239
   clear HB
   have HO243 := n0_
   have BK239 := n1_
   have HB := n2_
   clear n0_ n1_ n2_
   (try clear hb)
   (try clear hb2)
   (try clear hk)
   (try clear hi)
   obtain ⟨Ao108, co108, eo108⟩ := Kd.R_slice HO243.out
   (first | subst eo108 | (injection eo108 with f1_ f2_ f3_; have f4_ := f1_.symm; have f5_ := f3_.symm; clear f1_ f2_ f3_; subst f4_; subst f5_))
   refine hK.out _ _ ⟨(blk_cell BK239.out 0).trans rfl, (blk_cell BK239.out 1).trans rfl, (blk_cell BK239.out 2).trans rfl⟩ (fun hHeld => ?_)
   clear hK K
   refine norm_ (a' := ?_) ?_ ?_
   rotate_left
   ·show Act.put _ (some 21) _ = _
    simp only [Act.put, List.setIfInBounds_toArray, List.set_cons_zero, List.set_cons_succ, i64_w, i32_w]
    rfl
   refine one_ (i := 4) (N := some 22) #[true, true, true, true, true, false] rfl rfl (by kernel_rfl) (by decide) (fun K hK => ?_)
   refine goes_ Try.func48 (by kernel_rfl) rfl #[.slice Ao108 t241.length co108, .agg #[.int .i64 t244, .int .i64 t245, .int .i64 t246]] (by rfl) rfl rfl z1_ ?_
   with_reducible refine (spec_MapDo.calls k _ _ t241 t244 t245 t246 t247 _ ?side1 ?side2 A8.out).mono ?_
   (case side1 => exact z88_)
   (case side2 => exact (Kd.R_reads' HO243.out).2.1)
   rintro e w109 ⟨v248, rfl, ho0, hb⟩
   refine ⟨_, rfl, ?_⟩
   have n0_ := q_ (Kd.R_elder' z6_ (Kd.R_base ho0) hb)
   have n1_ := q_ (Kd.R_lower (Kd.R_new' ho0 (Kd.R_lt z6_)) (below_size z2_))
   have n2_ := q_ (blk_below (g := gb239) (o := .cells #[.int .i64 a1_0, .int .i64 a1_1, .int .i64 a1_2] 63 (0, 0)) z5_ hb)
   have n3_ := q_ (below_step z2_ hb)
   clear HO243
   clear BK239
   clear HB
   have HO243 := n0_
   have HO249 := n1_
   have BK239 := n2_
   have HB := n3_
   clear n0_ n1_ n2_ n3_
   (try clear hb)
   (try clear hb2)
   (try clear hk)
   (try clear hi)
   (try clear ho0)
   refine hK.out _ _ ⟨(blk_cell BK239.out 0).trans rfl, (blk_cell BK239.out 1).trans rfl, (blk_cell BK239.out 2).trans rfl⟩ (fun hHeld => ?_)
   clear hK K
   refine norm_ (a' := ?_) ?_ ?_
   rotate_left
   ·show Act.put _ (some 22) _ = _
    simp only [Act.put, List.setIfInBounds_toArray, List.set_cons_zero, List.set_cons_succ, i64_w, i32_w]
    rfl
   refine pure_ (i := 5) (N := some 6) (v := ?_) (a' := ?_) #[true, true, true, true, true, true] rfl rfl (by kernel_rfl) (fun _ _ _ h => h) (Or.inl ⟨by rfl, ?_⟩) ?_ ?_
   rotate_left
   ·intro w'
    go_simp
    with_reducible rfl
   rotate_left
   ·simp only [Act.put, List.setIfInBounds_toArray, List.set_cons_zero, List.set_cons_succ, i64_w, i32_w]
    rfl
   refine done_ (by kernel_rfl) ?_
   try go_wp2_with (first | ((with_reducible refine gate_callee (f := 49) rfl ?_); refine goesL_ (some 24) rfl rfl Try.func49 (by kernel_rfl) rfl #[.slice A0 l0.length c0] rfl z1_ ?_; (with_reducible refine (laws_toPairS.calls k _ _ l0 t250 _ ?side1 ?side2 A9.out).mono ?_); (case side1 => exact z76_); (case side2 => exact HC0.out); rintro e w110 ⟨v251, rfl, ho0, hb⟩; refine ⟨_, rfl, ?_⟩; have n0_ := q_ (Kd.R_elder' z6_ (Kd.R_base ho0) hb); have n1_ := q_ (Kd.R_elder' z11_ (Kd.R_base ho0) hb); have n2_ := q_ (Kd.R_lower (Kd.R_new' (Kd.R_new' ho0 (Kd.R_lt z6_)) (Kd.R_lt z11_)) (below_size z2_)); have n3_ := q_ (blk_below (g := gb239) (o := .cells #[.int .i64 a1_0, .int .i64 a1_1, .int .i64 a1_2] 63 (0, 0)) z5_ hb); have n4_ := q_ (below_step z2_ hb); clear HO243; clear HO249; clear BK239; clear HB; have HO243 := n0_; have HO249 := n1_; have HO252 := n2_; have BK239 := n3_; have HB := n4_; clear n0_ n1_ n2_ n3_ n4_; (try clear hb); (try clear hb2); (try clear hk); (try clear hi); (try clear ho0); obtain ⟨hcz111_0, hcz111_1, hcz111_2, hfz111_0, hfz111_1, hfz111_2⟩ := cs3_ BK239.out) | ((with_reducible refine gate_callee (f := 50) rfl ?_); refine goesL_ (some 27) rfl rfl Try.func50 (by kernel_rfl) rfl #[.agg #[.int .i64 a1_0, .int .i64 a1_1, .int .i64 a1_2]] rfl z1_ ?_; (with_reducible refine (laws_toMsg.calls a1_0 a1_1 a1_2 t253 t254 t255 _ A10.out).mono ?_); rintro e w112 ⟨rfl, hb⟩; refine ⟨_, rfl, ?_⟩; have n0_ := q_ (Kd.R_below z6_ hb); have n1_ := q_ (Kd.R_below z11_ hb); have n2_ := q_ (Kd.R_below z12_ hb); have n3_ := q_ (below_step z0_ hb); clear HO243; clear HO249; clear HO252; clear HB; have HO243 := n0_; have HO249 := n1_; have HO252 := n2_; have HB := n3_; clear n0_ n1_ n2_ n3_; (try clear hb); (try clear hb2); (try clear hk); (try clear hi); obtain ⟨Ao113, co113, eo113⟩ := Kd.R_slice HO252.out; subst eo113) | ((with_reducible refine gate_callee (f := 51) rfl ?_); refine goesL_ (some 28) rfl rfl Try.func51 (by kernel_rfl) rfl #[.slice Ao113 t250.length co113, .agg #[.int .i64 t253, .int .i64 t254, .int .i64 t255]] rfl z1_ ?_; (with_reducible refine (impl_MapDo.calls k _ _ t250 t253 t254 t255 t256 _ ?side1 ?side2 A11.out).mono ?_); (case side1 => exact z80_); (case side2 => exact z95_); rintro e w114 ⟨v257, rfl, ho0, hb⟩; refine ⟨_, rfl, ?_⟩; have n0_ := q_ (Kd.R_elder' z6_ (Kd.R_base ho0) hb); have n1_ := q_ (Kd.R_elder' z11_ (Kd.R_base ho0) hb); have n2_ := q_ (Kd.R_elder' z12_ (Kd.R_base ho0) hb); have n3_ := q_ (Kd.R_lower (Kd.R_new' (Kd.R_new' (Kd.R_new' ho0 (Kd.R_lt z6_)) (Kd.R_lt z11_)) (Kd.R_lt z12_)) (below_size z0_)); have n4_ := q_ (below_step z0_ hb); clear HO243; clear HO249; clear HO252; clear HB; have HO243 := n0_; have HO249 := n1_; have HO252 := n2_; have HO258 := n3_; have HB := n4_; clear n0_ n1_ n2_ n3_ n4_; (try clear hb); (try clear hb2); (try clear hk); (try clear hi); (try clear ho0); obtain ⟨Ao115, co115, eo115⟩ := Kd.R_slice HO258.out; subst eo115; obtain ⟨Ao116, co116, eo116⟩ := Kd.R_slice HO249.out; subst eo116) | ((with_reducible refine gate_callee (f := 52) rfl ?_); refine goesL_ (some 31) rfl rfl Try.func52 (by kernel_rfl) rfl #[.slice Ao115 t256.length co115, .slice Ao116 t247.length co116] rfl z1_ ?_; (with_reducible refine (laws_eqPairS.calls k _ _ t256 _ _ t247 false _ ?side1 ?side2 ?side3 ?side4 A12.out).mono ?_); (case side1 => exact z83_); (case side2 => exact z97_); (case side3 => exact z84_); (case side4 => exact z98_); rintro e w117 ⟨rfl, hb⟩; refine ⟨_, rfl, ?_⟩; have n0_ := q_ (Kd.R_below z6_ hb); have n1_ := q_ (Kd.R_below z11_ hb); have n2_ := q_ (Kd.R_below z12_ hb); have n3_ := q_ (Kd.R_below z25_ hb); have n4_ := q_ (below_step z0_ hb); clear HO243; clear HO249; clear HO252; clear HO258; clear HB; have HO243 := n0_; have HO249 := n1_; have HO252 := n2_; have HO258 := n3_; have HB := n4_; clear n0_ n1_ n2_ n3_ n4_; (try clear hb); (try clear hb2); (try clear hk); (try clear hi)))
   go_ret
   exact ⟨z4_, z0_⟩

end Go.Proofs.Ytphlmbhjeoljoaa.PFnExactMapDo
