-- Written by a program of this session, which goes by the kit's print. Not trusted: Lean checks it.
import Derived.Test.YtphlmbhjeoljoaaPFnExactSomex0
import Derived.Test.YtphlmbhjeoljoaaPFnExactSomex1
import Derived.Test.YtphlmbhjeoljoaaPFnExactSomex2
import Derived.Test.YtphlmbhjeoljoaaPFnExactSomex3
import Derived.Test.YtphlmbhjeoljoaaPFnExactSomex4
import Derived.Test.YtphlmbhjeoljoaaPFnExactSomex5
import Derived.Test.YtphlmbhjeoljoaaPFnExactSomex7
import Derived.Test.YtphlmbhjeoljoaaPFnExactSomex8
namespace Go.Proofs.Ytphlmbhjeoljoaa.PFnExactSome
open Go.RowKit Go.Proofs.YtphlmbhjeoljoaaW.PrintWords Go.Proofs.YtphlmbhjeoljoaaW.PrintLast Go.Proofs.YtphlmbhjeoljoaaW.PrintMore
attribute [local go_sem] max2_int min2_int max_two min_two max_three min_three max_four min_four   -- for this text's walks alone
set_option linter.unusedVariables false
set_option linter.unusedSimpArgs false

/-! ### laws_FnExactSome: function 13 -/
def laws_FnExactSome.j0 : Nat → List (S164) → List Bool → Bool → List ByteArray → List (S162) → List ByteArray → List (S166) → List ByteArray → List (S166) → Option (Bool)
 | 0, _, _, _, _, _, _, _, _, _ => none
 | k + 1, x1, x2, x82, x270000, x270001, x291000, x291001, x311000, x311001 => if x82 = true then (some false) else ((laws_markDisk.f k x311000 x311001 1).bind fun bt335 => ((laws_heldDisk.f k bt335.2.1 bt335.2.2 1).bind fun t338 => (if t338 < 0 then (some false) else (if t338 = bt335.1 then ((laws_toDisk.f k x270000 x270001).bind fun bt339 => ((laws_toWriteS.f k x1).bind fun t345 => ((laws_toBoolS.f k x2).bind fun t348 => ((impl_Some.f k bt339.1 bt339.2 t345 t348).bind fun bt351 => ((laws_eqDisk.f k bt351.1 bt351.2 x291000 x291001).bind fun t358 => (if t358 = true then ((laws_heldDisk.f k bt335.2.1 bt335.2.2 1).bind fun t359 => (if t359 < 0 then (some false) else (if t359 = bt335.1 then (some true) else (some false)))) else (some false))))))) else (some false)))))
def laws_FnExactSome.f (k : Nat) (l0_0 : List ByteArray) (l0_1 : List (S162)) (l1 : List (S164)) (l2 : List Bool) : Option (Bool) := if (l2.length : Int) > 1048576 then (some true) else ((laws_szDisk.f k l0_0 l0_1 1048576).bind fun t270 => (if t270 < 0 then (some true) else ((laws_szWriteS.f k l1 t270).bind fun t271 => (if t271 < 0 then (some true) else ((laws_toDisk.f k l0_0 l0_1).bind fun bt272 => ((laws_toWriteS.f k l1).bind fun t278 => ((laws_toBoolS.f k l2).bind fun t281 => ((spec_Some.f k bt272.1 bt272.2 t278 t281).bind fun bt284 => ((laws_toDisk.f k l0_0 l0_1).bind fun bt291 => ((laws_toWriteS.f k l1).bind fun t298 => ((laws_toBoolS.f k l2).bind fun t301 => ((impl_Some.f k bt291.1 bt291.2 t298 t301).bind fun bt304 => ((laws_eqDisk.f k bt304.1 bt304.2 bt284.1 bt284.2).bind fun t311 => (if t311 = true then ((laws_toDisk.f k l0_0 l0_1).bind fun bt312 => ((laws_eqDisk.f k bt291.1 bt291.2 bt312.1 bt312.2).bind fun t318 => (if t318 = true then ((laws_toWriteS.f k l1).bind fun t319 => ((laws_eqWriteS.f k t298 t319).bind fun t322 => (if t322 = true then ((laws_toBoolS.f k l2).bind fun t323 => ((laws_eqBoolS.f k t301 t323).bind fun t326 => (if t326 = true then ((laws_markDisk.f k bt291.1 bt291.2 1).bind fun bt327 => ((laws_markWriteS.f k t298 bt327.1).bind fun bt330 => ((laws_markBoolS.f k t301 bt330.1).bind fun bt332 => (if bt332.1 < 0 then (laws_FnExactSome.j0 k l1 l2 true l0_0 l0_1 bt284.1 bt284.2 bt304.1 bt304.2) else ((laws_eqDisk.f k bt304.1 bt304.2 bt284.1 bt284.2).bind fun t334 => (laws_FnExactSome.j0 k l1 l2 (!t334) l0_0 l0_1 bt284.1 bt284.2 bt304.1 bt304.2)))))) else (some false)))) else (some false)))) else (some false)))) else (some false)))))))))))))))
theorem laws_FnExactSome.mono_l : ∀ k, (∀ y0 y1 y2 y3 y4 y5 y6 y7 y8, LeO (laws_FnExactSome.j0 k y0 y1 y2 y3 y4 y5 y6 y7 y8) (laws_FnExactSome.j0 (k + 1) y0 y1 y2 y3 y4 y5 y6 y7 y8))
 | 0 => fun _ _ _ _ _ _ _ _ _ r h => by simp [laws_FnExactSome.j0] at h
 | k + 1 => by
  have ih0 := laws_FnExactSome.mono_l k
  ·intro y0 y1 y2 y3 y4 y5 y6 y7 y8
   unfold laws_FnExactSome.j0
   repeat' first
   | (with_reducible exact ih0 _ _ _ _ _ _ _ _ _)
   | (with_reducible exact impl_Some.mono _ _ _ _ _)
   | (with_reducible exact laws_eqBoolS.mono _ _ _)
   | (with_reducible exact laws_eqDisk.mono _ _ _ _ _)
   | (with_reducible exact laws_eqWriteS.mono _ _ _)
   | (with_reducible exact laws_heldDisk.mono _ _ _ _)
   | (with_reducible exact laws_markBoolS.mono _ _ _)
   | (with_reducible exact laws_markDisk.mono _ _ _ _)
   | (with_reducible exact laws_markWriteS.mono _ _ _)
   | (with_reducible exact laws_szDisk.mono _ _ _ _)
   | (with_reducible exact laws_szWriteS.mono _ _ _)
   | (with_reducible exact laws_toBoolS.mono _ _)
   | (with_reducible exact laws_toDisk.mono _ _ _)
   | (with_reducible exact laws_toWriteS.mono _ _)
   | (with_reducible exact spec_Some.mono _ _ _ _ _)
   | (with_reducible exact LeO.refl _)
   | (with_reducible exact LeO.none _)
   | (with_reducible refine LeO.ite ?_ ?_)
   | (with_reducible refine LeO.bind ?_ (fun _ => ?_))
   | exact ih0 _ _ _ _ _ _ _ _ _
   | exact impl_Some.mono _ _ _ _ _
   | exact laws_eqBoolS.mono _ _ _
   | exact laws_eqDisk.mono _ _ _ _ _
   | exact laws_eqWriteS.mono _ _ _
   | exact laws_heldDisk.mono _ _ _ _
   | exact laws_markBoolS.mono _ _ _
   | exact laws_markDisk.mono _ _ _ _
   | exact laws_markWriteS.mono _ _ _
   | exact laws_szDisk.mono _ _ _ _
   | exact laws_szWriteS.mono _ _ _
   | exact laws_toBoolS.mono _ _
   | exact laws_toDisk.mono _ _ _
   | exact laws_toWriteS.mono _ _
   | exact spec_Some.mono _ _ _ _ _
   | exact LeO.none _
   | refine LeO.ite ?_ ?_
   | refine LeO.bind ?_ (fun _ => ?_)
theorem laws_FnExactSome.mono : ∀ a0 a1 a2 a3 k, LeO (laws_FnExactSome.f k a0 a1 a2 a3) (laws_FnExactSome.f (k + 1) a0 a1 a2 a3) := by
 intro a0 a1 a2 a3 k
 have ih0 := laws_FnExactSome.mono_l k
 unfold laws_FnExactSome.f
 repeat' first
   | (with_reducible exact ih0 _ _ _ _ _ _ _ _ _)
   | (with_reducible exact impl_Some.mono _ _ _ _ _)
   | (with_reducible exact laws_eqBoolS.mono _ _ _)
   | (with_reducible exact laws_eqDisk.mono _ _ _ _ _)
   | (with_reducible exact laws_eqWriteS.mono _ _ _)
   | (with_reducible exact laws_heldDisk.mono _ _ _ _)
   | (with_reducible exact laws_markBoolS.mono _ _ _)
   | (with_reducible exact laws_markDisk.mono _ _ _ _)
   | (with_reducible exact laws_markWriteS.mono _ _ _)
   | (with_reducible exact laws_szDisk.mono _ _ _ _)
   | (with_reducible exact laws_szWriteS.mono _ _ _)
   | (with_reducible exact laws_toBoolS.mono _ _)
   | (with_reducible exact laws_toDisk.mono _ _ _)
   | (with_reducible exact laws_toWriteS.mono _ _)
   | (with_reducible exact spec_Some.mono _ _ _ _ _)
   | (with_reducible exact LeO.refl _)
   | (with_reducible exact LeO.none _)
   | (with_reducible refine LeO.ite ?_ ?_)
   | (with_reducible refine LeO.bind ?_ (fun _ => ?_))
   | exact ih0 _ _ _ _ _ _ _ _ _
   | exact impl_Some.mono _ _ _ _ _
   | exact laws_eqBoolS.mono _ _ _
   | exact laws_eqDisk.mono _ _ _ _ _
   | exact laws_eqWriteS.mono _ _ _
   | exact laws_heldDisk.mono _ _ _ _
   | exact laws_markBoolS.mono _ _ _
   | exact laws_markDisk.mono _ _ _ _
   | exact laws_markWriteS.mono _ _ _
   | exact laws_szDisk.mono _ _ _ _
   | exact laws_szWriteS.mono _ _ _
   | exact laws_toBoolS.mono _ _
   | exact laws_toDisk.mono _ _ _
   | exact laws_toWriteS.mono _ _
   | exact spec_Some.mono _ _ _ _ _
   | exact LeO.none _
   | refine LeO.ite ?_ ?_
   | refine LeO.bind ?_ (fun _ => ?_)
set_option maxHeartbeats 8000000 in
set_option maxRecDepth 100000 in
theorem laws_FnExactSome.calls (k : Nat) (A0_0 : Option Addr) (c0_0 : Nat) (l0_0 : List ByteArray) (A0_1 : Option Addr) (c0_1 : Nat) (l0_1 : List (S162)) (A1 : Option Addr) (c1 : Nat) (l1 : List (S164)) (A2 : Option Addr) (c2 : Nat) (l2 : List Bool) (r : Bool) (w : World) (hr0_0 : Kd.C Kd.string w A0_0 l0_0.length l0_0) (hc0_0 : l0_0.length ≤ c0_0) (hr0_1 : Kd.C k162 w A0_1 l0_1.length l0_1) (hc0_1 : l0_1.length ≤ c0_1) (hr1 : Kd.C k164 w A1 l1.length l1) (hc1 : l1.length ≤ c1) (hr2 : Kd.C Kd.bool w A2 l2.length l2) (hc2 : l2.length ≤ c2) (h : laws_FnExactSome.f k l0_0 l0_1 l1 l2 = some r) :
  Calls Try.prog 13 #[.agg #[.slice A0_0 l0_0.length c0_0, .slice A0_1 l0_1.length c0_1], .slice A1 l1.length c1, .slice A2 l2.length c2] w fun e w' => e = .returned (.bool r) ∧ Below w.heap.size w w' := by
 have hu89 := Try.underlying89
 have hu95 := Try.underlying95
 have HR0_0 := q_ hr0_0
 have HC0_0 := q_ hc0_0
 clear hr0_0 hc0_0
 have HR0_1 := q_ hr0_1
 have HC0_1 := q_ hc0_1
 clear hr0_1 hc0_1
 have HR1 := q_ hr1
 have HC1 := q_ hc1
 clear hr1 hc1
 have HR2 := q_ hr2
 have HC2 := q_ hc2
 clear hr2 hc2
 have HB := q_ (Below.refl w.heap.size w)
 have H : (if (l2.length : Int) > 1048576 then (some true) else ((laws_szDisk.f k l0_0 l0_1 1048576).bind fun t270 => (if t270 < 0 then (some true) else ((laws_szWriteS.f k l1 t270).bind fun t271 => (if t271 < 0 then (some true) else ((laws_toDisk.f k l0_0 l0_1).bind fun bt272 => ((laws_toWriteS.f k l1).bind fun t278 => ((laws_toBoolS.f k l2).bind fun t281 => ((spec_Some.f k bt272.1 bt272.2 t278 t281).bind fun bt284 => ((laws_toDisk.f k l0_0 l0_1).bind fun bt291 => ((laws_toWriteS.f k l1).bind fun t298 => ((laws_toBoolS.f k l2).bind fun t301 => ((impl_Some.f k bt291.1 bt291.2 t298 t301).bind fun bt304 => ((laws_eqDisk.f k bt304.1 bt304.2 bt284.1 bt284.2).bind fun t311 => (if t311 = true then ((laws_toDisk.f k l0_0 l0_1).bind fun bt312 => ((laws_eqDisk.f k bt291.1 bt291.2 bt312.1 bt312.2).bind fun t318 => (if t318 = true then ((laws_toWriteS.f k l1).bind fun t319 => ((laws_eqWriteS.f k t298 t319).bind fun t322 => (if t322 = true then ((laws_toBoolS.f k l2).bind fun t323 => ((laws_eqBoolS.f k t301 t323).bind fun t326 => (if t326 = true then ((laws_markDisk.f k bt291.1 bt291.2 1).bind fun bt327 => ((laws_markWriteS.f k t298 bt327.1).bind fun bt330 => ((laws_markBoolS.f k t301 bt330.1).bind fun bt332 => (if bt332.1 < 0 then (laws_FnExactSome.j0 k l1 l2 true l0_0 l0_1 bt284.1 bt284.2 bt304.1 bt304.2) else ((laws_eqDisk.f k bt304.1 bt304.2 bt284.1 bt284.2).bind fun t334 => (laws_FnExactSome.j0 k l1 l2 (!t334) l0_0 l0_1 bt284.1 bt284.2 bt304.1 bt304.2)))))) else (some false)))) else (some false)))) else (some false)))) else (some false)))))))))))))))) = some r := h
 clear h
 have HC4 := q_ H
 clear H
 go_enter Try.func13, Try.ntmps13
 go_upto_if 19 with (first | ((with_reducible refine gate_dst (N := 3) rfl ?_); refine box_event ?hg (N := 3) ?hd (cs := #[.slice A0_0 l0_0.length c0_0, .slice A0_1 l0_1.length c0_1]) (t := 89) ?hr ?_; (case hd => rfl); (case hg => rfl); (case hr => exact z177_); intro gb269 hg w5 hbox hb; have BK269 := q_ (hbox); have GW269 := q_ ((z141_ : w.heap.size ≤ gb269)); have GE269 := q_ ((z141_ : w.heap.size ≤ gb269)); replace HB := q_ (below_step z0_ hb); clear hb hbox hg))
 (try simp only [Act.put, List.setIfInBounds_toArray, List.set_cons_zero, List.set_cons_succ])
 have H := HC4.out
 clear HC4
 by_cases c6 : (l2.length : Int) > 1048576
 ·rw [if_pos c6] at H
  have c6b0 : decide (1048576 < (l2.length : Int)) = true := decide_eq_true c6
  have c6b1 : decide (1048576 < l2.length) = true := decide_eq_true (by omega)
  clear c6
  (first | rw [c6b0] | rw [c6b1] | (simp only [i64_w, i32_w]; first | rw [c6b0] | rw [c6b1]) | rw [c6b2] | skip)
  obtain rfl := Option.some.inj H
  go_wp2
  go_ret
  exact ⟨z4_, z20_⟩
 ·rw [if_neg c6] at H
  have c6b0 : decide (1048576 < (l2.length : Int)) = false := decide_eq_false c6
  have c6b1 : decide (1048576 < l2.length) = false := decide_eq_false (by omega)
  clear c6
  (first | rw [c6b0] | rw [c6b1] | (simp only [i64_w, i32_w]; first | rw [c6b0] | rw [c6b1]) | rw [c6b2] | skip)
  replace H := Option.bind_eq_some_iff.mp H
  obtain ⟨t270, A70, H⟩ := H
  replace H : (if t270 < 0 then (some true) else ((laws_szWriteS.f k l1 t270).bind fun t271 => (if t271 < 0 then (some true) else ((laws_toDisk.f k l0_0 l0_1).bind fun bt272 => ((laws_toWriteS.f k l1).bind fun t278 => ((laws_toBoolS.f k l2).bind fun t281 => ((spec_Some.f k bt272.1 bt272.2 t278 t281).bind fun bt284 => ((laws_toDisk.f k l0_0 l0_1).bind fun bt291 => ((laws_toWriteS.f k l1).bind fun t298 => ((laws_toBoolS.f k l2).bind fun t301 => ((impl_Some.f k bt291.1 bt291.2 t298 t301).bind fun bt304 => ((laws_eqDisk.f k bt304.1 bt304.2 bt284.1 bt284.2).bind fun t311 => (if t311 = true then ((laws_toDisk.f k l0_0 l0_1).bind fun bt312 => ((laws_eqDisk.f k bt291.1 bt291.2 bt312.1 bt312.2).bind fun t318 => (if t318 = true then ((laws_toWriteS.f k l1).bind fun t319 => ((laws_eqWriteS.f k t298 t319).bind fun t322 => (if t322 = true then ((laws_toBoolS.f k l2).bind fun t323 => ((laws_eqBoolS.f k t301 t323).bind fun t326 => (if t326 = true then ((laws_markDisk.f k bt291.1 bt291.2 1).bind fun bt327 => ((laws_markWriteS.f k t298 bt327.1).bind fun bt330 => ((laws_markBoolS.f k t301 bt330.1).bind fun bt332 => (if bt332.1 < 0 then (laws_FnExactSome.j0 k l1 l2 true l0_0 l0_1 bt284.1 bt284.2 bt304.1 bt304.2) else ((laws_eqDisk.f k bt304.1 bt304.2 bt284.1 bt284.2).bind fun t334 => (laws_FnExactSome.j0 k l1 l2 (!t334) l0_0 l0_1 bt284.1 bt284.2 bt304.1 bt304.2)))))) else (some false)))) else (some false)))) else (some false)))) else (some false)))))))))))))) = some r := H
  have A7 := q_ A70
  clear A70
  have HC8 := q_ H
  clear H
  obtain ⟨hcz9_0, hcz9_1, hfz9_0, hfz9_1⟩ := cs2_ BK269.out
  go_upto_if 24 with (first | ((with_reducible refine gate_callee (f := 70) rfl ?_); refine goesL_ (some 22) rfl rfl Try.func70 (by kernel_rfl) rfl #[.agg #[.slice A0_0 l0_0.length c0_0, .slice A0_1 l0_1.length c0_1], .int .i64 1048576] rfl z2_ ?_; (with_reducible refine (laws_szDisk.calls k _ _ l0_0 _ _ l0_1 1048576 t270 _ ?side1 ?side2 ?side3 ?side4 A7.out).mono ?_); (case side1 => exact z178_); (case side2 => exact HC0_0.out); (case side3 => exact z179_); (case side4 => exact HC0_1.out); rintro e w10 ⟨rfl, hb⟩; refine ⟨_, rfl, ?_⟩; replace BK269 := q_ (blk_below (g := gb269) (o := .cells #[.slice A0_0 l0_0.length c0_0, .slice A0_1 l0_1.length c0_1] 89 (0, 0)) z13_ hb); replace HB := q_ (below_step z20_ hb); (try clear hb); (try clear hb2); (try clear hk); (try clear hi)))
  (try simp only [Act.put, List.setIfInBounds_toArray, List.set_cons_zero, List.set_cons_succ])
  have H := HC8.out
  clear HC8
  by_cases c11 : t270 < 0
  ·rw [if_pos c11] at H
   have c11b0 : decide (t270 < 0) = true := decide_eq_true c11
   clear c11
   (first | rw [c11b0] | rw [c11b1] | (simp only [i64_w, i32_w]; first | rw [c11b0] | rw [c11b1]) | rw [c11b2] | skip)
   obtain rfl := Option.some.inj H
   go_wp2
   go_ret
   exact ⟨z4_, z20_⟩
  ·rw [if_neg c11] at H
   have c11b0 : decide (t270 < 0) = false := decide_eq_false c11
   clear c11
   (first | rw [c11b0] | rw [c11b1] | (simp only [i64_w, i32_w]; first | rw [c11b0] | rw [c11b1]) | rw [c11b2] | skip)
   replace H := Option.bind_eq_some_iff.mp H
   obtain ⟨t271, A120, H⟩ := H
   replace H : (if t271 < 0 then (some true) else ((laws_toDisk.f k l0_0 l0_1).bind fun bt272 => ((laws_toWriteS.f k l1).bind fun t278 => ((laws_toBoolS.f k l2).bind fun t281 => ((spec_Some.f k bt272.1 bt272.2 t278 t281).bind fun bt284 => ((laws_toDisk.f k l0_0 l0_1).bind fun bt291 => ((laws_toWriteS.f k l1).bind fun t298 => ((laws_toBoolS.f k l2).bind fun t301 => ((impl_Some.f k bt291.1 bt291.2 t298 t301).bind fun bt304 => ((laws_eqDisk.f k bt304.1 bt304.2 bt284.1 bt284.2).bind fun t311 => (if t311 = true then ((laws_toDisk.f k l0_0 l0_1).bind fun bt312 => ((laws_eqDisk.f k bt291.1 bt291.2 bt312.1 bt312.2).bind fun t318 => (if t318 = true then ((laws_toWriteS.f k l1).bind fun t319 => ((laws_eqWriteS.f k t298 t319).bind fun t322 => (if t322 = true then ((laws_toBoolS.f k l2).bind fun t323 => ((laws_eqBoolS.f k t301 t323).bind fun t326 => (if t326 = true then ((laws_markDisk.f k bt291.1 bt291.2 1).bind fun bt327 => ((laws_markWriteS.f k t298 bt327.1).bind fun bt330 => ((laws_markBoolS.f k t301 bt330.1).bind fun bt332 => (if bt332.1 < 0 then (laws_FnExactSome.j0 k l1 l2 true l0_0 l0_1 bt284.1 bt284.2 bt304.1 bt304.2) else ((laws_eqDisk.f k bt304.1 bt304.2 bt284.1 bt284.2).bind fun t334 => (laws_FnExactSome.j0 k l1 l2 (!t334) l0_0 l0_1 bt284.1 bt284.2 bt304.1 bt304.2)))))) else (some false)))) else (some false)))) else (some false)))) else (some false)))))))))))) = some r := H
   have A12 := q_ A120
   clear A120
   have HC13 := q_ H
   clear H
   go_upto_if 29 with (first | ((with_reducible refine gate_callee (f := 71) rfl ?_); refine goesL_ (some 27) rfl rfl Try.func71 (by kernel_rfl) rfl #[.slice A1 l1.length c1, .int .i64 t270] rfl z2_ ?_; (with_reducible refine (laws_szWriteS.calls k _ _ l1 t270 t271 _ ?side1 ?side2 A12.out).mono ?_); (case side1 => exact z181_); (case side2 => exact HC1.out); rintro e w14 ⟨rfl, hb⟩; refine ⟨_, rfl, ?_⟩; replace BK269 := q_ (blk_below (g := gb269) (o := .cells #[.slice A0_0 l0_0.length c0_0, .slice A0_1 l0_1.length c0_1] 89 (0, 0)) z13_ hb); replace HB := q_ (below_step z20_ hb); (try clear hb); (try clear hb2); (try clear hk); (try clear hi)))
   (try simp only [Act.put, List.setIfInBounds_toArray, List.set_cons_zero, List.set_cons_succ])
   have H := HC13.out
   clear HC13
   by_cases c15 : t271 < 0
   ·rw [if_pos c15] at H
    have c15b0 : decide (t271 < 0) = true := decide_eq_true c15
    clear c15
    (first | rw [c15b0] | rw [c15b1] | (simp only [i64_w, i32_w]; first | rw [c15b0] | rw [c15b1]) | rw [c15b2] | skip)
    obtain rfl := Option.some.inj H
    go_wp2
    go_ret
    exact ⟨z4_, z20_⟩
   ·rw [if_neg c15] at H
    have c15b0 : decide (t271 < 0) = false := decide_eq_false c15
    clear c15
    (first | rw [c15b0] | rw [c15b1] | (simp only [i64_w, i32_w]; first | rw [c15b0] | rw [c15b1]) | rw [c15b2] | skip)
    replace H := Option.bind_eq_some_iff.mp H
    obtain ⟨⟨t272, t275⟩, A160, H⟩ := H
    replace H : ((laws_toWriteS.f k l1).bind fun t278 => ((laws_toBoolS.f k l2).bind fun t281 => ((spec_Some.f k t272 t275 t278 t281).bind fun bt284 => ((laws_toDisk.f k l0_0 l0_1).bind fun bt291 => ((laws_toWriteS.f k l1).bind fun t298 => ((laws_toBoolS.f k l2).bind fun t301 => ((impl_Some.f k bt291.1 bt291.2 t298 t301).bind fun bt304 => ((laws_eqDisk.f k bt304.1 bt304.2 bt284.1 bt284.2).bind fun t311 => (if t311 = true then ((laws_toDisk.f k l0_0 l0_1).bind fun bt312 => ((laws_eqDisk.f k bt291.1 bt291.2 bt312.1 bt312.2).bind fun t318 => (if t318 = true then ((laws_toWriteS.f k l1).bind fun t319 => ((laws_eqWriteS.f k t298 t319).bind fun t322 => (if t322 = true then ((laws_toBoolS.f k l2).bind fun t323 => ((laws_eqBoolS.f k t301 t323).bind fun t326 => (if t326 = true then ((laws_markDisk.f k bt291.1 bt291.2 1).bind fun bt327 => ((laws_markWriteS.f k t298 bt327.1).bind fun bt330 => ((laws_markBoolS.f k t301 bt330.1).bind fun bt332 => (if bt332.1 < 0 then (laws_FnExactSome.j0 k l1 l2 true l0_0 l0_1 bt284.1 bt284.2 bt304.1 bt304.2) else ((laws_eqDisk.f k bt304.1 bt304.2 bt284.1 bt284.2).bind fun t334 => (laws_FnExactSome.j0 k l1 l2 (!t334) l0_0 l0_1 bt284.1 bt284.2 bt304.1 bt304.2)))))) else (some false)))) else (some false)))) else (some false)))) else (some false)))))))))) = some r := H
    have A16 := q_ A160
    clear A160
    replace H := Option.bind_eq_some_iff.mp H
    obtain ⟨t278, A170, H⟩ := H
    replace H : ((laws_toBoolS.f k l2).bind fun t281 => ((spec_Some.f k t272 t275 t278 t281).bind fun bt284 => ((laws_toDisk.f k l0_0 l0_1).bind fun bt291 => ((laws_toWriteS.f k l1).bind fun t298 => ((laws_toBoolS.f k l2).bind fun t301 => ((impl_Some.f k bt291.1 bt291.2 t298 t301).bind fun bt304 => ((laws_eqDisk.f k bt304.1 bt304.2 bt284.1 bt284.2).bind fun t311 => (if t311 = true then ((laws_toDisk.f k l0_0 l0_1).bind fun bt312 => ((laws_eqDisk.f k bt291.1 bt291.2 bt312.1 bt312.2).bind fun t318 => (if t318 = true then ((laws_toWriteS.f k l1).bind fun t319 => ((laws_eqWriteS.f k t298 t319).bind fun t322 => (if t322 = true then ((laws_toBoolS.f k l2).bind fun t323 => ((laws_eqBoolS.f k t301 t323).bind fun t326 => (if t326 = true then ((laws_markDisk.f k bt291.1 bt291.2 1).bind fun bt327 => ((laws_markWriteS.f k t298 bt327.1).bind fun bt330 => ((laws_markBoolS.f k t301 bt330.1).bind fun bt332 => (if bt332.1 < 0 then (laws_FnExactSome.j0 k l1 l2 true l0_0 l0_1 bt284.1 bt284.2 bt304.1 bt304.2) else ((laws_eqDisk.f k bt304.1 bt304.2 bt284.1 bt284.2).bind fun t334 => (laws_FnExactSome.j0 k l1 l2 (!t334) l0_0 l0_1 bt284.1 bt284.2 bt304.1 bt304.2)))))) else (some false)))) else (some false)))) else (some false)))) else (some false))))))))) = some r := H
    have A17 := q_ A170
    clear A170
    replace H := Option.bind_eq_some_iff.mp H
    obtain ⟨t281, A180, H⟩ := H
    replace H : ((spec_Some.f k t272 t275 t278 t281).bind fun bt284 => ((laws_toDisk.f k l0_0 l0_1).bind fun bt291 => ((laws_toWriteS.f k l1).bind fun t298 => ((laws_toBoolS.f k l2).bind fun t301 => ((impl_Some.f k bt291.1 bt291.2 t298 t301).bind fun bt304 => ((laws_eqDisk.f k bt304.1 bt304.2 bt284.1 bt284.2).bind fun t311 => (if t311 = true then ((laws_toDisk.f k l0_0 l0_1).bind fun bt312 => ((laws_eqDisk.f k bt291.1 bt291.2 bt312.1 bt312.2).bind fun t318 => (if t318 = true then ((laws_toWriteS.f k l1).bind fun t319 => ((laws_eqWriteS.f k t298 t319).bind fun t322 => (if t322 = true then ((laws_toBoolS.f k l2).bind fun t323 => ((laws_eqBoolS.f k t301 t323).bind fun t326 => (if t326 = true then ((laws_markDisk.f k bt291.1 bt291.2 1).bind fun bt327 => ((laws_markWriteS.f k t298 bt327.1).bind fun bt330 => ((laws_markBoolS.f k t301 bt330.1).bind fun bt332 => (if bt332.1 < 0 then (laws_FnExactSome.j0 k l1 l2 true l0_0 l0_1 bt284.1 bt284.2 bt304.1 bt304.2) else ((laws_eqDisk.f k bt304.1 bt304.2 bt284.1 bt284.2).bind fun t334 => (laws_FnExactSome.j0 k l1 l2 (!t334) l0_0 l0_1 bt284.1 bt284.2 bt304.1 bt304.2)))))) else (some false)))) else (some false)))) else (some false)))) else (some false)))))))) = some r := H
    have A18 := q_ A180
    clear A180
    replace H := Option.bind_eq_some_iff.mp H
    obtain ⟨⟨t284, t287⟩, A190, H⟩ := H
    replace H : ((laws_toDisk.f k l0_0 l0_1).bind fun bt291 => ((laws_toWriteS.f k l1).bind fun t298 => ((laws_toBoolS.f k l2).bind fun t301 => ((impl_Some.f k bt291.1 bt291.2 t298 t301).bind fun bt304 => ((laws_eqDisk.f k bt304.1 bt304.2 t284 t287).bind fun t311 => (if t311 = true then ((laws_toDisk.f k l0_0 l0_1).bind fun bt312 => ((laws_eqDisk.f k bt291.1 bt291.2 bt312.1 bt312.2).bind fun t318 => (if t318 = true then ((laws_toWriteS.f k l1).bind fun t319 => ((laws_eqWriteS.f k t298 t319).bind fun t322 => (if t322 = true then ((laws_toBoolS.f k l2).bind fun t323 => ((laws_eqBoolS.f k t301 t323).bind fun t326 => (if t326 = true then ((laws_markDisk.f k bt291.1 bt291.2 1).bind fun bt327 => ((laws_markWriteS.f k t298 bt327.1).bind fun bt330 => ((laws_markBoolS.f k t301 bt330.1).bind fun bt332 => (if bt332.1 < 0 then (laws_FnExactSome.j0 k l1 l2 true l0_0 l0_1 t284 t287 bt304.1 bt304.2) else ((laws_eqDisk.f k bt304.1 bt304.2 t284 t287).bind fun t334 => (laws_FnExactSome.j0 k l1 l2 (!t334) l0_0 l0_1 t284 t287 bt304.1 bt304.2)))))) else (some false)))) else (some false)))) else (some false)))) else (some false))))))) = some r := H
    have A19 := q_ A190
    clear A190
    replace H := Option.bind_eq_some_iff.mp H
    obtain ⟨⟨t291, t294⟩, A200, H⟩ := H
    replace H : ((laws_toWriteS.f k l1).bind fun t298 => ((laws_toBoolS.f k l2).bind fun t301 => ((impl_Some.f k t291 t294 t298 t301).bind fun bt304 => ((laws_eqDisk.f k bt304.1 bt304.2 t284 t287).bind fun t311 => (if t311 = true then ((laws_toDisk.f k l0_0 l0_1).bind fun bt312 => ((laws_eqDisk.f k t291 t294 bt312.1 bt312.2).bind fun t318 => (if t318 = true then ((laws_toWriteS.f k l1).bind fun t319 => ((laws_eqWriteS.f k t298 t319).bind fun t322 => (if t322 = true then ((laws_toBoolS.f k l2).bind fun t323 => ((laws_eqBoolS.f k t301 t323).bind fun t326 => (if t326 = true then ((laws_markDisk.f k t291 t294 1).bind fun bt327 => ((laws_markWriteS.f k t298 bt327.1).bind fun bt330 => ((laws_markBoolS.f k t301 bt330.1).bind fun bt332 => (if bt332.1 < 0 then (laws_FnExactSome.j0 k l1 l2 true l0_0 l0_1 t284 t287 bt304.1 bt304.2) else ((laws_eqDisk.f k bt304.1 bt304.2 t284 t287).bind fun t334 => (laws_FnExactSome.j0 k l1 l2 (!t334) l0_0 l0_1 t284 t287 bt304.1 bt304.2)))))) else (some false)))) else (some false)))) else (some false)))) else (some false)))))) = some r := H
    have A20 := q_ A200
    clear A200
    replace H := Option.bind_eq_some_iff.mp H
    obtain ⟨t298, A210, H⟩ := H
    replace H : ((laws_toBoolS.f k l2).bind fun t301 => ((impl_Some.f k t291 t294 t298 t301).bind fun bt304 => ((laws_eqDisk.f k bt304.1 bt304.2 t284 t287).bind fun t311 => (if t311 = true then ((laws_toDisk.f k l0_0 l0_1).bind fun bt312 => ((laws_eqDisk.f k t291 t294 bt312.1 bt312.2).bind fun t318 => (if t318 = true then ((laws_toWriteS.f k l1).bind fun t319 => ((laws_eqWriteS.f k t298 t319).bind fun t322 => (if t322 = true then ((laws_toBoolS.f k l2).bind fun t323 => ((laws_eqBoolS.f k t301 t323).bind fun t326 => (if t326 = true then ((laws_markDisk.f k t291 t294 1).bind fun bt327 => ((laws_markWriteS.f k t298 bt327.1).bind fun bt330 => ((laws_markBoolS.f k t301 bt330.1).bind fun bt332 => (if bt332.1 < 0 then (laws_FnExactSome.j0 k l1 l2 true l0_0 l0_1 t284 t287 bt304.1 bt304.2) else ((laws_eqDisk.f k bt304.1 bt304.2 t284 t287).bind fun t334 => (laws_FnExactSome.j0 k l1 l2 (!t334) l0_0 l0_1 t284 t287 bt304.1 bt304.2)))))) else (some false)))) else (some false)))) else (some false)))) else (some false))))) = some r := H
    have A21 := q_ A210
    clear A210
    replace H := Option.bind_eq_some_iff.mp H
    obtain ⟨t301, A220, H⟩ := H
    replace H : ((impl_Some.f k t291 t294 t298 t301).bind fun bt304 => ((laws_eqDisk.f k bt304.1 bt304.2 t284 t287).bind fun t311 => (if t311 = true then ((laws_toDisk.f k l0_0 l0_1).bind fun bt312 => ((laws_eqDisk.f k t291 t294 bt312.1 bt312.2).bind fun t318 => (if t318 = true then ((laws_toWriteS.f k l1).bind fun t319 => ((laws_eqWriteS.f k t298 t319).bind fun t322 => (if t322 = true then ((laws_toBoolS.f k l2).bind fun t323 => ((laws_eqBoolS.f k t301 t323).bind fun t326 => (if t326 = true then ((laws_markDisk.f k t291 t294 1).bind fun bt327 => ((laws_markWriteS.f k t298 bt327.1).bind fun bt330 => ((laws_markBoolS.f k t301 bt330.1).bind fun bt332 => (if bt332.1 < 0 then (laws_FnExactSome.j0 k l1 l2 true l0_0 l0_1 t284 t287 bt304.1 bt304.2) else ((laws_eqDisk.f k bt304.1 bt304.2 t284 t287).bind fun t334 => (laws_FnExactSome.j0 k l1 l2 (!t334) l0_0 l0_1 t284 t287 bt304.1 bt304.2)))))) else (some false)))) else (some false)))) else (some false)))) else (some false)))) = some r := H
    have A22 := q_ A220
    clear A220
    replace H := Option.bind_eq_some_iff.mp H
    obtain ⟨⟨t304, t307⟩, A230, H⟩ := H
    replace H : ((laws_eqDisk.f k t304 t307 t284 t287).bind fun t311 => (if t311 = true then ((laws_toDisk.f k l0_0 l0_1).bind fun bt312 => ((laws_eqDisk.f k t291 t294 bt312.1 bt312.2).bind fun t318 => (if t318 = true then ((laws_toWriteS.f k l1).bind fun t319 => ((laws_eqWriteS.f k t298 t319).bind fun t322 => (if t322 = true then ((laws_toBoolS.f k l2).bind fun t323 => ((laws_eqBoolS.f k t301 t323).bind fun t326 => (if t326 = true then ((laws_markDisk.f k t291 t294 1).bind fun bt327 => ((laws_markWriteS.f k t298 bt327.1).bind fun bt330 => ((laws_markBoolS.f k t301 bt330.1).bind fun bt332 => (if bt332.1 < 0 then (laws_FnExactSome.j0 k l1 l2 true l0_0 l0_1 t284 t287 t304 t307) else ((laws_eqDisk.f k t304 t307 t284 t287).bind fun t334 => (laws_FnExactSome.j0 k l1 l2 (!t334) l0_0 l0_1 t284 t287 t304 t307)))))) else (some false)))) else (some false)))) else (some false)))) else (some false))) = some r := H
    have A23 := q_ A230
    clear A230
    replace H := Option.bind_eq_some_iff.mp H
    obtain ⟨t311, A240, H⟩ := H
    replace H : (if t311 = true then ((laws_toDisk.f k l0_0 l0_1).bind fun bt312 => ((laws_eqDisk.f k t291 t294 bt312.1 bt312.2).bind fun t318 => (if t318 = true then ((laws_toWriteS.f k l1).bind fun t319 => ((laws_eqWriteS.f k t298 t319).bind fun t322 => (if t322 = true then ((laws_toBoolS.f k l2).bind fun t323 => ((laws_eqBoolS.f k t301 t323).bind fun t326 => (if t326 = true then ((laws_markDisk.f k t291 t294 1).bind fun bt327 => ((laws_markWriteS.f k t298 bt327.1).bind fun bt330 => ((laws_markBoolS.f k t301 bt330.1).bind fun bt332 => (if bt332.1 < 0 then (laws_FnExactSome.j0 k l1 l2 true l0_0 l0_1 t284 t287 t304 t307) else ((laws_eqDisk.f k t304 t307 t284 t287).bind fun t334 => (laws_FnExactSome.j0 k l1 l2 (!t334) l0_0 l0_1 t284 t287 t304 t307)))))) else (some false)))) else (some false)))) else (some false)))) else (some false)) = some r := H
    have A24 := q_ A240
    clear A240
    have HC25 := q_ H
    clear H
    obtain ⟨hcz26_0, hcz26_1, hfz26_0, hfz26_1⟩ := cs2_ BK269.out
    go_upto_if 50 with (first | ((with_reducible refine gate_callee (f := 73) rfl ?_); refine goesL_ (some 31) rfl rfl Try.func73 (by kernel_rfl) rfl #[.agg #[.slice A0_0 l0_0.length c0_0, .slice A0_1 l0_1.length c0_1]] rfl z2_ ?_; (with_reducible refine (laws_toDisk.calls k _ _ l0_0 _ _ l0_1 t272 t275 _ ?side1 ?side2 ?side3 ?side4 A16.out).mono ?_); (case side1 => exact z178_); (case side2 => exact HC0_0.out); (case side3 => exact z179_); (case side4 => exact HC0_1.out); rintro e w27 ⟨v273, v276, rfl, ho0, ho1, hb⟩; refine ⟨_, rfl, ?_⟩; have HO274 := q_ (Kd.R_lower ho0 (below_size z20_)); have HO277 := q_ (Kd.R_lower ho1 (below_size z20_)); replace BK269 := q_ (blk_below (g := gb269) (o := .cells #[.slice A0_0 l0_0.length c0_0, .slice A0_1 l0_1.length c0_1] 89 (0, 0)) z13_ hb); replace HB := q_ (below_step z20_ hb); (try clear hb); (try clear hb2); (try clear hk); (try clear hi); (try clear ho0); (try clear ho1)) | ((with_reducible refine gate_callee (f := 74) rfl ?_); refine goesL_ (some 33) rfl rfl Try.func74 (by kernel_rfl) rfl #[.slice A1 l1.length c1] rfl z2_ ?_; (with_reducible refine (laws_toWriteS.calls k _ _ l1 t278 _ ?side1 ?side2 A17.out).mono ?_); (case side1 => exact z181_); (case side2 => exact HC1.out); rintro e w28 ⟨v279, rfl, ho0, hb⟩; refine ⟨_, rfl, ?_⟩; replace HO274 := q_ (Kd.R_below z27_ hb); replace HO277 := q_ (Kd.R_below z28_ hb); have HO280 := q_ (Kd.R_lower ho0 (below_size z20_)); replace BK269 := q_ (blk_below (g := gb269) (o := .cells #[.slice A0_0 l0_0.length c0_0, .slice A0_1 l0_1.length c0_1] 89 (0, 0)) z13_ hb); replace HB := q_ (below_step z20_ hb); (try clear hb); (try clear hb2); (try clear hk); (try clear hi); (try clear ho0)) | ((with_reducible refine gate_callee (f := 82) rfl ?_); refine goesL_ (some 35) rfl rfl Try.func82 (by kernel_rfl) rfl #[.slice A2 l2.length c2] rfl z2_ ?_; (with_reducible refine (laws_toBoolS.calls k _ _ l2 t281 _ ?side1 ?side2 A18.out).mono ?_); (case side1 => exact z182_); (case side2 => exact HC2.out); rintro e w29 ⟨v282, rfl, ho0, hb⟩; refine ⟨_, rfl, ?_⟩; replace HO274 := q_ (Kd.R_below z27_ hb); replace HO277 := q_ (Kd.R_below z28_ hb); replace HO280 := q_ (Kd.R_below z37_ hb); have HO283 := q_ (Kd.R_lower ho0 (below_size z20_)); replace BK269 := q_ (blk_below (g := gb269) (o := .cells #[.slice A0_0 l0_0.length c0_0, .slice A0_1 l0_1.length c0_1] 89 (0, 0)) z13_ hb); replace HB := q_ (below_step z20_ hb); (try clear hb); (try clear hb2); (try clear hk); (try clear hi); (try clear ho0); obtain ⟨Ao30, co30, eo30⟩ := Kd.R_slice HO274.out; subst eo30; obtain ⟨Ao31, co31, eo31⟩ := Kd.R_slice HO277.out; subst eo31; obtain ⟨Ao32, co32, eo32⟩ := Kd.R_slice HO280.out; subst eo32; obtain ⟨Ao33, co33, eo33⟩ := Kd.R_slice HO283.out; subst eo33) | ((with_reducible refine gate_callee (f := 81) rfl ?_); refine goesL_ (some 36) rfl rfl Try.func81 (by kernel_rfl) rfl #[.agg #[.slice Ao30 t272.length co30, .slice Ao31 t275.length co31], .slice Ao32 t278.length co32, .slice Ao33 t281.length co33] rfl z2_ ?_; (with_reducible refine (spec_Some.calls k _ _ t272 _ _ t275 _ _ t278 _ _ t281 t284 t287 _ ?side1 ?side2 ?side3 ?side4 ?side5 ?side6 ?side7 ?side8 A19.out).mono ?_); (case side1 => repeat (first | exact (Kd.R_reads' HO274.out).2.2 | (with_reducible refine Kd.C_alloc ?_ _) | (with_reducible refine Kd.C_drewN ?_ _) | (with_reducible refine Kd.C_drew ?_))); (case side2 => exact (Kd.R_reads' HO274.out).2.1); (case side3 => repeat (first | exact (Kd.R_reads' HO277.out).2.2 | (with_reducible refine Kd.C_alloc ?_ _) | (with_reducible refine Kd.C_drewN ?_ _) | (with_reducible refine Kd.C_drew ?_))); (case side4 => exact (Kd.R_reads' HO277.out).2.1); (case side5 => repeat (first | exact (Kd.R_reads' HO280.out).2.2 | (with_reducible refine Kd.C_alloc ?_ _) | (with_reducible refine Kd.C_drewN ?_ _) | (with_reducible refine Kd.C_drew ?_))); (case side6 => exact (Kd.R_reads' HO280.out).2.1); (case side7 => repeat (first | exact (Kd.R_reads' HO283.out).2.2 | (with_reducible refine Kd.C_alloc ?_ _) | (with_reducible refine Kd.C_drewN ?_ _) | (with_reducible refine Kd.C_drew ?_))); (case side8 => exact (Kd.R_reads' HO283.out).2.1); rintro e w34 ⟨v285, v288, rfl, ho0, ho1, hb⟩; refine ⟨_, rfl, ?_⟩; replace HO280 := q_ (Kd.R_below z37_ hb); replace HO283 := q_ (Kd.R_below z38_ hb); have HO286 := q_ (Kd.R_lower (Kd.R_new' ho0 (Kd.R_lt z27_)) (below_size z20_)); replace HO274 := q_ (Kd.R_elder' z27_ (Kd.R_base ho0) hb); have HO289 := q_ (Kd.R_lower (Kd.R_new' ho1 (Kd.R_lt z28_)) (below_size z20_)); replace HO277 := q_ (Kd.R_elder' z28_ (Kd.R_base ho1) hb); replace BK269 := q_ (blk_below (g := gb269) (o := .cells #[.slice A0_0 l0_0.length c0_0, .slice A0_1 l0_1.length c0_1] 89 (0, 0)) z13_ hb); replace HB := q_ (below_step z20_ hb); (try clear hb); (try clear hb2); (try clear hk); (try clear hi); (try clear ho0); (try clear ho1)) | ((with_reducible refine gate_dst (N := 8) rfl ?_); refine box_event ?hg (N := 8) ?hd (cs := #[.slice none 0 0, .slice none 0 0]) (t := 95) ?hr ?_; (case hd => rfl); (case hg => rfl); (case hr => exact z177_); intro gb290 hg w35 hbox hb; replace HO274 := q_ (Kd.R_below z27_ hb); replace HO277 := q_ (Kd.R_below z28_ hb); replace HO280 := q_ (Kd.R_below z37_ hb); replace HO283 := q_ (Kd.R_below z38_ hb); replace HO286 := q_ (Kd.R_below z40_ hb); replace HO289 := q_ (Kd.R_below z41_ hb); have BK290 := q_ (hbox); have GW290 := q_ ((by rw [hg]; exact (below_size z20_) : w.heap.size ≤ gb290)); have GE290 := q_ ((by rw [hg]; exact (below_size z20_) : w.heap.size ≤ gb290)); replace HB := q_ (below_step z20_ hb); have NB269_290 := q_ ((z146_ : gb269 ≠ gb290)); have NB290_269 := q_ ((z147_ : gb290 ≠ gb269)); replace BK269 := q_ (blk_below (g := gb269) (o := .cells #[.slice A0_0 l0_0.length c0_0, .slice A0_1 l0_1.length c0_1] 89 (0, 0)) z13_ hb); clear hb hbox hg; obtain ⟨Ao36, co36, eo36⟩ := Kd.R_slice HO286.out; subst eo36; have hnb37 := NB290_269.out; have hnc37 := NB269_290.out; obtain ⟨hcz38_0, hcz38_1, hfz38_0, hfz38_1⟩ := cs2_ BK290.out; obtain ⟨Ao39, co39, eo39⟩ := Kd.R_slice HO289.out; subst eo39; obtain ⟨hcz40_0, hcz40_1, hfz40_0, hfz40_1⟩ := cs2_ BK269.out) | ((with_reducible refine gate_callee (f := 73) rfl ?_); refine goesL_ (some 38) rfl rfl Try.func73 (by kernel_rfl) rfl #[.agg #[.slice A0_0 l0_0.length c0_0, .slice A0_1 l0_1.length c0_1]] rfl z2_ ?_; (with_reducible refine (laws_toDisk.calls k _ _ l0_0 _ _ l0_1 t291 t294 _ ?side1 ?side2 ?side3 ?side4 A20.out).mono ?_); (case side1 => exact Kd.C_below HR0_0.out z34_); (case side2 => exact HC0_0.out); (case side3 => exact Kd.C_below HR0_1.out z34_); (case side4 => exact HC0_1.out); rintro e w41 ⟨v292, v295, rfl, ho0, ho1, hb⟩; refine ⟨_, rfl, ?_⟩; replace HO280 := q_ (Kd.R_below (by (with_reducible repeat (first | apply Kd.R_alloc | apply Kd.R_drewN | apply Kd.R_drew)); exact (Kd.R_mono (Kd.R_far (p := ⟨gb290, 1, none⟩) (Kd.R_far (p := ⟨gb290, 0, none⟩) (Kd.R_types HO280.out BK290.out (by decide)) (fun _ hk => hk.2) (.slice Ao36 t284.length co36)) (fun _ hk => hk.2) (.slice Ao39 t287.length co39)) (fun _ h_ => h_.1))) hb); replace HO283 := q_ (Kd.R_below (by (with_reducible repeat (first | apply Kd.R_alloc | apply Kd.R_drewN | apply Kd.R_drew)); exact (Kd.R_mono (Kd.R_far (p := ⟨gb290, 1, none⟩) (Kd.R_far (p := ⟨gb290, 0, none⟩) (Kd.R_types HO283.out BK290.out (by decide)) (fun _ hk => hk.2) (.slice Ao36 t284.length co36)) (fun _ hk => hk.2) (.slice Ao39 t287.length co39)) (fun _ h_ => h_.1))) hb); have HO293 := q_ (Kd.R_lower (Kd.R_new' (Kd.R_new' ho0 (Kd.R_lt (by (with_reducible repeat (first | apply Kd.R_alloc | apply Kd.R_drewN | apply Kd.R_drew)); exact (Kd.R_mono (Kd.R_far (p := ⟨gb290, 1, none⟩) (Kd.R_far (p := ⟨gb290, 0, none⟩) (Kd.R_types HO274.out BK290.out (by decide)) (fun _ hk => hk.2) (.slice Ao36 t284.length co36)) (fun _ hk => hk.2) (.slice Ao39 t287.length co39)) (fun _ h_ => h_.1))))) (Kd.R_lt (by (with_reducible repeat (first | apply Kd.R_alloc | apply Kd.R_drewN | apply Kd.R_drew)); exact (Kd.R_mono (Kd.R_far (p := ⟨gb290, 1, none⟩) (Kd.R_far (p := ⟨gb290, 0, none⟩) (Kd.R_types HO286.out BK290.out (by decide)) (fun _ hk => hk.2) (.slice Ao36 t284.length co36)) (fun _ hk => hk.2) (.slice Ao39 t287.length co39)) (fun _ h_ => h_.1))))) (below_size z34_)); replace HO274 := q_ (Kd.R_elder' (by (with_reducible repeat (first | apply Kd.R_alloc | apply Kd.R_drewN | apply Kd.R_drew)); exact (Kd.R_mono (Kd.R_far (p := ⟨gb290, 1, none⟩) (Kd.R_far (p := ⟨gb290, 0, none⟩) (Kd.R_types HO274.out BK290.out (by decide)) (fun _ hk => hk.2) (.slice Ao36 t284.length co36)) (fun _ hk => hk.2) (.slice Ao39 t287.length co39)) (fun _ h_ => h_.1))) (Kd.R_base ho0) hb); replace HO286 := q_ (Kd.R_elder' (by (with_reducible repeat (first | apply Kd.R_alloc | apply Kd.R_drewN | apply Kd.R_drew)); exact (Kd.R_mono (Kd.R_far (p := ⟨gb290, 1, none⟩) (Kd.R_far (p := ⟨gb290, 0, none⟩) (Kd.R_types HO286.out BK290.out (by decide)) (fun _ hk => hk.2) (.slice Ao36 t284.length co36)) (fun _ hk => hk.2) (.slice Ao39 t287.length co39)) (fun _ h_ => h_.1))) (Kd.R_base ho0) hb); have HO296 := q_ (Kd.R_lower (Kd.R_new' (Kd.R_new' ho1 (Kd.R_lt (by (with_reducible repeat (first | apply Kd.R_alloc | apply Kd.R_drewN | apply Kd.R_drew)); exact (Kd.R_mono (Kd.R_far (p := ⟨gb290, 1, none⟩) (Kd.R_far (p := ⟨gb290, 0, none⟩) (Kd.R_types HO277.out BK290.out (by decide)) (fun _ hk => hk.2) (.slice Ao36 t284.length co36)) (fun _ hk => hk.2) (.slice Ao39 t287.length co39)) (fun _ h_ => h_.1))))) (Kd.R_lt (by (with_reducible repeat (first | apply Kd.R_alloc | apply Kd.R_drewN | apply Kd.R_drew)); exact (Kd.R_mono (Kd.R_far (p := ⟨gb290, 1, none⟩) (Kd.R_far (p := ⟨gb290, 0, none⟩) (Kd.R_types HO289.out BK290.out (by decide)) (fun _ hk => hk.2) (.slice Ao36 t284.length co36)) (fun _ hk => hk.2) (.slice Ao39 t287.length co39)) (fun _ h_ => h_.1))))) (below_size z34_)); replace HO277 := q_ (Kd.R_elder' (by (with_reducible repeat (first | apply Kd.R_alloc | apply Kd.R_drewN | apply Kd.R_drew)); exact (Kd.R_mono (Kd.R_far (p := ⟨gb290, 1, none⟩) (Kd.R_far (p := ⟨gb290, 0, none⟩) (Kd.R_types HO277.out BK290.out (by decide)) (fun _ hk => hk.2) (.slice Ao36 t284.length co36)) (fun _ hk => hk.2) (.slice Ao39 t287.length co39)) (fun _ h_ => h_.1))) (Kd.R_base ho1) hb); replace HO289 := q_ (Kd.R_elder' (by (with_reducible repeat (first | apply Kd.R_alloc | apply Kd.R_drewN | apply Kd.R_drew)); exact (Kd.R_mono (Kd.R_far (p := ⟨gb290, 1, none⟩) (Kd.R_far (p := ⟨gb290, 0, none⟩) (Kd.R_types HO289.out BK290.out (by decide)) (fun _ hk => hk.2) (.slice Ao36 t284.length co36)) (fun _ hk => hk.2) (.slice Ao39 t287.length co39)) (fun _ h_ => h_.1))) (Kd.R_base ho1) hb); replace BK269 := q_ (blk_below (g := gb269) (o := .cells #[.slice A0_0 l0_0.length c0_0, .slice A0_1 l0_1.length c0_1] 89 (0, 0)) (by (with_reducible repeat (first | refine blk_drewN ?_ _ | refine blk_drew ?_ | refine blk_alloc ?_ _)); refine blk_far ?_ NB269_290.out _; (with_reducible repeat (first | refine blk_drewN ?_ _ | refine blk_drew ?_ | refine blk_alloc ?_ _)); refine blk_far ?_ NB269_290.out _; (with_reducible repeat (first | refine blk_drewN ?_ _ | refine blk_drew ?_ | refine blk_alloc ?_ _)); exact BK269.out) hb); replace BK290 := q_ (blk_below (g := gb290) (o := .cells #[.slice Ao36 t284.length co36, .slice Ao39 t287.length co39] 95 (0, 0)) (by (with_reducible repeat (first | refine blk_drewN ?_ _ | refine blk_drew ?_ | refine blk_alloc ?_ _)); refine blk_put (cs := #[.slice Ao36 t284.length co36, .slice none 0 0]) ?_ 1 _ rfl; (with_reducible repeat (first | refine blk_drewN ?_ _ | refine blk_drew ?_ | refine blk_alloc ?_ _)); refine blk_put (cs := #[.slice none 0 0, .slice none 0 0]) ?_ 0 _ rfl; (with_reducible repeat (first | refine blk_drewN ?_ _ | refine blk_drew ?_ | refine blk_alloc ?_ _)); exact BK290.out) hb); replace HB := q_ (below_step z34_ hb); (try clear hb); (try clear hb2); (try clear hk); (try clear hi); (try clear ho0); (try clear ho1)) | ((with_reducible refine gate_dst (N := 9) rfl ?_); refine box_event ?hg (N := 9) ?hd (cs := #[.slice none 0 0, .slice none 0 0]) (t := 95) ?hr ?_; (case hd => rfl); (case hg => rfl); (case hr => exact z177_); intro gb297 hg w42 hbox hb; replace HO274 := q_ (Kd.R_below z27_ hb); replace HO277 := q_ (Kd.R_below z28_ hb); replace HO280 := q_ (Kd.R_below z37_ hb); replace HO283 := q_ (Kd.R_below z38_ hb); replace HO286 := q_ (Kd.R_below z40_ hb); replace HO289 := q_ (Kd.R_below z41_ hb); replace HO293 := q_ (Kd.R_below z45_ hb); replace HO296 := q_ (Kd.R_below z46_ hb); have BK297 := q_ (hbox); have GW297 := q_ ((by rw [hg]; exact (below_size z34_) : w.heap.size ≤ gb297)); have GE297 := q_ ((by rw [hg]; exact (below_size z34_) : w.heap.size ≤ gb297)); replace HB := q_ (below_step z34_ hb); have NB269_297 := q_ ((z146_ : gb269 ≠ gb297)); have NB297_269 := q_ ((z147_ : gb297 ≠ gb269)); replace BK269 := q_ (blk_below (g := gb269) (o := .cells #[.slice A0_0 l0_0.length c0_0, .slice A0_1 l0_1.length c0_1] 89 (0, 0)) z13_ hb); have NB290_297 := q_ ((z150_ : gb290 ≠ gb297)); have NB297_290 := q_ ((z151_ : gb297 ≠ gb290)); replace BK290 := q_ (blk_below (g := gb290) (o := .cells #[.slice Ao36 t284.length co36, .slice Ao39 t287.length co39] 95 (0, 0)) z17_ hb); clear hb hbox hg; obtain ⟨Ao43, co43, eo43⟩ := Kd.R_slice HO293.out; subst eo43; have hnb44 := NB297_269.out; have hnc44 := NB269_297.out; have hnb45 := NB297_290.out; have hnc45 := NB290_297.out; obtain ⟨hcz46_0, hcz46_1, hfz46_0, hfz46_1⟩ := cs2_ BK297.out; obtain ⟨Ao47, co47, eo47⟩ := Kd.R_slice HO296.out; subst eo47) | ((with_reducible refine gate_callee (f := 74) rfl ?_); refine goesL_ (some 40) rfl rfl Try.func74 (by kernel_rfl) rfl #[.slice A1 l1.length c1] rfl z2_ ?_; (with_reducible refine (laws_toWriteS.calls k _ _ l1 t298 _ ?side1 ?side2 A21.out).mono ?_); (case side1 => exact Kd.C_below HR1.out z22_); (case side2 => exact HC1.out); rintro e w48 ⟨v299, rfl, ho0, hb⟩; refine ⟨_, rfl, ?_⟩; replace HO274 := q_ (Kd.R_below (by (with_reducible repeat (first | apply Kd.R_alloc | apply Kd.R_drewN | apply Kd.R_drew)); exact (Kd.R_mono (Kd.R_far (p := ⟨gb297, 1, none⟩) (Kd.R_far (p := ⟨gb297, 0, none⟩) (Kd.R_types HO274.out BK297.out (by decide)) (fun _ hk => hk.2) (.slice Ao43 t291.length co43)) (fun _ hk => hk.2) (.slice Ao47 t294.length co47)) (fun _ h_ => h_.1))) hb); replace HO277 := q_ (Kd.R_below (by (with_reducible repeat (first | apply Kd.R_alloc | apply Kd.R_drewN | apply Kd.R_drew)); exact (Kd.R_mono (Kd.R_far (p := ⟨gb297, 1, none⟩) (Kd.R_far (p := ⟨gb297, 0, none⟩) (Kd.R_types HO277.out BK297.out (by decide)) (fun _ hk => hk.2) (.slice Ao43 t291.length co43)) (fun _ hk => hk.2) (.slice Ao47 t294.length co47)) (fun _ h_ => h_.1))) hb); replace HO283 := q_ (Kd.R_below (by (with_reducible repeat (first | apply Kd.R_alloc | apply Kd.R_drewN | apply Kd.R_drew)); exact (Kd.R_mono (Kd.R_far (p := ⟨gb297, 1, none⟩) (Kd.R_far (p := ⟨gb297, 0, none⟩) (Kd.R_types HO283.out BK297.out (by decide)) (fun _ hk => hk.2) (.slice Ao43 t291.length co43)) (fun _ hk => hk.2) (.slice Ao47 t294.length co47)) (fun _ h_ => h_.1))) hb); replace HO286 := q_ (Kd.R_below (by (with_reducible repeat (first | apply Kd.R_alloc | apply Kd.R_drewN | apply Kd.R_drew)); exact (Kd.R_mono (Kd.R_far (p := ⟨gb297, 1, none⟩) (Kd.R_far (p := ⟨gb297, 0, none⟩) (Kd.R_types HO286.out BK297.out (by decide)) (fun _ hk => hk.2) (.slice Ao43 t291.length co43)) (fun _ hk => hk.2) (.slice Ao47 t294.length co47)) (fun _ h_ => h_.1))) hb); replace HO289 := q_ (Kd.R_below (by (with_reducible repeat (first | apply Kd.R_alloc | apply Kd.R_drewN | apply Kd.R_drew)); exact (Kd.R_mono (Kd.R_far (p := ⟨gb297, 1, none⟩) (Kd.R_far (p := ⟨gb297, 0, none⟩) (Kd.R_types HO289.out BK297.out (by decide)) (fun _ hk => hk.2) (.slice Ao43 t291.length co43)) (fun _ hk => hk.2) (.slice Ao47 t294.length co47)) (fun _ h_ => h_.1))) hb); replace HO293 := q_ (Kd.R_below (by (with_reducible repeat (first | apply Kd.R_alloc | apply Kd.R_drewN | apply Kd.R_drew)); exact (Kd.R_mono (Kd.R_far (p := ⟨gb297, 1, none⟩) (Kd.R_far (p := ⟨gb297, 0, none⟩) (Kd.R_types HO293.out BK297.out (by decide)) (fun _ hk => hk.2) (.slice Ao43 t291.length co43)) (fun _ hk => hk.2) (.slice Ao47 t294.length co47)) (fun _ h_ => h_.1))) hb); replace HO296 := q_ (Kd.R_below (by (with_reducible repeat (first | apply Kd.R_alloc | apply Kd.R_drewN | apply Kd.R_drew)); exact (Kd.R_mono (Kd.R_far (p := ⟨gb297, 1, none⟩) (Kd.R_far (p := ⟨gb297, 0, none⟩) (Kd.R_types HO296.out BK297.out (by decide)) (fun _ hk => hk.2) (.slice Ao43 t291.length co43)) (fun _ hk => hk.2) (.slice Ao47 t294.length co47)) (fun _ h_ => h_.1))) hb); have HO300 := q_ (Kd.R_lower (Kd.R_new' ho0 (Kd.R_lt (by (with_reducible repeat (first | apply Kd.R_alloc | apply Kd.R_drewN | apply Kd.R_drew)); exact (Kd.R_mono (Kd.R_far (p := ⟨gb297, 1, none⟩) (Kd.R_far (p := ⟨gb297, 0, none⟩) (Kd.R_types HO280.out BK297.out (by decide)) (fun _ hk => hk.2) (.slice Ao43 t291.length co43)) (fun _ hk => hk.2) (.slice Ao47 t294.length co47)) (fun _ h_ => h_.1))))) (below_size z22_)); replace HO280 := q_ (Kd.R_elder' (by (with_reducible repeat (first | apply Kd.R_alloc | apply Kd.R_drewN | apply Kd.R_drew)); exact (Kd.R_mono (Kd.R_far (p := ⟨gb297, 1, none⟩) (Kd.R_far (p := ⟨gb297, 0, none⟩) (Kd.R_types HO280.out BK297.out (by decide)) (fun _ hk => hk.2) (.slice Ao43 t291.length co43)) (fun _ hk => hk.2) (.slice Ao47 t294.length co47)) (fun _ h_ => h_.1))) (Kd.R_base ho0) hb); replace BK269 := q_ (blk_below (g := gb269) (o := .cells #[.slice A0_0 l0_0.length c0_0, .slice A0_1 l0_1.length c0_1] 89 (0, 0)) (by (with_reducible repeat (first | refine blk_drewN ?_ _ | refine blk_drew ?_ | refine blk_alloc ?_ _)); refine blk_far ?_ NB269_297.out _; (with_reducible repeat (first | refine blk_drewN ?_ _ | refine blk_drew ?_ | refine blk_alloc ?_ _)); refine blk_far ?_ NB269_297.out _; (with_reducible repeat (first | refine blk_drewN ?_ _ | refine blk_drew ?_ | refine blk_alloc ?_ _)); exact BK269.out) hb); replace BK290 := q_ (blk_below (g := gb290) (o := .cells #[.slice Ao36 t284.length co36, .slice Ao39 t287.length co39] 95 (0, 0)) (by (with_reducible repeat (first | refine blk_drewN ?_ _ | refine blk_drew ?_ | refine blk_alloc ?_ _)); refine blk_far ?_ NB290_297.out _; (with_reducible repeat (first | refine blk_drewN ?_ _ | refine blk_drew ?_ | refine blk_alloc ?_ _)); refine blk_far ?_ NB290_297.out _; (with_reducible repeat (first | refine blk_drewN ?_ _ | refine blk_drew ?_ | refine blk_alloc ?_ _)); exact BK290.out) hb); replace BK297 := q_ (blk_below (g := gb297) (o := .cells #[.slice Ao43 t291.length co43, .slice Ao47 t294.length co47] 95 (0, 0)) (by (with_reducible repeat (first | refine blk_drewN ?_ _ | refine blk_drew ?_ | refine blk_alloc ?_ _)); refine blk_put (cs := #[.slice Ao43 t291.length co43, .slice none 0 0]) ?_ 1 _ rfl; (with_reducible repeat (first | refine blk_drewN ?_ _ | refine blk_drew ?_ | refine blk_alloc ?_ _)); refine blk_put (cs := #[.slice none 0 0, .slice none 0 0]) ?_ 0 _ rfl; (with_reducible repeat (first | refine blk_drewN ?_ _ | refine blk_drew ?_ | refine blk_alloc ?_ _)); exact BK297.out) hb); replace HB := q_ (below_step z22_ hb); (try clear hb); (try clear hb2); (try clear hk); (try clear hi); (try clear ho0)) | ((with_reducible refine gate_callee (f := 82) rfl ?_); refine goesL_ (some 42) rfl rfl Try.func82 (by kernel_rfl) rfl #[.slice A2 l2.length c2] rfl z2_ ?_; (with_reducible refine (laws_toBoolS.calls k _ _ l2 t301 _ ?side1 ?side2 A22.out).mono ?_); (case side1 => exact z182_); (case side2 => exact HC2.out); rintro e w49 ⟨v302, rfl, ho0, hb⟩; refine ⟨_, rfl, ?_⟩; replace HO274 := q_ (Kd.R_below z27_ hb); replace HO277 := q_ (Kd.R_below z28_ hb); replace HO280 := q_ (Kd.R_below z37_ hb); replace HO286 := q_ (Kd.R_below z40_ hb); replace HO289 := q_ (Kd.R_below z41_ hb); replace HO293 := q_ (Kd.R_below z45_ hb); replace HO296 := q_ (Kd.R_below z46_ hb); replace HO300 := q_ (Kd.R_below z52_ hb); have HO303 := q_ (Kd.R_lower (Kd.R_new' ho0 (Kd.R_lt z38_)) (below_size z22_)); replace HO283 := q_ (Kd.R_elder' z38_ (Kd.R_base ho0) hb); replace BK269 := q_ (blk_below (g := gb269) (o := .cells #[.slice A0_0 l0_0.length c0_0, .slice A0_1 l0_1.length c0_1] 89 (0, 0)) z13_ hb); replace BK290 := q_ (blk_below (g := gb290) (o := .cells #[.slice Ao36 t284.length co36, .slice Ao39 t287.length co39] 95 (0, 0)) z17_ hb); replace BK297 := q_ (blk_below (g := gb297) (o := .cells #[.slice Ao43 t291.length co43, .slice Ao47 t294.length co47] 95 (0, 0)) z49_ hb); replace HB := q_ (below_step z22_ hb); (try clear hb); (try clear hb2); (try clear hk); (try clear hi); (try clear ho0); obtain ⟨hcz50_0, hcz50_1, hfz50_0, hfz50_1⟩ := cs2_ BK297.out; obtain ⟨Ao51, co51, eo51⟩ := Kd.R_slice HO300.out; subst eo51; obtain ⟨Ao52, co52, eo52⟩ := Kd.R_slice HO303.out; subst eo52) | ((with_reducible refine gate_callee (f := 83) rfl ?_); refine goesL_ (some 46) rfl rfl Try.func83 (by kernel_rfl) rfl #[.agg #[.slice Ao43 t291.length co43, .slice Ao47 t294.length co47], .slice Ao51 t298.length co51, .slice Ao52 t301.length co52] rfl z2_ ?_; (with_reducible refine (impl_Some.calls k _ _ t291 _ _ t294 _ _ t298 _ _ t301 t304 t307 _ ?side1 ?side2 ?side3 ?side4 ?side5 ?side6 ?side7 ?side8 A23.out).mono ?_); (case side1 => exact z186_); (case side2 => exact (Kd.R_reads' HO293.out).2.1); (case side3 => exact z187_); (case side4 => exact (Kd.R_reads' HO296.out).2.1); (case side5 => exact z188_); (case side6 => exact (Kd.R_reads' HO300.out).2.1); (case side7 => exact z189_); (case side8 => exact (Kd.R_reads' HO303.out).2.1); rintro e w53 ⟨v305, v308, rfl, ho0, ho1, hb⟩; refine ⟨_, rfl, ?_⟩; replace HO280 := q_ (Kd.R_below z37_ hb); replace HO283 := q_ (Kd.R_below z38_ hb); replace HO300 := q_ (Kd.R_below z52_ hb); replace HO303 := q_ (Kd.R_below z61_ hb); have HO306 := q_ (Kd.R_lower (Kd.R_new' (Kd.R_new' (Kd.R_new' ho0 (Kd.R_lt z27_)) (Kd.R_lt z40_)) (Kd.R_lt z45_)) (below_size z22_)); replace HO274 := q_ (Kd.R_elder' z27_ (Kd.R_base ho0) hb); replace HO286 := q_ (Kd.R_elder' z40_ (Kd.R_base ho0) hb); replace HO293 := q_ (Kd.R_elder' z45_ (Kd.R_base ho0) hb); have HO309 := q_ (Kd.R_lower (Kd.R_new' (Kd.R_new' (Kd.R_new' ho1 (Kd.R_lt z28_)) (Kd.R_lt z41_)) (Kd.R_lt z46_)) (below_size z22_)); replace HO277 := q_ (Kd.R_elder' z28_ (Kd.R_base ho1) hb); replace HO289 := q_ (Kd.R_elder' z41_ (Kd.R_base ho1) hb); replace HO296 := q_ (Kd.R_elder' z46_ (Kd.R_base ho1) hb); replace BK269 := q_ (blk_below (g := gb269) (o := .cells #[.slice A0_0 l0_0.length c0_0, .slice A0_1 l0_1.length c0_1] 89 (0, 0)) z13_ hb); replace BK290 := q_ (blk_below (g := gb290) (o := .cells #[.slice Ao36 t284.length co36, .slice Ao39 t287.length co39] 95 (0, 0)) z17_ hb); replace BK297 := q_ (blk_below (g := gb297) (o := .cells #[.slice Ao43 t291.length co43, .slice Ao47 t294.length co47] 95 (0, 0)) z49_ hb); replace HB := q_ (below_step z22_ hb); (try clear hb); (try clear hb2); (try clear hk); (try clear hi); (try clear ho0); (try clear ho1)) | ((with_reducible refine gate_dst (N := 12) rfl ?_); refine box_event ?hg (N := 12) ?hd (cs := #[.slice none 0 0, .slice none 0 0]) (t := 95) ?hr ?_; (case hd => rfl); (case hg => rfl); (case hr => exact z177_); intro gb310 hg w54 hbox hb; replace HO274 := q_ (Kd.R_below z27_ hb); replace HO277 := q_ (Kd.R_below z28_ hb); replace HO280 := q_ (Kd.R_below z37_ hb); replace HO283 := q_ (Kd.R_below z38_ hb); replace HO286 := q_ (Kd.R_below z40_ hb); replace HO289 := q_ (Kd.R_below z41_ hb); replace HO293 := q_ (Kd.R_below z45_ hb); replace HO296 := q_ (Kd.R_below z46_ hb); replace HO300 := q_ (Kd.R_below z52_ hb); replace HO303 := q_ (Kd.R_below z61_ hb); replace HO306 := q_ (Kd.R_below z65_ hb); replace HO309 := q_ (Kd.R_below z66_ hb); have BK310 := q_ (hbox); have GW310 := q_ ((by rw [hg]; exact (below_size z22_) : w.heap.size ≤ gb310)); have GE310 := q_ ((by rw [hg]; exact (below_size z22_) : w.heap.size ≤ gb310)); replace HB := q_ (below_step z22_ hb); have NB269_310 := q_ ((z146_ : gb269 ≠ gb310)); have NB310_269 := q_ ((z147_ : gb310 ≠ gb269)); replace BK269 := q_ (blk_below (g := gb269) (o := .cells #[.slice A0_0 l0_0.length c0_0, .slice A0_1 l0_1.length c0_1] 89 (0, 0)) z13_ hb); have NB290_310 := q_ ((z150_ : gb290 ≠ gb310)); have NB310_290 := q_ ((z151_ : gb310 ≠ gb290)); replace BK290 := q_ (blk_below (g := gb290) (o := .cells #[.slice Ao36 t284.length co36, .slice Ao39 t287.length co39] 95 (0, 0)) z17_ hb); have NB297_310 := q_ ((by rw [hg]; exact Nat.ne_of_lt (blk_lt (g := gb297) (o := .cells #[.slice Ao43 t291.length co43, .slice Ao47 t294.length co47] 95 (0, 0)) z49_) : gb297 ≠ gb310)); have NB310_297 := q_ ((by rw [hg]; exact Nat.ne_of_gt (blk_lt (g := gb297) (o := .cells #[.slice Ao43 t291.length co43, .slice Ao47 t294.length co47] 95 (0, 0)) z49_) : gb310 ≠ gb297)); replace BK297 := q_ (blk_below (g := gb297) (o := .cells #[.slice Ao43 t291.length co43, .slice Ao47 t294.length co47] 95 (0, 0)) z49_ hb); clear hb hbox hg; obtain ⟨Ao55, co55, eo55⟩ := Kd.R_slice HO306.out; subst eo55; have hnb56 := NB310_269.out; have hnc56 := NB269_310.out; have hnb57 := NB310_290.out; have hnc57 := NB290_310.out; have hnb58 := NB310_297.out; have hnc58 := NB297_310.out; obtain ⟨hcz59_0, hcz59_1, hfz59_0, hfz59_1⟩ := cs2_ BK310.out; obtain ⟨Ao60, co60, eo60⟩ := Kd.R_slice HO309.out; subst eo60; obtain ⟨hcz61_0, hcz61_1, hfz61_0, hfz61_1⟩ := cs2_ BK290.out) | ((with_reducible refine gate_callee (f := 76) rfl ?_); refine goesL_ (some 49) rfl rfl Try.func76 (by kernel_rfl) rfl #[.agg #[.slice Ao55 t304.length co55, .slice Ao60 t307.length co60], .agg #[.slice Ao36 t284.length co36, .slice Ao39 t287.length co39]] rfl z2_ ?_; (with_reducible refine (laws_eqDisk.calls k _ _ t304 _ _ t307 _ _ t284 _ _ t287 t311 _ ?side1 ?side2 ?side3 ?side4 ?side5 ?side6 ?side7 ?side8 A24.out).mono ?_); (case side1 => refine (Kd.R_reads' (e := 9) (base := w.heap.size) (ok := fun k_ => (((True ∧ some k_ ≠ (.slice Ao30 t272.length co30 : Value).ownBlock) ∧ some k_ ≠ (.slice Ao36 t284.length co36 : Value).ownBlock) ∧ some k_ ≠ (.slice Ao43 t291.length co43 : Value).ownBlock)) (n := t304.length) (c := co55) ?_).2.2; exact (by (with_reducible repeat (first | apply Kd.R_alloc | apply Kd.R_drewN | apply Kd.R_drew)); exact (Kd.R_mono (Kd.R_far (p := ⟨gb310, 1, none⟩) (Kd.R_far (p := ⟨gb310, 0, none⟩) (Kd.R_types HO306.out BK310.out (by decide)) (fun _ hk => hk.2) (.slice Ao55 t304.length co55)) (fun _ hk => hk.2) (.slice Ao60 t307.length co60)) (fun _ h_ => h_.1)))); (case side2 => exact (Kd.R_reads' HO306.out).2.1); (case side3 => refine (Kd.R_reads' (e := 166) (base := w.heap.size) (ok := fun k_ => (((True ∧ some k_ ≠ (.slice Ao31 t275.length co31 : Value).ownBlock) ∧ some k_ ≠ (.slice Ao39 t287.length co39 : Value).ownBlock) ∧ some k_ ≠ (.slice Ao47 t294.length co47 : Value).ownBlock)) (n := t307.length) (c := co60) ?_).2.2; exact (by (with_reducible repeat (first | apply Kd.R_alloc | apply Kd.R_drewN | apply Kd.R_drew)); exact (Kd.R_mono (Kd.R_far (p := ⟨gb310, 1, none⟩) (Kd.R_far (p := ⟨gb310, 0, none⟩) (Kd.R_types HO309.out BK310.out (by decide)) (fun _ hk => hk.2) (.slice Ao55 t304.length co55)) (fun _ hk => hk.2) (.slice Ao60 t307.length co60)) (fun _ h_ => h_.1)))); (case side4 => exact (Kd.R_reads' HO309.out).2.1); (case side5 => refine (Kd.R_reads' (e := 9) (base := w.heap.size) (ok := fun k_ => (((True ∧ some k_ ≠ (.slice Ao30 t272.length co30 : Value).ownBlock) ∧ some k_ ≠ (.slice Ao43 t291.length co43 : Value).ownBlock) ∧ some k_ ≠ (.slice Ao55 t304.length co55 : Value).ownBlock)) (n := t284.length) (c := co36) ?_).2.2; exact (by (with_reducible repeat (first | apply Kd.R_alloc | apply Kd.R_drewN | apply Kd.R_drew)); exact (Kd.R_mono (Kd.R_far (p := ⟨gb310, 1, none⟩) (Kd.R_far (p := ⟨gb310, 0, none⟩) (Kd.R_types HO286.out BK310.out (by decide)) (fun _ hk => hk.2) (.slice Ao55 t304.length co55)) (fun _ hk => hk.2) (.slice Ao60 t307.length co60)) (fun _ h_ => h_.1)))); (case side6 => exact (Kd.R_reads' HO286.out).2.1); (case side7 => refine (Kd.R_reads' (e := 166) (base := w.heap.size) (ok := fun k_ => (((True ∧ some k_ ≠ (.slice Ao31 t275.length co31 : Value).ownBlock) ∧ some k_ ≠ (.slice Ao47 t294.length co47 : Value).ownBlock) ∧ some k_ ≠ (.slice Ao60 t307.length co60 : Value).ownBlock)) (n := t287.length) (c := co39) ?_).2.2; exact (by (with_reducible repeat (first | apply Kd.R_alloc | apply Kd.R_drewN | apply Kd.R_drew)); exact (Kd.R_mono (Kd.R_far (p := ⟨gb310, 1, none⟩) (Kd.R_far (p := ⟨gb310, 0, none⟩) (Kd.R_types HO289.out BK310.out (by decide)) (fun _ hk => hk.2) (.slice Ao55 t304.length co55)) (fun _ hk => hk.2) (.slice Ao60 t307.length co60)) (fun _ h_ => h_.1)))); (case side8 => exact (Kd.R_reads' HO289.out).2.1); rintro e w62 ⟨rfl, hb⟩; refine ⟨_, rfl, ?_⟩; replace HO274 := q_ (Kd.R_below (by (with_reducible repeat (first | apply Kd.R_alloc | apply Kd.R_drewN | apply Kd.R_drew)); exact (Kd.R_mono (Kd.R_far (p := ⟨gb310, 1, none⟩) (Kd.R_far (p := ⟨gb310, 0, none⟩) (Kd.R_types HO274.out BK310.out (by decide)) (fun _ hk => hk.2) (.slice Ao55 t304.length co55)) (fun _ hk => hk.2) (.slice Ao60 t307.length co60)) (fun _ h_ => h_.1))) hb); replace HO277 := q_ (Kd.R_below (by (with_reducible repeat (first | apply Kd.R_alloc | apply Kd.R_drewN | apply Kd.R_drew)); exact (Kd.R_mono (Kd.R_far (p := ⟨gb310, 1, none⟩) (Kd.R_far (p := ⟨gb310, 0, none⟩) (Kd.R_types HO277.out BK310.out (by decide)) (fun _ hk => hk.2) (.slice Ao55 t304.length co55)) (fun _ hk => hk.2) (.slice Ao60 t307.length co60)) (fun _ h_ => h_.1))) hb); replace HO280 := q_ (Kd.R_below (by (with_reducible repeat (first | apply Kd.R_alloc | apply Kd.R_drewN | apply Kd.R_drew)); exact (Kd.R_mono (Kd.R_far (p := ⟨gb310, 1, none⟩) (Kd.R_far (p := ⟨gb310, 0, none⟩) (Kd.R_types HO280.out BK310.out (by decide)) (fun _ hk => hk.2) (.slice Ao55 t304.length co55)) (fun _ hk => hk.2) (.slice Ao60 t307.length co60)) (fun _ h_ => h_.1))) hb); replace HO283 := q_ (Kd.R_below (by (with_reducible repeat (first | apply Kd.R_alloc | apply Kd.R_drewN | apply Kd.R_drew)); exact (Kd.R_mono (Kd.R_far (p := ⟨gb310, 1, none⟩) (Kd.R_far (p := ⟨gb310, 0, none⟩) (Kd.R_types HO283.out BK310.out (by decide)) (fun _ hk => hk.2) (.slice Ao55 t304.length co55)) (fun _ hk => hk.2) (.slice Ao60 t307.length co60)) (fun _ h_ => h_.1))) hb); replace HO286 := q_ (Kd.R_below (by (with_reducible repeat (first | apply Kd.R_alloc | apply Kd.R_drewN | apply Kd.R_drew)); exact (Kd.R_mono (Kd.R_far (p := ⟨gb310, 1, none⟩) (Kd.R_far (p := ⟨gb310, 0, none⟩) (Kd.R_types HO286.out BK310.out (by decide)) (fun _ hk => hk.2) (.slice Ao55 t304.length co55)) (fun _ hk => hk.2) (.slice Ao60 t307.length co60)) (fun _ h_ => h_.1))) hb); replace HO289 := q_ (Kd.R_below (by (with_reducible repeat (first | apply Kd.R_alloc | apply Kd.R_drewN | apply Kd.R_drew)); exact (Kd.R_mono (Kd.R_far (p := ⟨gb310, 1, none⟩) (Kd.R_far (p := ⟨gb310, 0, none⟩) (Kd.R_types HO289.out BK310.out (by decide)) (fun _ hk => hk.2) (.slice Ao55 t304.length co55)) (fun _ hk => hk.2) (.slice Ao60 t307.length co60)) (fun _ h_ => h_.1))) hb); replace HO293 := q_ (Kd.R_below (by (with_reducible repeat (first | apply Kd.R_alloc | apply Kd.R_drewN | apply Kd.R_drew)); exact (Kd.R_mono (Kd.R_far (p := ⟨gb310, 1, none⟩) (Kd.R_far (p := ⟨gb310, 0, none⟩) (Kd.R_types HO293.out BK310.out (by decide)) (fun _ hk => hk.2) (.slice Ao55 t304.length co55)) (fun _ hk => hk.2) (.slice Ao60 t307.length co60)) (fun _ h_ => h_.1))) hb); replace HO296 := q_ (Kd.R_below (by (with_reducible repeat (first | apply Kd.R_alloc | apply Kd.R_drewN | apply Kd.R_drew)); exact (Kd.R_mono (Kd.R_far (p := ⟨gb310, 1, none⟩) (Kd.R_far (p := ⟨gb310, 0, none⟩) (Kd.R_types HO296.out BK310.out (by decide)) (fun _ hk => hk.2) (.slice Ao55 t304.length co55)) (fun _ hk => hk.2) (.slice Ao60 t307.length co60)) (fun _ h_ => h_.1))) hb); replace HO300 := q_ (Kd.R_below (by (with_reducible repeat (first | apply Kd.R_alloc | apply Kd.R_drewN | apply Kd.R_drew)); exact (Kd.R_mono (Kd.R_far (p := ⟨gb310, 1, none⟩) (Kd.R_far (p := ⟨gb310, 0, none⟩) (Kd.R_types HO300.out BK310.out (by decide)) (fun _ hk => hk.2) (.slice Ao55 t304.length co55)) (fun _ hk => hk.2) (.slice Ao60 t307.length co60)) (fun _ h_ => h_.1))) hb); replace HO303 := q_ (Kd.R_below (by (with_reducible repeat (first | apply Kd.R_alloc | apply Kd.R_drewN | apply Kd.R_drew)); exact (Kd.R_mono (Kd.R_far (p := ⟨gb310, 1, none⟩) (Kd.R_far (p := ⟨gb310, 0, none⟩) (Kd.R_types HO303.out BK310.out (by decide)) (fun _ hk => hk.2) (.slice Ao55 t304.length co55)) (fun _ hk => hk.2) (.slice Ao60 t307.length co60)) (fun _ h_ => h_.1))) hb); replace HO306 := q_ (Kd.R_below (by (with_reducible repeat (first | apply Kd.R_alloc | apply Kd.R_drewN | apply Kd.R_drew)); exact (Kd.R_mono (Kd.R_far (p := ⟨gb310, 1, none⟩) (Kd.R_far (p := ⟨gb310, 0, none⟩) (Kd.R_types HO306.out BK310.out (by decide)) (fun _ hk => hk.2) (.slice Ao55 t304.length co55)) (fun _ hk => hk.2) (.slice Ao60 t307.length co60)) (fun _ h_ => h_.1))) hb); replace HO309 := q_ (Kd.R_below (by (with_reducible repeat (first | apply Kd.R_alloc | apply Kd.R_drewN | apply Kd.R_drew)); exact (Kd.R_mono (Kd.R_far (p := ⟨gb310, 1, none⟩) (Kd.R_far (p := ⟨gb310, 0, none⟩) (Kd.R_types HO309.out BK310.out (by decide)) (fun _ hk => hk.2) (.slice Ao55 t304.length co55)) (fun _ hk => hk.2) (.slice Ao60 t307.length co60)) (fun _ h_ => h_.1))) hb); replace BK269 := q_ (blk_below (g := gb269) (o := .cells #[.slice A0_0 l0_0.length c0_0, .slice A0_1 l0_1.length c0_1] 89 (0, 0)) (by (with_reducible repeat (first | refine blk_drewN ?_ _ | refine blk_drew ?_ | refine blk_alloc ?_ _)); refine blk_far ?_ NB269_310.out _; (with_reducible repeat (first | refine blk_drewN ?_ _ | refine blk_drew ?_ | refine blk_alloc ?_ _)); refine blk_far ?_ NB269_310.out _; (with_reducible repeat (first | refine blk_drewN ?_ _ | refine blk_drew ?_ | refine blk_alloc ?_ _)); exact BK269.out) hb); replace BK290 := q_ (blk_below (g := gb290) (o := .cells #[.slice Ao36 t284.length co36, .slice Ao39 t287.length co39] 95 (0, 0)) (by (with_reducible repeat (first | refine blk_drewN ?_ _ | refine blk_drew ?_ | refine blk_alloc ?_ _)); refine blk_far ?_ NB290_310.out _; (with_reducible repeat (first | refine blk_drewN ?_ _ | refine blk_drew ?_ | refine blk_alloc ?_ _)); refine blk_far ?_ NB290_310.out _; (with_reducible repeat (first | refine blk_drewN ?_ _ | refine blk_drew ?_ | refine blk_alloc ?_ _)); exact BK290.out) hb); replace BK297 := q_ (blk_below (g := gb297) (o := .cells #[.slice Ao43 t291.length co43, .slice Ao47 t294.length co47] 95 (0, 0)) (by (with_reducible repeat (first | refine blk_drewN ?_ _ | refine blk_drew ?_ | refine blk_alloc ?_ _)); refine blk_far ?_ NB297_310.out _; (with_reducible repeat (first | refine blk_drewN ?_ _ | refine blk_drew ?_ | refine blk_alloc ?_ _)); refine blk_far ?_ NB297_310.out _; (with_reducible repeat (first | refine blk_drewN ?_ _ | refine blk_drew ?_ | refine blk_alloc ?_ _)); exact BK297.out) hb); replace BK310 := q_ (blk_below (g := gb310) (o := .cells #[.slice Ao55 t304.length co55, .slice Ao60 t307.length co60] 95 (0, 0)) (by (with_reducible repeat (first | refine blk_drewN ?_ _ | refine blk_drew ?_ | refine blk_alloc ?_ _)); refine blk_put (cs := #[.slice Ao55 t304.length co55, .slice none 0 0]) ?_ 1 _ rfl; (with_reducible repeat (first | refine blk_drewN ?_ _ | refine blk_drew ?_ | refine blk_alloc ?_ _)); refine blk_put (cs := #[.slice none 0 0, .slice none 0 0]) ?_ 0 _ rfl; (with_reducible repeat (first | refine blk_drewN ?_ _ | refine blk_drew ?_ | refine blk_alloc ?_ _)); exact BK310.out) hb); replace HB := q_ (below_step z16_ hb); (try clear hb); (try clear hb2); (try clear hk); (try clear hi)))
    (try simp only [Act.put, List.setIfInBounds_toArray, List.set_cons_zero, List.set_cons_succ])
    have H := HC25.out
    clear HC25
    by_cases c63 : t311 = true
    ·subst c63
     have H1 : ((laws_toDisk.f k l0_0 l0_1).bind fun bt312 => ((laws_eqDisk.f k t291 t294 bt312.1 bt312.2).bind fun t318 => (if t318 = true then ((laws_toWriteS.f k l1).bind fun t319 => ((laws_eqWriteS.f k t298 t319).bind fun t322 => (if t322 = true then ((laws_toBoolS.f k l2).bind fun t323 => ((laws_eqBoolS.f k t301 t323).bind fun t326 => (if t326 = true then ((laws_markDisk.f k t291 t294 1).bind fun bt327 => ((laws_markWriteS.f k t298 bt327.1).bind fun bt330 => ((laws_markBoolS.f k t301 bt330.1).bind fun bt332 => (if bt332.1 < 0 then (laws_FnExactSome.j0 k l1 l2 true l0_0 l0_1 t284 t287 t304 t307) else ((laws_eqDisk.f k t304 t307 t284 t287).bind fun t334 => (laws_FnExactSome.j0 k l1 l2 (!t334) l0_0 l0_1 t284 t287 t304 t307)))))) else (some false)))) else (some false)))) else (some false)))) = some r := z90_
     clear H
     have H := H1
     clear H1
     replace H := Option.bind_eq_some_iff.mp H
     obtain ⟨⟨t312, t315⟩, A640, H⟩ := H
     replace H : ((laws_eqDisk.f k t291 t294 t312 t315).bind fun t318 => (if t318 = true then ((laws_toWriteS.f k l1).bind fun t319 => ((laws_eqWriteS.f k t298 t319).bind fun t322 => (if t322 = true then ((laws_toBoolS.f k l2).bind fun t323 => ((laws_eqBoolS.f k t301 t323).bind fun t326 => (if t326 = true then ((laws_markDisk.f k t291 t294 1).bind fun bt327 => ((laws_markWriteS.f k t298 bt327.1).bind fun bt330 => ((laws_markBoolS.f k t301 bt330.1).bind fun bt332 => (if bt332.1 < 0 then (laws_FnExactSome.j0 k l1 l2 true l0_0 l0_1 t284 t287 t304 t307) else ((laws_eqDisk.f k t304 t307 t284 t287).bind fun t334 => (laws_FnExactSome.j0 k l1 l2 (!t334) l0_0 l0_1 t284 t287 t304 t307)))))) else (some false)))) else (some false)))) else (some false))) = some r := H
     have A64 := q_ A640
     clear A640
     replace H := Option.bind_eq_some_iff.mp H
     obtain ⟨t318, A650, H⟩ := H
     replace H : (if t318 = true then ((laws_toWriteS.f k l1).bind fun t319 => ((laws_eqWriteS.f k t298 t319).bind fun t322 => (if t322 = true then ((laws_toBoolS.f k l2).bind fun t323 => ((laws_eqBoolS.f k t301 t323).bind fun t326 => (if t326 = true then ((laws_markDisk.f k t291 t294 1).bind fun bt327 => ((laws_markWriteS.f k t298 bt327.1).bind fun bt330 => ((laws_markBoolS.f k t301 bt330.1).bind fun bt332 => (if bt332.1 < 0 then (laws_FnExactSome.j0 k l1 l2 true l0_0 l0_1 t284 t287 t304 t307) else ((laws_eqDisk.f k t304 t307 t284 t287).bind fun t334 => (laws_FnExactSome.j0 k l1 l2 (!t334) l0_0 l0_1 t284 t287 t304 t307)))))) else (some false)))) else (some false)))) else (some false)) = some r := H
     have A65 := q_ A650
     clear A650
     have HC66 := q_ H
     clear H
     try go_wp2
     replace HO274 := q_ (Kd.R_drew HO274.out)
     replace HO277 := q_ (Kd.R_drew HO277.out)
     replace HO280 := q_ (Kd.R_drew HO280.out)
     replace HO283 := q_ (Kd.R_drew HO283.out)
     replace HO286 := q_ (Kd.R_drew HO286.out)
     replace HO289 := q_ (Kd.R_drew HO289.out)
     replace HO293 := q_ (Kd.R_drew HO293.out)
     replace HO296 := q_ (Kd.R_drew HO296.out)
     replace HO300 := q_ (Kd.R_drew HO300.out)
     replace HO303 := q_ (Kd.R_drew HO303.out)
     replace HO306 := q_ (Kd.R_drew HO306.out)
     replace HO309 := q_ (Kd.R_drew HO309.out)
     replace BK269 := q_ (blk_drew BK269.out)
     replace BK290 := q_ (blk_drew BK290.out)
     replace BK297 := q_ (blk_drew BK297.out)
     replace BK310 := q_ (blk_drew BK310.out)
     replace HB := q_ (below_drew1 HB.out)
     refine start_ (n := 5) (S := fun w' => w'.cell? ⟨gb297, 0, none⟩ = some (.slice Ao43 t291.length co43) ∧ w'.cell? ⟨gb297, 1, none⟩ = some (.slice Ao47 t294.length co47) ∧ w'.cell? ⟨gb269, 0, none⟩ = some (.slice A0_0 l0_0.length c0_0) ∧ w'.cell? ⟨gb269, 1, none⟩ = some (.slice A0_1 l0_1.length c0_1)) (ds := []) (tf 0 5) (by kernel_rfl) rfl rfl ⟨(blk_cell BK297.out 0).trans rfl, (blk_cell BK297.out 1).trans rfl, (blk_cell BK269.out 0).trans rfl, (blk_cell BK269.out 1).trans rfl⟩ (fun hHeld => ?_)
     generalize w62.drew = w67 at HO274 HO277 HO280 HO283 HO286 HO289 HO293 HO296 HO300 HO303 HO306 HO309 BK269 BK290 BK297 BK310 HB hHeld ⊢
     refine take_ (i := 0) (N := some 51) (v := ?_) (a' := ?_) (tf 1 4) rfl rfl (by kernel_rfl) (fun _ _ _ h => h) (Or.inl ⟨by rfl, ?_⟩) hHeld ?_ ?_
     rotate_left
     ·rintro w' ⟨s0, s1, s2, s3⟩
      go_simp
      with_reducible rfl
     rotate_left
     ·simp only [Act.put, List.setIfInBounds_toArray, List.set_cons_zero, List.set_cons_succ, i64_w, i32_w]
      rfl
     refine take_ (i := 1) (N := some 52) (v := ?_) (a' := ?_) (tf 2 3) rfl rfl (by kernel_rfl) (fun _ _ _ h => h) (Or.inl ⟨by rfl, ?_⟩) hHeld ?_ ?_
     rotate_left
     ·rintro w' ⟨s0, s1, s2, s3⟩
      go_simp
      with_reducible rfl
     rotate_left
     ·simp only [Act.put, List.setIfInBounds_toArray, List.set_cons_zero, List.set_cons_succ, i64_w, i32_w]
      rfl
     refine one_ (i := 2) (N := some 53) (tf 3 2) rfl rfl (by kernel_rfl) (by decide) (fun K hK => ?_)
     refine goes_ Try.func73 (by kernel_rfl) rfl #[.agg #[.slice A0_0 l0_0.length c0_0, .slice A0_1 l0_1.length c0_1]] (by rfl) rfl rfl z2_ ?_
     with_reducible refine (laws_toDisk.calls k _ _ l0_0 _ _ l0_1 t312 t315 _ ?side1 ?side2 ?side3 ?side4 A64.out).mono ?_
     (case side1 => exact z178_)
     (case side2 => exact HC0_0.out)
     (case side3 => exact z179_)
     (case side4 => exact HC0_1.out)
     rintro e w68 ⟨v313, v316, rfl, ho0, ho1, hb⟩
     refine ⟨_, rfl, ?_⟩
     replace HO280 := q_ (Kd.R_below z37_ hb)
     replace HO283 := q_ (Kd.R_below z38_ hb)
     replace HO300 := q_ (Kd.R_below z52_ hb)
     replace HO303 := q_ (Kd.R_below z61_ hb)
     have HO314 := q_ (Kd.R_lower (Kd.R_new' (Kd.R_new' (Kd.R_new' (Kd.R_new' ho0 (Kd.R_lt z27_)) (Kd.R_lt z40_)) (Kd.R_lt z45_)) (Kd.R_lt z65_)) (below_size z16_))
     replace HO274 := q_ (Kd.R_elder' z27_ (Kd.R_base ho0) hb)
     replace HO286 := q_ (Kd.R_elder' z40_ (Kd.R_base ho0) hb)
     replace HO293 := q_ (Kd.R_elder' z45_ (Kd.R_base ho0) hb)
     replace HO306 := q_ (Kd.R_elder' z65_ (Kd.R_base ho0) hb)
     have HO317 := q_ (Kd.R_lower (Kd.R_new' (Kd.R_new' (Kd.R_new' (Kd.R_new' ho1 (Kd.R_lt z28_)) (Kd.R_lt z41_)) (Kd.R_lt z46_)) (Kd.R_lt z66_)) (below_size z16_))
     replace HO277 := q_ (Kd.R_elder' z28_ (Kd.R_base ho1) hb)
     replace HO289 := q_ (Kd.R_elder' z41_ (Kd.R_base ho1) hb)
     replace HO296 := q_ (Kd.R_elder' z46_ (Kd.R_base ho1) hb)
     replace HO309 := q_ (Kd.R_elder' z66_ (Kd.R_base ho1) hb)
     replace BK269 := q_ (blk_below (g := gb269) (o := .cells #[.slice A0_0 l0_0.length c0_0, .slice A0_1 l0_1.length c0_1] 89 (0, 0)) z13_ hb)
     replace BK290 := q_ (blk_below (g := gb290) (o := .cells #[.slice Ao36 t284.length co36, .slice Ao39 t287.length co39] 95 (0, 0)) z17_ hb)
     replace BK297 := q_ (blk_below (g := gb297) (o := .cells #[.slice Ao43 t291.length co43, .slice Ao47 t294.length co47] 95 (0, 0)) z49_ hb)
     replace BK310 := q_ (blk_below (g := gb310) (o := .cells #[.slice Ao55 t304.length co55, .slice Ao60 t307.length co60] 95 (0, 0)) z23_ hb)
     replace HB := q_ (below_step z16_ hb)
     (try clear hb)
     (try clear hb2)
     (try clear hk)
     (try clear hi)
     (try clear ho0)
     (try clear ho1)
     obtain ⟨Ao69, co69, eo69⟩ := Kd.R_slice HO314.out
     (first | subst eo69 | (injection eo69 with f1_ f2_ f3_; have f4_ := f1_.symm; have f5_ := f3_.symm; clear f1_ f2_ f3_; subst f4_; subst f5_))
     obtain ⟨Ao70, co70, eo70⟩ := Kd.R_slice HO317.out
     (first | subst eo70 | (injection eo70 with f1_ f2_ f3_; have f4_ := f1_.symm; have f5_ := f3_.symm; clear f1_ f2_ f3_; subst f4_; subst f5_))
     refine hK.out _ _ ⟨(blk_cell BK297.out 0).trans rfl, (blk_cell BK297.out 1).trans rfl, (blk_cell BK269.out 0).trans rfl, (blk_cell BK269.out 1).trans rfl⟩ (fun hHeld => ?_)
     clear hK K
     refine norm_ (a' := ?_) ?_ ?_
     rotate_left
     ·show Act.put _ (some 53) _ = _
      simp only [Act.put, List.setIfInBounds_toArray, List.set_cons_zero, List.set_cons_succ, i64_w, i32_w]
      rfl
     refine one_ (i := 3) (N := some 54) (tf 4 1) rfl rfl (by kernel_rfl) (by decide) (fun K hK => ?_)
     refine goes_ Try.func76 (by kernel_rfl) rfl #[.agg #[.slice Ao43 t291.length co43, .slice Ao47 t294.length co47], .agg #[.slice Ao69 t312.length co69, .slice Ao70 t315.length co70]] (by rfl) rfl rfl z2_ ?_
     with_reducible refine (laws_eqDisk.calls k _ _ t291 _ _ t294 _ _ t312 _ _ t315 t318 _ ?side1 ?side2 ?side3 ?side4 ?side5 ?side6 ?side7 ?side8 A65.out).mono ?_
     (case side1 => exact z186_)
     (case side2 => exact (Kd.R_reads' HO293.out).2.1)
     (case side3 => exact z187_)
     (case side4 => exact (Kd.R_reads' HO296.out).2.1)
     (case side5 => repeat (first | exact (Kd.R_reads' HO314.out).2.2 | (with_reducible refine Kd.C_alloc ?_ _) | (with_reducible refine Kd.C_drewN ?_ _) | (with_reducible refine Kd.C_drew ?_)))
     (case side6 => exact (Kd.R_reads' HO314.out).2.1)
     (case side7 => repeat (first | exact (Kd.R_reads' HO317.out).2.2 | (with_reducible refine Kd.C_alloc ?_ _) | (with_reducible refine Kd.C_drewN ?_ _) | (with_reducible refine Kd.C_drew ?_)))
     (case side8 => exact (Kd.R_reads' HO317.out).2.1)
     rintro e w71 ⟨rfl, hb⟩
     refine ⟨_, rfl, ?_⟩
     replace HO274 := q_ (Kd.R_below z27_ hb)
     replace HO277 := q_ (Kd.R_below z28_ hb)
     replace HO280 := q_ (Kd.R_below z37_ hb)
     replace HO283 := q_ (Kd.R_below z38_ hb)
     replace HO286 := q_ (Kd.R_below z40_ hb)
     replace HO289 := q_ (Kd.R_below z41_ hb)
     replace HO293 := q_ (Kd.R_below z45_ hb)
     replace HO296 := q_ (Kd.R_below z46_ hb)
     replace HO300 := q_ (Kd.R_below z52_ hb)
     replace HO303 := q_ (Kd.R_below z61_ hb)
     replace HO306 := q_ (Kd.R_below z65_ hb)
     replace HO309 := q_ (Kd.R_below z66_ hb)
     replace HO314 := q_ (Kd.R_below z87_ hb)
     replace HO317 := q_ (Kd.R_below z88_ hb)
     replace BK269 := q_ (blk_below (g := gb269) (o := .cells #[.slice A0_0 l0_0.length c0_0, .slice A0_1 l0_1.length c0_1] 89 (0, 0)) z13_ hb)
     replace BK290 := q_ (blk_below (g := gb290) (o := .cells #[.slice Ao36 t284.length co36, .slice Ao39 t287.length co39] 95 (0, 0)) z17_ hb)
     replace BK297 := q_ (blk_below (g := gb297) (o := .cells #[.slice Ao43 t291.length co43, .slice Ao47 t294.length co47] 95 (0, 0)) z49_ hb)
     replace BK310 := q_ (blk_below (g := gb310) (o := .cells #[.slice Ao55 t304.length co55, .slice Ao60 t307.length co60] 95 (0, 0)) z23_ hb)
     replace HB := q_ (below_step z16_ hb)
     (try clear hb)
     (try clear hb2)
     (try clear hk)
     (try clear hi)
     refine hK.out _ _ ⟨(blk_cell BK297.out 0).trans rfl, (blk_cell BK297.out 1).trans rfl, (blk_cell BK269.out 0).trans rfl, (blk_cell BK269.out 1).trans rfl⟩ (fun hHeld => ?_)
     clear hK K
     refine norm_ (a' := ?_) ?_ ?_
     rotate_left
     ·show Act.put _ (some 54) _ = _
      simp only [Act.put, List.setIfInBounds_toArray, List.set_cons_zero, List.set_cons_succ, i64_w, i32_w]
      rfl
     refine pure_ (i := 4) (N := some 55) (v := ?_) (a' := ?_) (tf 5 0) rfl rfl (by kernel_rfl) (fun _ _ _ h => h) (Or.inl ⟨by rfl, ?_⟩) ?_ ?_
     rotate_left
     ·intro w'
      go_simp
      with_reducible rfl
     rotate_left
     ·simp only [Act.put, List.setIfInBounds_toArray, List.set_cons_zero, List.set_cons_succ, i64_w, i32_w]
      rfl
     refine done_ (by kernel_rfl) ?_
     go_upto_if 55 with (fail)
     have H := HC66.out
     clear HC66
     by_cases c72 : t318 = true
     ·subst c72
      have H1 : ((laws_toWriteS.f k l1).bind fun t319 => ((laws_eqWriteS.f k t298 t319).bind fun t322 => (if t322 = true then ((laws_toBoolS.f k l2).bind fun t323 => ((laws_eqBoolS.f k t301 t323).bind fun t326 => (if t326 = true then ((laws_markDisk.f k t291 t294 1).bind fun bt327 => ((laws_markWriteS.f k t298 bt327.1).bind fun bt330 => ((laws_markBoolS.f k t301 bt330.1).bind fun bt332 => (if bt332.1 < 0 then (laws_FnExactSome.j0 k l1 l2 true l0_0 l0_1 t284 t287 t304 t307) else ((laws_eqDisk.f k t304 t307 t284 t287).bind fun t334 => (laws_FnExactSome.j0 k l1 l2 (!t334) l0_0 l0_1 t284 t287 t304 t307)))))) else (some false)))) else (some false)))) = some r := z90_
      clear H
      have H := H1
      clear H1
      replace H := Option.bind_eq_some_iff.mp H
      obtain ⟨t319, A730, H⟩ := H
      replace H : ((laws_eqWriteS.f k t298 t319).bind fun t322 => (if t322 = true then ((laws_toBoolS.f k l2).bind fun t323 => ((laws_eqBoolS.f k t301 t323).bind fun t326 => (if t326 = true then ((laws_markDisk.f k t291 t294 1).bind fun bt327 => ((laws_markWriteS.f k t298 bt327.1).bind fun bt330 => ((laws_markBoolS.f k t301 bt330.1).bind fun bt332 => (if bt332.1 < 0 then (laws_FnExactSome.j0 k l1 l2 true l0_0 l0_1 t284 t287 t304 t307) else ((laws_eqDisk.f k t304 t307 t284 t287).bind fun t334 => (laws_FnExactSome.j0 k l1 l2 (!t334) l0_0 l0_1 t284 t287 t304 t307)))))) else (some false)))) else (some false))) = some r := H
      have A73 := q_ A730
      clear A730
      replace H := Option.bind_eq_some_iff.mp H
      obtain ⟨t322, A740, H⟩ := H
      replace H : (if t322 = true then ((laws_toBoolS.f k l2).bind fun t323 => ((laws_eqBoolS.f k t301 t323).bind fun t326 => (if t326 = true then ((laws_markDisk.f k t291 t294 1).bind fun bt327 => ((laws_markWriteS.f k t298 bt327.1).bind fun bt330 => ((laws_markBoolS.f k t301 bt330.1).bind fun bt332 => (if bt332.1 < 0 then (laws_FnExactSome.j0 k l1 l2 true l0_0 l0_1 t284 t287 t304 t307) else ((laws_eqDisk.f k t304 t307 t284 t287).bind fun t334 => (laws_FnExactSome.j0 k l1 l2 (!t334) l0_0 l0_1 t284 t287 t304 t307)))))) else (some false)))) else (some false)) = some r := H
      have A74 := q_ A740
      clear A740
      have HC75 := q_ H
      clear H
      go_upto_if 60 with (first | ((with_reducible refine gate_callee (f := 74) rfl ?_); refine goesL_ (some 58) rfl rfl Try.func74 (by kernel_rfl) rfl #[.slice A1 l1.length c1] rfl z2_ ?_; (with_reducible refine (laws_toWriteS.calls k _ _ l1 t319 _ ?side1 ?side2 A73.out).mono ?_); (case side1 => exact z181_); (case side2 => exact HC1.out); rintro e w76 ⟨v320, rfl, ho0, hb⟩; refine ⟨_, rfl, ?_⟩; replace HO274 := q_ (Kd.R_below z27_ hb); replace HO277 := q_ (Kd.R_below z28_ hb); replace HO283 := q_ (Kd.R_below z38_ hb); replace HO286 := q_ (Kd.R_below z40_ hb); replace HO289 := q_ (Kd.R_below z41_ hb); replace HO293 := q_ (Kd.R_below z45_ hb); replace HO296 := q_ (Kd.R_below z46_ hb); replace HO303 := q_ (Kd.R_below z61_ hb); replace HO306 := q_ (Kd.R_below z65_ hb); replace HO309 := q_ (Kd.R_below z66_ hb); replace HO314 := q_ (Kd.R_below z87_ hb); replace HO317 := q_ (Kd.R_below z88_ hb); have HO321 := q_ (Kd.R_lower (Kd.R_new' (Kd.R_new' ho0 (Kd.R_lt z37_)) (Kd.R_lt z52_)) (below_size z16_)); replace HO280 := q_ (Kd.R_elder' z37_ (Kd.R_base ho0) hb); replace HO300 := q_ (Kd.R_elder' z52_ (Kd.R_base ho0) hb); replace BK269 := q_ (blk_below (g := gb269) (o := .cells #[.slice A0_0 l0_0.length c0_0, .slice A0_1 l0_1.length c0_1] 89 (0, 0)) z13_ hb); replace BK290 := q_ (blk_below (g := gb290) (o := .cells #[.slice Ao36 t284.length co36, .slice Ao39 t287.length co39] 95 (0, 0)) z17_ hb); replace BK297 := q_ (blk_below (g := gb297) (o := .cells #[.slice Ao43 t291.length co43, .slice Ao47 t294.length co47] 95 (0, 0)) z49_ hb); replace BK310 := q_ (blk_below (g := gb310) (o := .cells #[.slice Ao55 t304.length co55, .slice Ao60 t307.length co60] 95 (0, 0)) z23_ hb); replace HB := q_ (below_step z16_ hb); (try clear hb); (try clear hb2); (try clear hk); (try clear hi); (try clear ho0); obtain ⟨Ao77, co77, eo77⟩ := Kd.R_slice HO321.out; subst eo77) | ((with_reducible refine gate_callee (f := 77) rfl ?_); refine goesL_ (some 59) rfl rfl Try.func77 (by kernel_rfl) rfl #[.slice Ao51 t298.length co51, .slice Ao77 t319.length co77] rfl z2_ ?_; (with_reducible refine (laws_eqWriteS.calls k _ _ t298 _ _ t319 t322 _ ?side1 ?side2 ?side3 ?side4 A74.out).mono ?_); (case side1 => exact z188_); (case side2 => exact (Kd.R_reads' HO300.out).2.1); (case side3 => repeat (first | exact (Kd.R_reads' HO321.out).2.2 | (with_reducible refine Kd.C_alloc ?_ _) | (with_reducible refine Kd.C_drewN ?_ _) | (with_reducible refine Kd.C_drew ?_))); (case side4 => exact (Kd.R_reads' HO321.out).2.1); rintro e w78 ⟨rfl, hb⟩; refine ⟨_, rfl, ?_⟩; replace HO274 := q_ (Kd.R_below z27_ hb); replace HO277 := q_ (Kd.R_below z28_ hb); replace HO280 := q_ (Kd.R_below z37_ hb); replace HO283 := q_ (Kd.R_below z38_ hb); replace HO286 := q_ (Kd.R_below z40_ hb); replace HO289 := q_ (Kd.R_below z41_ hb); replace HO293 := q_ (Kd.R_below z45_ hb); replace HO296 := q_ (Kd.R_below z46_ hb); replace HO300 := q_ (Kd.R_below z52_ hb); replace HO303 := q_ (Kd.R_below z61_ hb); replace HO306 := q_ (Kd.R_below z65_ hb); replace HO309 := q_ (Kd.R_below z66_ hb); replace HO314 := q_ (Kd.R_below z87_ hb); replace HO317 := q_ (Kd.R_below z88_ hb); replace HO321 := q_ (Kd.R_below z120_ hb); replace BK269 := q_ (blk_below (g := gb269) (o := .cells #[.slice A0_0 l0_0.length c0_0, .slice A0_1 l0_1.length c0_1] 89 (0, 0)) z13_ hb); replace BK290 := q_ (blk_below (g := gb290) (o := .cells #[.slice Ao36 t284.length co36, .slice Ao39 t287.length co39] 95 (0, 0)) z17_ hb); replace BK297 := q_ (blk_below (g := gb297) (o := .cells #[.slice Ao43 t291.length co43, .slice Ao47 t294.length co47] 95 (0, 0)) z49_ hb); replace BK310 := q_ (blk_below (g := gb310) (o := .cells #[.slice Ao55 t304.length co55, .slice Ao60 t307.length co60] 95 (0, 0)) z23_ hb); replace HB := q_ (below_step z16_ hb); (try clear hb); (try clear hb2); (try clear hk); (try clear hi)))
      (try simp only [Act.put, List.setIfInBounds_toArray, List.set_cons_zero, List.set_cons_succ])
      have H := HC75.out
      clear HC75
      by_cases c79 : t322 = true
      ·subst c79
       have H1 : ((laws_toBoolS.f k l2).bind fun t323 => ((laws_eqBoolS.f k t301 t323).bind fun t326 => (if t326 = true then ((laws_markDisk.f k t291 t294 1).bind fun bt327 => ((laws_markWriteS.f k t298 bt327.1).bind fun bt330 => ((laws_markBoolS.f k t301 bt330.1).bind fun bt332 => (if bt332.1 < 0 then (laws_FnExactSome.j0 k l1 l2 true l0_0 l0_1 t284 t287 t304 t307) else ((laws_eqDisk.f k t304 t307 t284 t287).bind fun t334 => (laws_FnExactSome.j0 k l1 l2 (!t334) l0_0 l0_1 t284 t287 t304 t307)))))) else (some false)))) = some r := z90_
       clear H
       have H := H1
       clear H1
       replace H := Option.bind_eq_some_iff.mp H
       obtain ⟨t323, A800, H⟩ := H
       replace H : ((laws_eqBoolS.f k t301 t323).bind fun t326 => (if t326 = true then ((laws_markDisk.f k t291 t294 1).bind fun bt327 => ((laws_markWriteS.f k t298 bt327.1).bind fun bt330 => ((laws_markBoolS.f k t301 bt330.1).bind fun bt332 => (if bt332.1 < 0 then (laws_FnExactSome.j0 k l1 l2 true l0_0 l0_1 t284 t287 t304 t307) else ((laws_eqDisk.f k t304 t307 t284 t287).bind fun t334 => (laws_FnExactSome.j0 k l1 l2 (!t334) l0_0 l0_1 t284 t287 t304 t307)))))) else (some false))) = some r := H
       have A80 := q_ A800
       clear A800
       replace H := Option.bind_eq_some_iff.mp H
       obtain ⟨t326, A810, H⟩ := H
       replace H : (if t326 = true then ((laws_markDisk.f k t291 t294 1).bind fun bt327 => ((laws_markWriteS.f k t298 bt327.1).bind fun bt330 => ((laws_markBoolS.f k t301 bt330.1).bind fun bt332 => (if bt332.1 < 0 then (laws_FnExactSome.j0 k l1 l2 true l0_0 l0_1 t284 t287 t304 t307) else ((laws_eqDisk.f k t304 t307 t284 t287).bind fun t334 => (laws_FnExactSome.j0 k l1 l2 (!t334) l0_0 l0_1 t284 t287 t304 t307)))))) else (some false)) = some r := H
       have A81 := q_ A810
       clear A810
       have HC82 := q_ H
       clear H
       go_upto_if 65 with (first | ((with_reducible refine gate_callee (f := 82) rfl ?_); refine goesL_ (some 63) rfl rfl Try.func82 (by kernel_rfl) rfl #[.slice A2 l2.length c2] rfl z2_ ?_; (with_reducible refine (laws_toBoolS.calls k _ _ l2 t323 _ ?side1 ?side2 A80.out).mono ?_); (case side1 => exact z182_); (case side2 => exact HC2.out); rintro e w83 ⟨v324, rfl, ho0, hb⟩; refine ⟨_, rfl, ?_⟩; replace HO274 := q_ (Kd.R_below z27_ hb); replace HO277 := q_ (Kd.R_below z28_ hb); replace HO280 := q_ (Kd.R_below z37_ hb); replace HO286 := q_ (Kd.R_below z40_ hb); replace HO289 := q_ (Kd.R_below z41_ hb); replace HO293 := q_ (Kd.R_below z45_ hb); replace HO296 := q_ (Kd.R_below z46_ hb); replace HO300 := q_ (Kd.R_below z52_ hb); replace HO306 := q_ (Kd.R_below z65_ hb); replace HO309 := q_ (Kd.R_below z66_ hb); replace HO314 := q_ (Kd.R_below z87_ hb); replace HO317 := q_ (Kd.R_below z88_ hb); replace HO321 := q_ (Kd.R_below z120_ hb); have HO325 := q_ (Kd.R_lower (Kd.R_new' (Kd.R_new' ho0 (Kd.R_lt z38_)) (Kd.R_lt z61_)) (below_size z16_)); replace HO283 := q_ (Kd.R_elder' z38_ (Kd.R_base ho0) hb); replace HO303 := q_ (Kd.R_elder' z61_ (Kd.R_base ho0) hb); replace BK269 := q_ (blk_below (g := gb269) (o := .cells #[.slice A0_0 l0_0.length c0_0, .slice A0_1 l0_1.length c0_1] 89 (0, 0)) z13_ hb); replace BK290 := q_ (blk_below (g := gb290) (o := .cells #[.slice Ao36 t284.length co36, .slice Ao39 t287.length co39] 95 (0, 0)) z17_ hb); replace BK297 := q_ (blk_below (g := gb297) (o := .cells #[.slice Ao43 t291.length co43, .slice Ao47 t294.length co47] 95 (0, 0)) z49_ hb); replace BK310 := q_ (blk_below (g := gb310) (o := .cells #[.slice Ao55 t304.length co55, .slice Ao60 t307.length co60] 95 (0, 0)) z23_ hb); replace HB := q_ (below_step z16_ hb); (try clear hb); (try clear hb2); (try clear hk); (try clear hi); (try clear ho0); obtain ⟨Ao84, co84, eo84⟩ := Kd.R_slice HO325.out; subst eo84) | ((with_reducible refine gate_callee (f := 84) rfl ?_); refine goesL_ (some 64) rfl rfl Try.func84 (by kernel_rfl) rfl #[.slice Ao52 t301.length co52, .slice Ao84 t323.length co84] rfl z2_ ?_; (with_reducible refine (laws_eqBoolS.calls k _ _ t301 _ _ t323 t326 _ ?side1 ?side2 ?side3 ?side4 A81.out).mono ?_); (case side1 => exact z189_); (case side2 => exact (Kd.R_reads' HO303.out).2.1); (case side3 => repeat (first | exact (Kd.R_reads' HO325.out).2.2 | (with_reducible refine Kd.C_alloc ?_ _) | (with_reducible refine Kd.C_drewN ?_ _) | (with_reducible refine Kd.C_drew ?_))); (case side4 => exact (Kd.R_reads' HO325.out).2.1); rintro e w' ⟨rfl, ⟨nd, rfl⟩⟩; refine ⟨_, rfl, ?_⟩))
       (try simp only [Act.put, List.setIfInBounds_toArray, List.set_cons_zero, List.set_cons_succ])
       have H := HC82.out
       clear HC82
       by_cases c85 : t326 = true
       ·subst c85
        have H1 : ((laws_markDisk.f k t291 t294 1).bind fun bt327 => ((laws_markWriteS.f k t298 bt327.1).bind fun bt330 => ((laws_markBoolS.f k t301 bt330.1).bind fun bt332 => (if bt332.1 < 0 then (laws_FnExactSome.j0 k l1 l2 true l0_0 l0_1 t284 t287 t304 t307) else ((laws_eqDisk.f k t304 t307 t284 t287).bind fun t334 => (laws_FnExactSome.j0 k l1 l2 (!t334) l0_0 l0_1 t284 t287 t304 t307)))))) = some r := z90_
        clear H
        have H := H1
        clear H1
        replace H := Option.bind_eq_some_iff.mp H
        obtain ⟨⟨t327, t328, t329⟩, A860, H⟩ := H
        replace H : ((laws_markWriteS.f k t298 t327).bind fun bt330 => ((laws_markBoolS.f k t301 bt330.1).bind fun bt332 => (if bt332.1 < 0 then (laws_FnExactSome.j0 k l1 l2 true l0_0 l0_1 t284 t287 t304 t307) else ((laws_eqDisk.f k t304 t307 t284 t287).bind fun t334 => (laws_FnExactSome.j0 k l1 l2 (!t334) l0_0 l0_1 t284 t287 t304 t307))))) = some r := H
        have A86 := q_ A860
        clear A860
        replace H := Option.bind_eq_some_iff.mp H
        obtain ⟨⟨t330, t331⟩, A870, H⟩ := H
        replace H : ((laws_markBoolS.f k t301 t330).bind fun bt332 => (if bt332.1 < 0 then (laws_FnExactSome.j0 k l1 l2 true l0_0 l0_1 t284 t287 t304 t307) else ((laws_eqDisk.f k t304 t307 t284 t287).bind fun t334 => (laws_FnExactSome.j0 k l1 l2 (!t334) l0_0 l0_1 t284 t287 t304 t307)))) = some r := H
        have A87 := q_ A870
        clear A870
        replace H := Option.bind_eq_some_iff.mp H
        obtain ⟨⟨t332, t333⟩, A880, H⟩ := H
        replace H : (if t332 < 0 then (laws_FnExactSome.j0 k l1 l2 true l0_0 l0_1 t284 t287 t304 t307) else ((laws_eqDisk.f k t304 t307 t284 t287).bind fun t334 => (laws_FnExactSome.j0 k l1 l2 (!t334) l0_0 l0_1 t284 t287 t304 t307))) = some r := H
        have A88 := q_ A880
        clear A880
        have HC89 := q_ H
        clear H
        have hnb90 := NB297_269.out
        have hnc90 := NB269_297.out
        have hnb91 := NB297_290.out
        have hnc91 := NB290_297.out
        have hnb92 := NB297_310.out
        have hnc92 := NB310_297.out
        obtain ⟨hcz93_0, hcz93_1, hfz93_0, hfz93_1⟩ := cs2_ BK297.out
        go_upto_region 27 with (first | ((with_reducible refine gate_callee (f := 78) rfl ?_); refine goesL_ (some 68) rfl rfl Try.func78 (by kernel_rfl) rfl #[.agg #[.slice Ao43 t291.length co43, .slice Ao47 t294.length co47], .int .i64 1] rfl z2_ ?_; (with_reducible refine (laws_markDisk.calls k (fun k_ => some k_ = (.slice Ao43 t291.length co43 : Value).ownBlock) (.slice Ao43 t291.length co43) t291 (fun k_ => some k_ = (.slice Ao47 t294.length co47 : Value).ownBlock) (.slice Ao47 t294.length co47) t294 1 t327 t328 t329 w _ ?side1 ?side2 ?side3 A86.out).mono ?_); (case side1 => exact z180_); (case side2 => exact Kd.R_tight rfl HO293.out); (case side3 => exact Kd.R_tight rfl HO296.out); rintro e w94 ⟨rfl, hy0, hy1, hb, hkp⟩; refine ⟨_, rfl, ?_⟩; replace BK269 := q_ (blk_kept z13_ hkp (fun hs_ => Or.elim hs_ (fun e_ => (fun e_ => (Kd.R_ne HO293.out BK269.out (by decide)) e_) e_) (fun e_ => (fun e_ => (Kd.R_ne HO296.out BK269.out (by decide)) e_) e_))); replace HO274 := q_ (Kd.R_mono (ok' := fun k_ => some k_ ≠ (.slice Ao36 t284.length co36 : Value).ownBlock ∧ some k_ ≠ (.slice Ao43 t291.length co43 : Value).ownBlock ∧ some k_ ≠ (.slice Ao55 t304.length co55 : Value).ownBlock ∧ some k_ ≠ (.slice Ao69 t312.length co69 : Value).ownBlock) (Kd.R_keptB ((Kd.R_apart' HO274.out (Kd.R_typed HO296.out) (by decide))) hkp (fun k_ hk_ hs_ => Or.elim hs_ (fun e_ => (hk_.1.1.1.2) e_) (fun e_ => (hk_.2) e_))) (fun k_ hk_ => ⟨hk_.1.1.1.1.1.2, hk_.1.1.1.1.2, hk_.1.1.1.2, hk_.1.1.2⟩)); replace HO277 := q_ (Kd.R_mono (ok' := fun k_ => some k_ ≠ (.slice Ao39 t287.length co39 : Value).ownBlock ∧ some k_ ≠ (.slice Ao47 t294.length co47 : Value).ownBlock ∧ some k_ ≠ (.slice Ao60 t307.length co60 : Value).ownBlock ∧ some k_ ≠ (.slice Ao70 t315.length co70 : Value).ownBlock) (Kd.R_keptB ((Kd.R_apart' HO277.out (Kd.R_typed HO293.out) (by decide))) hkp (fun k_ hk_ hs_ => Or.elim hs_ (fun e_ => (hk_.2) e_) (fun e_ => (hk_.1.1.1.2) e_))) (fun k_ hk_ => ⟨hk_.1.1.1.1.1.2, hk_.1.1.1.1.2, hk_.1.1.1.2, hk_.1.1.2⟩)); replace HO280 := q_ (Kd.R_mono (ok' := fun k_ => some k_ ≠ (.slice Ao51 t298.length co51 : Value).ownBlock ∧ some k_ ≠ (.slice Ao77 t319.length co77 : Value).ownBlock) (Kd.R_keptB ((Kd.R_apart' (Kd.R_apart' HO280.out (Kd.R_typed HO293.out) (by decide)) (Kd.R_typed HO296.out) (by decide))) hkp (fun k_ hk_ hs_ => Or.elim hs_ (fun e_ => (hk_.1.2) e_) (fun e_ => (hk_.2) e_))) (fun k_ hk_ => ⟨hk_.1.1.1.1.2, hk_.1.1.1.2⟩)); replace HO283 := q_ (Kd.R_mono (ok' := fun k_ => some k_ ≠ (.slice Ao52 t301.length co52 : Value).ownBlock ∧ some k_ ≠ (.slice Ao84 t323.length co84 : Value).ownBlock) (Kd.R_keptB ((Kd.R_apart' (Kd.R_apart' HO283.out (Kd.R_typed HO293.out) (by decide)) (Kd.R_typed HO296.out) (by decide))) hkp (fun k_ hk_ hs_ => Or.elim hs_ (fun e_ => (hk_.1.2) e_) (fun e_ => (hk_.2) e_))) (fun k_ hk_ => ⟨hk_.1.1.1.1.2, hk_.1.1.1.2⟩)); replace HO286 := q_ (Kd.R_mono (ok' := fun k_ => some k_ ≠ (.slice Ao30 t272.length co30 : Value).ownBlock ∧ some k_ ≠ (.slice Ao43 t291.length co43 : Value).ownBlock ∧ some k_ ≠ (.slice Ao55 t304.length co55 : Value).ownBlock ∧ some k_ ≠ (.slice Ao69 t312.length co69 : Value).ownBlock) (Kd.R_keptB ((Kd.R_apart' HO286.out (Kd.R_typed HO296.out) (by decide))) hkp (fun k_ hk_ hs_ => Or.elim hs_ (fun e_ => (hk_.1.1.1.2) e_) (fun e_ => (hk_.2) e_))) (fun k_ hk_ => ⟨hk_.1.1.1.1.1.2, hk_.1.1.1.1.2, hk_.1.1.1.2, hk_.1.1.2⟩)); replace HO289 := q_ (Kd.R_mono (ok' := fun k_ => some k_ ≠ (.slice Ao31 t275.length co31 : Value).ownBlock ∧ some k_ ≠ (.slice Ao47 t294.length co47 : Value).ownBlock ∧ some k_ ≠ (.slice Ao60 t307.length co60 : Value).ownBlock ∧ some k_ ≠ (.slice Ao70 t315.length co70 : Value).ownBlock) (Kd.R_keptB ((Kd.R_apart' HO289.out (Kd.R_typed HO293.out) (by decide))) hkp (fun k_ hk_ hs_ => Or.elim hs_ (fun e_ => (hk_.2) e_) (fun e_ => (hk_.1.1.1.2) e_))) (fun k_ hk_ => ⟨hk_.1.1.1.1.1.2, hk_.1.1.1.1.2, hk_.1.1.1.2, hk_.1.1.2⟩)); replace BK290 := q_ (blk_kept z17_ hkp (fun hs_ => Or.elim hs_ (fun e_ => (fun e_ => (Kd.R_ne HO293.out BK290.out (by decide)) e_) e_) (fun e_ => (fun e_ => (Kd.R_ne HO296.out BK290.out (by decide)) e_) e_))); replace HO300 := q_ (Kd.R_mono (ok' := fun k_ => some k_ ≠ (.slice Ao32 t278.length co32 : Value).ownBlock ∧ some k_ ≠ (.slice Ao77 t319.length co77 : Value).ownBlock) (Kd.R_keptB ((Kd.R_apart' (Kd.R_apart' HO300.out (Kd.R_typed HO293.out) (by decide)) (Kd.R_typed HO296.out) (by decide))) hkp (fun k_ hk_ hs_ => Or.elim hs_ (fun e_ => (hk_.1.2) e_) (fun e_ => (hk_.2) e_))) (fun k_ hk_ => ⟨hk_.1.1.1.1.2, hk_.1.1.1.2⟩)); replace HO303 := q_ (Kd.R_mono (ok' := fun k_ => some k_ ≠ (.slice Ao33 t281.length co33 : Value).ownBlock ∧ some k_ ≠ (.slice Ao84 t323.length co84 : Value).ownBlock) (Kd.R_keptB ((Kd.R_apart' (Kd.R_apart' HO303.out (Kd.R_typed HO293.out) (by decide)) (Kd.R_typed HO296.out) (by decide))) hkp (fun k_ hk_ hs_ => Or.elim hs_ (fun e_ => (hk_.1.2) e_) (fun e_ => (hk_.2) e_))) (fun k_ hk_ => ⟨hk_.1.1.1.1.2, hk_.1.1.1.2⟩)); replace HO306 := q_ (Kd.R_mono (ok' := fun k_ => some k_ ≠ (.slice Ao30 t272.length co30 : Value).ownBlock ∧ some k_ ≠ (.slice Ao36 t284.length co36 : Value).ownBlock ∧ some k_ ≠ (.slice Ao43 t291.length co43 : Value).ownBlock ∧ some k_ ≠ (.slice Ao69 t312.length co69 : Value).ownBlock) (Kd.R_keptB ((Kd.R_apart' HO306.out (Kd.R_typed HO296.out) (by decide))) hkp (fun k_ hk_ hs_ => Or.elim hs_ (fun e_ => (hk_.1.1.2) e_) (fun e_ => (hk_.2) e_))) (fun k_ hk_ => ⟨hk_.1.1.1.1.1.2, hk_.1.1.1.1.2, hk_.1.1.1.2, hk_.1.1.2⟩)); replace HO309 := q_ (Kd.R_mono (ok' := fun k_ => some k_ ≠ (.slice Ao31 t275.length co31 : Value).ownBlock ∧ some k_ ≠ (.slice Ao39 t287.length co39 : Value).ownBlock ∧ some k_ ≠ (.slice Ao47 t294.length co47 : Value).ownBlock ∧ some k_ ≠ (.slice Ao70 t315.length co70 : Value).ownBlock) (Kd.R_keptB ((Kd.R_apart' HO309.out (Kd.R_typed HO293.out) (by decide))) hkp (fun k_ hk_ hs_ => Or.elim hs_ (fun e_ => (hk_.2) e_) (fun e_ => (hk_.1.1.2) e_))) (fun k_ hk_ => ⟨hk_.1.1.1.1.1.2, hk_.1.1.1.1.2, hk_.1.1.1.2, hk_.1.1.2⟩)); replace BK310 := q_ (blk_kept z23_ hkp (fun hs_ => Or.elim hs_ (fun e_ => (fun e_ => (Kd.R_ne HO293.out BK310.out (by decide)) e_) e_) (fun e_ => (fun e_ => (Kd.R_ne HO296.out BK310.out (by decide)) e_) e_))); replace HO314 := q_ (Kd.R_mono (ok' := fun k_ => some k_ ≠ (.slice Ao30 t272.length co30 : Value).ownBlock ∧ some k_ ≠ (.slice Ao36 t284.length co36 : Value).ownBlock ∧ some k_ ≠ (.slice Ao43 t291.length co43 : Value).ownBlock ∧ some k_ ≠ (.slice Ao55 t304.length co55 : Value).ownBlock) (Kd.R_keptB ((Kd.R_apart' HO314.out (Kd.R_typed HO296.out) (by decide))) hkp (fun k_ hk_ hs_ => Or.elim hs_ (fun e_ => (hk_.1.1.2) e_) (fun e_ => (hk_.2) e_))) (fun k_ hk_ => ⟨hk_.1.1.1.1.1.2, hk_.1.1.1.1.2, hk_.1.1.1.2, hk_.1.1.2⟩)); replace HO317 := q_ (Kd.R_mono (ok' := fun k_ => some k_ ≠ (.slice Ao31 t275.length co31 : Value).ownBlock ∧ some k_ ≠ (.slice Ao39 t287.length co39 : Value).ownBlock ∧ some k_ ≠ (.slice Ao47 t294.length co47 : Value).ownBlock ∧ some k_ ≠ (.slice Ao60 t307.length co60 : Value).ownBlock) (Kd.R_keptB ((Kd.R_apart' HO317.out (Kd.R_typed HO293.out) (by decide))) hkp (fun k_ hk_ hs_ => Or.elim hs_ (fun e_ => (hk_.2) e_) (fun e_ => (hk_.1.1.2) e_))) (fun k_ hk_ => ⟨hk_.1.1.1.1.1.2, hk_.1.1.1.1.2, hk_.1.1.1.2, hk_.1.1.2⟩)); replace HO321 := q_ (Kd.R_mono (ok' := fun k_ => some k_ ≠ (.slice Ao32 t278.length co32 : Value).ownBlock ∧ some k_ ≠ (.slice Ao51 t298.length co51 : Value).ownBlock) (Kd.R_keptB ((Kd.R_apart' (Kd.R_apart' HO321.out (Kd.R_typed HO293.out) (by decide)) (Kd.R_typed HO296.out) (by decide))) hkp (fun k_ hk_ hs_ => Or.elim hs_ (fun e_ => (hk_.1.2) e_) (fun e_ => (hk_.2) e_))) (fun k_ hk_ => ⟨hk_.1.1.1.1.2, hk_.1.1.1.2⟩)); replace HO325 := q_ (Kd.R_mono (ok' := fun k_ => some k_ ≠ (.slice Ao33 t281.length co33 : Value).ownBlock ∧ some k_ ≠ (.slice Ao52 t301.length co52 : Value).ownBlock) (Kd.R_keptB ((Kd.R_apart' (Kd.R_apart' HO325.out (Kd.R_typed HO293.out) (by decide)) (Kd.R_typed HO296.out) (by decide))) hkp (fun k_ hk_ hs_ => Or.elim hs_ (fun e_ => (hk_.1.2) e_) (fun e_ => (hk_.2) e_))) (fun k_ hk_ => ⟨hk_.1.1.1.1.2, hk_.1.1.1.2⟩)); replace HO293 := q_ (Kd.R_reok rfl hy0 (fun k_ e_ => HO293.out.1 k_ e_)); replace HO296 := q_ (Kd.R_reok rfl hy1 (fun k_ e_ => HO296.out.1 k_ e_)); replace HB := q_ (hb); (try clear hb); (try clear hkp); (try clear hy0); (try clear hy1)) | ((with_reducible refine gate_callee (f := 79) rfl ?_); refine goesL_ (some 71) rfl rfl Try.func79 (by kernel_rfl) rfl #[.slice Ao51 t298.length co51, .int .i64 t327] rfl z2_ ?_; (with_reducible refine (laws_markWriteS.calls k (fun k_ => some k_ = (.slice Ao51 t298.length co51 : Value).ownBlock) (.slice Ao51 t298.length co51) t298 t327 t330 t331 w _ ?side1 ?side2 A87.out).mono ?_); (case side1 => exact z180_); (case side2 => exact Kd.R_tight rfl HO300.out); rintro e w95 ⟨rfl, hy0, hb, hkp⟩; refine ⟨_, rfl, ?_⟩; replace BK269 := q_ (blk_kept z13_ hkp (fun hs_ => (fun e_ => (Kd.R_ne HO300.out BK269.out (by decide)) e_) hs_)); replace HO274 := q_ (Kd.R_mono (ok' := fun k_ => some k_ ≠ (.slice Ao36 t284.length co36 : Value).ownBlock ∧ some k_ ≠ (.slice Ao43 t291.length co43 : Value).ownBlock ∧ some k_ ≠ (.slice Ao55 t304.length co55 : Value).ownBlock ∧ some k_ ≠ (.slice Ao69 t312.length co69 : Value).ownBlock) (Kd.R_keptB ((Kd.R_apart' HO274.out (Kd.R_typed HO300.out) (by decide))) hkp (fun k_ hk_ hs_ => (hk_.2) hs_)) (fun k_ hk_ => ⟨hk_.1.1.1, hk_.1.1.2.1, hk_.1.1.2.2.1, hk_.1.1.2.2.2⟩)); replace HO277 := q_ (Kd.R_mono (ok' := fun k_ => some k_ ≠ (.slice Ao39 t287.length co39 : Value).ownBlock ∧ some k_ ≠ (.slice Ao47 t294.length co47 : Value).ownBlock ∧ some k_ ≠ (.slice Ao60 t307.length co60 : Value).ownBlock ∧ some k_ ≠ (.slice Ao70 t315.length co70 : Value).ownBlock) (Kd.R_keptB ((Kd.R_apart' HO277.out (Kd.R_typed HO300.out) (by decide))) hkp (fun k_ hk_ hs_ => (hk_.2) hs_)) (fun k_ hk_ => ⟨hk_.1.1.1, hk_.1.1.2.1, hk_.1.1.2.2.1, hk_.1.1.2.2.2⟩)); replace HO280 := q_ (Kd.R_mono (ok' := fun k_ => some k_ ≠ (.slice Ao51 t298.length co51 : Value).ownBlock ∧ some k_ ≠ (.slice Ao77 t319.length co77 : Value).ownBlock) (Kd.R_keptB (HO280.out) hkp (fun k_ hk_ hs_ => (hk_.1) hs_)) (fun k_ hk_ => ⟨hk_.1.1, hk_.1.2⟩)); replace HO283 := q_ (Kd.R_mono (ok' := fun k_ => some k_ ≠ (.slice Ao52 t301.length co52 : Value).ownBlock ∧ some k_ ≠ (.slice Ao84 t323.length co84 : Value).ownBlock) (Kd.R_keptB ((Kd.R_apart' HO283.out (Kd.R_typed HO300.out) (by decide))) hkp (fun k_ hk_ hs_ => (hk_.2) hs_)) (fun k_ hk_ => ⟨hk_.1.1.1, hk_.1.1.2⟩)); replace HO286 := q_ (Kd.R_mono (ok' := fun k_ => some k_ ≠ (.slice Ao30 t272.length co30 : Value).ownBlock ∧ some k_ ≠ (.slice Ao43 t291.length co43 : Value).ownBlock ∧ some k_ ≠ (.slice Ao55 t304.length co55 : Value).ownBlock ∧ some k_ ≠ (.slice Ao69 t312.length co69 : Value).ownBlock) (Kd.R_keptB ((Kd.R_apart' HO286.out (Kd.R_typed HO300.out) (by decide))) hkp (fun k_ hk_ hs_ => (hk_.2) hs_)) (fun k_ hk_ => ⟨hk_.1.1.1, hk_.1.1.2.1, hk_.1.1.2.2.1, hk_.1.1.2.2.2⟩)); replace HO289 := q_ (Kd.R_mono (ok' := fun k_ => some k_ ≠ (.slice Ao31 t275.length co31 : Value).ownBlock ∧ some k_ ≠ (.slice Ao47 t294.length co47 : Value).ownBlock ∧ some k_ ≠ (.slice Ao60 t307.length co60 : Value).ownBlock ∧ some k_ ≠ (.slice Ao70 t315.length co70 : Value).ownBlock) (Kd.R_keptB ((Kd.R_apart' HO289.out (Kd.R_typed HO300.out) (by decide))) hkp (fun k_ hk_ hs_ => (hk_.2) hs_)) (fun k_ hk_ => ⟨hk_.1.1.1, hk_.1.1.2.1, hk_.1.1.2.2.1, hk_.1.1.2.2.2⟩)); replace BK290 := q_ (blk_kept z17_ hkp (fun hs_ => (fun e_ => (Kd.R_ne HO300.out BK290.out (by decide)) e_) hs_)); replace HO293 := q_ (Kd.R_mono (ok' := fun k_ => some k_ ≠ (.slice Ao30 t272.length co30 : Value).ownBlock ∧ some k_ ≠ (.slice Ao36 t284.length co36 : Value).ownBlock ∧ some k_ ≠ (.slice Ao55 t304.length co55 : Value).ownBlock ∧ some k_ ≠ (.slice Ao69 t312.length co69 : Value).ownBlock) (Kd.R_keptB ((Kd.R_apart' HO293.out (Kd.R_typed HO300.out) (by decide))) hkp (fun k_ hk_ hs_ => (hk_.2) hs_)) (fun k_ hk_ => ⟨hk_.1.1.1.1.1.2, hk_.1.1.1.1.2, hk_.1.1.1.2, hk_.1.1.2⟩)); replace HO296 := q_ (Kd.R_mono (ok' := fun k_ => some k_ ≠ (.slice Ao31 t275.length co31 : Value).ownBlock ∧ some k_ ≠ (.slice Ao39 t287.length co39 : Value).ownBlock ∧ some k_ ≠ (.slice Ao60 t307.length co60 : Value).ownBlock ∧ some k_ ≠ (.slice Ao70 t315.length co70 : Value).ownBlock) (Kd.R_keptB ((Kd.R_apart' HO296.out (Kd.R_typed HO300.out) (by decide))) hkp (fun k_ hk_ hs_ => (hk_.2) hs_)) (fun k_ hk_ => ⟨hk_.1.1.1.1.1.2, hk_.1.1.1.1.2, hk_.1.1.1.2, hk_.1.1.2⟩)); replace HO303 := q_ (Kd.R_mono (ok' := fun k_ => some k_ ≠ (.slice Ao33 t281.length co33 : Value).ownBlock ∧ some k_ ≠ (.slice Ao84 t323.length co84 : Value).ownBlock) (Kd.R_keptB ((Kd.R_apart' HO303.out (Kd.R_typed HO300.out) (by decide))) hkp (fun k_ hk_ hs_ => (hk_.2) hs_)) (fun k_ hk_ => ⟨hk_.1.1.1, hk_.1.1.2⟩)); replace HO306 := q_ (Kd.R_mono (ok' := fun k_ => some k_ ≠ (.slice Ao30 t272.length co30 : Value).ownBlock ∧ some k_ ≠ (.slice Ao36 t284.length co36 : Value).ownBlock ∧ some k_ ≠ (.slice Ao43 t291.length co43 : Value).ownBlock ∧ some k_ ≠ (.slice Ao69 t312.length co69 : Value).ownBlock) (Kd.R_keptB ((Kd.R_apart' HO306.out (Kd.R_typed HO300.out) (by decide))) hkp (fun k_ hk_ hs_ => (hk_.2) hs_)) (fun k_ hk_ => ⟨hk_.1.1.1, hk_.1.1.2.1, hk_.1.1.2.2.1, hk_.1.1.2.2.2⟩)); replace HO309 := q_ (Kd.R_mono (ok' := fun k_ => some k_ ≠ (.slice Ao31 t275.length co31 : Value).ownBlock ∧ some k_ ≠ (.slice Ao39 t287.length co39 : Value).ownBlock ∧ some k_ ≠ (.slice Ao47 t294.length co47 : Value).ownBlock ∧ some k_ ≠ (.slice Ao70 t315.length co70 : Value).ownBlock) (Kd.R_keptB ((Kd.R_apart' HO309.out (Kd.R_typed HO300.out) (by decide))) hkp (fun k_ hk_ hs_ => (hk_.2) hs_)) (fun k_ hk_ => ⟨hk_.1.1.1, hk_.1.1.2.1, hk_.1.1.2.2.1, hk_.1.1.2.2.2⟩)); replace BK310 := q_ (blk_kept z23_ hkp (fun hs_ => (fun e_ => (Kd.R_ne HO300.out BK310.out (by decide)) e_) hs_)); replace HO314 := q_ (Kd.R_mono (ok' := fun k_ => some k_ ≠ (.slice Ao30 t272.length co30 : Value).ownBlock ∧ some k_ ≠ (.slice Ao36 t284.length co36 : Value).ownBlock ∧ some k_ ≠ (.slice Ao43 t291.length co43 : Value).ownBlock ∧ some k_ ≠ (.slice Ao55 t304.length co55 : Value).ownBlock) (Kd.R_keptB ((Kd.R_apart' HO314.out (Kd.R_typed HO300.out) (by decide))) hkp (fun k_ hk_ hs_ => (hk_.2) hs_)) (fun k_ hk_ => ⟨hk_.1.1.1, hk_.1.1.2.1, hk_.1.1.2.2.1, hk_.1.1.2.2.2⟩)); replace HO317 := q_ (Kd.R_mono (ok' := fun k_ => some k_ ≠ (.slice Ao31 t275.length co31 : Value).ownBlock ∧ some k_ ≠ (.slice Ao39 t287.length co39 : Value).ownBlock ∧ some k_ ≠ (.slice Ao47 t294.length co47 : Value).ownBlock ∧ some k_ ≠ (.slice Ao60 t307.length co60 : Value).ownBlock) (Kd.R_keptB ((Kd.R_apart' HO317.out (Kd.R_typed HO300.out) (by decide))) hkp (fun k_ hk_ hs_ => (hk_.2) hs_)) (fun k_ hk_ => ⟨hk_.1.1.1, hk_.1.1.2.1, hk_.1.1.2.2.1, hk_.1.1.2.2.2⟩)); replace HO321 := q_ (Kd.R_mono (ok' := fun k_ => some k_ ≠ (.slice Ao32 t278.length co32 : Value).ownBlock ∧ some k_ ≠ (.slice Ao51 t298.length co51 : Value).ownBlock) (Kd.R_keptB (HO321.out) hkp (fun k_ hk_ hs_ => (hk_.2) hs_)) (fun k_ hk_ => ⟨hk_.1.1, hk_.1.2⟩)); replace HO325 := q_ (Kd.R_mono (ok' := fun k_ => some k_ ≠ (.slice Ao33 t281.length co33 : Value).ownBlock ∧ some k_ ≠ (.slice Ao52 t301.length co52 : Value).ownBlock) (Kd.R_keptB ((Kd.R_apart' HO325.out (Kd.R_typed HO300.out) (by decide))) hkp (fun k_ hk_ hs_ => (hk_.2) hs_)) (fun k_ hk_ => ⟨hk_.1.1.1, hk_.1.1.2⟩)); replace HO300 := q_ (Kd.R_reok rfl hy0 (fun k_ e_ => HO300.out.1 k_ e_)); replace HB := q_ (hb); (try clear hb); (try clear hkp); (try clear hy0)) | ((with_reducible refine gate_callee (f := 85) rfl ?_); refine goesL_ (some 74) rfl rfl Try.func85 (by kernel_rfl) rfl #[.slice Ao52 t301.length co52, .int .i64 t330] rfl z2_ ?_; (with_reducible refine (laws_markBoolS.calls k (fun k_ => some k_ = (.slice Ao52 t301.length co52 : Value).ownBlock) (.slice Ao52 t301.length co52) t301 t330 t332 t333 w _ ?side1 ?side2 A88.out).mono ?_); (case side1 => exact z180_); (case side2 => exact Kd.R_tight rfl HO303.out); rintro e w96 ⟨rfl, hy0, hb, hkp⟩; refine ⟨_, rfl, ?_⟩; replace BK269 := q_ (blk_kept z13_ hkp (fun hs_ => (fun e_ => (Kd.R_ne HO303.out BK269.out (by decide)) e_) hs_)); replace HO274 := q_ (Kd.R_mono (ok' := fun k_ => some k_ ≠ (.slice Ao36 t284.length co36 : Value).ownBlock ∧ some k_ ≠ (.slice Ao43 t291.length co43 : Value).ownBlock ∧ some k_ ≠ (.slice Ao55 t304.length co55 : Value).ownBlock ∧ some k_ ≠ (.slice Ao69 t312.length co69 : Value).ownBlock) (Kd.R_keptB ((Kd.R_apart' HO274.out (Kd.R_typed HO303.out) (by decide))) hkp (fun k_ hk_ hs_ => (hk_.2) hs_)) (fun k_ hk_ => ⟨hk_.1.1.1, hk_.1.1.2.1, hk_.1.1.2.2.1, hk_.1.1.2.2.2⟩)); replace HO277 := q_ (Kd.R_mono (ok' := fun k_ => some k_ ≠ (.slice Ao39 t287.length co39 : Value).ownBlock ∧ some k_ ≠ (.slice Ao47 t294.length co47 : Value).ownBlock ∧ some k_ ≠ (.slice Ao60 t307.length co60 : Value).ownBlock ∧ some k_ ≠ (.slice Ao70 t315.length co70 : Value).ownBlock) (Kd.R_keptB ((Kd.R_apart' HO277.out (Kd.R_typed HO303.out) (by decide))) hkp (fun k_ hk_ hs_ => (hk_.2) hs_)) (fun k_ hk_ => ⟨hk_.1.1.1, hk_.1.1.2.1, hk_.1.1.2.2.1, hk_.1.1.2.2.2⟩)); replace HO280 := q_ (Kd.R_mono (ok' := fun k_ => some k_ ≠ (.slice Ao51 t298.length co51 : Value).ownBlock ∧ some k_ ≠ (.slice Ao77 t319.length co77 : Value).ownBlock) (Kd.R_keptB ((Kd.R_apart' HO280.out (Kd.R_typed HO303.out) (by decide))) hkp (fun k_ hk_ hs_ => (hk_.2) hs_)) (fun k_ hk_ => ⟨hk_.1.1.1, hk_.1.1.2⟩)); replace HO283 := q_ (Kd.R_mono (ok' := fun k_ => some k_ ≠ (.slice Ao52 t301.length co52 : Value).ownBlock ∧ some k_ ≠ (.slice Ao84 t323.length co84 : Value).ownBlock) (Kd.R_keptB (HO283.out) hkp (fun k_ hk_ hs_ => (hk_.1) hs_)) (fun k_ hk_ => ⟨hk_.1.1, hk_.1.2⟩)); replace HO286 := q_ (Kd.R_mono (ok' := fun k_ => some k_ ≠ (.slice Ao30 t272.length co30 : Value).ownBlock ∧ some k_ ≠ (.slice Ao43 t291.length co43 : Value).ownBlock ∧ some k_ ≠ (.slice Ao55 t304.length co55 : Value).ownBlock ∧ some k_ ≠ (.slice Ao69 t312.length co69 : Value).ownBlock) (Kd.R_keptB ((Kd.R_apart' HO286.out (Kd.R_typed HO303.out) (by decide))) hkp (fun k_ hk_ hs_ => (hk_.2) hs_)) (fun k_ hk_ => ⟨hk_.1.1.1, hk_.1.1.2.1, hk_.1.1.2.2.1, hk_.1.1.2.2.2⟩)); replace HO289 := q_ (Kd.R_mono (ok' := fun k_ => some k_ ≠ (.slice Ao31 t275.length co31 : Value).ownBlock ∧ some k_ ≠ (.slice Ao47 t294.length co47 : Value).ownBlock ∧ some k_ ≠ (.slice Ao60 t307.length co60 : Value).ownBlock ∧ some k_ ≠ (.slice Ao70 t315.length co70 : Value).ownBlock) (Kd.R_keptB ((Kd.R_apart' HO289.out (Kd.R_typed HO303.out) (by decide))) hkp (fun k_ hk_ hs_ => (hk_.2) hs_)) (fun k_ hk_ => ⟨hk_.1.1.1, hk_.1.1.2.1, hk_.1.1.2.2.1, hk_.1.1.2.2.2⟩)); replace BK290 := q_ (blk_kept z17_ hkp (fun hs_ => (fun e_ => (Kd.R_ne HO303.out BK290.out (by decide)) e_) hs_)); replace HO293 := q_ (Kd.R_mono (ok' := fun k_ => some k_ ≠ (.slice Ao30 t272.length co30 : Value).ownBlock ∧ some k_ ≠ (.slice Ao36 t284.length co36 : Value).ownBlock ∧ some k_ ≠ (.slice Ao55 t304.length co55 : Value).ownBlock ∧ some k_ ≠ (.slice Ao69 t312.length co69 : Value).ownBlock) (Kd.R_keptB ((Kd.R_apart' HO293.out (Kd.R_typed HO303.out) (by decide))) hkp (fun k_ hk_ hs_ => (hk_.2) hs_)) (fun k_ hk_ => ⟨hk_.1.1.1, hk_.1.1.2.1, hk_.1.1.2.2.1, hk_.1.1.2.2.2⟩)); replace HO296 := q_ (Kd.R_mono (ok' := fun k_ => some k_ ≠ (.slice Ao31 t275.length co31 : Value).ownBlock ∧ some k_ ≠ (.slice Ao39 t287.length co39 : Value).ownBlock ∧ some k_ ≠ (.slice Ao60 t307.length co60 : Value).ownBlock ∧ some k_ ≠ (.slice Ao70 t315.length co70 : Value).ownBlock) (Kd.R_keptB ((Kd.R_apart' HO296.out (Kd.R_typed HO303.out) (by decide))) hkp (fun k_ hk_ hs_ => (hk_.2) hs_)) (fun k_ hk_ => ⟨hk_.1.1.1, hk_.1.1.2.1, hk_.1.1.2.2.1, hk_.1.1.2.2.2⟩)); replace HO300 := q_ (Kd.R_mono (ok' := fun k_ => some k_ ≠ (.slice Ao32 t278.length co32 : Value).ownBlock ∧ some k_ ≠ (.slice Ao77 t319.length co77 : Value).ownBlock) (Kd.R_keptB ((Kd.R_apart' HO300.out (Kd.R_typed HO303.out) (by decide))) hkp (fun k_ hk_ hs_ => (hk_.2) hs_)) (fun k_ hk_ => ⟨hk_.1.1.1, hk_.1.1.2⟩)); replace HO306 := q_ (Kd.R_mono (ok' := fun k_ => some k_ ≠ (.slice Ao30 t272.length co30 : Value).ownBlock ∧ some k_ ≠ (.slice Ao36 t284.length co36 : Value).ownBlock ∧ some k_ ≠ (.slice Ao43 t291.length co43 : Value).ownBlock ∧ some k_ ≠ (.slice Ao69 t312.length co69 : Value).ownBlock) (Kd.R_keptB ((Kd.R_apart' HO306.out (Kd.R_typed HO303.out) (by decide))) hkp (fun k_ hk_ hs_ => (hk_.2) hs_)) (fun k_ hk_ => ⟨hk_.1.1.1, hk_.1.1.2.1, hk_.1.1.2.2.1, hk_.1.1.2.2.2⟩)); replace HO309 := q_ (Kd.R_mono (ok' := fun k_ => some k_ ≠ (.slice Ao31 t275.length co31 : Value).ownBlock ∧ some k_ ≠ (.slice Ao39 t287.length co39 : Value).ownBlock ∧ some k_ ≠ (.slice Ao47 t294.length co47 : Value).ownBlock ∧ some k_ ≠ (.slice Ao70 t315.length co70 : Value).ownBlock) (Kd.R_keptB ((Kd.R_apart' HO309.out (Kd.R_typed HO303.out) (by decide))) hkp (fun k_ hk_ hs_ => (hk_.2) hs_)) (fun k_ hk_ => ⟨hk_.1.1.1, hk_.1.1.2.1, hk_.1.1.2.2.1, hk_.1.1.2.2.2⟩)); replace BK310 := q_ (blk_kept z23_ hkp (fun hs_ => (fun e_ => (Kd.R_ne HO303.out BK310.out (by decide)) e_) hs_)); replace HO314 := q_ (Kd.R_mono (ok' := fun k_ => some k_ ≠ (.slice Ao30 t272.length co30 : Value).ownBlock ∧ some k_ ≠ (.slice Ao36 t284.length co36 : Value).ownBlock ∧ some k_ ≠ (.slice Ao43 t291.length co43 : Value).ownBlock ∧ some k_ ≠ (.slice Ao55 t304.length co55 : Value).ownBlock) (Kd.R_keptB ((Kd.R_apart' HO314.out (Kd.R_typed HO303.out) (by decide))) hkp (fun k_ hk_ hs_ => (hk_.2) hs_)) (fun k_ hk_ => ⟨hk_.1.1.1, hk_.1.1.2.1, hk_.1.1.2.2.1, hk_.1.1.2.2.2⟩)); replace HO317 := q_ (Kd.R_mono (ok' := fun k_ => some k_ ≠ (.slice Ao31 t275.length co31 : Value).ownBlock ∧ some k_ ≠ (.slice Ao39 t287.length co39 : Value).ownBlock ∧ some k_ ≠ (.slice Ao47 t294.length co47 : Value).ownBlock ∧ some k_ ≠ (.slice Ao60 t307.length co60 : Value).ownBlock) (Kd.R_keptB ((Kd.R_apart' HO317.out (Kd.R_typed HO303.out) (by decide))) hkp (fun k_ hk_ hs_ => (hk_.2) hs_)) (fun k_ hk_ => ⟨hk_.1.1.1, hk_.1.1.2.1, hk_.1.1.2.2.1, hk_.1.1.2.2.2⟩)); replace HO321 := q_ (Kd.R_mono (ok' := fun k_ => some k_ ≠ (.slice Ao32 t278.length co32 : Value).ownBlock ∧ some k_ ≠ (.slice Ao51 t298.length co51 : Value).ownBlock) (Kd.R_keptB ((Kd.R_apart' HO321.out (Kd.R_typed HO303.out) (by decide))) hkp (fun k_ hk_ hs_ => (hk_.2) hs_)) (fun k_ hk_ => ⟨hk_.1.1.1, hk_.1.1.2⟩)); replace HO303 := q_ (Kd.R_reok rfl hy0 (fun k_ e_ => HO303.out.1 k_ e_)); replace HO325 := q_ (Kd.R_mono (ok' := fun k_ => some k_ ≠ (.slice Ao33 t281.length co33 : Value).ownBlock ∧ some k_ ≠ (.slice Ao52 t301.length co52 : Value).ownBlock) (Kd.R_keptB (HO325.out) hkp (fun k_ hk_ hs_ => (hk_.2) hs_)) (fun k_ hk_ => ⟨hk_.1.1, hk_.1.2⟩)); replace HB := q_ (hb); (try clear hb); (try clear hkp); (try clear hy0)))
        (try simp only [Act.put, List.setIfInBounds_toArray, List.set_cons_zero, List.set_cons_succ])
        go_cut [82] (fun v82 wc => ∃ (kq : Nat) (x82_88 : Bool), v82 = .bool x82_88 ∧ Aside0 (laws_FnExactSome.j0 kq l1 l2 x82_88 l0_0 l0_1 t284 t287 t304 t307 = some r) ∧ Aside0 (kq ≤ k) ∧ Aside0 (Kd.R Kd.string 9 wc w.heap.size (fun k_ => some k_ ≠ ((.slice Ao55 t304.length co55) : Value).ownBlock) (.slice Ao36 t284.length co36) t284) ∧ Aside0 (Kd.R k166 166 wc w.heap.size (fun k_ => some k_ ≠ ((.slice Ao60 t307.length co60) : Value).ownBlock) (.slice Ao39 t287.length co39) t287) ∧ Aside0 (Kd.R Kd.string 9 wc w.heap.size (fun k_ => some k_ ≠ ((.slice Ao36 t284.length co36) : Value).ownBlock) (.slice Ao55 t304.length co55) t304) ∧ Aside0 (Kd.R k166 166 wc w.heap.size (fun k_ => some k_ ≠ ((.slice Ao39 t287.length co39) : Value).ownBlock) (.slice Ao60 t307.length co60) t307) ∧ Aside0 (wc.heap[gb269]? = some (.cells #[(.slice A0_0 l0_0.length c0_0), (.slice A0_1 l0_1.length c0_1)] 89 (0, 0))) ∧ Aside0 (wc.heap[gb290]? = some (.cells #[(.slice Ao36 t284.length co36), (.slice Ao39 t287.length co39)] 95 (0, 0))) ∧ Aside0 (wc.heap[gb310]? = some (.cells #[(.slice Ao55 t304.length co55), (.slice Ao60 t307.length co60)] 95 (0, 0))) ∧ Aside0 (Below w.heap.size w wc))
        case first =>
         have H := HC89.out
         clear HC89
         by_cases c97 : t332 < 0
         ·rw [if_pos c97] at H
          have c97b0 : decide (t332 < 0) = true := decide_eq_true c97
          clear c97
          (first | rw [c97b0] | rw [c97b1] | (simp only [i64_w, i32_w]; first | rw [c97b0] | rw [c97b1]) | rw [c97b2] | skip)
          have H' := q_ H
          clear H
          go_wp2
          go_meet
          case rel => exact ⟨_, (true), z14_, H', ⟨by first | omega | exact Nat.le_refl _⟩, ⟨z124_⟩, ⟨z125_⟩, ⟨z126_⟩, ⟨z127_⟩, ⟨z13_⟩, ⟨z17_⟩, ⟨z23_⟩, ⟨z12_⟩⟩
         ·rw [if_neg c97] at H
          have c97b0 : decide (t332 < 0) = false := decide_eq_false c97
          clear c97
          (first | rw [c97b0] | rw [c97b1] | (simp only [i64_w, i32_w]; first | rw [c97b0] | rw [c97b1]) | rw [c97b2] | skip)
          replace H := Option.bind_eq_some_iff.mp H
          obtain ⟨t334, A980, H⟩ := H
          replace H : (laws_FnExactSome.j0 k l1 l2 (!t334) l0_0 l0_1 t284 t287 t304 t307) = some r := H
          have A98 := q_ A980
          clear A980
          have H' := q_ H
          clear H
          have hnb99 := NB310_269.out
          have hnc99 := NB269_310.out
          have hnb100 := NB310_290.out
          have hnc100 := NB290_310.out
          obtain ⟨hcz101_0, hcz101_1, hfz101_0, hfz101_1⟩ := cs2_ BK310.out
          have hnb102 := NB290_269.out
          have hnc102 := NB269_290.out
          obtain ⟨hcz103_0, hcz103_1, hfz103_0, hfz103_1⟩ := cs2_ BK290.out
          go_wp2_with (first | (go_at_call 76; (with_reducible refine (laws_eqDisk.calls k _ _ t304 _ _ t307 _ _ t284 _ _ t287 t334 _ ?side1 ?side2 ?side3 ?side4 ?side5 ?side6 ?side7 ?side8 A98.out).mono ?_); (case side1 => repeat (first | exact (Kd.R_reads' HO306.out).2.2 | (with_reducible refine Kd.C_alloc ?_ _) | (with_reducible refine Kd.C_drewN ?_ _) | (with_reducible refine Kd.C_drew ?_))); (case side2 => exact (Kd.R_reads' HO306.out).2.1); (case side3 => repeat (first | exact (Kd.R_reads' HO309.out).2.2 | (with_reducible refine Kd.C_alloc ?_ _) | (with_reducible refine Kd.C_drewN ?_ _) | (with_reducible refine Kd.C_drew ?_))); (case side4 => exact (Kd.R_reads' HO309.out).2.1); (case side5 => repeat (first | exact (Kd.R_reads' HO286.out).2.2 | (with_reducible refine Kd.C_alloc ?_ _) | (with_reducible refine Kd.C_drewN ?_ _) | (with_reducible refine Kd.C_drew ?_))); (case side6 => exact (Kd.R_reads' HO286.out).2.1); (case side7 => repeat (first | exact (Kd.R_reads' HO289.out).2.2 | (with_reducible refine Kd.C_alloc ?_ _) | (with_reducible refine Kd.C_drewN ?_ _) | (with_reducible refine Kd.C_drew ?_))); (case side8 => exact (Kd.R_reads' HO289.out).2.1); rintro e w104 ⟨rfl, hb⟩; replace HO274 := q_ (Kd.R_below z27_ hb); replace HO277 := q_ (Kd.R_below z28_ hb); replace HO280 := q_ (Kd.R_below z37_ hb); replace HO283 := q_ (Kd.R_below z38_ hb); replace HO286 := q_ (Kd.R_below z40_ hb); replace HO289 := q_ (Kd.R_below z41_ hb); replace HO293 := q_ (Kd.R_below z45_ hb); replace HO296 := q_ (Kd.R_below z46_ hb); replace HO300 := q_ (Kd.R_below z52_ hb); replace HO303 := q_ (Kd.R_below z61_ hb); replace HO306 := q_ (Kd.R_below z65_ hb); replace HO309 := q_ (Kd.R_below z66_ hb); replace HO314 := q_ (Kd.R_below z87_ hb); replace HO317 := q_ (Kd.R_below z88_ hb); replace HO321 := q_ (Kd.R_below z120_ hb); replace HO325 := q_ (Kd.R_below (by (with_reducible repeat (first | apply Kd.R_alloc | apply Kd.R_drewN | apply Kd.R_drew)); exact HO325.out) hb); replace BK269 := q_ (blk_below (g := gb269) (o := .cells #[.slice A0_0 l0_0.length c0_0, .slice A0_1 l0_1.length c0_1] 89 (0, 0)) z13_ hb); replace BK290 := q_ (blk_below (g := gb290) (o := .cells #[.slice Ao36 t284.length co36, .slice Ao39 t287.length co39] 95 (0, 0)) z17_ hb); replace BK310 := q_ (blk_below (g := gb310) (o := .cells #[.slice Ao55 t304.length co55, .slice Ao60 t307.length co60] 95 (0, 0)) z23_ hb); replace HB := q_ (below_step z12_ hb); (try clear hb); (try clear hb2); (try clear hk); (try clear hi)))
          go_meet
          case rel => exact ⟨_, (!t334), z14_, H', ⟨by first | omega | exact Nat.le_refl _⟩, ⟨z124_⟩, ⟨z125_⟩, ⟨z126_⟩, ⟨z127_⟩, ⟨z13_⟩, ⟨z17_⟩, ⟨z23_⟩, ⟨z12_⟩⟩
        case rest =>
         clear HC89
         try clear c1
         try clear c2
         try clear p2
         try clear c3
         try clear c4
         try clear c5
         try clear c6
         try clear c6b0
         try clear c6b1
         try clear c6b2
         try clear c7
         try clear c8
         try clear c9
         try clear c10
         try clear c11
         try clear c11b0
         try clear c11b1
         try clear c11b2
         try clear c13
         try clear c15
         try clear c15b0
         try clear c15b1
         try clear c15b2
         try clear c37
         try clear c44
         try clear c45
         try clear c56
         try clear c57
         try clear c58
         try clear c63
         try clear c70
         try clear c71
         try clear c72
         try clear c73
         try clear c74
         try clear c76
         try clear c77
         try clear c78
         try clear c79
         try clear c81
         try clear c82
         try clear c83
         try clear c84
         try clear c85
         try clear c90
         try clear c91
         try clear c92
         try clear c97
         try clear c97b0
         try clear c97b1
         try clear c97b2
         try clear c99
         try clear c100
         try clear c102
         try clear hcz101_0
         try clear hcz101_1
         try clear hcz103_0
         try clear hcz103_1
         try clear hcz26_0
         try clear hcz26_1
         try clear hcz38_0
         try clear hcz38_1
         try clear hcz40_0
         try clear hcz40_1
         try clear hcz46_0
         try clear hcz46_1
         try clear hcz50_0
         try clear hcz50_1
         try clear hcz59_0
         try clear hcz59_1
         try clear hcz61_0
         try clear hcz61_1
         try clear hcz93_0
         try clear hcz93_1
         try clear hcz9_0
         try clear hcz9_1
         try clear hfz101_0
         try clear hfz101_1
         try clear hfz103_0
         try clear hfz103_1
         try clear hfz26_0
         try clear hfz26_1
         try clear hfz38_0
         try clear hfz38_1
         try clear hfz40_0
         try clear hfz40_1
         try clear hfz46_0
         try clear hfz46_1
         try clear hfz50_0
         try clear hfz50_1
         try clear hfz59_0
         try clear hfz59_1
         try clear hfz61_0
         try clear hfz61_1
         try clear hfz93_0
         try clear hfz93_1
         try clear hfz9_0
         try clear hfz9_1
         obtain ⟨kq, x82_88, rfl, HA, HJ88, HO_291000, HO_291001, HO_311000, HO_311001, BK269, BK290, BK310, HB⟩ := hcut
         cases kq with
         | zero => exact absurd HA.out (by simp [laws_FnExactSome.j0])
         | succ kj88 =>
          have H := HA.out
          clear HA
          simp only [laws_FnExactSome.j0] at H
          by_cases c105 : x82_88 = true
          ·subst c105
           have H1 : (some false) = some r := z90_
           clear H
           have H := H1
           clear H1
           obtain rfl := Option.some.inj H
           go_wp2
           go_ret
           exact ⟨z4_, z12_⟩
          ·replace c105 := Bool.eq_false_iff.mpr c105
           subst c105
           have H1 : ((laws_markDisk.f kj88 t304 t307 1).bind fun bt335 => ((laws_heldDisk.f kj88 bt335.2.1 bt335.2.2 1).bind fun t338 => (if t338 < 0 then (some false) else (if t338 = bt335.1 then ((laws_toDisk.f kj88 l0_0 l0_1).bind fun bt339 => ((laws_toWriteS.f kj88 l1).bind fun t345 => ((laws_toBoolS.f kj88 l2).bind fun t348 => ((impl_Some.f kj88 bt339.1 bt339.2 t345 t348).bind fun bt351 => ((laws_eqDisk.f kj88 bt351.1 bt351.2 t284 t287).bind fun t358 => (if t358 = true then ((laws_heldDisk.f kj88 bt335.2.1 bt335.2.2 1).bind fun t359 => (if t359 < 0 then (some false) else (if t359 = bt335.1 then (some true) else (some false)))) else (some false))))))) else (some false))))) = some r := by rw [if_neg (show ¬ (false = true) by decide)] at H; exact H
           clear H
           have H := H1
           clear H1
           replace H := Option.bind_eq_some_iff.mp H
           obtain ⟨⟨t335, t336, t337⟩, A1060, H⟩ := H
           replace H : ((laws_heldDisk.f kj88 t336 t337 1).bind fun t338 => (if t338 < 0 then (some false) else (if t338 = t335 then ((laws_toDisk.f kj88 l0_0 l0_1).bind fun bt339 => ((laws_toWriteS.f kj88 l1).bind fun t345 => ((laws_toBoolS.f kj88 l2).bind fun t348 => ((impl_Some.f kj88 bt339.1 bt339.2 t345 t348).bind fun bt351 => ((laws_eqDisk.f kj88 bt351.1 bt351.2 t284 t287).bind fun t358 => (if t358 = true then ((laws_heldDisk.f kj88 t336 t337 1).bind fun t359 => (if t359 < 0 then (some false) else (if t359 = t335 then (some true) else (some false)))) else (some false))))))) else (some false)))) = some r := H
           have A106 := q_ A1060
           clear A1060
           replace H := Option.bind_eq_some_iff.mp H
           obtain ⟨t338, A1070, H⟩ := H
           replace H : (if t338 < 0 then (some false) else (if t338 = t335 then ((laws_toDisk.f kj88 l0_0 l0_1).bind fun bt339 => ((laws_toWriteS.f kj88 l1).bind fun t345 => ((laws_toBoolS.f kj88 l2).bind fun t348 => ((impl_Some.f kj88 bt339.1 bt339.2 t345 t348).bind fun bt351 => ((laws_eqDisk.f kj88 bt351.1 bt351.2 t284 t287).bind fun t358 => (if t358 = true then ((laws_heldDisk.f kj88 t336 t337 1).bind fun t359 => (if t359 < 0 then (some false) else (if t359 = t335 then (some true) else (some false)))) else (some false))))))) else (some false))) = some r := H
           have A107 := q_ A1070
           clear A1070
           have HC108 := q_ H
           clear H
           have hnb109 := NB310_269.out
           have hnc109 := NB269_310.out
           have hnb110 := NB310_290.out
           have hnc110 := NB290_310.out
           obtain ⟨hcz111_0, hcz111_1, hfz111_0, hfz111_1⟩ := cs2_ BK310.out
           go_upto_if 90 with (first | ((with_reducible refine gate_callee (f := 78) rfl ?_); refine goesL_ (some 85) rfl rfl Try.func78 (by kernel_rfl) rfl #[.agg #[.slice Ao55 t304.length co55, .slice Ao60 t307.length co60], .int .i64 1] rfl z2_ ?_; (with_reducible refine (laws_markDisk.calls kj88 (fun k_ => some k_ = (.slice Ao55 t304.length co55 : Value).ownBlock) (.slice Ao55 t304.length co55) t304 (fun k_ => some k_ = (.slice Ao60 t307.length co60 : Value).ownBlock) (.slice Ao60 t307.length co60) t307 1 t335 t336 t337 w _ ?side1 ?side2 ?side3 A106.out).mono ?_); (case side1 => exact z180_); (case side2 => exact Kd.R_tight rfl HO_311000.out); (case side3 => exact Kd.R_tight rfl HO_311001.out); rintro e w112 ⟨rfl, hy0, hy1, hb, hkp⟩; refine ⟨_, rfl, ?_⟩; replace HO_291000 := q_ (Kd.R_mono (ok' := fun k_ => some k_ ≠ (.slice Ao55 t304.length co55 : Value).ownBlock) (Kd.R_keptB ((Kd.R_apart' HO_291000.out (Kd.R_typed HO_311001.out) (by decide))) hkp (fun k_ hk_ hs_ => Or.elim hs_ (fun e_ => (hk_.1) e_) (fun e_ => (hk_.2) e_))) (fun k_ hk_ => hk_.1.1)); replace HO_291001 := q_ (Kd.R_mono (ok' := fun k_ => some k_ ≠ (.slice Ao60 t307.length co60 : Value).ownBlock) (Kd.R_keptB ((Kd.R_apart' HO_291001.out (Kd.R_typed HO_311000.out) (by decide))) hkp (fun k_ hk_ hs_ => Or.elim hs_ (fun e_ => (hk_.2) e_) (fun e_ => (hk_.1) e_))) (fun k_ hk_ => hk_.1.1)); replace BK269 := q_ (blk_kept z13_ hkp (fun hs_ => Or.elim hs_ (fun e_ => (fun e_ => (Kd.R_ne HO_311000.out BK269.out (by decide)) e_) e_) (fun e_ => (fun e_ => (Kd.R_ne HO_311001.out BK269.out (by decide)) e_) e_))); replace BK290 := q_ (blk_kept z17_ hkp (fun hs_ => Or.elim hs_ (fun e_ => (fun e_ => (Kd.R_ne HO_311000.out BK290.out (by decide)) e_) e_) (fun e_ => (fun e_ => (Kd.R_ne HO_311001.out BK290.out (by decide)) e_) e_))); replace BK310 := q_ (blk_kept z23_ hkp (fun hs_ => Or.elim hs_ (fun e_ => (fun e_ => (Kd.R_ne HO_311000.out BK310.out (by decide)) e_) e_) (fun e_ => (fun e_ => (Kd.R_ne HO_311001.out BK310.out (by decide)) e_) e_))); replace HO_311000 := q_ (Kd.R_reok rfl hy0 (fun k_ e_ => HO_311000.out.1 k_ e_)); replace HO_311001 := q_ (Kd.R_reok rfl hy1 (fun k_ e_ => HO_311001.out.1 k_ e_)); replace HB := q_ (hb); (try clear hb); (try clear hkp); (try clear hy0); (try clear hy1); obtain ⟨hcz113_0, hcz113_1, hfz113_0, hfz113_1⟩ := cs2_ BK310.out) | ((with_reducible refine gate_callee (f := 80) rfl ?_); refine goesL_ (some 88) rfl rfl Try.func80 (by kernel_rfl) rfl #[.agg #[.slice Ao55 t336.length co55, .slice Ao60 t337.length co60], .int .i64 1] rfl z80_ ?_; (with_reducible refine (laws_heldDisk.calls kj88 _ _ t336 _ _ t337 1 t338 _ ?side1 ?side2 ?side3 ?side4 A107.out).mono ?_); (case side1 => exact z183_); (case side2 => exact z190_); (case side3 => exact z184_); (case side4 => exact z191_); rintro e w114 ⟨rfl, hb⟩; refine ⟨_, rfl, ?_⟩; replace HO_291000 := q_ (Kd.R_below z55_ hb); replace HO_291001 := q_ (Kd.R_below z56_ hb); replace HO_311000 := q_ (Kd.R_below z57_ hb); replace HO_311001 := q_ (Kd.R_below z58_ hb); replace BK269 := q_ (blk_below (g := gb269) (o := .cells #[.slice A0_0 l0_0.length c0_0, .slice A0_1 l0_1.length c0_1] 89 (0, 0)) z13_ hb); replace BK290 := q_ (blk_below (g := gb290) (o := .cells #[.slice Ao36 t284.length co36, .slice Ao39 t287.length co39] 95 (0, 0)) z17_ hb); replace BK310 := q_ (blk_below (g := gb310) (o := .cells #[.slice Ao55 t304.length co55, .slice Ao60 t307.length co60] 95 (0, 0)) z23_ hb); replace HB := q_ (below_step z12_ hb); (try clear hb); (try clear hb2); (try clear hk); (try clear hi)))
           (try simp only [Act.put, List.setIfInBounds_toArray, List.set_cons_zero, List.set_cons_succ])
           have H := HC108.out
           clear HC108
           by_cases c115 : t338 < 0
           ·rw [if_pos c115] at H
            have c115b0 : decide (t338 < 0) = true := decide_eq_true c115
            clear c115
            (first | rw [c115b0] | rw [c115b1] | (simp only [i64_w, i32_w]; first | rw [c115b0] | rw [c115b1]) | rw [c115b2] | skip)
            obtain rfl := Option.some.inj H
            go_wp2
            go_ret
            exact ⟨z4_, z12_⟩
           ·rw [if_neg c115] at H
            have c115b0 : decide (t338 < 0) = false := decide_eq_false c115
            clear c115
            (first | rw [c115b0] | rw [c115b1] | (simp only [i64_w, i32_w]; first | rw [c115b0] | rw [c115b1]) | rw [c115b2] | skip)
            by_cases c116 : t338 = t335
            ·rw [if_pos c116] at H
             have c116b0 : (t338 == t335) = true := beq_iff_eq.mpr c116
             have c116b1 : (t338 != t335) = false := bne_eq_false_iff_eq.mpr c116
             clear c116
             replace H := Option.bind_eq_some_iff.mp H
             obtain ⟨⟨t339, t342⟩, A1170, H⟩ := H
             replace H : ((laws_toWriteS.f kj88 l1).bind fun t345 => ((laws_toBoolS.f kj88 l2).bind fun t348 => ((impl_Some.f kj88 t339 t342 t345 t348).bind fun bt351 => ((laws_eqDisk.f kj88 bt351.1 bt351.2 t284 t287).bind fun t358 => (if t358 = true then ((laws_heldDisk.f kj88 t336 t337 1).bind fun t359 => (if t359 < 0 then (some false) else (if t359 = t335 then (some true) else (some false)))) else (some false)))))) = some r := H
             have A117 := q_ A1170
             clear A1170
             replace H := Option.bind_eq_some_iff.mp H
             obtain ⟨t345, A1180, H⟩ := H
             replace H : ((laws_toBoolS.f kj88 l2).bind fun t348 => ((impl_Some.f kj88 t339 t342 t345 t348).bind fun bt351 => ((laws_eqDisk.f kj88 bt351.1 bt351.2 t284 t287).bind fun t358 => (if t358 = true then ((laws_heldDisk.f kj88 t336 t337 1).bind fun t359 => (if t359 < 0 then (some false) else (if t359 = t335 then (some true) else (some false)))) else (some false))))) = some r := H
             have A118 := q_ A1180
             clear A1180
             replace H := Option.bind_eq_some_iff.mp H
             obtain ⟨t348, A1190, H⟩ := H
             replace H : ((impl_Some.f kj88 t339 t342 t345 t348).bind fun bt351 => ((laws_eqDisk.f kj88 bt351.1 bt351.2 t284 t287).bind fun t358 => (if t358 = true then ((laws_heldDisk.f kj88 t336 t337 1).bind fun t359 => (if t359 < 0 then (some false) else (if t359 = t335 then (some true) else (some false)))) else (some false)))) = some r := H
             have A119 := q_ A1190
             clear A1190
             replace H := Option.bind_eq_some_iff.mp H
             obtain ⟨⟨t351, t354⟩, A1200, H⟩ := H
             replace H : ((laws_eqDisk.f kj88 t351 t354 t284 t287).bind fun t358 => (if t358 = true then ((laws_heldDisk.f kj88 t336 t337 1).bind fun t359 => (if t359 < 0 then (some false) else (if t359 = t335 then (some true) else (some false)))) else (some false))) = some r := H
             have A120 := q_ A1200
             clear A1200
             replace H := Option.bind_eq_some_iff.mp H
             obtain ⟨t358, A1210, H⟩ := H
             replace H : (if t358 = true then ((laws_heldDisk.f kj88 t336 t337 1).bind fun t359 => (if t359 < 0 then (some false) else (if t359 = t335 then (some true) else (some false)))) else (some false)) = some r := H
             have A121 := q_ A1210
             clear A1210
             have HC122 := q_ H
             clear H
             have hnb123 := NB269_290.out
             have hnc123 := NB290_269.out
             have hnb124 := NB269_310.out
             have hnc124 := NB310_269.out
             obtain ⟨hcz125_0, hcz125_1, hfz125_0, hfz125_1⟩ := cs2_ BK269.out
             go_upto_if 104 with (first | ((with_reducible refine gate_callee (f := 73) rfl ?_); refine goesL_ (some 95) rfl rfl Try.func73 (by kernel_rfl) rfl #[.agg #[.slice A0_0 l0_0.length c0_0, .slice A0_1 l0_1.length c0_1]] rfl z2_ ?_; (with_reducible refine (laws_toDisk.calls kj88 _ _ l0_0 _ _ l0_1 t339 t342 _ ?side1 ?side2 ?side3 ?side4 A117.out).mono ?_); (case side1 => exact z178_); (case side2 => exact HC0_0.out); (case side3 => exact z179_); (case side4 => exact HC0_1.out); rintro e w126 ⟨v340, v343, rfl, ho0, ho1, hb⟩; refine ⟨_, rfl, ?_⟩; have HO341 := q_ (Kd.R_lower (Kd.R_new' (Kd.R_new' ho0 (Kd.R_lt z55_)) (Kd.R_lt z57_)) (below_size z12_)); replace HO_291000 := q_ (Kd.R_elder' z55_ (Kd.R_base ho0) hb); replace HO_311000 := q_ (Kd.R_elder' z57_ (Kd.R_base ho0) hb); have HO344 := q_ (Kd.R_lower (Kd.R_new' (Kd.R_new' ho1 (Kd.R_lt z56_)) (Kd.R_lt z58_)) (below_size z12_)); replace HO_291001 := q_ (Kd.R_elder' z56_ (Kd.R_base ho1) hb); replace HO_311001 := q_ (Kd.R_elder' z58_ (Kd.R_base ho1) hb); replace BK269 := q_ (blk_below (g := gb269) (o := .cells #[.slice A0_0 l0_0.length c0_0, .slice A0_1 l0_1.length c0_1] 89 (0, 0)) z13_ hb); replace BK290 := q_ (blk_below (g := gb290) (o := .cells #[.slice Ao36 t284.length co36, .slice Ao39 t287.length co39] 95 (0, 0)) z17_ hb); replace BK310 := q_ (blk_below (g := gb310) (o := .cells #[.slice Ao55 t304.length co55, .slice Ao60 t307.length co60] 95 (0, 0)) z23_ hb); replace HB := q_ (below_step z12_ hb); (try clear hb); (try clear hb2); (try clear hk); (try clear hi); (try clear ho0); (try clear ho1)) | ((with_reducible refine gate_callee (f := 74) rfl ?_); refine goesL_ (some 97) rfl rfl Try.func74 (by kernel_rfl) rfl #[.slice A1 l1.length c1] rfl z2_ ?_; (with_reducible refine (laws_toWriteS.calls kj88 _ _ l1 t345 _ ?side1 ?side2 A118.out).mono ?_); (case side1 => exact z181_); (case side2 => exact HC1.out); rintro e w127 ⟨v346, rfl, ho0, hb⟩; refine ⟨_, rfl, ?_⟩; replace HO_291000 := q_ (Kd.R_below z55_ hb); replace HO_291001 := q_ (Kd.R_below z56_ hb); replace HO_311000 := q_ (Kd.R_below z57_ hb); replace HO_311001 := q_ (Kd.R_below z58_ hb); replace HO341 := q_ (Kd.R_below z78_ hb); replace HO344 := q_ (Kd.R_below z79_ hb); have HO347 := q_ (Kd.R_lower ho0 (below_size z12_)); replace BK269 := q_ (blk_below (g := gb269) (o := .cells #[.slice A0_0 l0_0.length c0_0, .slice A0_1 l0_1.length c0_1] 89 (0, 0)) z13_ hb); replace BK290 := q_ (blk_below (g := gb290) (o := .cells #[.slice Ao36 t284.length co36, .slice Ao39 t287.length co39] 95 (0, 0)) z17_ hb); replace BK310 := q_ (blk_below (g := gb310) (o := .cells #[.slice Ao55 t304.length co55, .slice Ao60 t307.length co60] 95 (0, 0)) z23_ hb); replace HB := q_ (below_step z12_ hb); (try clear hb); (try clear hb2); (try clear hk); (try clear hi); (try clear ho0)) | ((with_reducible refine gate_callee (f := 82) rfl ?_); refine goesL_ (some 99) rfl rfl Try.func82 (by kernel_rfl) rfl #[.slice A2 l2.length c2] rfl z2_ ?_; (with_reducible refine (laws_toBoolS.calls kj88 _ _ l2 t348 _ ?side1 ?side2 A119.out).mono ?_); (case side1 => exact z182_); (case side2 => exact HC2.out); rintro e w128 ⟨v349, rfl, ho0, hb⟩; refine ⟨_, rfl, ?_⟩; replace HO_291000 := q_ (Kd.R_below z55_ hb); replace HO_291001 := q_ (Kd.R_below z56_ hb); replace HO_311000 := q_ (Kd.R_below z57_ hb); replace HO_311001 := q_ (Kd.R_below z58_ hb); replace HO341 := q_ (Kd.R_below z78_ hb); replace HO344 := q_ (Kd.R_below z79_ hb); replace HO347 := q_ (Kd.R_below z108_ hb); have HO350 := q_ (Kd.R_lower ho0 (below_size z12_)); replace BK269 := q_ (blk_below (g := gb269) (o := .cells #[.slice A0_0 l0_0.length c0_0, .slice A0_1 l0_1.length c0_1] 89 (0, 0)) z13_ hb); replace BK290 := q_ (blk_below (g := gb290) (o := .cells #[.slice Ao36 t284.length co36, .slice Ao39 t287.length co39] 95 (0, 0)) z17_ hb); replace BK310 := q_ (blk_below (g := gb310) (o := .cells #[.slice Ao55 t304.length co55, .slice Ao60 t307.length co60] 95 (0, 0)) z23_ hb); replace HB := q_ (below_step z12_ hb); (try clear hb); (try clear hb2); (try clear hk); (try clear hi); (try clear ho0); obtain ⟨Ao129, co129, eo129⟩ := Kd.R_slice HO341.out; subst eo129; obtain ⟨Ao130, co130, eo130⟩ := Kd.R_slice HO344.out; subst eo130; obtain ⟨Ao131, co131, eo131⟩ := Kd.R_slice HO347.out; subst eo131; obtain ⟨Ao132, co132, eo132⟩ := Kd.R_slice HO350.out; subst eo132) | ((with_reducible refine gate_callee (f := 83) rfl ?_); refine goesL_ (some 100) rfl rfl Try.func83 (by kernel_rfl) rfl #[.agg #[.slice Ao129 t339.length co129, .slice Ao130 t342.length co130], .slice Ao131 t345.length co131, .slice Ao132 t348.length co132] rfl z2_ ?_; (with_reducible refine (impl_Some.calls kj88 _ _ t339 _ _ t342 _ _ t345 _ _ t348 t351 t354 _ ?side1 ?side2 ?side3 ?side4 ?side5 ?side6 ?side7 ?side8 A120.out).mono ?_); (case side1 => repeat (first | exact (Kd.R_reads' HO341.out).2.2 | (with_reducible refine Kd.C_alloc ?_ _) | (with_reducible refine Kd.C_drewN ?_ _) | (with_reducible refine Kd.C_drew ?_))); (case side2 => exact (Kd.R_reads' HO341.out).2.1); (case side3 => repeat (first | exact (Kd.R_reads' HO344.out).2.2 | (with_reducible refine Kd.C_alloc ?_ _) | (with_reducible refine Kd.C_drewN ?_ _) | (with_reducible refine Kd.C_drew ?_))); (case side4 => exact (Kd.R_reads' HO344.out).2.1); (case side5 => repeat (first | exact (Kd.R_reads' HO347.out).2.2 | (with_reducible refine Kd.C_alloc ?_ _) | (with_reducible refine Kd.C_drewN ?_ _) | (with_reducible refine Kd.C_drew ?_))); (case side6 => exact (Kd.R_reads' HO347.out).2.1); (case side7 => repeat (first | exact (Kd.R_reads' HO350.out).2.2 | (with_reducible refine Kd.C_alloc ?_ _) | (with_reducible refine Kd.C_drewN ?_ _) | (with_reducible refine Kd.C_drew ?_))); (case side8 => exact (Kd.R_reads' HO350.out).2.1); rintro e w133 ⟨v352, v355, rfl, ho0, ho1, hb⟩; refine ⟨_, rfl, ?_⟩; replace HO347 := q_ (Kd.R_below z108_ hb); replace HO350 := q_ (Kd.R_below z121_ hb); have HO353 := q_ (Kd.R_lower (Kd.R_new' (Kd.R_new' (Kd.R_new' ho0 (Kd.R_lt z55_)) (Kd.R_lt z57_)) (Kd.R_lt z78_)) (below_size z12_)); replace HO_291000 := q_ (Kd.R_elder' z55_ (Kd.R_base ho0) hb); replace HO_311000 := q_ (Kd.R_elder' z57_ (Kd.R_base ho0) hb); replace HO341 := q_ (Kd.R_elder' z78_ (Kd.R_base ho0) hb); have HO356 := q_ (Kd.R_lower (Kd.R_new' (Kd.R_new' (Kd.R_new' ho1 (Kd.R_lt z56_)) (Kd.R_lt z58_)) (Kd.R_lt z79_)) (below_size z12_)); replace HO_291001 := q_ (Kd.R_elder' z56_ (Kd.R_base ho1) hb); replace HO_311001 := q_ (Kd.R_elder' z58_ (Kd.R_base ho1) hb); replace HO344 := q_ (Kd.R_elder' z79_ (Kd.R_base ho1) hb); replace BK269 := q_ (blk_below (g := gb269) (o := .cells #[.slice A0_0 l0_0.length c0_0, .slice A0_1 l0_1.length c0_1] 89 (0, 0)) z13_ hb); replace BK290 := q_ (blk_below (g := gb290) (o := .cells #[.slice Ao36 t284.length co36, .slice Ao39 t287.length co39] 95 (0, 0)) z17_ hb); replace BK310 := q_ (blk_below (g := gb310) (o := .cells #[.slice Ao55 t304.length co55, .slice Ao60 t307.length co60] 95 (0, 0)) z23_ hb); replace HB := q_ (below_step z12_ hb); (try clear hb); (try clear hb2); (try clear hk); (try clear hi); (try clear ho0); (try clear ho1)) | ((with_reducible refine gate_dst (N := 16) rfl ?_); refine box_event ?hg (N := 16) ?hd (cs := #[.slice none 0 0, .slice none 0 0]) (t := 95) ?hr ?_; (case hd => rfl); (case hg => rfl); (case hr => exact z177_); intro gb357 hg w134 hbox hb; replace HO_291000 := q_ (Kd.R_below z55_ hb); replace HO_291001 := q_ (Kd.R_below z56_ hb); replace HO_311000 := q_ (Kd.R_below z57_ hb); replace HO_311001 := q_ (Kd.R_below z58_ hb); replace HO341 := q_ (Kd.R_below z78_ hb); replace HO344 := q_ (Kd.R_below z79_ hb); replace HO347 := q_ (Kd.R_below z108_ hb); replace HO350 := q_ (Kd.R_below z121_ hb); replace HO353 := q_ (Kd.R_below z131_ hb); replace HO356 := q_ (Kd.R_below z132_ hb); have BK357 := q_ (hbox); have GW357 := q_ ((by rw [hg]; exact (below_size z12_) : w.heap.size ≤ gb357)); have GE357 := q_ ((by rw [hg]; exact (below_size z12_) : w.heap.size ≤ gb357)); replace HB := q_ (below_step z12_ hb); have NB269_357 := q_ ((z146_ : gb269 ≠ gb357)); have NB357_269 := q_ ((z147_ : gb357 ≠ gb269)); replace BK269 := q_ (blk_below (g := gb269) (o := .cells #[.slice A0_0 l0_0.length c0_0, .slice A0_1 l0_1.length c0_1] 89 (0, 0)) z13_ hb); have NB290_357 := q_ ((z150_ : gb290 ≠ gb357)); have NB357_290 := q_ ((z151_ : gb357 ≠ gb290)); replace BK290 := q_ (blk_below (g := gb290) (o := .cells #[.slice Ao36 t284.length co36, .slice Ao39 t287.length co39] 95 (0, 0)) z17_ hb); have NB310_357 := q_ ((by rw [hg]; exact Nat.ne_of_lt (blk_lt (g := gb310) (o := .cells #[.slice Ao55 t304.length co55, .slice Ao60 t307.length co60] 95 (0, 0)) z23_) : gb310 ≠ gb357)); have NB357_310 := q_ ((by rw [hg]; exact Nat.ne_of_gt (blk_lt (g := gb310) (o := .cells #[.slice Ao55 t304.length co55, .slice Ao60 t307.length co60] 95 (0, 0)) z23_) : gb357 ≠ gb310)); replace BK310 := q_ (blk_below (g := gb310) (o := .cells #[.slice Ao55 t304.length co55, .slice Ao60 t307.length co60] 95 (0, 0)) z23_ hb); clear hb hbox hg; obtain ⟨Ao135, co135, eo135⟩ := Kd.R_slice HO353.out; subst eo135; have hnb136 := NB357_269.out; have hnc136 := NB269_357.out; have hnb137 := NB357_290.out; have hnc137 := NB290_357.out; have hnb138 := NB357_310.out; have hnc138 := NB310_357.out; obtain ⟨hcz139_0, hcz139_1, hfz139_0, hfz139_1⟩ := cs2_ BK357.out; obtain ⟨Ao140, co140, eo140⟩ := Kd.R_slice HO356.out; subst eo140; have hnb141 := NB290_310.out; have hnc141 := NB310_290.out; obtain ⟨hcz142_0, hcz142_1, hfz142_0, hfz142_1⟩ := cs2_ BK290.out) | ((with_reducible refine gate_callee (f := 76) rfl ?_); refine goesL_ (some 103) rfl rfl Try.func76 (by kernel_rfl) rfl #[.agg #[.slice Ao135 t351.length co135, .slice Ao140 t354.length co140], .agg #[.slice Ao36 t284.length co36, .slice Ao39 t287.length co39]] rfl z2_ ?_; (with_reducible refine (laws_eqDisk.calls kj88 _ _ t351 _ _ t354 _ _ t284 _ _ t287 t358 _ ?side1 ?side2 ?side3 ?side4 ?side5 ?side6 ?side7 ?side8 A121.out).mono ?_); (case side1 => refine (Kd.R_reads' (e := 9) (base := w.heap.size) (ok := fun k_ => (((True ∧ some k_ ≠ (.slice Ao36 t284.length co36 : Value).ownBlock) ∧ some k_ ≠ (.slice Ao55 t304.length co55 : Value).ownBlock) ∧ some k_ ≠ (.slice Ao129 t339.length co129 : Value).ownBlock)) (n := t351.length) (c := co135) ?_).2.2; exact (by (with_reducible repeat (first | apply Kd.R_alloc | apply Kd.R_drewN | apply Kd.R_drew)); exact (Kd.R_mono (Kd.R_far (p := ⟨gb357, 1, none⟩) (Kd.R_far (p := ⟨gb357, 0, none⟩) (Kd.R_types HO353.out BK357.out (by decide)) (fun _ hk => hk.2) (.slice Ao135 t351.length co135)) (fun _ hk => hk.2) (.slice Ao140 t354.length co140)) (fun _ h_ => h_.1)))); (case side2 => exact (Kd.R_reads' HO353.out).2.1); (case side3 => refine (Kd.R_reads' (e := 166) (base := w.heap.size) (ok := fun k_ => (((True ∧ some k_ ≠ (.slice Ao39 t287.length co39 : Value).ownBlock) ∧ some k_ ≠ (.slice Ao60 t307.length co60 : Value).ownBlock) ∧ some k_ ≠ (.slice Ao130 t342.length co130 : Value).ownBlock)) (n := t354.length) (c := co140) ?_).2.2; exact (by (with_reducible repeat (first | apply Kd.R_alloc | apply Kd.R_drewN | apply Kd.R_drew)); exact (Kd.R_mono (Kd.R_far (p := ⟨gb357, 1, none⟩) (Kd.R_far (p := ⟨gb357, 0, none⟩) (Kd.R_types HO356.out BK357.out (by decide)) (fun _ hk => hk.2) (.slice Ao135 t351.length co135)) (fun _ hk => hk.2) (.slice Ao140 t354.length co140)) (fun _ h_ => h_.1)))); (case side4 => exact (Kd.R_reads' HO356.out).2.1); (case side5 => refine (Kd.R_reads' (e := 9) (base := w.heap.size) (ok := fun k_ => ((some k_ ≠ (.slice Ao55 t304.length co55 : Value).ownBlock ∧ some k_ ≠ (.slice Ao129 t339.length co129 : Value).ownBlock) ∧ some k_ ≠ (.slice Ao135 t351.length co135 : Value).ownBlock)) (n := t284.length) (c := co36) ?_).2.2; exact (by (with_reducible repeat (first | apply Kd.R_alloc | apply Kd.R_drewN | apply Kd.R_drew)); exact (Kd.R_mono (Kd.R_far (p := ⟨gb357, 1, none⟩) (Kd.R_far (p := ⟨gb357, 0, none⟩) (Kd.R_types HO_291000.out BK357.out (by decide)) (fun _ hk => hk.2) (.slice Ao135 t351.length co135)) (fun _ hk => hk.2) (.slice Ao140 t354.length co140)) (fun _ h_ => h_.1)))); (case side6 => exact (Kd.R_reads' HO_291000.out).2.1); (case side7 => refine (Kd.R_reads' (e := 166) (base := w.heap.size) (ok := fun k_ => ((some k_ ≠ (.slice Ao60 t307.length co60 : Value).ownBlock ∧ some k_ ≠ (.slice Ao130 t342.length co130 : Value).ownBlock) ∧ some k_ ≠ (.slice Ao140 t354.length co140 : Value).ownBlock)) (n := t287.length) (c := co39) ?_).2.2; exact (by (with_reducible repeat (first | apply Kd.R_alloc | apply Kd.R_drewN | apply Kd.R_drew)); exact (Kd.R_mono (Kd.R_far (p := ⟨gb357, 1, none⟩) (Kd.R_far (p := ⟨gb357, 0, none⟩) (Kd.R_types HO_291001.out BK357.out (by decide)) (fun _ hk => hk.2) (.slice Ao135 t351.length co135)) (fun _ hk => hk.2) (.slice Ao140 t354.length co140)) (fun _ h_ => h_.1)))); (case side8 => exact (Kd.R_reads' HO_291001.out).2.1); rintro e w143 ⟨rfl, hb⟩; refine ⟨_, rfl, ?_⟩; replace HO_291000 := q_ (Kd.R_below (by (with_reducible repeat (first | apply Kd.R_alloc | apply Kd.R_drewN | apply Kd.R_drew)); exact (Kd.R_mono (Kd.R_far (p := ⟨gb357, 1, none⟩) (Kd.R_far (p := ⟨gb357, 0, none⟩) (Kd.R_types HO_291000.out BK357.out (by decide)) (fun _ hk => hk.2) (.slice Ao135 t351.length co135)) (fun _ hk => hk.2) (.slice Ao140 t354.length co140)) (fun _ h_ => h_.1))) hb); replace HO_291001 := q_ (Kd.R_below (by (with_reducible repeat (first | apply Kd.R_alloc | apply Kd.R_drewN | apply Kd.R_drew)); exact (Kd.R_mono (Kd.R_far (p := ⟨gb357, 1, none⟩) (Kd.R_far (p := ⟨gb357, 0, none⟩) (Kd.R_types HO_291001.out BK357.out (by decide)) (fun _ hk => hk.2) (.slice Ao135 t351.length co135)) (fun _ hk => hk.2) (.slice Ao140 t354.length co140)) (fun _ h_ => h_.1))) hb); replace HO_311000 := q_ (Kd.R_below (by (with_reducible repeat (first | apply Kd.R_alloc | apply Kd.R_drewN | apply Kd.R_drew)); exact (Kd.R_mono (Kd.R_far (p := ⟨gb357, 1, none⟩) (Kd.R_far (p := ⟨gb357, 0, none⟩) (Kd.R_types HO_311000.out BK357.out (by decide)) (fun _ hk => hk.2) (.slice Ao135 t351.length co135)) (fun _ hk => hk.2) (.slice Ao140 t354.length co140)) (fun _ h_ => h_.1))) hb); replace HO_311001 := q_ (Kd.R_below (by (with_reducible repeat (first | apply Kd.R_alloc | apply Kd.R_drewN | apply Kd.R_drew)); exact (Kd.R_mono (Kd.R_far (p := ⟨gb357, 1, none⟩) (Kd.R_far (p := ⟨gb357, 0, none⟩) (Kd.R_types HO_311001.out BK357.out (by decide)) (fun _ hk => hk.2) (.slice Ao135 t351.length co135)) (fun _ hk => hk.2) (.slice Ao140 t354.length co140)) (fun _ h_ => h_.1))) hb); replace HO341 := q_ (Kd.R_below (by (with_reducible repeat (first | apply Kd.R_alloc | apply Kd.R_drewN | apply Kd.R_drew)); exact (Kd.R_mono (Kd.R_far (p := ⟨gb357, 1, none⟩) (Kd.R_far (p := ⟨gb357, 0, none⟩) (Kd.R_types HO341.out BK357.out (by decide)) (fun _ hk => hk.2) (.slice Ao135 t351.length co135)) (fun _ hk => hk.2) (.slice Ao140 t354.length co140)) (fun _ h_ => h_.1))) hb); replace HO344 := q_ (Kd.R_below (by (with_reducible repeat (first | apply Kd.R_alloc | apply Kd.R_drewN | apply Kd.R_drew)); exact (Kd.R_mono (Kd.R_far (p := ⟨gb357, 1, none⟩) (Kd.R_far (p := ⟨gb357, 0, none⟩) (Kd.R_types HO344.out BK357.out (by decide)) (fun _ hk => hk.2) (.slice Ao135 t351.length co135)) (fun _ hk => hk.2) (.slice Ao140 t354.length co140)) (fun _ h_ => h_.1))) hb); replace HO347 := q_ (Kd.R_below (by (with_reducible repeat (first | apply Kd.R_alloc | apply Kd.R_drewN | apply Kd.R_drew)); exact (Kd.R_mono (Kd.R_far (p := ⟨gb357, 1, none⟩) (Kd.R_far (p := ⟨gb357, 0, none⟩) (Kd.R_types HO347.out BK357.out (by decide)) (fun _ hk => hk.2) (.slice Ao135 t351.length co135)) (fun _ hk => hk.2) (.slice Ao140 t354.length co140)) (fun _ h_ => h_.1))) hb); replace HO350 := q_ (Kd.R_below (by (with_reducible repeat (first | apply Kd.R_alloc | apply Kd.R_drewN | apply Kd.R_drew)); exact (Kd.R_mono (Kd.R_far (p := ⟨gb357, 1, none⟩) (Kd.R_far (p := ⟨gb357, 0, none⟩) (Kd.R_types HO350.out BK357.out (by decide)) (fun _ hk => hk.2) (.slice Ao135 t351.length co135)) (fun _ hk => hk.2) (.slice Ao140 t354.length co140)) (fun _ h_ => h_.1))) hb); replace HO353 := q_ (Kd.R_below (by (with_reducible repeat (first | apply Kd.R_alloc | apply Kd.R_drewN | apply Kd.R_drew)); exact (Kd.R_mono (Kd.R_far (p := ⟨gb357, 1, none⟩) (Kd.R_far (p := ⟨gb357, 0, none⟩) (Kd.R_types HO353.out BK357.out (by decide)) (fun _ hk => hk.2) (.slice Ao135 t351.length co135)) (fun _ hk => hk.2) (.slice Ao140 t354.length co140)) (fun _ h_ => h_.1))) hb); replace HO356 := q_ (Kd.R_below (by (with_reducible repeat (first | apply Kd.R_alloc | apply Kd.R_drewN | apply Kd.R_drew)); exact (Kd.R_mono (Kd.R_far (p := ⟨gb357, 1, none⟩) (Kd.R_far (p := ⟨gb357, 0, none⟩) (Kd.R_types HO356.out BK357.out (by decide)) (fun _ hk => hk.2) (.slice Ao135 t351.length co135)) (fun _ hk => hk.2) (.slice Ao140 t354.length co140)) (fun _ h_ => h_.1))) hb); replace BK269 := q_ (blk_below (g := gb269) (o := .cells #[.slice A0_0 l0_0.length c0_0, .slice A0_1 l0_1.length c0_1] 89 (0, 0)) (by (with_reducible repeat (first | refine blk_drewN ?_ _ | refine blk_drew ?_ | refine blk_alloc ?_ _)); refine blk_far ?_ NB269_357.out _; (with_reducible repeat (first | refine blk_drewN ?_ _ | refine blk_drew ?_ | refine blk_alloc ?_ _)); refine blk_far ?_ NB269_357.out _; (with_reducible repeat (first | refine blk_drewN ?_ _ | refine blk_drew ?_ | refine blk_alloc ?_ _)); exact BK269.out) hb); replace BK290 := q_ (blk_below (g := gb290) (o := .cells #[.slice Ao36 t284.length co36, .slice Ao39 t287.length co39] 95 (0, 0)) (by (with_reducible repeat (first | refine blk_drewN ?_ _ | refine blk_drew ?_ | refine blk_alloc ?_ _)); refine blk_far ?_ NB290_357.out _; (with_reducible repeat (first | refine blk_drewN ?_ _ | refine blk_drew ?_ | refine blk_alloc ?_ _)); refine blk_far ?_ NB290_357.out _; (with_reducible repeat (first | refine blk_drewN ?_ _ | refine blk_drew ?_ | refine blk_alloc ?_ _)); exact BK290.out) hb); replace BK310 := q_ (blk_below (g := gb310) (o := .cells #[.slice Ao55 t304.length co55, .slice Ao60 t307.length co60] 95 (0, 0)) (by (with_reducible repeat (first | refine blk_drewN ?_ _ | refine blk_drew ?_ | refine blk_alloc ?_ _)); refine blk_far ?_ NB310_357.out _; (with_reducible repeat (first | refine blk_drewN ?_ _ | refine blk_drew ?_ | refine blk_alloc ?_ _)); refine blk_far ?_ NB310_357.out _; (with_reducible repeat (first | refine blk_drewN ?_ _ | refine blk_drew ?_ | refine blk_alloc ?_ _)); exact BK310.out) hb); replace BK357 := q_ (blk_below (g := gb357) (o := .cells #[.slice Ao135 t351.length co135, .slice Ao140 t354.length co140] 95 (0, 0)) (by (with_reducible repeat (first | refine blk_drewN ?_ _ | refine blk_drew ?_ | refine blk_alloc ?_ _)); refine blk_put (cs := #[.slice Ao135 t351.length co135, .slice none 0 0]) ?_ 1 _ rfl; (with_reducible repeat (first | refine blk_drewN ?_ _ | refine blk_drew ?_ | refine blk_alloc ?_ _)); refine blk_put (cs := #[.slice none 0 0, .slice none 0 0]) ?_ 0 _ rfl; (with_reducible repeat (first | refine blk_drewN ?_ _ | refine blk_drew ?_ | refine blk_alloc ?_ _)); exact BK357.out) hb); replace HB := q_ (below_step z35_ hb); (try clear hb); (try clear hb2); (try clear hk); (try clear hi)))
             (try simp only [Act.put, List.setIfInBounds_toArray, List.set_cons_zero, List.set_cons_succ])
             have H := HC122.out
             clear HC122
             by_cases c144 : t358 = true
             ·subst c144
              have H1 : ((laws_heldDisk.f kj88 t336 t337 1).bind fun t359 => (if t359 < 0 then (some false) else (if t359 = t335 then (some true) else (some false)))) = some r := z90_
              clear H
              have H := H1
              clear H1
              replace H := Option.bind_eq_some_iff.mp H
              obtain ⟨t359, A1450, H⟩ := H
              replace H : (if t359 < 0 then (some false) else (if t359 = t335 then (some true) else (some false))) = some r := H
              have A145 := q_ A1450
              clear A1450
              have HC146 := q_ H
              clear H
              have hnb147 := NB310_269.out
              have hnc147 := NB269_310.out
              have hnb148 := NB310_290.out
              have hnc148 := NB290_310.out
              have hnb149 := NB310_357.out
              have hnc149 := NB357_310.out
              obtain ⟨hcz150_0, hcz150_1, hfz150_0, hfz150_1⟩ := cs2_ BK310.out
              go_upto_if 109 with (first | ((with_reducible refine gate_callee (f := 80) rfl ?_); refine goesL_ (some 107) rfl rfl Try.func80 (by kernel_rfl) rfl #[.agg #[.slice Ao55 t336.length co55, .slice Ao60 t337.length co60], .int .i64 1] rfl z80_ ?_; (with_reducible refine (laws_heldDisk.calls kj88 _ _ t336 _ _ t337 1 t359 _ ?side1 ?side2 ?side3 ?side4 A145.out).mono ?_); (case side1 => exact z183_); (case side2 => exact z190_); (case side3 => exact z184_); (case side4 => exact z191_); rintro e w151 ⟨rfl, hb⟩; refine ⟨_, rfl, ?_⟩; replace HO_291000 := q_ (Kd.R_below z55_ hb); replace HO_291001 := q_ (Kd.R_below z56_ hb); replace HO_311000 := q_ (Kd.R_below z57_ hb); replace HO_311001 := q_ (Kd.R_below z58_ hb); replace HO341 := q_ (Kd.R_below z78_ hb); replace HO344 := q_ (Kd.R_below z79_ hb); replace HO347 := q_ (Kd.R_below z108_ hb); replace HO350 := q_ (Kd.R_below z121_ hb); replace HO353 := q_ (Kd.R_below z131_ hb); replace HO356 := q_ (Kd.R_below z132_ hb); replace BK269 := q_ (blk_below (g := gb269) (o := .cells #[.slice A0_0 l0_0.length c0_0, .slice A0_1 l0_1.length c0_1] 89 (0, 0)) z13_ hb); replace BK290 := q_ (blk_below (g := gb290) (o := .cells #[.slice Ao36 t284.length co36, .slice Ao39 t287.length co39] 95 (0, 0)) z17_ hb); replace BK310 := q_ (blk_below (g := gb310) (o := .cells #[.slice Ao55 t304.length co55, .slice Ao60 t307.length co60] 95 (0, 0)) z23_ hb); replace BK357 := q_ (blk_below (g := gb357) (o := .cells #[.slice Ao135 t351.length co135, .slice Ao140 t354.length co140] 95 (0, 0)) (by (with_reducible repeat (first | refine blk_drewN ?_ _ | refine blk_drew ?_ | refine blk_alloc ?_ _)); exact BK357.out) hb); replace HB := q_ (below_step z35_ hb); (try clear hb); (try clear hb2); (try clear hk); (try clear hi)))
              (try simp only [Act.put, List.setIfInBounds_toArray, List.set_cons_zero, List.set_cons_succ])
              have H := HC146.out
              clear HC146
              by_cases c152 : t359 < 0
              ·rw [if_pos c152] at H
               have c152b0 : decide (t359 < 0) = true := decide_eq_true c152
               clear c152
               (first | rw [c152b0] | rw [c152b1] | (simp only [i64_w, i32_w]; first | rw [c152b0] | rw [c152b1]) | rw [c152b2] | skip)
               obtain rfl := Option.some.inj H
               go_wp2
               go_ret
               exact ⟨z4_, z35_⟩
              ·rw [if_neg c152] at H
               have c152b0 : decide (t359 < 0) = false := decide_eq_false c152
               clear c152
               (first | rw [c152b0] | rw [c152b1] | (simp only [i64_w, i32_w]; first | rw [c152b0] | rw [c152b1]) | rw [c152b2] | skip)
               by_cases c153 : t359 = t335
               ·rw [if_pos c153] at H
                have c153b0 : (t359 == t335) = true := beq_iff_eq.mpr c153
                have c153b1 : (t359 != t335) = false := bne_eq_false_iff_eq.mpr c153
                clear c153
                obtain rfl := Option.some.inj H
                go_wp2
                go_ret
                exact ⟨z4_, z35_⟩
               ·rw [if_neg c153] at H
                have c153b0 : (t359 == t335) = false := beq_eq_false_iff_ne.mpr c153
                have c153b1 : (t359 != t335) = true := bne_iff_ne.mpr c153
                obtain rfl := Option.some.inj H
                go_wp2
                go_ret
                exact ⟨z4_, z35_⟩
             ·replace c144 := Bool.eq_false_iff.mpr c144
              subst c144
              have H1 : (some false) = some r := by rw [if_neg (show ¬ (false = true) by decide)] at H; exact H
              clear H
              have H := H1
              clear H1
              obtain rfl := Option.some.inj H
              go_wp2
              go_ret
              exact ⟨z4_, z35_⟩
            ·rw [if_neg c116] at H
             have c116b0 : (t338 == t335) = false := beq_eq_false_iff_ne.mpr c116
             have c116b1 : (t338 != t335) = true := bne_iff_ne.mpr c116
             obtain rfl := Option.some.inj H
             go_wp2
             go_ret
             exact ⟨z4_, z12_⟩
       ·replace c85 := Bool.eq_false_iff.mpr c85
        subst c85
        have H1 : (some false) = some r := by rw [if_neg (show ¬ (false = true) by decide)] at H; exact H
        clear H
        have H := H1
        clear H1
        obtain rfl := Option.some.inj H
        go_wp2
        go_ret
        exact ⟨z4_, z16_⟩
      ·replace c79 := Bool.eq_false_iff.mpr c79
       subst c79
       have H1 : (some false) = some r := by rw [if_neg (show ¬ (false = true) by decide)] at H; exact H
       clear H
       have H := H1
       clear H1
       obtain rfl := Option.some.inj H
       go_wp2
       go_ret
       exact ⟨z4_, z16_⟩
     ·replace c72 := Bool.eq_false_iff.mpr c72
      subst c72
      have H1 : (some false) = some r := by rw [if_neg (show ¬ (false = true) by decide)] at H; exact H
      clear H
      have H := H1
      clear H1
      obtain rfl := Option.some.inj H
      go_wp2
      go_ret
      exact ⟨z4_, z16_⟩
    ·replace c63 := Bool.eq_false_iff.mpr c63
     subst c63
     have H1 : (some false) = some r := by rw [if_neg (show ¬ (false = true) by decide)] at H; exact H
     clear H
     have H := H1
     clear H1
     obtain rfl := Option.some.inj H
     go_wp2
     go_ret
     exact ⟨z4_, z16_⟩

end Go.Proofs.Ytphlmbhjeoljoaa.PFnExactSome
