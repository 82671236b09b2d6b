-- Written by a program of this session, which goes by the kit's print. Not trusted: Lean checks it.
import Derived.Test.YtphlmbhjeoljoaaPFnMappedx0
import Derived.Test.YtphlmbhjeoljoaaPFnMappedx2
import Derived.Test.YtphlmbhjeoljoaaPFnMappedx3
import Derived.Test.YtphlmbhjeoljoaaPFnMappedx4
import Derived.Test.YtphlmbhjeoljoaaPFnMappedx5
import Derived.Test.YtphlmbhjeoljoaaPFnMappedx7
import Derived.Test.YtphlmbhjeoljoaaPFnMappedx9
namespace Go.Proofs.Ytphlmbhjeoljoaa.PFnMapped
open Go.RowKit Go.Proofs.YtphlmbhjeoljoaaW.PrintWords Go.Proofs.YtphlmbhjeoljoaaW.PrintLast Go.Proofs.YtphlmbhjeoljoaaW.PrintMore
attribute [local go_sem] max2_int min2_int max_two min_two max_three min_three max_four min_four   -- for this text's walks alone
set_option linter.unusedVariables false
set_option linter.unusedSimpArgs false

/-! ### laws_FnMapped: function 8 -/
mutual
def laws_FnMapped.j0 : Nat → List (S147) → List (S147) → Bool → Int → Int → Int → Option (Bool)
 | 0, _, _, _, _, _, _ => none
 | k + 1, x3, x5, x44, x378000, x378001, x378002 => if x44 = true then (some false) else ((spec_MapOk.f k x3).bind fun t389 => (if t389 = true then ((spec_MsgOk.f x378000 x378001 x378002).bind fun t390 => (if t390 = true then (laws_FnMapped.j1 k x3 x5 (x378000 == 4) x378000 x378001 x378002) else (laws_FnMapped.j1 k x3 x5 true x378000 x378001 x378002))) else (laws_FnMapped.j1 k x3 x5 true x378000 x378001 x378002)))
def laws_FnMapped.j1 : Nat → List (S147) → List (S147) → Bool → Int → Int → Int → Option (Bool)
 | 0, _, _, _, _, _, _ => none
 | k + 1, x3, x5, x57, x378000, x378001, x378002 => if x57 = true then ((laws_samePairs.f k x5 x3).bind fun t391 => (some t391)) else (laws_FnMapped.l0 k x3 x5 0 x378000 x378001 x378002)
def laws_FnMapped.l0 : Nat → List (S147) → List (S147) → Int → Int → Int → Int → Option (Bool)
 | 0, _, _, _, _, _, _ => none
 | k + 1, x3, x5, x6, x378000, x378001, x378002 => if x6 < 31 then ((impl_MapGet.f k x5 x6).bind fun bt392 => ((impl_MapGet.f k x3 x6).bind fun bt394 => (if x6 = x378001 then (laws_FnMapped.l0 k x3 x5 (wrap64 (x6 + 1)) x378000 x378001 x378002) else (if bt392.1 = bt394.1 then (if (bt392.2 != bt394.2) = true then (some false) else (laws_FnMapped.l0 k x3 x5 (wrap64 (x6 + 1)) x378000 x378001 x378002)) else (some false))))) else ((impl_MapGet.f k x5 x378001).bind fun bt396 => ((impl_MapGet.f k x3 x378001).bind fun bt398 => (if x378000 = 1 then (if bt396.2 = true then (some (bt396.1 == x378002)) else (some false)) else (if x378000 = 2 then (some (!bt396.2)) else (if bt396.2 = true then (if bt396.1 = (wrap64 (bt398.1 + x378002)) then ((impl_MapOk.f k x5).bind fun t400 => (some t400)) else (if bt396.1 = 1000000000 then ((impl_MapOk.f k x5).bind fun t401 => (some t401)) else (if bt396.1 = (-1000000000) then ((impl_MapOk.f k x5).bind fun t402 => (some t402)) else (some false)))) else (some false))))))
end
def laws_FnMapped.f (k : Nat) (l0 : List Int) : Option (Bool) := (laws_big.f l0).bind fun t370 => (if t370 = true then (some true) else ((spec_DrawMapDo.f k l0).bind fun bt371 => ((impl_MapDo.f k bt371.1 bt371.2.1 bt371.2.2.1 bt371.2.2.2).bind fun t378 => ((spec_MapDo.f k bt371.1 bt371.2.1 bt371.2.2.1 bt371.2.2.2).bind fun t381 => ((laws_samePairs.f k t378 t381).bind fun t384 => (if t384 = true then ((impl_MapOk.f k bt371.1).bind fun t385 => ((spec_MapOk.f k bt371.1).bind fun t386 => (if (t385 != t386) = true then (laws_FnMapped.j0 k bt371.1 t378 true bt371.2.1 bt371.2.2.1 bt371.2.2.2) else ((impl_MsgOk.f k bt371.2.1 bt371.2.2.1 bt371.2.2.2).bind fun t387 => ((spec_MsgOk.f bt371.2.1 bt371.2.2.1 bt371.2.2.2).bind fun t388 => (laws_FnMapped.j0 k bt371.1 t378 (t387 != t388) bt371.2.1 bt371.2.2.1 bt371.2.2.2)))))) else (laws_FnMapped.j0 k bt371.1 t378 true bt371.2.1 bt371.2.2.1 bt371.2.2.2)))))))
theorem laws_FnMapped.mono_l : ∀ k, (∀ y0 y1 y2 y3 y4 y5, LeO (laws_FnMapped.j0 k y0 y1 y2 y3 y4 y5) (laws_FnMapped.j0 (k + 1) y0 y1 y2 y3 y4 y5)) ∧ (∀ y0 y1 y2 y3 y4 y5, LeO (laws_FnMapped.j1 k y0 y1 y2 y3 y4 y5) (laws_FnMapped.j1 (k + 1) y0 y1 y2 y3 y4 y5)) ∧ (∀ y0 y1 y2 y3 y4 y5, LeO (laws_FnMapped.l0 k y0 y1 y2 y3 y4 y5) (laws_FnMapped.l0 (k + 1) y0 y1 y2 y3 y4 y5))
 | 0 => ⟨fun _ _ _ _ _ _ r h => by simp [laws_FnMapped.j0] at h, fun _ _ _ _ _ _ r h => by simp [laws_FnMapped.j1] at h, fun _ _ _ _ _ _ r h => by simp [laws_FnMapped.l0] at h⟩
 | k + 1 => by
  obtain ⟨ih0, ih1, ih2⟩ := laws_FnMapped.mono_l k
  refine ⟨?_, ?_, ?_⟩
  ·intro y0 y1 y2 y3 y4 y5
   unfold laws_FnMapped.j0
   repeat' first
   | (with_reducible exact ih0 _ _ _ _ _ _)
   | (with_reducible exact ih1 _ _ _ _ _ _)
   | (with_reducible exact ih2 _ _ _ _ _ _)
   | (with_reducible exact impl_MapDo.mono _ _ _ _ _)
   | (with_reducible exact impl_MapGet.mono _ _ _)
   | (with_reducible exact impl_MapOk.mono _ _)
   | (with_reducible exact impl_MsgOk.mono _ _ _ _)
   | (with_reducible exact laws_samePairs.mono _ _ _)
   | (with_reducible exact spec_DrawMapDo.mono _ _)
   | (with_reducible exact spec_MapDo.mono _ _ _ _ _)
   | (with_reducible exact spec_MapOk.mono _ _)
   | (with_reducible exact LeO.refl _)
   | (with_reducible exact LeO.none _)
   | (with_reducible refine LeO.ite ?_ ?_)
   | (with_reducible refine LeO.bind ?_ (fun _ => ?_))
   | exact ih0 _ _ _ _ _ _
   | exact ih1 _ _ _ _ _ _
   | exact ih2 _ _ _ _ _ _
   | exact impl_MapDo.mono _ _ _ _ _
   | exact impl_MapGet.mono _ _ _
   | exact impl_MapOk.mono _ _
   | exact impl_MsgOk.mono _ _ _ _
   | exact laws_samePairs.mono _ _ _
   | exact spec_DrawMapDo.mono _ _
   | exact spec_MapDo.mono _ _ _ _ _
   | exact spec_MapOk.mono _ _
   | exact LeO.none _
   | refine LeO.ite ?_ ?_
   | refine LeO.bind ?_ (fun _ => ?_)
  ·intro y0 y1 y2 y3 y4 y5
   unfold laws_FnMapped.j1
   repeat' first
   | (with_reducible exact ih0 _ _ _ _ _ _)
   | (with_reducible exact ih1 _ _ _ _ _ _)
   | (with_reducible exact ih2 _ _ _ _ _ _)
   | (with_reducible exact impl_MapDo.mono _ _ _ _ _)
   | (with_reducible exact impl_MapGet.mono _ _ _)
   | (with_reducible exact impl_MapOk.mono _ _)
   | (with_reducible exact impl_MsgOk.mono _ _ _ _)
   | (with_reducible exact laws_samePairs.mono _ _ _)
   | (with_reducible exact spec_DrawMapDo.mono _ _)
   | (with_reducible exact spec_MapDo.mono _ _ _ _ _)
   | (with_reducible exact spec_MapOk.mono _ _)
   | (with_reducible exact LeO.refl _)
   | (with_reducible exact LeO.none _)
   | (with_reducible refine LeO.ite ?_ ?_)
   | (with_reducible refine LeO.bind ?_ (fun _ => ?_))
   | exact ih0 _ _ _ _ _ _
   | exact ih1 _ _ _ _ _ _
   | exact ih2 _ _ _ _ _ _
   | exact impl_MapDo.mono _ _ _ _ _
   | exact impl_MapGet.mono _ _ _
   | exact impl_MapOk.mono _ _
   | exact impl_MsgOk.mono _ _ _ _
   | exact laws_samePairs.mono _ _ _
   | exact spec_DrawMapDo.mono _ _
   | exact spec_MapDo.mono _ _ _ _ _
   | exact spec_MapOk.mono _ _
   | exact LeO.none _
   | refine LeO.ite ?_ ?_
   | refine LeO.bind ?_ (fun _ => ?_)
  ·intro y0 y1 y2 y3 y4 y5
   unfold laws_FnMapped.l0
   repeat' first
   | (with_reducible exact ih0 _ _ _ _ _ _)
   | (with_reducible exact ih1 _ _ _ _ _ _)
   | (with_reducible exact ih2 _ _ _ _ _ _)
   | (with_reducible exact impl_MapDo.mono _ _ _ _ _)
   | (with_reducible exact impl_MapGet.mono _ _ _)
   | (with_reducible exact impl_MapOk.mono _ _)
   | (with_reducible exact impl_MsgOk.mono _ _ _ _)
   | (with_reducible exact laws_samePairs.mono _ _ _)
   | (with_reducible exact spec_DrawMapDo.mono _ _)
   | (with_reducible exact spec_MapDo.mono _ _ _ _ _)
   | (with_reducible exact spec_MapOk.mono _ _)
   | (with_reducible exact LeO.refl _)
   | (with_reducible exact LeO.none _)
   | (with_reducible refine LeO.ite ?_ ?_)
   | (with_reducible refine LeO.bind ?_ (fun _ => ?_))
   | exact ih0 _ _ _ _ _ _
   | exact ih1 _ _ _ _ _ _
   | exact ih2 _ _ _ _ _ _
   | exact impl_MapDo.mono _ _ _ _ _
   | exact impl_MapGet.mono _ _ _
   | exact impl_MapOk.mono _ _
   | exact impl_MsgOk.mono _ _ _ _
   | exact laws_samePairs.mono _ _ _
   | exact spec_DrawMapDo.mono _ _
   | exact spec_MapDo.mono _ _ _ _ _
   | exact spec_MapOk.mono _ _
   | exact LeO.none _
   | refine LeO.ite ?_ ?_
   | refine LeO.bind ?_ (fun _ => ?_)
theorem laws_FnMapped.mono : ∀ a0 k, LeO (laws_FnMapped.f k a0) (laws_FnMapped.f (k + 1) a0) := by
 intro a0 k
 obtain ⟨ih0, ih1, ih2⟩ := laws_FnMapped.mono_l k
 unfold laws_FnMapped.f
 repeat' first
   | (with_reducible exact ih0 _ _ _ _ _ _)
   | (with_reducible exact ih1 _ _ _ _ _ _)
   | (with_reducible exact ih2 _ _ _ _ _ _)
   | (with_reducible exact impl_MapDo.mono _ _ _ _ _)
   | (with_reducible exact impl_MapGet.mono _ _ _)
   | (with_reducible exact impl_MapOk.mono _ _)
   | (with_reducible exact impl_MsgOk.mono _ _ _ _)
   | (with_reducible exact laws_samePairs.mono _ _ _)
   | (with_reducible exact spec_DrawMapDo.mono _ _)
   | (with_reducible exact spec_MapDo.mono _ _ _ _ _)
   | (with_reducible exact spec_MapOk.mono _ _)
   | (with_reducible exact LeO.refl _)
   | (with_reducible exact LeO.none _)
   | (with_reducible refine LeO.ite ?_ ?_)
   | (with_reducible refine LeO.bind ?_ (fun _ => ?_))
   | exact ih0 _ _ _ _ _ _
   | exact ih1 _ _ _ _ _ _
   | exact ih2 _ _ _ _ _ _
   | exact impl_MapDo.mono _ _ _ _ _
   | exact impl_MapGet.mono _ _ _
   | exact impl_MapOk.mono _ _
   | exact impl_MsgOk.mono _ _ _ _
   | exact laws_samePairs.mono _ _ _
   | exact spec_DrawMapDo.mono _ _
   | exact spec_MapDo.mono _ _ _ _ _
   | exact spec_MapOk.mono _ _
   | exact LeO.none _
   | refine LeO.ite ?_ ?_
   | refine LeO.bind ?_ (fun _ => ?_)
def laws_FnMapped.T5 : Bool × List (List Nat × List Nat) := (true, [([], []), ([], []), ([], []), ([1, 2], [1, 2]), ([0, 3, 3], [0, 3]), ([4], [4]), ([5, 4], [5]), ([6], [6]), ([7, 6, 6], [6, 7]), ([6], [6]), ([9, 8, 6], [6, 9]), ([8, 10, 6], [6, 8, 10]), ([6, 11], [6, 11]), ([12, 10], [12]), ([13], [13]), ([14, 13, 13], [13, 14]), ([13], [13]), ([16, 15, 13], [13, 16]), ([15, 17, 13], [13, 15, 17]), ([13, 18], [13, 18])])
def laws_FnMapped.B5 : List Nat := [0, 0, 0, 6, 15, 31, 63, 127, 255, 127, 1023, 2047, 4095, 8191, 16383, 32767, 16383, 131071, 262143, 524287]
theorem laws_FnMapped.tab5 : rtab .any (opsOf Try.f8 5) = laws_FnMapped.T5 := by kernel_rfl
theorem laws_FnMapped.bits5 : waitsOk laws_FnMapped.T5.2 laws_FnMapped.B5 = true := by kernel_rfl
set_option maxHeartbeats 8000000 in
set_option maxRecDepth 100000 in
theorem laws_FnMapped.calls (k : Nat) (A0 : Option Addr) (c0 : Nat) (l0 : List Int) (r : Bool) (w : World) (hr0 : Kd.C (Kd.int .u8) w A0 l0.length l0) (hc0 : l0.length ≤ c0) (h : laws_FnMapped.f k l0 = some r) :
  Calls Try.prog 8 #[.slice A0 l0.length c0] w fun e w' => e = .returned (.bool r) ∧ Below w.heap.size w w' := by
 have hu67 := Try.underlying67
 have HR0 := q_ hr0
 have HC0 := q_ hc0
 clear hr0 hc0
 have HB := q_ (Below.refl w.heap.size w)
 have H : ((laws_big.f l0).bind fun t370 => (if t370 = true then (some true) else ((spec_DrawMapDo.f k l0).bind fun bt371 => ((impl_MapDo.f k bt371.1 bt371.2.1 bt371.2.2.1 bt371.2.2.2).bind fun t378 => ((spec_MapDo.f k bt371.1 bt371.2.1 bt371.2.2.1 bt371.2.2.2).bind fun t381 => ((laws_samePairs.f k t378 t381).bind fun t384 => (if t384 = true then ((impl_MapOk.f k bt371.1).bind fun t385 => ((spec_MapOk.f k bt371.1).bind fun t386 => (if (t385 != t386) = true then (laws_FnMapped.j0 k bt371.1 t378 true bt371.2.1 bt371.2.2.1 bt371.2.2.2) else ((impl_MsgOk.f k bt371.2.1 bt371.2.2.1 bt371.2.2.2).bind fun t387 => ((spec_MsgOk.f bt371.2.1 bt371.2.2.1 bt371.2.2.2).bind fun t388 => (laws_FnMapped.j0 k bt371.1 t378 (t387 != t388) bt371.2.1 bt371.2.2.1 bt371.2.2.2)))))) else (laws_FnMapped.j0 k bt371.1 t378 true bt371.2.1 bt371.2.2.1 bt371.2.2.2)))))))) = some r := h
 clear h
 replace H := Option.bind_eq_some_iff.mp H
 obtain ⟨t370, A20, H⟩ := H
 replace H : (if t370 = true then (some true) else ((spec_DrawMapDo.f k l0).bind fun bt371 => ((impl_MapDo.f k bt371.1 bt371.2.1 bt371.2.2.1 bt371.2.2.2).bind fun t378 => ((spec_MapDo.f k bt371.1 bt371.2.1 bt371.2.2.1 bt371.2.2.2).bind fun t381 => ((laws_samePairs.f k t378 t381).bind fun t384 => (if t384 = true then ((impl_MapOk.f k bt371.1).bind fun t385 => ((spec_MapOk.f k bt371.1).bind fun t386 => (if (t385 != t386) = true then (laws_FnMapped.j0 k bt371.1 t378 true bt371.2.1 bt371.2.2.1 bt371.2.2.2) else ((impl_MsgOk.f k bt371.2.1 bt371.2.2.1 bt371.2.2.2).bind fun t387 => ((spec_MsgOk.f bt371.2.1 bt371.2.2.1 bt371.2.2.2).bind fun t388 => (laws_FnMapped.j0 k bt371.1 t378 (t387 != t388) bt371.2.1 bt371.2.2.1 bt371.2.2.2)))))) else (laws_FnMapped.j0 k bt371.1 t378 true bt371.2.1 bt371.2.2.1 bt371.2.2.2))))))) = some r := H
 have A2 := q_ A20
 clear A20
 by_cases c3 : t370 = true
 ·subst c3
  have H1 : (some true) = some r := z49_
  clear H
  have H := H1
  clear H1
  obtain rfl := Option.some.inj H
  go_enter Try.func8, Try.ntmps8
  go_wp2_with (first | ((with_reducible refine gate_callee (f := 34) rfl ?_); refine goesL_ (some 16) rfl rfl Try.func34 (by kernel_rfl) rfl #[.slice A0 l0.length c0] rfl z1_ ?_; (with_reducible refine (laws_big.calls _ _ l0 true _ ?side1 ?side2 A2.out).mono ?_); (case side1 => exact z119_); (case side2 => exact HC0.out); rintro e w' ⟨rfl, ⟨nd, rfl⟩⟩; refine ⟨_, rfl, ?_⟩))
  go_ret
  exact ⟨z5_, z0_⟩
 ·replace c3 := Bool.eq_false_iff.mpr c3
  subst c3
  have H1 : ((spec_DrawMapDo.f k l0).bind fun bt371 => ((impl_MapDo.f k bt371.1 bt371.2.1 bt371.2.2.1 bt371.2.2.2).bind fun t378 => ((spec_MapDo.f k bt371.1 bt371.2.1 bt371.2.2.1 bt371.2.2.2).bind fun t381 => ((laws_samePairs.f k t378 t381).bind fun t384 => (if t384 = true then ((impl_MapOk.f k bt371.1).bind fun t385 => ((spec_MapOk.f k bt371.1).bind fun t386 => (if (t385 != t386) = true then (laws_FnMapped.j0 k bt371.1 t378 true bt371.2.1 bt371.2.2.1 bt371.2.2.2) else ((impl_MsgOk.f k bt371.2.1 bt371.2.2.1 bt371.2.2.2).bind fun t387 => ((spec_MsgOk.f bt371.2.1 bt371.2.2.1 bt371.2.2.2).bind fun t388 => (laws_FnMapped.j0 k bt371.1 t378 (t387 != t388) bt371.2.1 bt371.2.2.1 bt371.2.2.2)))))) else (laws_FnMapped.j0 k bt371.1 t378 true bt371.2.1 bt371.2.2.1 bt371.2.2.2)))))) = some r := by rw [if_neg (show ¬ (false = true) by decide)] at H; exact H
  clear H
  have H := H1
  clear H1
  replace H := Option.bind_eq_some_iff.mp H
  obtain ⟨⟨t371, t374, t375, t376⟩, A40, H⟩ := H
  replace H : ((impl_MapDo.f k t371 t374 t375 t376).bind fun t378 => ((spec_MapDo.f k t371 t374 t375 t376).bind fun t381 => ((laws_samePairs.f k t378 t381).bind fun t384 => (if t384 = true then ((impl_MapOk.f k t371).bind fun t385 => ((spec_MapOk.f k t371).bind fun t386 => (if (t385 != t386) = true then (laws_FnMapped.j0 k t371 t378 true t374 t375 t376) else ((impl_MsgOk.f k t374 t375 t376).bind fun t387 => ((spec_MsgOk.f t374 t375 t376).bind fun t388 => (laws_FnMapped.j0 k t371 t378 (t387 != t388) t374 t375 t376)))))) else (laws_FnMapped.j0 k t371 t378 true t374 t375 t376))))) = some r := H
  have A4 := q_ A40
  clear A40
  replace H := Option.bind_eq_some_iff.mp H
  obtain ⟨t378, A50, H⟩ := H
  replace H : ((spec_MapDo.f k t371 t374 t375 t376).bind fun t381 => ((laws_samePairs.f k t378 t381).bind fun t384 => (if t384 = true then ((impl_MapOk.f k t371).bind fun t385 => ((spec_MapOk.f k t371).bind fun t386 => (if (t385 != t386) = true then (laws_FnMapped.j0 k t371 t378 true t374 t375 t376) else ((impl_MsgOk.f k t374 t375 t376).bind fun t387 => ((spec_MsgOk.f t374 t375 t376).bind fun t388 => (laws_FnMapped.j0 k t371 t378 (t387 != t388) t374 t375 t376)))))) else (laws_FnMapped.j0 k t371 t378 true t374 t375 t376)))) = some r := H
  have A5 := q_ A50
  clear A50
  have HC6 := q_ H
  clear H
  go_enter Try.func8, Try.ntmps8
  go_upto_region 5 with (first | ((with_reducible refine gate_callee (f := 34) rfl ?_); refine goesL_ (some 16) rfl rfl Try.func34 (by kernel_rfl) rfl #[.slice A0 l0.length c0] rfl z1_ ?_; (with_reducible refine (laws_big.calls _ _ l0 false _ ?side1 ?side2 A2.out).mono ?_); (case side1 => exact z119_); (case side2 => exact HC0.out); rintro e w' ⟨rfl, ⟨nd, rfl⟩⟩; refine ⟨_, rfl, ?_⟩) | ((with_reducible refine gate_callee (f := 55) rfl ?_); refine goesL_ (some 19) rfl rfl Try.func55 (by kernel_rfl) rfl #[.slice A0 l0.length c0] rfl z1_ ?_; (with_reducible refine (spec_DrawMapDo.calls k _ _ l0 t371 t374 t375 t376 _ ?side1 ?side2 A4.out).mono ?_); (case side1 => exact z119_); (case side2 => exact HC0.out); rintro e w7 ⟨v372, rfl, ho0, hb⟩; refine ⟨_, rfl, ?_⟩; have n0_ := q_ (Kd.R_lower ho0 (below_size z0_)); have n1_ := q_ (below_step z0_ hb); clear HB; have HO373 := n0_; have HB := n1_; clear n0_ n1_; (try clear hb); (try clear hb2); (try clear hk); (try clear hi); (try clear ho0)) | ((with_reducible refine gate_dst (N := 4) rfl ?_); refine box_event ?hg (N := 4) ?hd (cs := #[.int .i64 0, .int .i64 0, .int .i64 0]) (t := 67) ?hr ?_; (case hd => rfl); (case hg => rfl); (case hr => exact z110_); intro gb377 hg w8 hbox hb; have n0_ := q_ (Kd.R_below z34_ hb); have n1_ := q_ (below_step z0_ hb); have n2_ := q_ (hbox); have n3_ := q_ ((z87_ : w.heap.size ≤ gb377)); have n4_ := q_ ((z87_ : w.heap.size ≤ gb377)); clear HO373; clear HB; have HO373 := n0_; have HB := n1_; have BK377 := n2_; have GW377 := n3_; have GE377 := n4_; clear n0_ n1_ n2_ n3_ n4_; clear hb hbox hg; obtain ⟨hcz9_0, hcz9_1, hcz9_2, hfz9_0, hfz9_1, hfz9_2⟩ := cs3_ BK377.out; obtain ⟨Ao10, co10, eo10⟩ := Kd.R_slice HO373.out; subst eo10) | ((with_reducible refine gate_callee (f := 51) rfl ?_); refine goesL_ (some 24) rfl rfl Try.func51 (by kernel_rfl) rfl #[.slice Ao10 t371.length co10, .agg #[.int .i64 t374, .int .i64 t375, .int .i64 t376]] rfl z1_ ?_; (with_reducible refine (impl_MapDo.calls k _ _ t371 t374 t375 t376 t378 _ ?side1 ?side2 A5.out).mono ?_); (case side1 => refine (Kd.R_reads' (e := 147) (base := w.heap.size) (ok := fun k_ => True) (n := t371.length) (c := co10) ?_).2.2; exact (by (with_reducible repeat (first | apply Kd.R_alloc | apply Kd.R_drewN | apply Kd.R_drew)); exact (Kd.R_mono (Kd.R_far (p := ⟨gb377, 2, none⟩) (Kd.R_far (p := ⟨gb377, 1, none⟩) (Kd.R_far (p := ⟨gb377, 0, none⟩) (Kd.R_types HO373.out BK377.out (by decide)) (fun _ hk => hk.2) (.int .i64 t374)) (fun _ hk => hk.2) (.int .i64 t375)) (fun _ hk => hk.2) (.int .i64 t376)) (fun _ h_ => h_.1)))); (case side2 => exact z134_); rintro e w11 ⟨v379, rfl, ho0, hb⟩; refine ⟨_, rfl, ?_⟩; have n0_ := q_ (Kd.R_elder' (by (with_reducible repeat (first | apply Kd.R_alloc | apply Kd.R_drewN | apply Kd.R_drew)); exact (Kd.R_mono (Kd.R_far (p := ⟨gb377, 2, none⟩) (Kd.R_far (p := ⟨gb377, 1, none⟩) (Kd.R_far (p := ⟨gb377, 0, none⟩) (Kd.R_types HO373.out BK377.out (by decide)) (fun _ hk => hk.2) (.int .i64 t374)) (fun _ hk => hk.2) (.int .i64 t375)) (fun _ hk => hk.2) (.int .i64 t376)) (fun _ h_ => h_.1))) (Kd.R_base ho0) hb); have n1_ := q_ (Kd.R_lower (Kd.R_new' ho0 (Kd.R_lt (by (with_reducible repeat (first | apply Kd.R_alloc | apply Kd.R_drewN | apply Kd.R_drew)); exact (Kd.R_mono (Kd.R_far (p := ⟨gb377, 2, none⟩) (Kd.R_far (p := ⟨gb377, 1, none⟩) (Kd.R_far (p := ⟨gb377, 0, none⟩) (Kd.R_types HO373.out BK377.out (by decide)) (fun _ hk => hk.2) (.int .i64 t374)) (fun _ hk => hk.2) (.int .i64 t375)) (fun _ hk => hk.2) (.int .i64 t376)) (fun _ h_ => h_.1))))) (below_size z2_)); have n2_ := q_ (blk_below (g := gb377) (o := .cells #[.int .i64 t374, .int .i64 t375, .int .i64 t376] 67 (0, 0)) (by (with_reducible repeat (first | refine blk_drewN ?_ _ | refine blk_drew ?_ | refine blk_alloc ?_ _)); refine blk_put (cs := #[.int .i64 t374, .int .i64 t375, .int .i64 0]) ?_ 2 _ rfl; (with_reducible repeat (first | refine blk_drewN ?_ _ | refine blk_drew ?_ | refine blk_alloc ?_ _)); refine blk_put (cs := #[.int .i64 t374, .int .i64 0, .int .i64 0]) ?_ 1 _ rfl; (with_reducible repeat (first | refine blk_drewN ?_ _ | refine blk_drew ?_ | refine blk_alloc ?_ _)); refine blk_put (cs := #[.int .i64 0, .int .i64 0, .int .i64 0]) ?_ 0 _ rfl; (with_reducible repeat (first | refine blk_drewN ?_ _ | refine blk_drew ?_ | refine blk_alloc ?_ _)); exact BK377.out) hb); have n3_ := q_ (below_step z2_ hb); clear HO373; clear BK377; clear HB; have HO373 := n0_; have HO380 := n1_; have BK377 := n2_; have HB := n3_; clear n0_ n1_ n2_ n3_; (try clear hb); (try clear hb2); (try clear hk); (try clear hi); (try clear ho0)))
  (try simp only [Act.put, List.setIfInBounds_toArray, List.set_cons_zero, List.set_cons_succ])
  go_cut [44] (fun v44 wc => ∃ (kq : Nat) (x44_5 : Bool), v44 = .bool x44_5 ∧ Aside0 (laws_FnMapped.j0 kq t371 t378 x44_5 t374 t375 t376 = some r) ∧ Aside0 (kq ≤ k) ∧ Aside0 (Kd.R k147 147 wc w.heap.size (fun k_ => some k_ ≠ (v379 : Value).ownBlock) (.slice Ao10 t371.length co10) t371) ∧ Aside0 (Kd.R k147 147 wc w.heap.size (fun k_ => some k_ ≠ ((.slice Ao10 t371.length co10) : Value).ownBlock) v379 t378) ∧ Aside0 (wc.heap[gb377]? = some (.cells #[.int .i64 t374, .int .i64 t375, .int .i64 t376] 67 (0, 0))) ∧ Aside0 (Below w.heap.size w wc))
  case first =>
   have H := HC6.out
   clear HC6
   replace H := Option.bind_eq_some_iff.mp H
   obtain ⟨t381, A120, H⟩ := H
   replace H : ((laws_samePairs.f k t378 t381).bind fun t384 => (if t384 = true then ((impl_MapOk.f k t371).bind fun t385 => ((spec_MapOk.f k t371).bind fun t386 => (if (t385 != t386) = true then (laws_FnMapped.j0 k t371 t378 true t374 t375 t376) else ((impl_MsgOk.f k t374 t375 t376).bind fun t387 => ((spec_MsgOk.f t374 t375 t376).bind fun t388 => (laws_FnMapped.j0 k t371 t378 (t387 != t388) t374 t375 t376)))))) else (laws_FnMapped.j0 k t371 t378 true t374 t375 t376))) = some r := H
   have A12 := q_ A120
   clear A120
   replace H := Option.bind_eq_some_iff.mp H
   obtain ⟨t384, A130, H⟩ := H
   replace H : (if t384 = true then ((impl_MapOk.f k t371).bind fun t385 => ((spec_MapOk.f k t371).bind fun t386 => (if (t385 != t386) = true then (laws_FnMapped.j0 k t371 t378 true t374 t375 t376) else ((impl_MsgOk.f k t374 t375 t376).bind fun t387 => ((spec_MsgOk.f t374 t375 t376).bind fun t388 => (laws_FnMapped.j0 k t371 t378 (t387 != t388) t374 t375 t376)))))) else (laws_FnMapped.j0 k t371 t378 true t374 t375 t376)) = some r := H
   have A13 := q_ A130
   clear A130
   by_cases c14 : t384 = true
   ·subst c14
    have H1 : ((impl_MapOk.f k t371).bind fun t385 => ((spec_MapOk.f k t371).bind fun t386 => (if (t385 != t386) = true then (laws_FnMapped.j0 k t371 t378 true t374 t375 t376) else ((impl_MsgOk.f k t374 t375 t376).bind fun t387 => ((spec_MsgOk.f t374 t375 t376).bind fun t388 => (laws_FnMapped.j0 k t371 t378 (t387 != t388) t374 t375 t376)))))) = some r := z49_
    clear H
    have H := H1
    clear H1
    replace H := Option.bind_eq_some_iff.mp H
    obtain ⟨t385, A150, H⟩ := H
    replace H : ((spec_MapOk.f k t371).bind fun t386 => (if (t385 != t386) = true then (laws_FnMapped.j0 k t371 t378 true t374 t375 t376) else ((impl_MsgOk.f k t374 t375 t376).bind fun t387 => ((spec_MsgOk.f t374 t375 t376).bind fun t388 => (laws_FnMapped.j0 k t371 t378 (t387 != t388) t374 t375 t376))))) = some r := H
    have A15 := q_ A150
    clear A150
    replace H := Option.bind_eq_some_iff.mp H
    obtain ⟨t386, A160, H⟩ := H
    replace H : (if (t385 != t386) = true then (laws_FnMapped.j0 k t371 t378 true t374 t375 t376) else ((impl_MsgOk.f k t374 t375 t376).bind fun t387 => ((spec_MsgOk.f t374 t375 t376).bind fun t388 => (laws_FnMapped.j0 k t371 t378 (t387 != t388) t374 t375 t376)))) = some r := H
    have A16 := q_ A160
    clear A160
    by_cases c17 : (t385 != t386) = true
    ·rw [if_pos c17] at H
     have c17b0 : (t385 != t386) = true := c17
     (try (have c17b1 : decide (t385 = t386) = false := z83_))
     (try (have c17b2 : (t385 == t386) = false := z83_))
     (try (have c17b3 : ¬ (t385 = t386) := z83_))
     clear c17
     (first | rw [c17b0] | (simp only [i64_w, i32_w]; rw [c17b0]) | skip)
     have H' := q_ H
     clear H
     try go_wp2
     have n0_ := q_ (Kd.R_drew HO373.out)
     have n1_ := q_ (Kd.R_drew HO380.out)
     have n2_ := q_ (blk_drew BK377.out)
     have n3_ := q_ (below_drew1 HB.out)
     clear HO373
     clear HO380
     clear BK377
     clear HB
     have HO373 := n0_
     have HO380 := n1_
     have BK377 := n2_
     have HB := n3_
     clear n0_ n1_ n2_ n3_
     refine start_ (n := 20) (S := fun w' => w'.cell? ⟨gb377, 0, none⟩ = some (.int .i64 t374) ∧ w'.cell? ⟨gb377, 1, none⟩ = some (.int .i64 t375) ∧ w'.cell? ⟨gb377, 2, none⟩ = some (.int .i64 t376)) (ds := []) #[false, false, false, false, false, false, false, false, false, false, false, false, false, false, false, false, false, false, false, false] (by kernel_rfl) rfl rfl ⟨(blk_cell BK377.out 0).trans rfl, (blk_cell BK377.out 1).trans rfl, (blk_cell BK377.out 2).trans rfl⟩ (fun hHeld => ?_); refine with_tabW laws_FnMapped.tab5 laws_FnMapped.bits5 (fun HT_ HW_ => ?_)
     generalize w11.drew = w18 at HO373 HO380 BK377 HB hHeld ⊢
     refine pure_ (i := 0) (N := some 25) (v := ?_) (a' := ?_) #[true, false, false, false, false, false, false, false, false, false, false, false, false, false, false, false, false, false, false, false] rfl rfl (any_of HT_.out (by kernel_rfl)) (fun _ _ _ h => h) (Or.inl ⟨by rfl, ?_⟩) ?_ ?_
     rotate_left
     ·intro w'
      go_simp
      with_reducible rfl
     rotate_left
     ·simp only [Act.put, List.setIfInBounds_toArray, List.set_cons_zero, List.set_cons_succ, i64_w, i32_w]
      rfl
     refine pure_ (i := 1) (N := some 26) (v := ?_) (a' := ?_) #[true, true, false, false, false, false, false, false, false, false, false, false, false, false, false, false, false, false, false, false] rfl rfl (any_of HT_.out (by kernel_rfl)) (fun _ _ _ h => h) (Or.inl ⟨by rfl, ?_⟩) ?_ ?_
     rotate_left
     ·intro w'
      go_simp
      with_reducible rfl
     rotate_left
     ·simp only [Act.put, List.setIfInBounds_toArray, List.set_cons_zero, List.set_cons_succ, i64_w, i32_w]
      rfl
     refine take_ (i := 2) (N := some 27) (v := ?_) (a' := ?_) #[true, true, true, false, false, false, false, false, false, false, false, false, false, false, false, false, false, false, false, false] rfl rfl (take_ofW HT_.out HW_.out (by kernel_rfl)) (fun _ _ _ h => h) (Or.inl ⟨by rfl, ?_⟩) hHeld ?_ ?_
     rotate_left
     ·rintro w' ⟨s0, s1, s2⟩
      go_simp
      with_reducible rfl
     rotate_left
     ·simp only [Act.put, List.setIfInBounds_toArray, List.set_cons_zero, List.set_cons_succ, i64_w, i32_w]
      rfl
     refine one_ (i := 3) (N := some 28) #[true, true, true, true, false, false, false, false, false, false, false, false, false, false, false, false, false, false, false, false] rfl rfl (one_of HT_.out (by kernel_rfl)) (by decide) (fun K hK => ?_)
     refine goes_ Try.func48 (by kernel_rfl) rfl #[.slice Ao10 t371.length co10, .agg #[.int .i64 t374, .int .i64 t375, .int .i64 t376]] (by rfl) rfl rfl z1_ ?_
     with_reducible refine (spec_MapDo.calls k _ _ t371 t374 t375 t376 t381 _ ?side1 ?side2 A12.out).mono ?_
     (case side1 => exact z115_)
     (case side2 => exact z134_)
     rintro e w19 ⟨v382, rfl, ho0, hb⟩
     refine ⟨_, rfl, ?_⟩
     have n0_ := q_ (Kd.R_elder' z34_ (Kd.R_base ho0) hb)
     have n1_ := q_ (Kd.R_elder' z41_ (Kd.R_base ho0) hb)
     have n2_ := q_ (Kd.R_lower (Kd.R_new' (Kd.R_new' ho0 (Kd.R_lt z34_)) (Kd.R_lt z41_)) (below_size z2_))
     have n3_ := q_ (blk_below (g := gb377) (o := .cells #[.int .i64 t374, .int .i64 t375, .int .i64 t376] 67 (0, 0)) z7_ hb)
     have n4_ := q_ (below_step z2_ hb)
     clear HO373
     clear HO380
     clear BK377
     clear HB
     have HO373 := n0_
     have HO380 := n1_
     have HO383 := n2_
     have BK377 := n3_
     have HB := n4_
     clear n0_ n1_ n2_ n3_ n4_
     (try clear hb)
     (try clear hb2)
     (try clear hk)
     (try clear hi)
     (try clear ho0)
     obtain ⟨Ao20, co20, eo20⟩ := Kd.R_slice HO380.out
     (first | subst eo20 | (injection eo20 with f1_ f2_ f3_; have f4_ := f1_.symm; have f5_ := f3_.symm; clear f1_ f2_ f3_; subst f4_; subst f5_))
     obtain ⟨Ao21, co21, eo21⟩ := Kd.R_slice HO383.out
     (first | subst eo21 | (injection eo21 with f1_ f2_ f3_; have f4_ := f1_.symm; have f5_ := f3_.symm; clear f1_ f2_ f3_; subst f4_; subst f5_))
     refine hK.out _ _ ⟨(blk_cell BK377.out 0).trans rfl, (blk_cell BK377.out 1).trans rfl, (blk_cell BK377.out 2).trans rfl⟩ (fun hHeld => ?_)
     clear hK K
     refine norm_ (a' := ?_) ?_ ?_
     rotate_left
     ·show Act.put _ (some 28) _ = _
      simp only [Act.put, List.setIfInBounds_toArray, List.set_cons_zero, List.set_cons_succ, i64_w, i32_w]
      rfl
     refine one_ (i := 4) (N := some 29) #[true, true, true, true, true, false, false, false, false, false, false, false, false, false, false, false, false, false, false, false] rfl rfl (one_of HT_.out (by kernel_rfl)) (by decide) (fun K hK => ?_)
     refine goes_ Try.func56 (by kernel_rfl) rfl #[.slice Ao20 t378.length co20, .slice Ao21 t381.length co21] (by rfl) rfl rfl z1_ ?_
     with_reducible refine (laws_samePairs.calls k _ _ t378 _ _ t381 true _ ?side1 ?side2 ?side3 ?side4 A13.out).mono ?_
     (case side1 => exact z123_)
     (case side2 => exact (Kd.R_reads' HO380.out).2.1)
     (case side3 => exact z124_)
     (case side4 => exact (Kd.R_reads' HO383.out).2.1)
     rintro e w' ⟨rfl, ⟨nd, rfl⟩⟩
     refine ⟨_, rfl, ?_⟩
     refine hK.out _ _ ⟨(blk_cell BK377.out 0).trans rfl, (blk_cell BK377.out 1).trans rfl, (blk_cell BK377.out 2).trans rfl⟩ (fun hHeld => ?_)
     clear hK K
     refine norm_ (a' := ?_) ?_ ?_
     rotate_left
     ·show Act.put _ (some 29) _ = _
      simp only [Act.put, List.setIfInBounds_toArray, List.set_cons_zero, List.set_cons_succ, i64_w, i32_w]
      rfl
     refine pure_ (i := 5) (N := some 30) (v := ?_) (a' := ?_) #[true, true, true, true, true, true, false, false, false, false, false, false, false, false, false, false, false, false, false, false] rfl rfl (any_of HT_.out (by kernel_rfl)) (fun _ _ _ h => h) (Or.inl ⟨by rfl, ?_⟩) ?_ ?_
     rotate_left
     ·intro w'
      go_simp
      with_reducible rfl
     rotate_left
     ·simp only [Act.put, List.setIfInBounds_toArray, List.set_cons_zero, List.set_cons_succ, i64_w, i32_w]
      rfl
     refine pure_ (i := 6) (N := some 31) (v := ?_) (a' := ?_) #[true, true, true, true, true, true, true, false, false, false, false, false, false, false, false, false, false, false, false, false] rfl rfl (any_of HT_.out (by kernel_rfl)) (fun _ _ _ h => h) (Or.inl ⟨by rfl, ?_⟩) ?_ ?_
     rotate_left
     ·intro w'
      go_simp
      with_reducible rfl
     rotate_left
     ·simp only [Act.put, List.setIfInBounds_toArray, List.set_cons_zero, List.set_cons_succ, i64_w, i32_w]
      rfl
     refine pure_ (i := 7) (N := some 32) (v := ?_) (a' := ?_) #[true, true, true, true, true, true, true, true, false, false, false, false, false, false, false, false, false, false, false, false] rfl rfl (any_of HT_.out (by kernel_rfl)) (fun _ _ _ h => h) (Or.inl ⟨by rfl, ?_⟩) ?_ ?_
     rotate_left
     ·intro w'
      go_simp
      with_reducible rfl
     rotate_left
     ·simp only [Act.put, List.setIfInBounds_toArray, List.set_cons_zero, List.set_cons_succ, i64_w, i32_w]
      rfl
     refine pure_ (i := 9) (N := some 34) (v := ?_) (a' := ?_) #[true, true, true, true, true, true, true, true, false, true, false, false, false, false, false, false, false, false, false, false] rfl rfl (any_of HT_.out (by kernel_rfl)) (fun _ _ _ h => h) (Or.inl ⟨by rfl, ?_⟩) ?_ ?_
     rotate_left
     ·intro w'
      go_simp
      with_reducible rfl
     rotate_left
     ·simp only [Act.put, List.setIfInBounds_toArray, List.set_cons_zero, List.set_cons_succ, i64_w, i32_w]
      rfl
     refine one_ (i := 8) (N := some 33) #[true, true, true, true, true, true, true, true, true, true, false, false, false, false, false, false, false, false, false, false] rfl rfl (one_of HT_.out (by kernel_rfl)) (by decide) (fun K hK => ?_)
     refine goes_ Try.func57 (by kernel_rfl) rfl #[.slice Ao10 t371.length co10] (by rfl) rfl rfl z1_ ?_
     with_reducible refine (impl_MapOk.calls k _ _ t371 t385 _ ?side1 ?side2 A15.out).mono ?_
     (case side1 => exact z115_)
     (case side2 => exact z134_)
     rintro e w22 ⟨rfl, hb⟩
     refine ⟨_, rfl, ?_⟩
     have n0_ := q_ (Kd.R_below z34_ hb)
     have n1_ := q_ (Kd.R_below z41_ hb)
     have n2_ := q_ (Kd.R_below z61_ hb)
     have n3_ := q_ (blk_below (g := gb377) (o := .cells #[.int .i64 t374, .int .i64 t375, .int .i64 t376] 67 (0, 0)) z7_ hb)
     have n4_ := q_ (below_step z2_ hb)
     clear HO373
     clear HO380
     clear HO383
     clear BK377
     clear HB
     have HO373 := n0_
     have HO380 := n1_
     have HO383 := n2_
     have BK377 := n3_
     have HB := n4_
     clear n0_ n1_ n2_ n3_ n4_
     (try clear hb)
     (try clear hb2)
     (try clear hk)
     (try clear hi)
     refine hK.out _ _ ⟨(blk_cell BK377.out 0).trans rfl, (blk_cell BK377.out 1).trans rfl, (blk_cell BK377.out 2).trans rfl⟩ (fun hHeld => ?_)
     clear hK K
     refine norm_ (a' := ?_) ?_ ?_
     rotate_left
     ·show Act.put _ (some 33) _ = _
      simp only [Act.put, List.setIfInBounds_toArray, List.set_cons_zero, List.set_cons_succ, i64_w, i32_w]
      rfl
     refine one_ (i := 10) (N := some 35) #[true, true, true, true, true, true, true, true, true, true, true, false, false, false, false, false, false, false, false, false] rfl rfl (one_of HT_.out (by kernel_rfl)) (by decide) (fun K hK => ?_)
     refine goes_ Try.func58 (by kernel_rfl) rfl #[.slice Ao10 t371.length co10] (by rfl) rfl rfl z1_ ?_
     with_reducible refine (spec_MapOk.calls k _ _ t371 t386 _ ?side1 ?side2 A16.out).mono ?_
     (case side1 => exact z115_)
     (case side2 => exact z134_)
     rintro e w23 ⟨rfl, hb⟩
     refine ⟨_, rfl, ?_⟩
     have n0_ := q_ (Kd.R_below z34_ hb)
     have n1_ := q_ (Kd.R_below z41_ hb)
     have n2_ := q_ (Kd.R_below z61_ hb)
     have n3_ := q_ (blk_below (g := gb377) (o := .cells #[.int .i64 t374, .int .i64 t375, .int .i64 t376] 67 (0, 0)) z7_ hb)
     have n4_ := q_ (below_step z2_ hb)
     clear HO373
     clear HO380
     clear HO383
     clear BK377
     clear HB
     have HO373 := n0_
     have HO380 := n1_
     have HO383 := n2_
     have BK377 := n3_
     have HB := n4_
     clear n0_ n1_ n2_ n3_ n4_
     (try clear hb)
     (try clear hb2)
     (try clear hk)
     (try clear hi)
     refine hK.out _ _ ⟨(blk_cell BK377.out 0).trans rfl, (blk_cell BK377.out 1).trans rfl, (blk_cell BK377.out 2).trans rfl⟩ (fun hHeld => ?_)
     clear hK K
     refine norm_ (a' := ?_) ?_ ?_
     rotate_left
     ·show Act.put _ (some 35) _ = _
      simp only [Act.put, List.setIfInBounds_toArray, List.set_cons_zero, List.set_cons_succ, i64_w, i32_w]
      rfl
     refine pure_ (i := 11) (N := some 36) (v := ?_) (a' := ?_) #[true, true, true, true, true, true, true, true, true, true, true, true, false, false, false, false, false, false, false, false] rfl rfl (any_of HT_.out (by kernel_rfl)) (fun _ _ _ h => h) (Or.inl ⟨by rfl, ?_⟩) ?_ ?_
     rotate_left
     ·intro w'
      go_simp
      with_reducible rfl
     rotate_left
     ·simp only [Act.put, List.setIfInBounds_toArray, List.set_cons_zero, List.set_cons_succ, i64_w, i32_w]
      rfl
     refine pure_ (i := 12) (N := some 37) (v := ?_) (a' := ?_) #[true, true, true, true, true, true, true, true, true, true, true, true, true, false, false, false, false, false, false, false] rfl rfl (any_of HT_.out (by kernel_rfl)) (fun _ _ _ h => h) (Or.inl ⟨by rfl, ?_⟩) ?_ ?_
     rotate_left
     ·intro w'
      go_simp
      with_reducible rfl
     rotate_left
     ·simp only [Act.put, List.setIfInBounds_toArray, List.set_cons_zero, List.set_cons_succ, i64_w, i32_w]
      rfl
     refine pure_ (i := 13) (N := some 38) (v := ?_) (a' := ?_) #[true, true, true, true, true, true, true, true, true, true, true, true, true, true, false, false, false, false, false, false] rfl rfl (any_of HT_.out (by kernel_rfl)) (fun _ _ _ h => h) (Or.inl ⟨by rfl, ?_⟩) ?_ ?_
     rotate_left
     ·intro w'
      go_simp
      with_reducible rfl
     rotate_left
     ·simp only [Act.put, List.setIfInBounds_toArray, List.set_cons_zero, List.set_cons_succ, i64_w, i32_w]
      rfl
     refine pure_ (i := 14) (N := some 39) (v := undef) (a' := ?_) #[true, true, true, true, true, true, true, true, true, true, true, true, true, true, true, false, false, false, false, false] rfl rfl (any_of HT_.out (by kernel_rfl)) (fun _ _ _ h => h) (Or.inr ⟨by rfl, rfl⟩) ?_ ?_
     rotate_left
     ·simp only [Act.put, List.setIfInBounds_toArray, List.set_cons_zero, List.set_cons_succ, i64_w, i32_w]
      rfl
     refine pure_ (i := 15) (N := some 40) (v := undef) (a' := ?_) #[true, true, true, true, true, true, true, true, true, true, true, true, true, true, true, true, false, false, false, false] rfl rfl (any_of HT_.out (by kernel_rfl)) (fun _ _ _ h => h) (Or.inr ⟨by rfl, rfl⟩) ?_ ?_
     rotate_left
     ·simp only [Act.put, List.setIfInBounds_toArray, List.set_cons_zero, List.set_cons_succ, i64_w, i32_w]
      rfl
     refine pure_ (i := 16) (N := some 41) (v := undef) (a' := ?_) #[true, true, true, true, true, true, true, true, true, true, true, true, true, true, true, true, true, false, false, false] rfl rfl (any_of HT_.out (by kernel_rfl)) (fun _ _ _ h => h) (Or.inr ⟨by rfl, rfl⟩) ?_ ?_
     rotate_left
     ·simp only [Act.put, List.setIfInBounds_toArray, List.set_cons_zero, List.set_cons_succ, i64_w, i32_w]
      rfl
     refine pure_ (i := 17) (N := some 42) (v := undef) (a' := ?_) #[true, true, true, true, true, true, true, true, true, true, true, true, true, true, true, true, true, true, false, false] rfl rfl (any_of HT_.out (by kernel_rfl)) (fun _ _ _ h => h) (Or.inr ⟨by rfl, rfl⟩) ?_ ?_
     rotate_left
     ·simp only [Act.put, List.setIfInBounds_toArray, List.set_cons_zero, List.set_cons_succ, i64_w, i32_w]
      rfl
     refine pure_ (i := 18) (N := some 43) (v := undef) (a' := ?_) #[true, true, true, true, true, true, true, true, true, true, true, true, true, true, true, true, true, true, true, false] rfl rfl (any_of HT_.out (by kernel_rfl)) (fun _ _ _ h => h) (Or.inr ⟨by rfl, rfl⟩) ?_ ?_
     rotate_left
     ·simp only [Act.put, List.setIfInBounds_toArray, List.set_cons_zero, List.set_cons_succ, i64_w, i32_w]
      rfl
     refine pure_ (i := 19) (N := some 44) (v := ?_) (a' := ?_) #[true, true, true, true, true, true, true, true, true, true, true, true, true, true, true, true, true, true, true, true] rfl rfl (any_of HT_.out (by kernel_rfl)) (fun _ _ _ h => h) (Or.inl ⟨by rfl, ?_⟩) ?_ ?_
     rotate_left
     ·intro w'
      go_simp
      with_reducible rfl
     rotate_left
     ·simp only [Act.put, List.setIfInBounds_toArray, List.set_cons_zero, List.set_cons_succ, i64_w, i32_w]
      rfl
     refine done_ (done_of HT_.out (by kernel_rfl)) ?_
     try go_wp2
     go_meet
     case rel => exact ⟨_, (true), z11_, H', ⟨z65_⟩, ⟨z67_⟩, ⟨z68_⟩, ⟨z7_⟩, ⟨z2_⟩⟩
    ·rw [if_neg c17] at H
     have c17b0 : (t385 != t386) = false := z83_
     (try (have c17b1 : decide (t385 = t386) = true := z83_))
     (try (have c17b2 : (t385 == t386) = true := z83_))
     clear c17
     (first | rw [c17b0] | (simp only [i64_w, i32_w]; rw [c17b0]) | skip)
     replace H := Option.bind_eq_some_iff.mp H
     obtain ⟨t387, A240, H⟩ := H
     replace H : ((spec_MsgOk.f t374 t375 t376).bind fun t388 => (laws_FnMapped.j0 k t371 t378 (t387 != t388) t374 t375 t376)) = some r := H
     have A24 := q_ A240
     clear A240
     replace H := Option.bind_eq_some_iff.mp H
     obtain ⟨t388, A250, H⟩ := H
     replace H : (laws_FnMapped.j0 k t371 t378 (t387 != t388) t374 t375 t376) = some r := H
     have A25 := q_ A250
     clear A250
     have H' := q_ H
     clear H
     try go_wp2
     have n0_ := q_ (Kd.R_drew HO373.out)
     have n1_ := q_ (Kd.R_drew HO380.out)
     have n2_ := q_ (blk_drew BK377.out)
     have n3_ := q_ (below_drew1 HB.out)
     clear HO373
     clear HO380
     clear BK377
     clear HB
     have HO373 := n0_
     have HO380 := n1_
     have BK377 := n2_
     have HB := n3_
     clear n0_ n1_ n2_ n3_
     refine start_ (n := 20) (S := fun w' => w'.cell? ⟨gb377, 0, none⟩ = some (.int .i64 t374) ∧ w'.cell? ⟨gb377, 1, none⟩ = some (.int .i64 t375) ∧ w'.cell? ⟨gb377, 2, none⟩ = some (.int .i64 t376)) (ds := []) #[false, false, false, false, false, false, false, false, false, false, false, false, false, false, false, false, false, false, false, false] (by kernel_rfl) rfl rfl ⟨(blk_cell BK377.out 0).trans rfl, (blk_cell BK377.out 1).trans rfl, (blk_cell BK377.out 2).trans rfl⟩ (fun hHeld => ?_); refine with_tabW laws_FnMapped.tab5 laws_FnMapped.bits5 (fun HT_ HW_ => ?_)
     generalize w11.drew = w26 at HO373 HO380 BK377 HB hHeld ⊢
     refine pure_ (i := 0) (N := some 25) (v := ?_) (a' := ?_) #[true, false, false, false, false, false, false, false, false, false, false, false, false, false, false, false, false, false, false, false] rfl rfl (any_of HT_.out (by kernel_rfl)) (fun _ _ _ h => h) (Or.inl ⟨by rfl, ?_⟩) ?_ ?_
     rotate_left
     ·intro w'
      go_simp
      with_reducible rfl
     rotate_left
     ·simp only [Act.put, List.setIfInBounds_toArray, List.set_cons_zero, List.set_cons_succ, i64_w, i32_w]
      rfl
     refine pure_ (i := 1) (N := some 26) (v := ?_) (a' := ?_) #[true, true, false, false, false, false, false, false, false, false, false, false, false, false, false, false, false, false, false, false] rfl rfl (any_of HT_.out (by kernel_rfl)) (fun _ _ _ h => h) (Or.inl ⟨by rfl, ?_⟩) ?_ ?_
     rotate_left
     ·intro w'
      go_simp
      with_reducible rfl
     rotate_left
     ·simp only [Act.put, List.setIfInBounds_toArray, List.set_cons_zero, List.set_cons_succ, i64_w, i32_w]
      rfl
     refine take_ (i := 2) (N := some 27) (v := ?_) (a' := ?_) #[true, true, true, false, false, false, false, false, false, false, false, false, false, false, false, false, false, false, false, false] rfl rfl (take_ofW HT_.out HW_.out (by kernel_rfl)) (fun _ _ _ h => h) (Or.inl ⟨by rfl, ?_⟩) hHeld ?_ ?_
     rotate_left
     ·rintro w' ⟨s0, s1, s2⟩
      go_simp
      with_reducible rfl
     rotate_left
     ·simp only [Act.put, List.setIfInBounds_toArray, List.set_cons_zero, List.set_cons_succ, i64_w, i32_w]
      rfl
     refine one_ (i := 3) (N := some 28) #[true, true, true, true, false, false, false, false, false, false, false, false, false, false, false, false, false, false, false, false] rfl rfl (one_of HT_.out (by kernel_rfl)) (by decide) (fun K hK => ?_)
     refine goes_ Try.func48 (by kernel_rfl) rfl #[.slice Ao10 t371.length co10, .agg #[.int .i64 t374, .int .i64 t375, .int .i64 t376]] (by rfl) rfl rfl z1_ ?_
     with_reducible refine (spec_MapDo.calls k _ _ t371 t374 t375 t376 t381 _ ?side1 ?side2 A12.out).mono ?_
     (case side1 => exact z115_)
     (case side2 => exact z134_)
     rintro e w27 ⟨v382, rfl, ho0, hb⟩
     refine ⟨_, rfl, ?_⟩
     have n0_ := q_ (Kd.R_elder' z34_ (Kd.R_base ho0) hb)
     have n1_ := q_ (Kd.R_elder' z41_ (Kd.R_base ho0) hb)
     have n2_ := q_ (Kd.R_lower (Kd.R_new' (Kd.R_new' ho0 (Kd.R_lt z34_)) (Kd.R_lt z41_)) (below_size z2_))
     have n3_ := q_ (blk_below (g := gb377) (o := .cells #[.int .i64 t374, .int .i64 t375, .int .i64 t376] 67 (0, 0)) z7_ hb)
     have n4_ := q_ (below_step z2_ hb)
     clear HO373
     clear HO380
     clear BK377
     clear HB
     have HO373 := n0_
     have HO380 := n1_
     have HO383 := n2_
     have BK377 := n3_
     have HB := n4_
     clear n0_ n1_ n2_ n3_ n4_
     (try clear hb)
     (try clear hb2)
     (try clear hk)
     (try clear hi)
     (try clear ho0)
     obtain ⟨Ao28, co28, eo28⟩ := Kd.R_slice HO380.out
     (first | subst eo28 | (injection eo28 with f1_ f2_ f3_; have f4_ := f1_.symm; have f5_ := f3_.symm; clear f1_ f2_ f3_; subst f4_; subst f5_))
     obtain ⟨Ao29, co29, eo29⟩ := Kd.R_slice HO383.out
     (first | subst eo29 | (injection eo29 with f1_ f2_ f3_; have f4_ := f1_.symm; have f5_ := f3_.symm; clear f1_ f2_ f3_; subst f4_; subst f5_))
     refine hK.out _ _ ⟨(blk_cell BK377.out 0).trans rfl, (blk_cell BK377.out 1).trans rfl, (blk_cell BK377.out 2).trans rfl⟩ (fun hHeld => ?_)
     clear hK K
     refine norm_ (a' := ?_) ?_ ?_
     rotate_left
     ·show Act.put _ (some 28) _ = _
      simp only [Act.put, List.setIfInBounds_toArray, List.set_cons_zero, List.set_cons_succ, i64_w, i32_w]
      rfl
     refine one_ (i := 4) (N := some 29) #[true, true, true, true, true, false, false, false, false, false, false, false, false, false, false, false, false, false, false, false] rfl rfl (one_of HT_.out (by kernel_rfl)) (by decide) (fun K hK => ?_)
     refine goes_ Try.func56 (by kernel_rfl) rfl #[.slice Ao28 t378.length co28, .slice Ao29 t381.length co29] (by rfl) rfl rfl z1_ ?_
     with_reducible refine (laws_samePairs.calls k _ _ t378 _ _ t381 true _ ?side1 ?side2 ?side3 ?side4 A13.out).mono ?_
     (case side1 => exact z123_)
     (case side2 => exact (Kd.R_reads' HO380.out).2.1)
     (case side3 => exact z124_)
     (case side4 => exact (Kd.R_reads' HO383.out).2.1)
     rintro e w' ⟨rfl, ⟨nd, rfl⟩⟩
     refine ⟨_, rfl, ?_⟩
     refine hK.out _ _ ⟨(blk_cell BK377.out 0).trans rfl, (blk_cell BK377.out 1).trans rfl, (blk_cell BK377.out 2).trans rfl⟩ (fun hHeld => ?_)
     clear hK K
     refine norm_ (a' := ?_) ?_ ?_
     rotate_left
     ·show Act.put _ (some 29) _ = _
      simp only [Act.put, List.setIfInBounds_toArray, List.set_cons_zero, List.set_cons_succ, i64_w, i32_w]
      rfl
     refine pure_ (i := 5) (N := some 30) (v := ?_) (a' := ?_) #[true, true, true, true, true, true, false, false, false, false, false, false, false, false, false, false, false, false, false, false] rfl rfl (any_of HT_.out (by kernel_rfl)) (fun _ _ _ h => h) (Or.inl ⟨by rfl, ?_⟩) ?_ ?_
     rotate_left
     ·intro w'
      go_simp
      with_reducible rfl
     rotate_left
     ·simp only [Act.put, List.setIfInBounds_toArray, List.set_cons_zero, List.set_cons_succ, i64_w, i32_w]
      rfl
     refine pure_ (i := 6) (N := some 31) (v := ?_) (a' := ?_) #[true, true, true, true, true, true, true, false, false, false, false, false, false, false, false, false, false, false, false, false] rfl rfl (any_of HT_.out (by kernel_rfl)) (fun _ _ _ h => h) (Or.inl ⟨by rfl, ?_⟩) ?_ ?_
     rotate_left
     ·intro w'
      go_simp
      with_reducible rfl
     rotate_left
     ·simp only [Act.put, List.setIfInBounds_toArray, List.set_cons_zero, List.set_cons_succ, i64_w, i32_w]
      rfl
     refine pure_ (i := 7) (N := some 32) (v := ?_) (a' := ?_) #[true, true, true, true, true, true, true, true, false, false, false, false, false, false, false, false, false, false, false, false] rfl rfl (any_of HT_.out (by kernel_rfl)) (fun _ _ _ h => h) (Or.inl ⟨by rfl, ?_⟩) ?_ ?_
     rotate_left
     ·intro w'
      go_simp
      with_reducible rfl
     rotate_left
     ·simp only [Act.put, List.setIfInBounds_toArray, List.set_cons_zero, List.set_cons_succ, i64_w, i32_w]
      rfl
     refine pure_ (i := 9) (N := some 34) (v := ?_) (a' := ?_) #[true, true, true, true, true, true, true, true, false, true, false, false, false, false, false, false, false, false, false, false] rfl rfl (any_of HT_.out (by kernel_rfl)) (fun _ _ _ h => h) (Or.inl ⟨by rfl, ?_⟩) ?_ ?_
     rotate_left
     ·intro w'
      go_simp
      with_reducible rfl
     rotate_left
     ·simp only [Act.put, List.setIfInBounds_toArray, List.set_cons_zero, List.set_cons_succ, i64_w, i32_w]
      rfl
     refine one_ (i := 8) (N := some 33) #[true, true, true, true, true, true, true, true, true, true, false, false, false, false, false, false, false, false, false, false] rfl rfl (one_of HT_.out (by kernel_rfl)) (by decide) (fun K hK => ?_)
     refine goes_ Try.func57 (by kernel_rfl) rfl #[.slice Ao10 t371.length co10] (by rfl) rfl rfl z1_ ?_
     with_reducible refine (impl_MapOk.calls k _ _ t371 t385 _ ?side1 ?side2 A15.out).mono ?_
     (case side1 => exact z115_)
     (case side2 => exact z134_)
     rintro e w30 ⟨rfl, hb⟩
     refine ⟨_, rfl, ?_⟩
     have n0_ := q_ (Kd.R_below z34_ hb)
     have n1_ := q_ (Kd.R_below z41_ hb)
     have n2_ := q_ (Kd.R_below z61_ hb)
     have n3_ := q_ (blk_below (g := gb377) (o := .cells #[.int .i64 t374, .int .i64 t375, .int .i64 t376] 67 (0, 0)) z7_ hb)
     have n4_ := q_ (below_step z2_ hb)
     clear HO373
     clear HO380
     clear HO383
     clear BK377
     clear HB
     have HO373 := n0_
     have HO380 := n1_
     have HO383 := n2_
     have BK377 := n3_
     have HB := n4_
     clear n0_ n1_ n2_ n3_ n4_
     (try clear hb)
     (try clear hb2)
     (try clear hk)
     (try clear hi)
     refine hK.out _ _ ⟨(blk_cell BK377.out 0).trans rfl, (blk_cell BK377.out 1).trans rfl, (blk_cell BK377.out 2).trans rfl⟩ (fun hHeld => ?_)
     clear hK K
     refine norm_ (a' := ?_) ?_ ?_
     rotate_left
     ·show Act.put _ (some 33) _ = _
      simp only [Act.put, List.setIfInBounds_toArray, List.set_cons_zero, List.set_cons_succ, i64_w, i32_w]
      rfl
     refine one_ (i := 10) (N := some 35) #[true, true, true, true, true, true, true, true, true, true, true, false, false, false, false, false, false, false, false, false] rfl rfl (one_of HT_.out (by kernel_rfl)) (by decide) (fun K hK => ?_)
     refine goes_ Try.func58 (by kernel_rfl) rfl #[.slice Ao10 t371.length co10] (by rfl) rfl rfl z1_ ?_
     with_reducible refine (spec_MapOk.calls k _ _ t371 t386 _ ?side1 ?side2 A16.out).mono ?_
     (case side1 => exact z115_)
     (case side2 => exact z134_)
     rintro e w31 ⟨rfl, hb⟩
     refine ⟨_, rfl, ?_⟩
     have n0_ := q_ (Kd.R_below z34_ hb)
     have n1_ := q_ (Kd.R_below z41_ hb)
     have n2_ := q_ (Kd.R_below z61_ hb)
     have n3_ := q_ (blk_below (g := gb377) (o := .cells #[.int .i64 t374, .int .i64 t375, .int .i64 t376] 67 (0, 0)) z7_ hb)
     have n4_ := q_ (below_step z2_ hb)
     clear HO373
     clear HO380
     clear HO383
     clear BK377
     clear HB
     have HO373 := n0_
     have HO380 := n1_
     have HO383 := n2_
     have BK377 := n3_
     have HB := n4_
     clear n0_ n1_ n2_ n3_ n4_
     (try clear hb)
     (try clear hb2)
     (try clear hk)
     (try clear hi)
     refine hK.out _ _ ⟨(blk_cell BK377.out 0).trans rfl, (blk_cell BK377.out 1).trans rfl, (blk_cell BK377.out 2).trans rfl⟩ (fun hHeld => ?_)
     clear hK K
     refine norm_ (a' := ?_) ?_ ?_
     rotate_left
     ·show Act.put _ (some 35) _ = _
      simp only [Act.put, List.setIfInBounds_toArray, List.set_cons_zero, List.set_cons_succ, i64_w, i32_w]
      rfl
     refine pure_ (i := 11) (N := some 36) (v := ?_) (a' := ?_) #[true, true, true, true, true, true, true, true, true, true, true, true, false, false, false, false, false, false, false, false] rfl rfl (any_of HT_.out (by kernel_rfl)) (fun _ _ _ h => h) (Or.inl ⟨by rfl, ?_⟩) ?_ ?_
     rotate_left
     ·intro w'
      go_simp
      with_reducible rfl
     rotate_left
     ·simp only [Act.put, List.setIfInBounds_toArray, List.set_cons_zero, List.set_cons_succ, i64_w, i32_w]
      rfl
     refine pure_ (i := 12) (N := some 37) (v := ?_) (a' := ?_) #[true, true, true, true, true, true, true, true, true, true, true, true, true, false, false, false, false, false, false, false] rfl rfl (any_of HT_.out (by kernel_rfl)) (fun _ _ _ h => h) (Or.inl ⟨by rfl, ?_⟩) ?_ ?_
     rotate_left
     ·intro w'
      go_simp
      with_reducible rfl
     rotate_left
     ·simp only [Act.put, List.setIfInBounds_toArray, List.set_cons_zero, List.set_cons_succ, i64_w, i32_w]
      rfl
     refine pure_ (i := 13) (N := some 38) (v := ?_) (a' := ?_) #[true, true, true, true, true, true, true, true, true, true, true, true, true, true, false, false, false, false, false, false] rfl rfl (any_of HT_.out (by kernel_rfl)) (fun _ _ _ h => h) (Or.inl ⟨by rfl, ?_⟩) ?_ ?_
     rotate_left
     ·intro w'
      go_simp
      with_reducible rfl
     rotate_left
     ·simp only [Act.put, List.setIfInBounds_toArray, List.set_cons_zero, List.set_cons_succ, i64_w, i32_w]
      rfl
     refine take_ (i := 14) (N := some 39) (v := ?_) (a' := ?_) #[true, true, true, true, true, true, true, true, true, true, true, true, true, true, true, false, false, false, false, false] rfl rfl (take_ofW HT_.out HW_.out (by kernel_rfl)) (fun _ _ _ h => h) (Or.inl ⟨by rfl, ?_⟩) hHeld ?_ ?_
     rotate_left
     ·rintro w' ⟨s0, s1, s2⟩
      go_simp
      with_reducible rfl
     rotate_left
     ·simp only [Act.put, List.setIfInBounds_toArray, List.set_cons_zero, List.set_cons_succ, i64_w, i32_w]
      rfl
     refine take_ (i := 16) (N := some 41) (v := ?_) (a' := ?_) #[true, true, true, true, true, true, true, true, true, true, true, true, true, true, true, false, true, false, false, false] rfl rfl (take_ofW HT_.out HW_.out (by kernel_rfl)) (fun _ _ _ h => h) (Or.inl ⟨by rfl, ?_⟩) hHeld ?_ ?_
     rotate_left
     ·rintro w' ⟨s0, s1, s2⟩
      go_simp
      with_reducible rfl
     rotate_left
     ·simp only [Act.put, List.setIfInBounds_toArray, List.set_cons_zero, List.set_cons_succ, i64_w, i32_w]
      rfl
     refine one_ (i := 15) (N := some 40) #[true, true, true, true, true, true, true, true, true, true, true, true, true, true, true, true, true, false, false, false] rfl rfl (one_of HT_.out (by kernel_rfl)) (by decide) (fun K hK => ?_)
     refine goes_ Try.func59 (by kernel_rfl) rfl #[.agg #[.int .i64 t374, .int .i64 t375, .int .i64 t376]] (by rfl) rfl rfl z1_ ?_
     with_reducible refine (impl_MsgOk.calls k t374 t375 t376 t387 _ A24.out).mono ?_
     rintro e w32 ⟨rfl, hb⟩
     refine ⟨_, rfl, ?_⟩
     have n0_ := q_ (Kd.R_below z34_ hb)
     have n1_ := q_ (Kd.R_below z41_ hb)
     have n2_ := q_ (Kd.R_below z61_ hb)
     have n3_ := q_ (blk_below (g := gb377) (o := .cells #[.int .i64 t374, .int .i64 t375, .int .i64 t376] 67 (0, 0)) z7_ hb)
     have n4_ := q_ (below_step z2_ hb)
     clear HO373
     clear HO380
     clear HO383
     clear BK377
     clear HB
     have HO373 := n0_
     have HO380 := n1_
     have HO383 := n2_
     have BK377 := n3_
     have HB := n4_
     clear n0_ n1_ n2_ n3_ n4_
     (try clear hb)
     (try clear hb2)
     (try clear hk)
     (try clear hi)
     refine hK.out _ _ ⟨(blk_cell BK377.out 0).trans rfl, (blk_cell BK377.out 1).trans rfl, (blk_cell BK377.out 2).trans rfl⟩ (fun hHeld => ?_)
     clear hK K
     refine norm_ (a' := ?_) ?_ ?_
     rotate_left
     ·show Act.put _ (some 40) _ = _
      simp only [Act.put, List.setIfInBounds_toArray, List.set_cons_zero, List.set_cons_succ, i64_w, i32_w]
      rfl
     refine one_ (i := 17) (N := some 42) #[true, true, true, true, true, true, true, true, true, true, true, true, true, true, true, true, true, true, false, false] rfl rfl (one_of HT_.out (by kernel_rfl)) (by decide) (fun K hK => ?_)
     refine goes_ Try.func60 (by kernel_rfl) rfl #[.agg #[.int .i64 t374, .int .i64 t375, .int .i64 t376]] (by rfl) rfl rfl z1_ ?_
     with_reducible refine (spec_MsgOk.calls t374 t375 t376 t388 _ A25.out).mono ?_
     rintro e w33 ⟨rfl, hb⟩
     refine ⟨_, rfl, ?_⟩
     have n0_ := q_ (Kd.R_below z34_ hb)
     have n1_ := q_ (Kd.R_below z41_ hb)
     have n2_ := q_ (Kd.R_below z61_ hb)
     have n3_ := q_ (blk_below (g := gb377) (o := .cells #[.int .i64 t374, .int .i64 t375, .int .i64 t376] 67 (0, 0)) z7_ hb)
     have n4_ := q_ (below_step z2_ hb)
     clear HO373
     clear HO380
     clear HO383
     clear BK377
     clear HB
     have HO373 := n0_
     have HO380 := n1_
     have HO383 := n2_
     have BK377 := n3_
     have HB := n4_
     clear n0_ n1_ n2_ n3_ n4_
     (try clear hb)
     (try clear hb2)
     (try clear hk)
     (try clear hi)
     refine hK.out _ _ ⟨(blk_cell BK377.out 0).trans rfl, (blk_cell BK377.out 1).trans rfl, (blk_cell BK377.out 2).trans rfl⟩ (fun hHeld => ?_)
     clear hK K
     refine norm_ (a' := ?_) ?_ ?_
     rotate_left
     ·show Act.put _ (some 42) _ = _
      simp only [Act.put, List.setIfInBounds_toArray, List.set_cons_zero, List.set_cons_succ, i64_w, i32_w]
      rfl
     refine pure_ (i := 18) (N := some 43) (v := ?_) (a' := ?_) #[true, true, true, true, true, true, true, true, true, true, true, true, true, true, true, true, true, true, true, false] rfl rfl (any_of HT_.out (by kernel_rfl)) (fun _ _ _ h => h) (Or.inl ⟨by rfl, ?_⟩) ?_ ?_
     rotate_left
     ·intro w'
      go_simp
      with_reducible rfl
     rotate_left
     ·simp only [Act.put, List.setIfInBounds_toArray, List.set_cons_zero, List.set_cons_succ, i64_w, i32_w]
      rfl
     refine pure_ (i := 19) (N := some 44) (v := ?_) (a' := ?_) #[true, true, true, true, true, true, true, true, true, true, true, true, true, true, true, true, true, true, true, true] rfl rfl (any_of HT_.out (by kernel_rfl)) (fun _ _ _ h => h) (Or.inl ⟨by rfl, ?_⟩) ?_ ?_
     rotate_left
     ·intro w'
      go_simp
      with_reducible rfl
     rotate_left
     ·simp only [Act.put, List.setIfInBounds_toArray, List.set_cons_zero, List.set_cons_succ, i64_w, i32_w]
      rfl
     refine done_ (done_of HT_.out (by kernel_rfl)) ?_
     try go_wp2
     go_meet
     case rel => exact ⟨_, ((t387 != t388)), z11_, H', ⟨z65_⟩, ⟨z67_⟩, ⟨z68_⟩, ⟨z7_⟩, ⟨z2_⟩⟩
   ·replace c14 := Bool.eq_false_iff.mpr c14
    subst c14
    have H1 : (laws_FnMapped.j0 k t371 t378 true t374 t375 t376) = some r := by rw [if_neg (show ¬ (false = true) by decide)] at H; exact H
    clear H
    have H := H1
    clear H1
    have H' := q_ H
    clear H
    try go_wp2
    have n0_ := q_ (Kd.R_drew HO373.out)
    have n1_ := q_ (Kd.R_drew HO380.out)
    have n2_ := q_ (blk_drew BK377.out)
    have n3_ := q_ (below_drew1 HB.out)
    clear HO373
    clear HO380
    clear BK377
    clear HB
    have HO373 := n0_
    have HO380 := n1_
    have BK377 := n2_
    have HB := n3_
    clear n0_ n1_ n2_ n3_
    refine start_ (n := 20) (S := fun w' => w'.cell? ⟨gb377, 0, none⟩ = some (.int .i64 t374) ∧ w'.cell? ⟨gb377, 1, none⟩ = some (.int .i64 t375) ∧ w'.cell? ⟨gb377, 2, none⟩ = some (.int .i64 t376)) (ds := []) #[false, false, false, false, false, false, false, false, false, false, false, false, false, false, false, false, false, false, false, false] (by kernel_rfl) rfl rfl ⟨(blk_cell BK377.out 0).trans rfl, (blk_cell BK377.out 1).trans rfl, (blk_cell BK377.out 2).trans rfl⟩ (fun hHeld => ?_); refine with_tabW laws_FnMapped.tab5 laws_FnMapped.bits5 (fun HT_ HW_ => ?_)
    generalize w11.drew = w34 at HO373 HO380 BK377 HB hHeld ⊢
    refine pure_ (i := 0) (N := some 25) (v := ?_) (a' := ?_) #[true, false, false, false, false, false, false, false, false, false, false, false, false, false, false, false, false, false, false, false] rfl rfl (any_of HT_.out (by kernel_rfl)) (fun _ _ _ h => h) (Or.inl ⟨by rfl, ?_⟩) ?_ ?_
    rotate_left
    ·intro w'
     go_simp
     with_reducible rfl
    rotate_left
    ·simp only [Act.put, List.setIfInBounds_toArray, List.set_cons_zero, List.set_cons_succ, i64_w, i32_w]
     rfl
    refine pure_ (i := 1) (N := some 26) (v := ?_) (a' := ?_) #[true, true, false, false, false, false, false, false, false, false, false, false, false, false, false, false, false, false, false, false] rfl rfl (any_of HT_.out (by kernel_rfl)) (fun _ _ _ h => h) (Or.inl ⟨by rfl, ?_⟩) ?_ ?_
    rotate_left
    ·intro w'
     go_simp
     with_reducible rfl
    rotate_left
    ·simp only [Act.put, List.setIfInBounds_toArray, List.set_cons_zero, List.set_cons_succ, i64_w, i32_w]
     rfl
    refine take_ (i := 2) (N := some 27) (v := ?_) (a' := ?_) #[true, true, true, false, false, false, false, false, false, false, false, false, false, false, false, false, false, false, false, false] rfl rfl (take_ofW HT_.out HW_.out (by kernel_rfl)) (fun _ _ _ h => h) (Or.inl ⟨by rfl, ?_⟩) hHeld ?_ ?_
    rotate_left
    ·rintro w' ⟨s0, s1, s2⟩
     go_simp
     with_reducible rfl
    rotate_left
    ·simp only [Act.put, List.setIfInBounds_toArray, List.set_cons_zero, List.set_cons_succ, i64_w, i32_w]
     rfl
    refine one_ (i := 3) (N := some 28) #[true, true, true, true, false, false, false, false, false, false, false, false, false, false, false, false, false, false, false, false] rfl rfl (one_of HT_.out (by kernel_rfl)) (by decide) (fun K hK => ?_)
    refine goes_ Try.func48 (by kernel_rfl) rfl #[.slice Ao10 t371.length co10, .agg #[.int .i64 t374, .int .i64 t375, .int .i64 t376]] (by rfl) rfl rfl z1_ ?_
    with_reducible refine (spec_MapDo.calls k _ _ t371 t374 t375 t376 t381 _ ?side1 ?side2 A12.out).mono ?_
    (case side1 => exact z115_)
    (case side2 => exact z134_)
    rintro e w35 ⟨v382, rfl, ho0, hb⟩
    refine ⟨_, rfl, ?_⟩
    have n0_ := q_ (Kd.R_elder' z34_ (Kd.R_base ho0) hb)
    have n1_ := q_ (Kd.R_elder' z41_ (Kd.R_base ho0) hb)
    have n2_ := q_ (Kd.R_lower (Kd.R_new' (Kd.R_new' ho0 (Kd.R_lt z34_)) (Kd.R_lt z41_)) (below_size z2_))
    have n3_ := q_ (blk_below (g := gb377) (o := .cells #[.int .i64 t374, .int .i64 t375, .int .i64 t376] 67 (0, 0)) z7_ hb)
    have n4_ := q_ (below_step z2_ hb)
    clear HO373
    clear HO380
    clear BK377
    clear HB
    have HO373 := n0_
    have HO380 := n1_
    have HO383 := n2_
    have BK377 := n3_
    have HB := n4_
    clear n0_ n1_ n2_ n3_ n4_
    (try clear hb)
    (try clear hb2)
    (try clear hk)
    (try clear hi)
    (try clear ho0)
    obtain ⟨Ao36, co36, eo36⟩ := Kd.R_slice HO380.out
    (first | subst eo36 | (injection eo36 with f1_ f2_ f3_; have f4_ := f1_.symm; have f5_ := f3_.symm; clear f1_ f2_ f3_; subst f4_; subst f5_))
    obtain ⟨Ao37, co37, eo37⟩ := Kd.R_slice HO383.out
    (first | subst eo37 | (injection eo37 with f1_ f2_ f3_; have f4_ := f1_.symm; have f5_ := f3_.symm; clear f1_ f2_ f3_; subst f4_; subst f5_))
    refine hK.out _ _ ⟨(blk_cell BK377.out 0).trans rfl, (blk_cell BK377.out 1).trans rfl, (blk_cell BK377.out 2).trans rfl⟩ (fun hHeld => ?_)
    clear hK K
    refine norm_ (a' := ?_) ?_ ?_
    rotate_left
    ·show Act.put _ (some 28) _ = _
     simp only [Act.put, List.setIfInBounds_toArray, List.set_cons_zero, List.set_cons_succ, i64_w, i32_w]
     rfl
    refine one_ (i := 4) (N := some 29) #[true, true, true, true, true, false, false, false, false, false, false, false, false, false, false, false, false, false, false, false] rfl rfl (one_of HT_.out (by kernel_rfl)) (by decide) (fun K hK => ?_)
    refine goes_ Try.func56 (by kernel_rfl) rfl #[.slice Ao36 t378.length co36, .slice Ao37 t381.length co37] (by rfl) rfl rfl z1_ ?_
    with_reducible refine (laws_samePairs.calls k _ _ t378 _ _ t381 false _ ?side1 ?side2 ?side3 ?side4 A13.out).mono ?_
    (case side1 => exact z123_)
    (case side2 => exact (Kd.R_reads' HO380.out).2.1)
    (case side3 => exact z124_)
    (case side4 => exact (Kd.R_reads' HO383.out).2.1)
    rintro e w' ⟨rfl, ⟨nd, rfl⟩⟩
    refine ⟨_, rfl, ?_⟩
    refine hK.out _ _ ⟨(blk_cell BK377.out 0).trans rfl, (blk_cell BK377.out 1).trans rfl, (blk_cell BK377.out 2).trans rfl⟩ (fun hHeld => ?_)
    clear hK K
    refine norm_ (a' := ?_) ?_ ?_
    rotate_left
    ·show Act.put _ (some 29) _ = _
     simp only [Act.put, List.setIfInBounds_toArray, List.set_cons_zero, List.set_cons_succ, i64_w, i32_w]
     rfl
    refine pure_ (i := 5) (N := some 30) (v := ?_) (a' := ?_) #[true, true, true, true, true, true, false, false, false, false, false, false, false, false, false, false, false, false, false, false] rfl rfl (any_of HT_.out (by kernel_rfl)) (fun _ _ _ h => h) (Or.inl ⟨by rfl, ?_⟩) ?_ ?_
    rotate_left
    ·intro w'
     go_simp
     with_reducible rfl
    rotate_left
    ·simp only [Act.put, List.setIfInBounds_toArray, List.set_cons_zero, List.set_cons_succ, i64_w, i32_w]
     rfl
    refine pure_ (i := 6) (N := some 31) (v := ?_) (a' := ?_) #[true, true, true, true, true, true, true, false, false, false, false, false, false, false, false, false, false, false, false, false] rfl rfl (any_of HT_.out (by kernel_rfl)) (fun _ _ _ h => h) (Or.inl ⟨by rfl, ?_⟩) ?_ ?_
    rotate_left
    ·intro w'
     go_simp
     with_reducible rfl
    rotate_left
    ·simp only [Act.put, List.setIfInBounds_toArray, List.set_cons_zero, List.set_cons_succ, i64_w, i32_w]
     rfl
    refine pure_ (i := 7) (N := some 32) (v := undef) (a' := ?_) #[true, true, true, true, true, true, true, true, false, false, false, false, false, false, false, false, false, false, false, false] rfl rfl (any_of HT_.out (by kernel_rfl)) (fun _ _ _ h => h) (Or.inr ⟨by rfl, rfl⟩) ?_ ?_
    rotate_left
    ·simp only [Act.put, List.setIfInBounds_toArray, List.set_cons_zero, List.set_cons_succ, i64_w, i32_w]
     rfl
    refine pure_ (i := 8) (N := some 33) (v := undef) (a' := ?_) #[true, true, true, true, true, true, true, true, true, false, false, false, false, false, false, false, false, false, false, false] rfl rfl (any_of HT_.out (by kernel_rfl)) (fun _ _ _ h => h) (Or.inr ⟨by rfl, rfl⟩) ?_ ?_
    rotate_left
    ·simp only [Act.put, List.setIfInBounds_toArray, List.set_cons_zero, List.set_cons_succ, i64_w, i32_w]
     rfl
    refine pure_ (i := 9) (N := some 34) (v := undef) (a' := ?_) #[true, true, true, true, true, true, true, true, true, true, false, false, false, false, false, false, false, false, false, false] rfl rfl (any_of HT_.out (by kernel_rfl)) (fun _ _ _ h => h) (Or.inr ⟨by rfl, rfl⟩) ?_ ?_
    rotate_left
    ·simp only [Act.put, List.setIfInBounds_toArray, List.set_cons_zero, List.set_cons_succ, i64_w, i32_w]
     rfl
    refine pure_ (i := 10) (N := some 35) (v := undef) (a' := ?_) #[true, true, true, true, true, true, true, true, true, true, true, false, false, false, false, false, false, false, false, false] rfl rfl (any_of HT_.out (by kernel_rfl)) (fun _ _ _ h => h) (Or.inr ⟨by rfl, rfl⟩) ?_ ?_
    rotate_left
    ·simp only [Act.put, List.setIfInBounds_toArray, List.set_cons_zero, List.set_cons_succ, i64_w, i32_w]
     rfl
    refine pure_ (i := 11) (N := some 36) (v := undef) (a' := ?_) #[true, true, true, true, true, true, true, true, true, true, true, true, false, false, false, false, false, false, false, false] rfl rfl (any_of HT_.out (by kernel_rfl)) (fun _ _ _ h => h) (Or.inr ⟨by rfl, rfl⟩) ?_ ?_
    rotate_left
    ·simp only [Act.put, List.setIfInBounds_toArray, List.set_cons_zero, List.set_cons_succ, i64_w, i32_w]
     rfl
    refine pure_ (i := 12) (N := some 37) (v := ?_) (a' := ?_) #[true, true, true, true, true, true, true, true, true, true, true, true, true, false, false, false, false, false, false, false] rfl rfl (any_of HT_.out (by kernel_rfl)) (fun _ _ _ h => h) (Or.inl ⟨by rfl, ?_⟩) ?_ ?_
    rotate_left
    ·intro w'
     go_simp
     with_reducible rfl
    rotate_left
    ·simp only [Act.put, List.setIfInBounds_toArray, List.set_cons_zero, List.set_cons_succ, i64_w, i32_w]
     rfl
    refine pure_ (i := 13) (N := some 38) (v := ?_) (a' := ?_) #[true, true, true, true, true, true, true, true, true, true, true, true, true, true, false, false, false, false, false, false] rfl rfl (any_of HT_.out (by kernel_rfl)) (fun _ _ _ h => h) (Or.inl ⟨by rfl, ?_⟩) ?_ ?_
    rotate_left
    ·intro w'
     go_simp
     with_reducible rfl
    rotate_left
    ·simp only [Act.put, List.setIfInBounds_toArray, List.set_cons_zero, List.set_cons_succ, i64_w, i32_w]
     rfl
    refine pure_ (i := 14) (N := some 39) (v := undef) (a' := ?_) #[true, true, true, true, true, true, true, true, true, true, true, true, true, true, true, false, false, false, false, false] rfl rfl (any_of HT_.out (by kernel_rfl)) (fun _ _ _ h => h) (Or.inr ⟨by rfl, rfl⟩) ?_ ?_
    rotate_left
    ·simp only [Act.put, List.setIfInBounds_toArray, List.set_cons_zero, List.set_cons_succ, i64_w, i32_w]
     rfl
    refine pure_ (i := 15) (N := some 40) (v := undef) (a' := ?_) #[true, true, true, true, true, true, true, true, true, true, true, true, true, true, true, true, false, false, false, false] rfl rfl (any_of HT_.out (by kernel_rfl)) (fun _ _ _ h => h) (Or.inr ⟨by rfl, rfl⟩) ?_ ?_
    rotate_left
    ·simp only [Act.put, List.setIfInBounds_toArray, List.set_cons_zero, List.set_cons_succ, i64_w, i32_w]
     rfl
    refine pure_ (i := 16) (N := some 41) (v := undef) (a' := ?_) #[true, true, true, true, true, true, true, true, true, true, true, true, true, true, true, true, true, false, false, false] rfl rfl (any_of HT_.out (by kernel_rfl)) (fun _ _ _ h => h) (Or.inr ⟨by rfl, rfl⟩) ?_ ?_
    rotate_left
    ·simp only [Act.put, List.setIfInBounds_toArray, List.set_cons_zero, List.set_cons_succ, i64_w, i32_w]
     rfl
    refine pure_ (i := 17) (N := some 42) (v := undef) (a' := ?_) #[true, true, true, true, true, true, true, true, true, true, true, true, true, true, true, true, true, true, false, false] rfl rfl (any_of HT_.out (by kernel_rfl)) (fun _ _ _ h => h) (Or.inr ⟨by rfl, rfl⟩) ?_ ?_
    rotate_left
    ·simp only [Act.put, List.setIfInBounds_toArray, List.set_cons_zero, List.set_cons_succ, i64_w, i32_w]
     rfl
    refine pure_ (i := 18) (N := some 43) (v := undef) (a' := ?_) #[true, true, true, true, true, true, true, true, true, true, true, true, true, true, true, true, true, true, true, false] rfl rfl (any_of HT_.out (by kernel_rfl)) (fun _ _ _ h => h) (Or.inr ⟨by rfl, rfl⟩) ?_ ?_
    rotate_left
    ·simp only [Act.put, List.setIfInBounds_toArray, List.set_cons_zero, List.set_cons_succ, i64_w, i32_w]
     rfl
    refine pure_ (i := 19) (N := some 44) (v := ?_) (a' := ?_) #[true, true, true, true, true, true, true, true, true, true, true, true, true, true, true, true, true, true, true, true] rfl rfl (any_of HT_.out (by kernel_rfl)) (fun _ _ _ h => h) (Or.inl ⟨by rfl, ?_⟩) ?_ ?_
    rotate_left
    ·intro w'
     go_simp
     with_reducible rfl
    rotate_left
    ·simp only [Act.put, List.setIfInBounds_toArray, List.set_cons_zero, List.set_cons_succ, i64_w, i32_w]
     rfl
    refine done_ (done_of HT_.out (by kernel_rfl)) ?_
    try go_wp2
    go_meet
    case rel => exact ⟨_, (true), z11_, H', ⟨z65_⟩, ⟨z67_⟩, ⟨z68_⟩, ⟨z7_⟩, ⟨z2_⟩⟩
  case rest =>
   clear HC6
   try clear c1
   try clear p2
   try clear c4
   try clear c5
   try clear c6
   try clear c14
   try clear c17
   try clear c17b0
   try clear c17b1
   try clear c17b2
   obtain ⟨kq, x44_5, rfl, HA, HJ5, HO_3, HO_5, BK377, HB⟩ := hcut
   cases kq with
   | zero => exact absurd HA.out (by simp [laws_FnMapped.j0])
   | succ kj5 =>
    have H := HA.out
    clear HA
    simp only [laws_FnMapped.j0] at H
    by_cases c38 : x44_5 = true
    ·subst c38
     have H1 : (some false) = some r := z49_
     clear H
     have H := H1
     clear H1
     obtain rfl := Option.some.inj H
     go_wp2
     go_ret
     exact ⟨z5_, z2_⟩
    ·replace c38 := Bool.eq_false_iff.mpr c38
     subst c38
     have H1 : ((spec_MapOk.f kj5 t371).bind fun t389 => (if t389 = true then ((spec_MsgOk.f t374 t375 t376).bind fun t390 => (if t390 = true then (laws_FnMapped.j1 kj5 t371 t378 (t374 == 4) t374 t375 t376) else (laws_FnMapped.j1 kj5 t371 t378 true t374 t375 t376))) else (laws_FnMapped.j1 kj5 t371 t378 true t374 t375 t376))) = some r := by rw [if_neg (show ¬ (false = true) by decide)] at H; exact H
     clear H
     have H := H1
     clear H1
     have HC39 := q_ H
     clear H
     go_upto_region 7 with (fail)
     go_cut [57] (fun v57 wc => ∃ (kq : Nat) (x57_38 : Bool), v57 = .bool x57_38 ∧ Aside0 (laws_FnMapped.j1 kq t371 t378 x57_38 t374 t375 t376 = some r) ∧ Aside0 (kq ≤ kj5) ∧ Aside0 (Kd.R k147 147 wc w.heap.size (fun k_ => some k_ ≠ (v379 : Value).ownBlock) (.slice Ao10 t371.length co10) t371) ∧ Aside0 (Kd.R k147 147 wc w.heap.size (fun k_ => some k_ ≠ ((.slice Ao10 t371.length co10) : Value).ownBlock) v379 t378) ∧ Aside0 (wc.heap[gb377]? = some (.cells #[.int .i64 t374, .int .i64 t375, .int .i64 t376] 67 (0, 0))) ∧ Aside0 (Below w.heap.size w wc))
     case first =>
      have H := HC39.out
      clear HC39
      replace H := Option.bind_eq_some_iff.mp H
      obtain ⟨t389, A400, H⟩ := H
      replace H : (if t389 = true then ((spec_MsgOk.f t374 t375 t376).bind fun t390 => (if t390 = true then (laws_FnMapped.j1 kj5 t371 t378 (t374 == 4) t374 t375 t376) else (laws_FnMapped.j1 kj5 t371 t378 true t374 t375 t376))) else (laws_FnMapped.j1 kj5 t371 t378 true t374 t375 t376)) = some r := H
      have A40 := q_ A400
      clear A400
      by_cases c41 : t389 = true
      ·subst c41
       have H1 : ((spec_MsgOk.f t374 t375 t376).bind fun t390 => (if t390 = true then (laws_FnMapped.j1 kj5 t371 t378 (t374 == 4) t374 t375 t376) else (laws_FnMapped.j1 kj5 t371 t378 true t374 t375 t376))) = some r := z49_
       clear H
       have H := H1
       clear H1
       replace H := Option.bind_eq_some_iff.mp H
       obtain ⟨t390, A420, H⟩ := H
       replace H : (if t390 = true then (laws_FnMapped.j1 kj5 t371 t378 (t374 == 4) t374 t375 t376) else (laws_FnMapped.j1 kj5 t371 t378 true t374 t375 t376)) = some r := H
       have A42 := q_ A420
       clear A420
       by_cases c43 : t390 = true
       ·subst c43
        have H1 : (laws_FnMapped.j1 kj5 t371 t378 (t374 == 4) t374 t375 t376) = some r := z49_
        clear H
        have H := H1
        clear H1
        have H' := q_ H
        clear H
        go_wp2_with (first | ((with_reducible refine gate_callee (f := 58) rfl ?_); refine goesL_ (some 46) rfl rfl Try.func58 (by kernel_rfl) rfl #[.slice Ao10 t371.length co10] rfl z1_ ?_; (with_reducible refine (spec_MapOk.calls kj5 _ _ t371 true _ ?side1 ?side2 A40.out).mono ?_); (case side1 => exact z109_); (case side2 => exact z125_); rintro e w44 ⟨rfl, hb⟩; refine ⟨_, rfl, ?_⟩; have n0_ := q_ (Kd.R_below z10_ hb); have n1_ := q_ (Kd.R_below z8_ hb); have n2_ := q_ (blk_below (g := gb377) (o := .cells #[.int .i64 t374, .int .i64 t375, .int .i64 t376] 67 (0, 0)) z7_ hb); have n3_ := q_ (below_step z2_ hb); clear HO_3; clear HO_5; clear BK377; clear HB; have HO_3 := n0_; have HO_5 := n1_; have BK377 := n2_; have HB := n3_; clear n0_ n1_ n2_ n3_; (try clear hb); (try clear hb2); (try clear hk); (try clear hi); obtain ⟨hcz45_0, hcz45_1, hcz45_2, hfz45_0, hfz45_1, hfz45_2⟩ := cs3_ BK377.out) | (go_at_call 60; (with_reducible refine (spec_MsgOk.calls t374 t375 t376 true _ A42.out).mono ?_); rintro e w46 ⟨rfl, hb⟩; have n0_ := q_ (Kd.R_below z10_ hb); have n1_ := q_ (Kd.R_below z8_ hb); have n2_ := q_ (blk_below (g := gb377) (o := .cells #[.int .i64 t374, .int .i64 t375, .int .i64 t376] 67 (0, 0)) z7_ hb); have n3_ := q_ (below_step z2_ hb); clear HO_3; clear HO_5; clear BK377; clear HB; have HO_3 := n0_; have HO_5 := n1_; have BK377 := n2_; have HB := n3_; clear n0_ n1_ n2_ n3_; (try clear hb); (try clear hb2); (try clear hk); (try clear hi); obtain ⟨hcz47_0, hcz47_1, hcz47_2, hfz47_0, hfz47_1, hfz47_2⟩ := cs3_ BK377.out))
        go_meet
        case rel => exact ⟨_, ((t374 == 4)), z11_, H', ⟨z79_⟩, ⟨z10_⟩, ⟨z8_⟩, ⟨z7_⟩, ⟨z2_⟩⟩
       ·replace c43 := Bool.eq_false_iff.mpr c43
        subst c43
        have H1 : (laws_FnMapped.j1 kj5 t371 t378 true t374 t375 t376) = some r := by rw [if_neg (show ¬ (false = true) by decide)] at H; exact H
        clear H
        have H := H1
        clear H1
        have H' := q_ H
        clear H
        go_wp2_with (first | ((with_reducible refine gate_callee (f := 58) rfl ?_); refine goesL_ (some 46) rfl rfl Try.func58 (by kernel_rfl) rfl #[.slice Ao10 t371.length co10] rfl z1_ ?_; (with_reducible refine (spec_MapOk.calls kj5 _ _ t371 true _ ?side1 ?side2 A40.out).mono ?_); (case side1 => exact z109_); (case side2 => exact z125_); rintro e w48 ⟨rfl, hb⟩; refine ⟨_, rfl, ?_⟩; have n0_ := q_ (Kd.R_below z10_ hb); have n1_ := q_ (Kd.R_below z8_ hb); have n2_ := q_ (blk_below (g := gb377) (o := .cells #[.int .i64 t374, .int .i64 t375, .int .i64 t376] 67 (0, 0)) z7_ hb); have n3_ := q_ (below_step z2_ hb); clear HO_3; clear HO_5; clear BK377; clear HB; have HO_3 := n0_; have HO_5 := n1_; have BK377 := n2_; have HB := n3_; clear n0_ n1_ n2_ n3_; (try clear hb); (try clear hb2); (try clear hk); (try clear hi); obtain ⟨hcz49_0, hcz49_1, hcz49_2, hfz49_0, hfz49_1, hfz49_2⟩ := cs3_ BK377.out) | (go_at_call 60; (with_reducible refine (spec_MsgOk.calls t374 t375 t376 false _ A42.out).mono ?_); rintro e w50 ⟨rfl, hb⟩; have n0_ := q_ (Kd.R_below z10_ hb); have n1_ := q_ (Kd.R_below z8_ hb); have n2_ := q_ (blk_below (g := gb377) (o := .cells #[.int .i64 t374, .int .i64 t375, .int .i64 t376] 67 (0, 0)) z7_ hb); have n3_ := q_ (below_step z2_ hb); clear HO_3; clear HO_5; clear BK377; clear HB; have HO_3 := n0_; have HO_5 := n1_; have BK377 := n2_; have HB := n3_; clear n0_ n1_ n2_ n3_; (try clear hb); (try clear hb2); (try clear hk); (try clear hi)))
        go_meet
        case rel => exact ⟨_, (true), z11_, H', ⟨z79_⟩, ⟨z10_⟩, ⟨z8_⟩, ⟨z7_⟩, ⟨z2_⟩⟩
      ·replace c41 := Bool.eq_false_iff.mpr c41
       subst c41
       have H1 : (laws_FnMapped.j1 kj5 t371 t378 true t374 t375 t376) = some r := by rw [if_neg (show ¬ (false = true) by decide)] at H; exact H
       clear H
       have H := H1
       clear H1
       have H' := q_ H
       clear H
       go_wp2_with (first | ((with_reducible refine gate_callee (f := 58) rfl ?_); refine goesL_ (some 46) rfl rfl Try.func58 (by kernel_rfl) rfl #[.slice Ao10 t371.length co10] rfl z1_ ?_; (with_reducible refine (spec_MapOk.calls kj5 _ _ t371 false _ ?side1 ?side2 A40.out).mono ?_); (case side1 => exact z109_); (case side2 => exact z125_); rintro e w51 ⟨rfl, hb⟩; refine ⟨_, rfl, ?_⟩; have n0_ := q_ (Kd.R_below z10_ hb); have n1_ := q_ (Kd.R_below z8_ hb); have n2_ := q_ (blk_below (g := gb377) (o := .cells #[.int .i64 t374, .int .i64 t375, .int .i64 t376] 67 (0, 0)) z7_ hb); have n3_ := q_ (below_step z2_ hb); clear HO_3; clear HO_5; clear BK377; clear HB; have HO_3 := n0_; have HO_5 := n1_; have BK377 := n2_; have HB := n3_; clear n0_ n1_ n2_ n3_; (try clear hb); (try clear hb2); (try clear hk); (try clear hi)))
       go_meet
       case rel => exact ⟨_, (true), z11_, H', ⟨z79_⟩, ⟨z10_⟩, ⟨z8_⟩, ⟨z7_⟩, ⟨z2_⟩⟩
     case rest =>
      clear HC39
      try clear c1
      try clear p2
      try clear c3
      try clear c4
      try clear c5
      try clear c6
      try clear c14
      try clear c17
      try clear c17b0
      try clear c17b1
      try clear c17b2
      try clear c38
      try clear c41
      try clear c43
      try clear c48
      try clear hcz45_0
      try clear hcz45_1
      try clear hcz45_2
      try clear hcz47_0
      try clear hcz47_1
      try clear hcz47_2
      try clear hcz49_0
      try clear hcz49_1
      try clear hcz49_2
      try clear hfz45_0
      try clear hfz45_1
      try clear hfz45_2
      try clear hfz47_0
      try clear hfz47_1
      try clear hfz47_2
      try clear hfz49_0
      try clear hfz49_1
      try clear hfz49_2
      try clear p2
      obtain ⟨kq, x57_38, rfl, HA, HJ38, HO_3, HO_5, BK377, HB⟩ := hcut
      cases kq with
      | zero => exact absurd HA.out (by simp [laws_FnMapped.j1])
      | succ kj38 =>
       have H := HA.out
       clear HA
       simp only [laws_FnMapped.j1] at H
       by_cases c52 : x57_38 = true
       ·subst c52
        have H1 : ((laws_samePairs.f kj38 t378 t371).bind fun t391 => (some t391)) = some r := z49_
        clear H
        have H := H1
        clear H1
        replace H := Option.bind_eq_some_iff.mp H
        obtain ⟨t391, A530, H⟩ := H
        replace H : (some t391) = some r := H
        have A53 := q_ A530
        clear A530
        obtain rfl := Option.some.inj H
        obtain ⟨Ao54, co54, eo54⟩ := Kd.R_slice HO_5.out
        subst eo54
        go_wp2_with (first | ((with_reducible refine gate_callee (f := 56) rfl ?_); refine goesL_ (some 60) rfl rfl Try.func56 (by kernel_rfl) rfl #[.slice Ao54 t378.length co54, .slice Ao10 t371.length co10] rfl z1_ ?_; (with_reducible refine (laws_samePairs.calls kj38 _ _ t378 _ _ t371 t391 _ ?side1 ?side2 ?side3 ?side4 A53.out).mono ?_); (case side1 => exact z107_); (case side2 => exact z121_); (case side3 => exact z109_); (case side4 => exact z125_); rintro e w' ⟨rfl, ⟨nd, rfl⟩⟩; refine ⟨_, rfl, ?_⟩))
        go_ret
        exact ⟨z5_, z0_⟩
       ·replace c52 := Bool.eq_false_iff.mpr c52
        subst c52
        have H1 : (laws_FnMapped.l0 kj38 t371 t378 0 t374 t375 t376) = some r := by rw [if_neg (show ¬ (false = true) by decide)] at H; exact H
        clear H
        have H := H1
        clear H1
        have H' := q_ H
        clear H
        go_wp2
        go_loopg [6] kj38 (fun kq v6 w' => ∃ (x6_3 : Int), v6 = .int .i64 x6_3 ∧ Aside0 (laws_FnMapped.l0 kq t371 t378 x6_3 t374 t375 t376 = some r) ∧ Aside0 (kq ≤ kj38) ∧ Aside0 (Kd.R k147 147 w' w.heap.size (fun k_ => some k_ ≠ (v379 : Value).ownBlock) (.slice Ao10 t371.length co10) t371) ∧ Aside0 (Kd.R k147 147 w' w.heap.size (fun k_ => some k_ ≠ ((.slice Ao10 t371.length co10) : Value).ownBlock) v379 t378) ∧ Aside0 (w'.heap[gb377]? = some (.cells #[.int .i64 t374, .int .i64 t375, .int .i64 t376] 67 (0, 0))) ∧ Aside0 (Below w.heap.size w w'))
        case atStart => exact ⟨(0), z11_, H', ⟨Nat.le_refl _⟩, ⟨z10_⟩, ⟨z8_⟩, ⟨z7_⟩, ⟨z2_⟩⟩
        case round =>
         clear H'
         try clear c1
         try clear p2
         try clear c3
         try clear c4
         try clear c5
         try clear c6
         try clear c14
         try clear c17
         try clear c17b0
         try clear c17b1
         try clear c17b2
         try clear c38
         try clear c41
         try clear c43
         try clear c48
         try clear c52
         try clear hcz45_0
         try clear hcz45_1
         try clear hcz45_2
         try clear hcz47_0
         try clear hcz47_1
         try clear hcz47_2
         try clear hcz49_0
         try clear hcz49_1
         try clear hcz49_2
         try clear hfz45_0
         try clear hfz45_1
         try clear hfz45_2
         try clear hfz47_0
         try clear hfz47_1
         try clear hfz47_2
         try clear hfz49_0
         try clear hfz49_1
         try clear hfz49_2
         try clear p2
         obtain ⟨x6_3, rfl, HA, HK3, HO_3, HO_5, BK377, HB⟩ := hrel
         cases gk with
         | zero => exact absurd HA.out (by simp [laws_FnMapped.l0])
         | succ k3 =>
          have H := HA.out
          clear HA
          simp only [laws_FnMapped.l0] at H
          by_cases c55 : x6_3 < 31
          ·rw [if_pos c55] at H
           have c55b0 : decide (x6_3 < 31) = true := decide_eq_true c55
           clear c55
           replace H := Option.bind_eq_some_iff.mp H
           obtain ⟨⟨t392, t393⟩, A560, H⟩ := H
           replace H : ((impl_MapGet.f k3 t371 x6_3).bind fun bt394 => (if x6_3 = t375 then (laws_FnMapped.l0 k3 t371 t378 (wrap64 (x6_3 + 1)) t374 t375 t376) else (if t392 = bt394.1 then (if (t393 != bt394.2) = true then (some false) else (laws_FnMapped.l0 k3 t371 t378 (wrap64 (x6_3 + 1)) t374 t375 t376)) else (some false)))) = some r := H
           have A56 := q_ A560
           clear A560
           replace H := Option.bind_eq_some_iff.mp H
           obtain ⟨⟨t394, t395⟩, A570, H⟩ := H
           replace H : (if x6_3 = t375 then (laws_FnMapped.l0 k3 t371 t378 (wrap64 (x6_3 + 1)) t374 t375 t376) else (if t392 = t394 then (if (t393 != t395) = true then (some false) else (laws_FnMapped.l0 k3 t371 t378 (wrap64 (x6_3 + 1)) t374 t375 t376)) else (some false))) = some r := H
           have A57 := q_ A570
           clear A570
           by_cases c58 : x6_3 = t375
           ·rw [if_pos c58] at H
            have c58b0 : (x6_3 == t375) = true := beq_iff_eq.mpr c58
            have c58b1 : (x6_3 != t375) = false := bne_eq_false_iff_eq.mpr c58
            clear c58
            have H' := q_ H
            clear H
            obtain ⟨Ao59, co59, eo59⟩ := Kd.R_slice HO_5.out
            subst eo59
            go_wp2_with (first | ((with_reducible refine gate_callee (f := 61) rfl ?_); refine goesL_ (some 68) rfl rfl Try.func61 (by kernel_rfl) rfl #[.slice Ao59 t378.length co59, .int .i64 x6_3] rfl z1_ ?_; (with_reducible refine (impl_MapGet.calls k3 _ _ t378 x6_3 t392 t393 _ ?side1 ?side2 A56.out).mono ?_); (case side1 => exact z107_); (case side2 => exact z121_); rintro e w60 ⟨rfl, hb⟩; refine ⟨_, rfl, ?_⟩; have n0_ := q_ (Kd.R_below z10_ hb); have n1_ := q_ (Kd.R_below z8_ hb); have n2_ := q_ (blk_below (g := gb377) (o := .cells #[.int .i64 t374, .int .i64 t375, .int .i64 t376] 67 (0, 0)) z7_ hb); have n3_ := q_ (below_step z2_ hb); clear HO_3; clear HO_5; clear BK377; clear HB; have HO_3 := n0_; have HO_5 := n1_; have BK377 := n2_; have HB := n3_; clear n0_ n1_ n2_ n3_; (try clear hb); (try clear hb2); (try clear hk); (try clear hi)) | ((with_reducible refine gate_callee (f := 61) rfl ?_); refine goesL_ (some 74) rfl rfl Try.func61 (by kernel_rfl) rfl #[.slice Ao10 t371.length co10, .int .i64 x6_3] rfl z1_ ?_; (with_reducible refine (impl_MapGet.calls k3 _ _ t371 x6_3 t394 t395 _ ?side1 ?side2 A57.out).mono ?_); (case side1 => exact z109_); (case side2 => exact z125_); rintro e w61 ⟨rfl, hb⟩; refine ⟨_, rfl, ?_⟩; have n0_ := q_ (Kd.R_below z10_ hb); have n1_ := q_ (Kd.R_below z8_ hb); have n2_ := q_ (blk_below (g := gb377) (o := .cells #[.int .i64 t374, .int .i64 t375, .int .i64 t376] 67 (0, 0)) z7_ hb); have n3_ := q_ (below_step z2_ hb); clear HO_3; clear HO_5; clear BK377; clear HB; have HO_3 := n0_; have HO_5 := n1_; have BK377 := n2_; have HB := n3_; clear n0_ n1_ n2_ n3_; (try clear hb); (try clear hb2); (try clear hk); (try clear hi); obtain ⟨hcz62_0, hcz62_1, hcz62_2, hfz62_0, hfz62_1, hfz62_2⟩ := cs3_ BK377.out))
            go_roundg k3
            case measure => have := HJ5.out; have := HJ38.out; have := HK3.out; omega
            case rel => exact ⟨(wrap64 (x6_3 + 1)), z11_, H', ⟨z81_⟩, ⟨z10_⟩, ⟨z8_⟩, ⟨z7_⟩, ⟨z2_⟩⟩
           ·rw [if_neg c58] at H
            have c58b0 : (x6_3 == t375) = false := beq_eq_false_iff_ne.mpr c58
            have c58b1 : (x6_3 != t375) = true := bne_iff_ne.mpr c58
            by_cases c63 : t392 = t394
            ·rw [if_pos c63] at H
             have c63b0 : (t392 == t394) = true := beq_iff_eq.mpr c63
             have c63b1 : (t392 != t394) = false := bne_eq_false_iff_eq.mpr c63
             clear c63
             by_cases c64 : (t393 != t395) = true
             ·rw [if_pos c64] at H
              have c64b0 : (t393 != t395) = true := c64
              (try (have c64b1 : decide (t393 = t395) = false := z84_))
              (try (have c64b2 : (t393 == t395) = false := z84_))
              (try (have c64b3 : ¬ (t393 = t395) := z84_))
              clear c64
              obtain rfl := Option.some.inj H
              obtain ⟨Ao65, co65, eo65⟩ := Kd.R_slice HO_5.out
              subst eo65
              go_wp2_with (first | ((with_reducible refine gate_callee (f := 61) rfl ?_); refine goesL_ (some 68) rfl rfl Try.func61 (by kernel_rfl) rfl #[.slice Ao65 t378.length co65, .int .i64 x6_3] rfl z1_ ?_; (with_reducible refine (impl_MapGet.calls k3 _ _ t378 x6_3 t392 t393 _ ?side1 ?side2 A56.out).mono ?_); (case side1 => exact z107_); (case side2 => exact z121_); rintro e w66 ⟨rfl, hb⟩; refine ⟨_, rfl, ?_⟩; have n0_ := q_ (Kd.R_below z10_ hb); have n1_ := q_ (Kd.R_below z8_ hb); have n2_ := q_ (blk_below (g := gb377) (o := .cells #[.int .i64 t374, .int .i64 t375, .int .i64 t376] 67 (0, 0)) z7_ hb); have n3_ := q_ (below_step z2_ hb); clear HO_3; clear HO_5; clear BK377; clear HB; have HO_3 := n0_; have HO_5 := n1_; have BK377 := n2_; have HB := n3_; clear n0_ n1_ n2_ n3_; (try clear hb); (try clear hb2); (try clear hk); (try clear hi)) | ((with_reducible refine gate_callee (f := 61) rfl ?_); refine goesL_ (some 74) rfl rfl Try.func61 (by kernel_rfl) rfl #[.slice Ao10 t371.length co10, .int .i64 x6_3] rfl z1_ ?_; (with_reducible refine (impl_MapGet.calls k3 _ _ t371 x6_3 t394 t395 _ ?side1 ?side2 A57.out).mono ?_); (case side1 => exact z109_); (case side2 => exact z125_); rintro e w67 ⟨rfl, hb⟩; refine ⟨_, rfl, ?_⟩; have n0_ := q_ (Kd.R_below z10_ hb); have n1_ := q_ (Kd.R_below z8_ hb); have n2_ := q_ (blk_below (g := gb377) (o := .cells #[.int .i64 t374, .int .i64 t375, .int .i64 t376] 67 (0, 0)) z7_ hb); have n3_ := q_ (below_step z2_ hb); clear HO_3; clear HO_5; clear BK377; clear HB; have HO_3 := n0_; have HO_5 := n1_; have BK377 := n2_; have HB := n3_; clear n0_ n1_ n2_ n3_; (try clear hb); (try clear hb2); (try clear hk); (try clear hi); obtain ⟨hcz68_0, hcz68_1, hcz68_2, hfz68_0, hfz68_1, hfz68_2⟩ := cs3_ BK377.out))
              go_ret
              exact ⟨z5_, z2_⟩
             ·rw [if_neg c64] at H
              have c64b0 : (t393 != t395) = false := z84_
              (try (have c64b1 : decide (t393 = t395) = true := z84_))
              (try (have c64b2 : (t393 == t395) = true := z84_))
              clear c64
              have H' := q_ H
              clear H
              obtain ⟨Ao69, co69, eo69⟩ := Kd.R_slice HO_5.out
              subst eo69
              go_wp2_with (first | ((with_reducible refine gate_callee (f := 61) rfl ?_); refine goesL_ (some 68) rfl rfl Try.func61 (by kernel_rfl) rfl #[.slice Ao69 t378.length co69, .int .i64 x6_3] rfl z1_ ?_; (with_reducible refine (impl_MapGet.calls k3 _ _ t378 x6_3 t392 t393 _ ?side1 ?side2 A56.out).mono ?_); (case side1 => exact z107_); (case side2 => exact z121_); rintro e w70 ⟨rfl, hb⟩; refine ⟨_, rfl, ?_⟩; have n0_ := q_ (Kd.R_below z10_ hb); have n1_ := q_ (Kd.R_below z8_ hb); have n2_ := q_ (blk_below (g := gb377) (o := .cells #[.int .i64 t374, .int .i64 t375, .int .i64 t376] 67 (0, 0)) z7_ hb); have n3_ := q_ (below_step z2_ hb); clear HO_3; clear HO_5; clear BK377; clear HB; have HO_3 := n0_; have HO_5 := n1_; have BK377 := n2_; have HB := n3_; clear n0_ n1_ n2_ n3_; (try clear hb); (try clear hb2); (try clear hk); (try clear hi)) | ((with_reducible refine gate_callee (f := 61) rfl ?_); refine goesL_ (some 74) rfl rfl Try.func61 (by kernel_rfl) rfl #[.slice Ao10 t371.length co10, .int .i64 x6_3] rfl z1_ ?_; (with_reducible refine (impl_MapGet.calls k3 _ _ t371 x6_3 t394 t395 _ ?side1 ?side2 A57.out).mono ?_); (case side1 => exact z109_); (case side2 => exact z125_); rintro e w71 ⟨rfl, hb⟩; refine ⟨_, rfl, ?_⟩; have n0_ := q_ (Kd.R_below z10_ hb); have n1_ := q_ (Kd.R_below z8_ hb); have n2_ := q_ (blk_below (g := gb377) (o := .cells #[.int .i64 t374, .int .i64 t375, .int .i64 t376] 67 (0, 0)) z7_ hb); have n3_ := q_ (below_step z2_ hb); clear HO_3; clear HO_5; clear BK377; clear HB; have HO_3 := n0_; have HO_5 := n1_; have BK377 := n2_; have HB := n3_; clear n0_ n1_ n2_ n3_; (try clear hb); (try clear hb2); (try clear hk); (try clear hi); obtain ⟨hcz72_0, hcz72_1, hcz72_2, hfz72_0, hfz72_1, hfz72_2⟩ := cs3_ BK377.out))
              go_roundg k3
              case measure => have := HJ5.out; have := HJ38.out; have := HK3.out; omega
              case rel => exact ⟨(wrap64 (x6_3 + 1)), z11_, H', ⟨z81_⟩, ⟨z10_⟩, ⟨z8_⟩, ⟨z7_⟩, ⟨z2_⟩⟩
            ·rw [if_neg c63] at H
             have c63b0 : (t392 == t394) = false := beq_eq_false_iff_ne.mpr c63
             have c63b1 : (t392 != t394) = true := bne_iff_ne.mpr c63
             obtain rfl := Option.some.inj H
             obtain ⟨Ao73, co73, eo73⟩ := Kd.R_slice HO_5.out
             subst eo73
             go_wp2_with (first | ((with_reducible refine gate_callee (f := 61) rfl ?_); refine goesL_ (some 68) rfl rfl Try.func61 (by kernel_rfl) rfl #[.slice Ao73 t378.length co73, .int .i64 x6_3] rfl z1_ ?_; (with_reducible refine (impl_MapGet.calls k3 _ _ t378 x6_3 t392 t393 _ ?side1 ?side2 A56.out).mono ?_); (case side1 => exact z107_); (case side2 => exact z121_); rintro e w74 ⟨rfl, hb⟩; refine ⟨_, rfl, ?_⟩; have n0_ := q_ (Kd.R_below z10_ hb); have n1_ := q_ (Kd.R_below z8_ hb); have n2_ := q_ (blk_below (g := gb377) (o := .cells #[.int .i64 t374, .int .i64 t375, .int .i64 t376] 67 (0, 0)) z7_ hb); have n3_ := q_ (below_step z2_ hb); clear HO_3; clear HO_5; clear BK377; clear HB; have HO_3 := n0_; have HO_5 := n1_; have BK377 := n2_; have HB := n3_; clear n0_ n1_ n2_ n3_; (try clear hb); (try clear hb2); (try clear hk); (try clear hi)) | ((with_reducible refine gate_callee (f := 61) rfl ?_); refine goesL_ (some 74) rfl rfl Try.func61 (by kernel_rfl) rfl #[.slice Ao10 t371.length co10, .int .i64 x6_3] rfl z1_ ?_; (with_reducible refine (impl_MapGet.calls k3 _ _ t371 x6_3 t394 t395 _ ?side1 ?side2 A57.out).mono ?_); (case side1 => exact z109_); (case side2 => exact z125_); rintro e w75 ⟨rfl, hb⟩; refine ⟨_, rfl, ?_⟩; have n0_ := q_ (Kd.R_below z10_ hb); have n1_ := q_ (Kd.R_below z8_ hb); have n2_ := q_ (blk_below (g := gb377) (o := .cells #[.int .i64 t374, .int .i64 t375, .int .i64 t376] 67 (0, 0)) z7_ hb); have n3_ := q_ (below_step z2_ hb); clear HO_3; clear HO_5; clear BK377; clear HB; have HO_3 := n0_; have HO_5 := n1_; have BK377 := n2_; have HB := n3_; clear n0_ n1_ n2_ n3_; (try clear hb); (try clear hb2); (try clear hk); (try clear hi); obtain ⟨hcz76_0, hcz76_1, hcz76_2, hfz76_0, hfz76_1, hfz76_2⟩ := cs3_ BK377.out))
             go_ret
             exact ⟨z5_, z2_⟩
          ·rw [if_neg c55] at H
           have c55b0 : decide (x6_3 < 31) = false := decide_eq_false c55
           clear c55
           replace H := Option.bind_eq_some_iff.mp H
           obtain ⟨⟨t396, t397⟩, A770, H⟩ := H
           replace H : ((impl_MapGet.f k3 t371 t375).bind fun bt398 => (if t374 = 1 then (if t397 = true then (some (t396 == t376)) else (some false)) else (if t374 = 2 then (some (!t397)) else (if t397 = true then (if t396 = (wrap64 (bt398.1 + t376)) then ((impl_MapOk.f k3 t378).bind fun t400 => (some t400)) else (if t396 = 1000000000 then ((impl_MapOk.f k3 t378).bind fun t401 => (some t401)) else (if t396 = (-1000000000) then ((impl_MapOk.f k3 t378).bind fun t402 => (some t402)) else (some false)))) else (some false))))) = some r := H
           have A77 := q_ A770
           clear A770
           replace H := Option.bind_eq_some_iff.mp H
           obtain ⟨⟨t398, t399⟩, A780, H⟩ := H
           replace H : (if t374 = 1 then (if t397 = true then (some (t396 == t376)) else (some false)) else (if t374 = 2 then (some (!t397)) else (if t397 = true then (if t396 = (wrap64 (t398 + t376)) then ((impl_MapOk.f k3 t378).bind fun t400 => (some t400)) else (if t396 = 1000000000 then ((impl_MapOk.f k3 t378).bind fun t401 => (some t401)) else (if t396 = (-1000000000) then ((impl_MapOk.f k3 t378).bind fun t402 => (some t402)) else (some false)))) else (some false)))) = some r := H
           have A78 := q_ A780
           clear A780
           by_cases c79 : t374 = 1
           ·rw [if_pos c79] at H
            have c79b0 : (t374 == 1) = true := beq_iff_eq.mpr c79
            have c79b1 : (t374 != 1) = false := bne_eq_false_iff_eq.mpr c79
            clear c79
            by_cases c80 : t397 = true
            ·subst c80
             have H1 : (some (t396 == t376)) = some r := z49_
             clear H
             have H := H1
             clear H1
             obtain rfl := Option.some.inj H
             obtain ⟨hcz81_0, hcz81_1, hcz81_2, hfz81_0, hfz81_1, hfz81_2⟩ := cs3_ BK377.out
             obtain ⟨Ao82, co82, eo82⟩ := Kd.R_slice HO_5.out
             subst eo82
             go_wp2_with (first | ((with_reducible refine gate_callee (f := 61) rfl ?_); refine goesL_ (some 95) rfl rfl Try.func61 (by kernel_rfl) rfl #[.slice Ao82 t378.length co82, .int .i64 t375] rfl z1_ ?_; (with_reducible refine (impl_MapGet.calls k3 _ _ t378 t375 t396 true _ ?side1 ?side2 A77.out).mono ?_); (case side1 => exact z107_); (case side2 => exact z121_); rintro e w83 ⟨rfl, hb⟩; refine ⟨_, rfl, ?_⟩; have n0_ := q_ (Kd.R_below z10_ hb); have n1_ := q_ (Kd.R_below z8_ hb); have n2_ := q_ (blk_below (g := gb377) (o := .cells #[.int .i64 t374, .int .i64 t375, .int .i64 t376] 67 (0, 0)) z7_ hb); have n3_ := q_ (below_step z2_ hb); clear HO_3; clear HO_5; clear BK377; clear HB; have HO_3 := n0_; have HO_5 := n1_; have BK377 := n2_; have HB := n3_; clear n0_ n1_ n2_ n3_; (try clear hb); (try clear hb2); (try clear hk); (try clear hi); obtain ⟨hcz84_0, hcz84_1, hcz84_2, hfz84_0, hfz84_1, hfz84_2⟩ := cs3_ BK377.out) | ((with_reducible refine gate_callee (f := 61) rfl ?_); refine goesL_ (some 102) rfl rfl Try.func61 (by kernel_rfl) rfl #[.slice Ao10 t371.length co10, .int .i64 t375] rfl z1_ ?_; (with_reducible refine (impl_MapGet.calls k3 _ _ t371 t375 t398 t399 _ ?side1 ?side2 A78.out).mono ?_); (case side1 => exact z109_); (case side2 => exact z125_); rintro e w85 ⟨rfl, hb⟩; refine ⟨_, rfl, ?_⟩; have n0_ := q_ (Kd.R_below z10_ hb); have n1_ := q_ (Kd.R_below z8_ hb); have n2_ := q_ (blk_below (g := gb377) (o := .cells #[.int .i64 t374, .int .i64 t375, .int .i64 t376] 67 (0, 0)) z7_ hb); have n3_ := q_ (below_step z2_ hb); clear HO_3; clear HO_5; clear BK377; clear HB; have HO_3 := n0_; have HO_5 := n1_; have BK377 := n2_; have HB := n3_; clear n0_ n1_ n2_ n3_; (try clear hb); (try clear hb2); (try clear hk); (try clear hi); obtain ⟨hcz86_0, hcz86_1, hcz86_2, hfz86_0, hfz86_1, hfz86_2⟩ := cs3_ BK377.out))
             go_ret
             exact ⟨z5_, z2_⟩
            ·replace c80 := Bool.eq_false_iff.mpr c80
             subst c80
             have H1 : (some false) = some r := by rw [if_neg (show ¬ (false = true) by decide)] at H; exact H
             clear H
             have H := H1
             clear H1
             obtain rfl := Option.some.inj H
             obtain ⟨hcz87_0, hcz87_1, hcz87_2, hfz87_0, hfz87_1, hfz87_2⟩ := cs3_ BK377.out
             obtain ⟨Ao88, co88, eo88⟩ := Kd.R_slice HO_5.out
             subst eo88
             go_wp2_with (first | ((with_reducible refine gate_callee (f := 61) rfl ?_); refine goesL_ (some 95) rfl rfl Try.func61 (by kernel_rfl) rfl #[.slice Ao88 t378.length co88, .int .i64 t375] rfl z1_ ?_; (with_reducible refine (impl_MapGet.calls k3 _ _ t378 t375 t396 false _ ?side1 ?side2 A77.out).mono ?_); (case side1 => exact z107_); (case side2 => exact z121_); rintro e w89 ⟨rfl, hb⟩; refine ⟨_, rfl, ?_⟩; have n0_ := q_ (Kd.R_below z10_ hb); have n1_ := q_ (Kd.R_below z8_ hb); have n2_ := q_ (blk_below (g := gb377) (o := .cells #[.int .i64 t374, .int .i64 t375, .int .i64 t376] 67 (0, 0)) z7_ hb); have n3_ := q_ (below_step z2_ hb); clear HO_3; clear HO_5; clear BK377; clear HB; have HO_3 := n0_; have HO_5 := n1_; have BK377 := n2_; have HB := n3_; clear n0_ n1_ n2_ n3_; (try clear hb); (try clear hb2); (try clear hk); (try clear hi); obtain ⟨hcz90_0, hcz90_1, hcz90_2, hfz90_0, hfz90_1, hfz90_2⟩ := cs3_ BK377.out) | ((with_reducible refine gate_callee (f := 61) rfl ?_); refine goesL_ (some 102) rfl rfl Try.func61 (by kernel_rfl) rfl #[.slice Ao10 t371.length co10, .int .i64 t375] rfl z1_ ?_; (with_reducible refine (impl_MapGet.calls k3 _ _ t371 t375 t398 t399 _ ?side1 ?side2 A78.out).mono ?_); (case side1 => exact z109_); (case side2 => exact z125_); rintro e w91 ⟨rfl, hb⟩; refine ⟨_, rfl, ?_⟩; have n0_ := q_ (Kd.R_below z10_ hb); have n1_ := q_ (Kd.R_below z8_ hb); have n2_ := q_ (blk_below (g := gb377) (o := .cells #[.int .i64 t374, .int .i64 t375, .int .i64 t376] 67 (0, 0)) z7_ hb); have n3_ := q_ (below_step z2_ hb); clear HO_3; clear HO_5; clear BK377; clear HB; have HO_3 := n0_; have HO_5 := n1_; have BK377 := n2_; have HB := n3_; clear n0_ n1_ n2_ n3_; (try clear hb); (try clear hb2); (try clear hk); (try clear hi); obtain ⟨hcz92_0, hcz92_1, hcz92_2, hfz92_0, hfz92_1, hfz92_2⟩ := cs3_ BK377.out))
             go_ret
             exact ⟨z5_, z2_⟩
           ·rw [if_neg c79] at H
            have c79b0 : (t374 == 1) = false := beq_eq_false_iff_ne.mpr c79
            have c79b1 : (t374 != 1) = true := bne_iff_ne.mpr c79
            by_cases c93 : t374 = 2
            ·rw [if_pos c93] at H
             have c93b0 : (t374 == 2) = true := beq_iff_eq.mpr c93
             have c93b1 : (t374 != 2) = false := bne_eq_false_iff_eq.mpr c93
             clear c93
             obtain rfl := Option.some.inj H
             obtain ⟨hcz94_0, hcz94_1, hcz94_2, hfz94_0, hfz94_1, hfz94_2⟩ := cs3_ BK377.out
             obtain ⟨Ao95, co95, eo95⟩ := Kd.R_slice HO_5.out
             subst eo95
             go_wp2_with (first | ((with_reducible refine gate_callee (f := 61) rfl ?_); refine goesL_ (some 95) rfl rfl Try.func61 (by kernel_rfl) rfl #[.slice Ao95 t378.length co95, .int .i64 t375] rfl z1_ ?_; (with_reducible refine (impl_MapGet.calls k3 _ _ t378 t375 t396 t397 _ ?side1 ?side2 A77.out).mono ?_); (case side1 => exact z107_); (case side2 => exact z121_); rintro e w96 ⟨rfl, hb⟩; refine ⟨_, rfl, ?_⟩; have n0_ := q_ (Kd.R_below z10_ hb); have n1_ := q_ (Kd.R_below z8_ hb); have n2_ := q_ (blk_below (g := gb377) (o := .cells #[.int .i64 t374, .int .i64 t375, .int .i64 t376] 67 (0, 0)) z7_ hb); have n3_ := q_ (below_step z2_ hb); clear HO_3; clear HO_5; clear BK377; clear HB; have HO_3 := n0_; have HO_5 := n1_; have BK377 := n2_; have HB := n3_; clear n0_ n1_ n2_ n3_; (try clear hb); (try clear hb2); (try clear hk); (try clear hi); obtain ⟨hcz97_0, hcz97_1, hcz97_2, hfz97_0, hfz97_1, hfz97_2⟩ := cs3_ BK377.out) | ((with_reducible refine gate_callee (f := 61) rfl ?_); refine goesL_ (some 102) rfl rfl Try.func61 (by kernel_rfl) rfl #[.slice Ao10 t371.length co10, .int .i64 t375] rfl z1_ ?_; (with_reducible refine (impl_MapGet.calls k3 _ _ t371 t375 t398 t399 _ ?side1 ?side2 A78.out).mono ?_); (case side1 => exact z109_); (case side2 => exact z125_); rintro e w98 ⟨rfl, hb⟩; refine ⟨_, rfl, ?_⟩; have n0_ := q_ (Kd.R_below z10_ hb); have n1_ := q_ (Kd.R_below z8_ hb); have n2_ := q_ (blk_below (g := gb377) (o := .cells #[.int .i64 t374, .int .i64 t375, .int .i64 t376] 67 (0, 0)) z7_ hb); have n3_ := q_ (below_step z2_ hb); clear HO_3; clear HO_5; clear BK377; clear HB; have HO_3 := n0_; have HO_5 := n1_; have BK377 := n2_; have HB := n3_; clear n0_ n1_ n2_ n3_; (try clear hb); (try clear hb2); (try clear hk); (try clear hi); obtain ⟨hcz99_0, hcz99_1, hcz99_2, hfz99_0, hfz99_1, hfz99_2⟩ := cs3_ BK377.out))
             go_ret
             exact ⟨z5_, z2_⟩
            ·rw [if_neg c93] at H
             have c93b0 : (t374 == 2) = false := beq_eq_false_iff_ne.mpr c93
             have c93b1 : (t374 != 2) = true := bne_iff_ne.mpr c93
             by_cases c100 : t397 = true
             ·subst c100
              have H1 : (if t396 = (wrap64 (t398 + t376)) then ((impl_MapOk.f k3 t378).bind fun t400 => (some t400)) else (if t396 = 1000000000 then ((impl_MapOk.f k3 t378).bind fun t401 => (some t401)) else (if t396 = (-1000000000) then ((impl_MapOk.f k3 t378).bind fun t402 => (some t402)) else (some false)))) = some r := z49_
              clear H
              have H := H1
              clear H1
              by_cases c101 : t396 = (wrap64 (t398 + t376))
              ·rw [if_pos c101] at H
               have c101b0 : (t396 == (wrap64 (t398 + t376))) = true := beq_iff_eq.mpr c101
               have c101b1 : (t396 != (wrap64 (t398 + t376))) = false := bne_eq_false_iff_eq.mpr c101
               clear c101
               replace H := Option.bind_eq_some_iff.mp H
               obtain ⟨t400, A1020, H⟩ := H
               replace H : (some t400) = some r := H
               have A102 := q_ A1020
               clear A1020
               obtain rfl := Option.some.inj H
               obtain ⟨hcz103_0, hcz103_1, hcz103_2, hfz103_0, hfz103_1, hfz103_2⟩ := cs3_ BK377.out
               obtain ⟨Ao104, co104, eo104⟩ := Kd.R_slice HO_5.out
               subst eo104
               go_wp2_with (first | ((with_reducible refine gate_callee (f := 61) rfl ?_); refine goesL_ (some 95) rfl rfl Try.func61 (by kernel_rfl) rfl #[.slice Ao104 t378.length co104, .int .i64 t375] rfl z1_ ?_; (with_reducible refine (impl_MapGet.calls k3 _ _ t378 t375 t396 true _ ?side1 ?side2 A77.out).mono ?_); (case side1 => exact z107_); (case side2 => exact z121_); rintro e w105 ⟨rfl, hb⟩; refine ⟨_, rfl, ?_⟩; have n0_ := q_ (Kd.R_below z10_ hb); have n1_ := q_ (Kd.R_below z8_ hb); have n2_ := q_ (blk_below (g := gb377) (o := .cells #[.int .i64 t374, .int .i64 t375, .int .i64 t376] 67 (0, 0)) z7_ hb); have n3_ := q_ (below_step z2_ hb); clear HO_3; clear HO_5; clear BK377; clear HB; have HO_3 := n0_; have HO_5 := n1_; have BK377 := n2_; have HB := n3_; clear n0_ n1_ n2_ n3_; (try clear hb); (try clear hb2); (try clear hk); (try clear hi); obtain ⟨hcz106_0, hcz106_1, hcz106_2, hfz106_0, hfz106_1, hfz106_2⟩ := cs3_ BK377.out) | ((with_reducible refine gate_callee (f := 61) rfl ?_); refine goesL_ (some 102) rfl rfl Try.func61 (by kernel_rfl) rfl #[.slice Ao10 t371.length co10, .int .i64 t375] rfl z1_ ?_; (with_reducible refine (impl_MapGet.calls k3 _ _ t371 t375 t398 t399 _ ?side1 ?side2 A78.out).mono ?_); (case side1 => exact z109_); (case side2 => exact z125_); rintro e w107 ⟨rfl, hb⟩; refine ⟨_, rfl, ?_⟩; have n0_ := q_ (Kd.R_below z10_ hb); have n1_ := q_ (Kd.R_below z8_ hb); have n2_ := q_ (blk_below (g := gb377) (o := .cells #[.int .i64 t374, .int .i64 t375, .int .i64 t376] 67 (0, 0)) z7_ hb); have n3_ := q_ (below_step z2_ hb); clear HO_3; clear HO_5; clear BK377; clear HB; have HO_3 := n0_; have HO_5 := n1_; have BK377 := n2_; have HB := n3_; clear n0_ n1_ n2_ n3_; (try clear hb); (try clear hb2); (try clear hk); (try clear hi); obtain ⟨hcz108_0, hcz108_1, hcz108_2, hfz108_0, hfz108_1, hfz108_2⟩ := cs3_ BK377.out) | (go_at_call 57; (with_reducible refine (impl_MapOk.calls k3 _ _ t378 t400 _ ?side1 ?side2 A102.out).mono ?_); (case side1 => exact z107_); (case side2 => exact z121_); rintro e w109 ⟨rfl, hb⟩; have n0_ := q_ (Kd.R_below z10_ hb); have n1_ := q_ (Kd.R_below z8_ hb); have n2_ := q_ (below_step z0_ hb); clear HO_3; clear HO_5; clear HB; have HO_3 := n0_; have HO_5 := n1_; have HB := n2_; clear n0_ n1_ n2_; (try clear hb); (try clear hb2); (try clear hk); (try clear hi)))
               go_ret
               exact ⟨z5_, z0_⟩
              ·rw [if_neg c101] at H
               have c101b0 : (t396 == (wrap64 (t398 + t376))) = false := beq_eq_false_iff_ne.mpr c101
               have c101b1 : (t396 != (wrap64 (t398 + t376))) = true := bne_iff_ne.mpr c101
               by_cases c110 : t396 = 1000000000
               ·rw [if_pos c110] at H
                have c110b0 : (t396 == 1000000000) = true := beq_iff_eq.mpr c110
                have c110b1 : (t396 != 1000000000) = false := bne_eq_false_iff_eq.mpr c110
                clear c110
                replace H := Option.bind_eq_some_iff.mp H
                obtain ⟨t401, A1110, H⟩ := H
                replace H : (some t401) = some r := H
                have A111 := q_ A1110
                clear A1110
                obtain rfl := Option.some.inj H
                obtain ⟨hcz112_0, hcz112_1, hcz112_2, hfz112_0, hfz112_1, hfz112_2⟩ := cs3_ BK377.out
                obtain ⟨Ao113, co113, eo113⟩ := Kd.R_slice HO_5.out
                subst eo113
                go_wp2_with (first | ((with_reducible refine gate_callee (f := 61) rfl ?_); refine goesL_ (some 95) rfl rfl Try.func61 (by kernel_rfl) rfl #[.slice Ao113 t378.length co113, .int .i64 t375] rfl z1_ ?_; (with_reducible refine (impl_MapGet.calls k3 _ _ t378 t375 t396 true _ ?side1 ?side2 A77.out).mono ?_); (case side1 => exact z107_); (case side2 => exact z121_); rintro e w114 ⟨rfl, hb⟩; refine ⟨_, rfl, ?_⟩; have n0_ := q_ (Kd.R_below z10_ hb); have n1_ := q_ (Kd.R_below z8_ hb); have n2_ := q_ (blk_below (g := gb377) (o := .cells #[.int .i64 t374, .int .i64 t375, .int .i64 t376] 67 (0, 0)) z7_ hb); have n3_ := q_ (below_step z2_ hb); clear HO_3; clear HO_5; clear BK377; clear HB; have HO_3 := n0_; have HO_5 := n1_; have BK377 := n2_; have HB := n3_; clear n0_ n1_ n2_ n3_; (try clear hb); (try clear hb2); (try clear hk); (try clear hi); obtain ⟨hcz115_0, hcz115_1, hcz115_2, hfz115_0, hfz115_1, hfz115_2⟩ := cs3_ BK377.out) | ((with_reducible refine gate_callee (f := 61) rfl ?_); refine goesL_ (some 102) rfl rfl Try.func61 (by kernel_rfl) rfl #[.slice Ao10 t371.length co10, .int .i64 t375] rfl z1_ ?_; (with_reducible refine (impl_MapGet.calls k3 _ _ t371 t375 t398 t399 _ ?side1 ?side2 A78.out).mono ?_); (case side1 => exact z109_); (case side2 => exact z125_); rintro e w116 ⟨rfl, hb⟩; refine ⟨_, rfl, ?_⟩; have n0_ := q_ (Kd.R_below z10_ hb); have n1_ := q_ (Kd.R_below z8_ hb); have n2_ := q_ (blk_below (g := gb377) (o := .cells #[.int .i64 t374, .int .i64 t375, .int .i64 t376] 67 (0, 0)) z7_ hb); have n3_ := q_ (below_step z2_ hb); clear HO_3; clear HO_5; clear BK377; clear HB; have HO_3 := n0_; have HO_5 := n1_; have BK377 := n2_; have HB := n3_; clear n0_ n1_ n2_ n3_; (try clear hb); (try clear hb2); (try clear hk); (try clear hi); obtain ⟨hcz117_0, hcz117_1, hcz117_2, hfz117_0, hfz117_1, hfz117_2⟩ := cs3_ BK377.out) | (go_at_call 57; (with_reducible refine (impl_MapOk.calls k3 _ _ t378 t401 _ ?side1 ?side2 A111.out).mono ?_); (case side1 => exact z107_); (case side2 => exact z121_); rintro e w118 ⟨rfl, hb⟩; have n0_ := q_ (Kd.R_below z10_ hb); have n1_ := q_ (Kd.R_below z8_ hb); have n2_ := q_ (below_step z0_ hb); clear HO_3; clear HO_5; clear HB; have HO_3 := n0_; have HO_5 := n1_; have HB := n2_; clear n0_ n1_ n2_; (try clear hb); (try clear hb2); (try clear hk); (try clear hi)))
                go_ret
                exact ⟨z5_, z0_⟩
               ·rw [if_neg c110] at H
                have c110b0 : (t396 == 1000000000) = false := beq_eq_false_iff_ne.mpr c110
                have c110b1 : (t396 != 1000000000) = true := bne_iff_ne.mpr c110
                by_cases c119 : t396 = (-1000000000)
                ·rw [if_pos c119] at H
                 have c119b0 : (t396 == (-1000000000)) = true := beq_iff_eq.mpr c119
                 have c119b1 : (t396 != (-1000000000)) = false := bne_eq_false_iff_eq.mpr c119
                 clear c119
                 replace H := Option.bind_eq_some_iff.mp H
                 obtain ⟨t402, A1200, H⟩ := H
                 replace H : (some t402) = some r := H
                 have A120 := q_ A1200
                 clear A1200
                 obtain rfl := Option.some.inj H
                 obtain ⟨hcz121_0, hcz121_1, hcz121_2, hfz121_0, hfz121_1, hfz121_2⟩ := cs3_ BK377.out
                 obtain ⟨Ao122, co122, eo122⟩ := Kd.R_slice HO_5.out
                 subst eo122
                 go_wp2_with (first | ((with_reducible refine gate_callee (f := 61) rfl ?_); refine goesL_ (some 95) rfl rfl Try.func61 (by kernel_rfl) rfl #[.slice Ao122 t378.length co122, .int .i64 t375] rfl z1_ ?_; (with_reducible refine (impl_MapGet.calls k3 _ _ t378 t375 t396 true _ ?side1 ?side2 A77.out).mono ?_); (case side1 => exact z107_); (case side2 => exact z121_); rintro e w123 ⟨rfl, hb⟩; refine ⟨_, rfl, ?_⟩; have n0_ := q_ (Kd.R_below z10_ hb); have n1_ := q_ (Kd.R_below z8_ hb); have n2_ := q_ (blk_below (g := gb377) (o := .cells #[.int .i64 t374, .int .i64 t375, .int .i64 t376] 67 (0, 0)) z7_ hb); have n3_ := q_ (below_step z2_ hb); clear HO_3; clear HO_5; clear BK377; clear HB; have HO_3 := n0_; have HO_5 := n1_; have BK377 := n2_; have HB := n3_; clear n0_ n1_ n2_ n3_; (try clear hb); (try clear hb2); (try clear hk); (try clear hi); obtain ⟨hcz124_0, hcz124_1, hcz124_2, hfz124_0, hfz124_1, hfz124_2⟩ := cs3_ BK377.out) | ((with_reducible refine gate_callee (f := 61) rfl ?_); refine goesL_ (some 102) rfl rfl Try.func61 (by kernel_rfl) rfl #[.slice Ao10 t371.length co10, .int .i64 t375] rfl z1_ ?_; (with_reducible refine (impl_MapGet.calls k3 _ _ t371 t375 t398 t399 _ ?side1 ?side2 A78.out).mono ?_); (case side1 => exact z109_); (case side2 => exact z125_); rintro e w125 ⟨rfl, hb⟩; refine ⟨_, rfl, ?_⟩; have n0_ := q_ (Kd.R_below z10_ hb); have n1_ := q_ (Kd.R_below z8_ hb); have n2_ := q_ (blk_below (g := gb377) (o := .cells #[.int .i64 t374, .int .i64 t375, .int .i64 t376] 67 (0, 0)) z7_ hb); have n3_ := q_ (below_step z2_ hb); clear HO_3; clear HO_5; clear BK377; clear HB; have HO_3 := n0_; have HO_5 := n1_; have BK377 := n2_; have HB := n3_; clear n0_ n1_ n2_ n3_; (try clear hb); (try clear hb2); (try clear hk); (try clear hi); obtain ⟨hcz126_0, hcz126_1, hcz126_2, hfz126_0, hfz126_1, hfz126_2⟩ := cs3_ BK377.out) | (go_at_call 57; (with_reducible refine (impl_MapOk.calls k3 _ _ t378 t402 _ ?side1 ?side2 A120.out).mono ?_); (case side1 => exact z107_); (case side2 => exact z121_); rintro e w127 ⟨rfl, hb⟩; have n0_ := q_ (Kd.R_below z10_ hb); have n1_ := q_ (Kd.R_below z8_ hb); have n2_ := q_ (below_step z0_ hb); clear HO_3; clear HO_5; clear HB; have HO_3 := n0_; have HO_5 := n1_; have HB := n2_; clear n0_ n1_ n2_; (try clear hb); (try clear hb2); (try clear hk); (try clear hi)))
                 go_ret
                 exact ⟨z5_, z0_⟩
                ·rw [if_neg c119] at H
                 have c119b0 : (t396 == (-1000000000)) = false := beq_eq_false_iff_ne.mpr c119
                 have c119b1 : (t396 != (-1000000000)) = true := bne_iff_ne.mpr c119
                 obtain rfl := Option.some.inj H
                 obtain ⟨hcz128_0, hcz128_1, hcz128_2, hfz128_0, hfz128_1, hfz128_2⟩ := cs3_ BK377.out
                 obtain ⟨Ao129, co129, eo129⟩ := Kd.R_slice HO_5.out
                 subst eo129
                 go_wp2_with (first | ((with_reducible refine gate_callee (f := 61) rfl ?_); refine goesL_ (some 95) rfl rfl Try.func61 (by kernel_rfl) rfl #[.slice Ao129 t378.length co129, .int .i64 t375] rfl z1_ ?_; (with_reducible refine (impl_MapGet.calls k3 _ _ t378 t375 t396 true _ ?side1 ?side2 A77.out).mono ?_); (case side1 => exact z107_); (case side2 => exact z121_); rintro e w130 ⟨rfl, hb⟩; refine ⟨_, rfl, ?_⟩; have n0_ := q_ (Kd.R_below z10_ hb); have n1_ := q_ (Kd.R_below z8_ hb); have n2_ := q_ (blk_below (g := gb377) (o := .cells #[.int .i64 t374, .int .i64 t375, .int .i64 t376] 67 (0, 0)) z7_ hb); have n3_ := q_ (below_step z2_ hb); clear HO_3; clear HO_5; clear BK377; clear HB; have HO_3 := n0_; have HO_5 := n1_; have BK377 := n2_; have HB := n3_; clear n0_ n1_ n2_ n3_; (try clear hb); (try clear hb2); (try clear hk); (try clear hi); obtain ⟨hcz131_0, hcz131_1, hcz131_2, hfz131_0, hfz131_1, hfz131_2⟩ := cs3_ BK377.out) | ((with_reducible refine gate_callee (f := 61) rfl ?_); refine goesL_ (some 102) rfl rfl Try.func61 (by kernel_rfl) rfl #[.slice Ao10 t371.length co10, .int .i64 t375] rfl z1_ ?_; (with_reducible refine (impl_MapGet.calls k3 _ _ t371 t375 t398 t399 _ ?side1 ?side2 A78.out).mono ?_); (case side1 => exact z109_); (case side2 => exact z125_); rintro e w132 ⟨rfl, hb⟩; refine ⟨_, rfl, ?_⟩; have n0_ := q_ (Kd.R_below z10_ hb); have n1_ := q_ (Kd.R_below z8_ hb); have n2_ := q_ (blk_below (g := gb377) (o := .cells #[.int .i64 t374, .int .i64 t375, .int .i64 t376] 67 (0, 0)) z7_ hb); have n3_ := q_ (below_step z2_ hb); clear HO_3; clear HO_5; clear BK377; clear HB; have HO_3 := n0_; have HO_5 := n1_; have BK377 := n2_; have HB := n3_; clear n0_ n1_ n2_ n3_; (try clear hb); (try clear hb2); (try clear hk); (try clear hi); obtain ⟨hcz133_0, hcz133_1, hcz133_2, hfz133_0, hfz133_1, hfz133_2⟩ := cs3_ BK377.out))
                 go_ret
                 exact ⟨z5_, z2_⟩
             ·replace c100 := Bool.eq_false_iff.mpr c100
              subst c100
              have H1 : (some false) = some r := by rw [if_neg (show ¬ (false = true) by decide)] at H; exact H
              clear H
              have H := H1
              clear H1
              obtain rfl := Option.some.inj H
              obtain ⟨hcz134_0, hcz134_1, hcz134_2, hfz134_0, hfz134_1, hfz134_2⟩ := cs3_ BK377.out
              obtain ⟨Ao135, co135, eo135⟩ := Kd.R_slice HO_5.out
              subst eo135
              go_wp2_with (first | ((with_reducible refine gate_callee (f := 61) rfl ?_); refine goesL_ (some 95) rfl rfl Try.func61 (by kernel_rfl) rfl #[.slice Ao135 t378.length co135, .int .i64 t375] rfl z1_ ?_; (with_reducible refine (impl_MapGet.calls k3 _ _ t378 t375 t396 false _ ?side1 ?side2 A77.out).mono ?_); (case side1 => exact z107_); (case side2 => exact z121_); rintro e w136 ⟨rfl, hb⟩; refine ⟨_, rfl, ?_⟩; have n0_ := q_ (Kd.R_below z10_ hb); have n1_ := q_ (Kd.R_below z8_ hb); have n2_ := q_ (blk_below (g := gb377) (o := .cells #[.int .i64 t374, .int .i64 t375, .int .i64 t376] 67 (0, 0)) z7_ hb); have n3_ := q_ (below_step z2_ hb); clear HO_3; clear HO_5; clear BK377; clear HB; have HO_3 := n0_; have HO_5 := n1_; have BK377 := n2_; have HB := n3_; clear n0_ n1_ n2_ n3_; (try clear hb); (try clear hb2); (try clear hk); (try clear hi); obtain ⟨hcz137_0, hcz137_1, hcz137_2, hfz137_0, hfz137_1, hfz137_2⟩ := cs3_ BK377.out) | ((with_reducible refine gate_callee (f := 61) rfl ?_); refine goesL_ (some 102) rfl rfl Try.func61 (by kernel_rfl) rfl #[.slice Ao10 t371.length co10, .int .i64 t375] rfl z1_ ?_; (with_reducible refine (impl_MapGet.calls k3 _ _ t371 t375 t398 t399 _ ?side1 ?side2 A78.out).mono ?_); (case side1 => exact z109_); (case side2 => exact z125_); rintro e w138 ⟨rfl, hb⟩; refine ⟨_, rfl, ?_⟩; have n0_ := q_ (Kd.R_below z10_ hb); have n1_ := q_ (Kd.R_below z8_ hb); have n2_ := q_ (blk_below (g := gb377) (o := .cells #[.int .i64 t374, .int .i64 t375, .int .i64 t376] 67 (0, 0)) z7_ hb); have n3_ := q_ (below_step z2_ hb); clear HO_3; clear HO_5; clear BK377; clear HB; have HO_3 := n0_; have HO_5 := n1_; have BK377 := n2_; have HB := n3_; clear n0_ n1_ n2_ n3_; (try clear hb); (try clear hb2); (try clear hk); (try clear hi); obtain ⟨hcz139_0, hcz139_1, hcz139_2, hfz139_0, hfz139_1, hfz139_2⟩ := cs3_ BK377.out))
              go_ret
              exact ⟨z5_, z2_⟩

/-- THE ONE PURE STATEMENT of laws_FnMapped: yours. -/
def laws_FnMapped.Pure : Prop := ∀ (l0 : List Int), l0.length ≤ maxLen → l0.length * 1 ≤ 140737488351232 → (∀ x ∈ l0, (Lit.int .u8 x).wf = true) → ∃ k, laws_FnMapped.f k l0 = some true
theorem laws_FnMapped.walk (P : laws_FnMapped.Pure) (a0 : Option Addr) (len0 cap0 : Nat) (z0 : List Int) (w : World) (w0 : (a0 = none ∧ len0 = 0 ∧ cap0 = 0 ∧ z0 = []) ∨ ∃ x, a0 = some x ∧ len0 ≤ cap0 ∧ cap0 ≤ maxLen ∧ z0.length = cap0 ∧ (∀ i, i < z0.length → w.cell? (x.add i) = some (.int .u8 (z0.getD i 0))) ∧ ∀ n ∈ z0, (Lit.int .u8 n).wf = true) (y0 : len0 * 1 ≤ 140737488351232) :
  Calls Try.prog 8 #[.slice a0 len0 cap0] w fun e w' => e = .returned (.bool true) ∧ Below w.heap.size w w' := by
 obtain ⟨l0, rfl, hr0, hm0, hw0, hc0⟩ := ReadsInt.ofRowC w0
 obtain ⟨k, h⟩ := P l0 hm0 y0 hw0
 refine (laws_FnMapped.calls k _ _ l0 true w (Kd.C_of_reads (d := (0 : Int)) (h1 := fun _ => rfl) hr0) hc0 h).mono ?_
 rintro e w' ⟨rfl, hd⟩
 exact ⟨rfl, hd⟩

end Go.Proofs.Ytphlmbhjeoljoaa.PFnMapped
