-- Written by a program of this session, which goes by the kit's print. Not trusted: Lean checks it.
import Derived.Test.YtphlmbhjeoljoaaPFnLogCutx0
import Derived.Test.YtphlmbhjeoljoaaPFnLogCutx2
import Derived.Test.YtphlmbhjeoljoaaPFnLogCutx3
import Derived.Test.YtphlmbhjeoljoaaPFnLogCutx5
import Derived.Test.YtphlmbhjeoljoaaPFnLogCutx6
import Derived.Test.YtphlmbhjeoljoaaPFnLogCutx7
namespace Go.Proofs.Ytphlmbhjeoljoaa.PFnLogCut
open Go.RowKit Go.Proofs.YtphlmbhjeoljoaaW.PrintWords Go.Proofs.YtphlmbhjeoljoaaW.PrintLast Go.Proofs.YtphlmbhjeoljoaaW.PrintMore
attribute [local go_sem] max2_int min2_int max_two min_two max_three min_three max_four min_four   -- for this text's walks alone
set_option linter.unusedVariables false
set_option linter.unusedSimpArgs false

/-! ### laws_FnLogCut: function 6 -/
mutual
def laws_FnLogCut.j0 : Nat → List Int → Bool → Int → Int → List (S129) → Option (Bool)
 | 0, _, _, _, _, _ => none
 | k + 1, x0, x63, x464000, x464001, x464002 => if x63 = true then (some false) else ((spec_DrawEntriesFrom.f k x0).bind fun bt474 => ((impl_EntriesFrom.f bt474.1 bt474.2.1 bt474.2.2.1 bt474.2.2.2).bind fun t481 => ((spec_EntriesFrom.f bt474.1 bt474.2.1 bt474.2.2.1 bt474.2.2.2).bind fun t484 => (if (t481.length : Int) = (t484.length : Int) then ((impl_TermAt.f bt474.1 bt474.2.1 bt474.2.2.1 bt474.2.2.2).bind fun t487 => ((spec_TermAt.f bt474.1 bt474.2.1 bt474.2.2.1 bt474.2.2.2).bind fun t488 => (laws_FnLogCut.j1 k x0 (t487 != t488) x464000 x464001 x464002))) else (laws_FnLogCut.j1 k x0 true x464000 x464001 x464002)))))
def laws_FnLogCut.j1 : Nat → List Int → Bool → Int → Int → List (S129) → Option (Bool)
 | 0, _, _, _, _, _ => none
 | k + 1, x0, x86, x464000, x464001, x464002 => if x86 = true then (some false) else ((spec_DrawNewer.f k x0).bind fun bt489 => ((spec_LastOf.f bt489.1 bt489.2.1 bt489.2.2.1).bind fun bt497 => ((impl_Newer.f bt489.1 bt489.2.1 bt489.2.2.1 bt489.2.2.2.1 bt489.2.2.2.2).bind fun t499 => ((spec_Newer.f bt489.1 bt489.2.1 bt489.2.2.1 bt489.2.2.2.1 bt489.2.2.2.2).bind fun t500 => (if (t499 == t500) = true then ((impl_Newer.f bt489.1 bt489.2.1 bt489.2.2.1 bt497.1 bt497.2).bind fun t501 => (if t501 = true then ((impl_EntriesFrom.f x464000 x464001 x464002 (wrap64 (x464000 + 1))).bind fun t502 => (some ((t502.length : Int) == (x464002.length : Int)))) else (some false))) else (some false))))))
end
def laws_FnLogCut.f (k : Nat) (l0 : List Int) : Option (Bool) := (laws_big.f l0).bind fun t450 => (if t450 = true then (some true) else ((spec_DrawLogCut.f k l0).bind fun bt451 => ((impl_LogCut.f bt451.1 bt451.2.1 bt451.2.2.1 bt451.2.2.2).bind fun bt458 => ((spec_LogCut.f bt451.1 bt451.2.1 bt451.2.2.1 bt451.2.2.2).bind fun bt464 => ((laws_sameLog.f k bt458.1 bt458.2.1 bt458.2.2 bt464.1 bt464.2.1 bt464.2.2).bind fun t469 => (if t469 = true then ((impl_LastOf.f bt451.1 bt451.2.1 bt451.2.2.1).bind fun bt470 => ((impl_LastOf.f bt458.1 bt458.2.1 bt458.2.2).bind fun bt472 => (if bt470.1 = bt472.1 then (if bt470.2 = bt472.2 then (if bt458.1 = bt451.1 then (laws_FnLogCut.j0 k l0 false bt458.1 bt458.2.1 bt458.2.2) else (laws_FnLogCut.j0 k l0 (bt458.1 != bt451.2.2.2) bt458.1 bt458.2.1 bt458.2.2)) else (laws_FnLogCut.j0 k l0 true bt458.1 bt458.2.1 bt458.2.2)) else (laws_FnLogCut.j0 k l0 true bt458.1 bt458.2.1 bt458.2.2)))) else (some false)))))))
theorem laws_FnLogCut.mono_l : ∀ k, (∀ y0 y1 y2 y3 y4, LeO (laws_FnLogCut.j0 k y0 y1 y2 y3 y4) (laws_FnLogCut.j0 (k + 1) y0 y1 y2 y3 y4)) ∧ (∀ y0 y1 y2 y3 y4, LeO (laws_FnLogCut.j1 k y0 y1 y2 y3 y4) (laws_FnLogCut.j1 (k + 1) y0 y1 y2 y3 y4))
 | 0 => ⟨fun _ _ _ _ _ r h => by simp [laws_FnLogCut.j0] at h, fun _ _ _ _ _ r h => by simp [laws_FnLogCut.j1] at h⟩
 | k + 1 => by
  obtain ⟨ih0, ih1⟩ := laws_FnLogCut.mono_l k
  refine ⟨?_, ?_⟩
  ·intro y0 y1 y2 y3 y4
   unfold laws_FnLogCut.j0
   repeat' first
   | (with_reducible exact ih0 _ _ _ _ _)
   | (with_reducible exact ih1 _ _ _ _ _)
   | (with_reducible exact laws_sameLog.mono _ _ _ _ _ _ _)
   | (with_reducible exact spec_DrawEntriesFrom.mono _ _)
   | (with_reducible exact spec_DrawLogCut.mono _ _)
   | (with_reducible exact spec_DrawNewer.mono _ _)
   | (with_reducible exact LeO.refl _)
   | (with_reducible exact LeO.none _)
   | (with_reducible refine LeO.ite ?_ ?_)
   | (with_reducible refine LeO.bind ?_ (fun _ => ?_))
   | exact ih0 _ _ _ _ _
   | exact ih1 _ _ _ _ _
   | exact laws_sameLog.mono _ _ _ _ _ _ _
   | exact spec_DrawEntriesFrom.mono _ _
   | exact spec_DrawLogCut.mono _ _
   | exact spec_DrawNewer.mono _ _
   | exact LeO.none _
   | refine LeO.ite ?_ ?_
   | refine LeO.bind ?_ (fun _ => ?_)
  ·intro y0 y1 y2 y3 y4
   unfold laws_FnLogCut.j1
   repeat' first
   | (with_reducible exact ih0 _ _ _ _ _)
   | (with_reducible exact ih1 _ _ _ _ _)
   | (with_reducible exact laws_sameLog.mono _ _ _ _ _ _ _)
   | (with_reducible exact spec_DrawEntriesFrom.mono _ _)
   | (with_reducible exact spec_DrawLogCut.mono _ _)
   | (with_reducible exact spec_DrawNewer.mono _ _)
   | (with_reducible exact LeO.refl _)
   | (with_reducible exact LeO.none _)
   | (with_reducible refine LeO.ite ?_ ?_)
   | (with_reducible refine LeO.bind ?_ (fun _ => ?_))
   | exact ih0 _ _ _ _ _
   | exact ih1 _ _ _ _ _
   | exact laws_sameLog.mono _ _ _ _ _ _ _
   | exact spec_DrawEntriesFrom.mono _ _
   | exact spec_DrawLogCut.mono _ _
   | exact spec_DrawNewer.mono _ _
   | exact LeO.none _
   | refine LeO.ite ?_ ?_
   | refine LeO.bind ?_ (fun _ => ?_)
theorem laws_FnLogCut.mono : ∀ a0 k, LeO (laws_FnLogCut.f k a0) (laws_FnLogCut.f (k + 1) a0) := by
 intro a0 k
 obtain ⟨ih0, ih1⟩ := laws_FnLogCut.mono_l k
 unfold laws_FnLogCut.f
 repeat' first
   | (with_reducible exact ih0 _ _ _ _ _)
   | (with_reducible exact ih1 _ _ _ _ _)
   | (with_reducible exact laws_sameLog.mono _ _ _ _ _ _ _)
   | (with_reducible exact spec_DrawEntriesFrom.mono _ _)
   | (with_reducible exact spec_DrawLogCut.mono _ _)
   | (with_reducible exact spec_DrawNewer.mono _ _)
   | (with_reducible exact LeO.refl _)
   | (with_reducible exact LeO.none _)
   | (with_reducible refine LeO.ite ?_ ?_)
   | (with_reducible refine LeO.bind ?_ (fun _ => ?_))
   | exact ih0 _ _ _ _ _
   | exact ih1 _ _ _ _ _
   | exact laws_sameLog.mono _ _ _ _ _ _ _
   | exact spec_DrawEntriesFrom.mono _ _
   | exact spec_DrawLogCut.mono _ _
   | exact spec_DrawNewer.mono _ _
   | exact LeO.none _
   | refine LeO.ite ?_ ?_
   | refine LeO.bind ?_ (fun _ => ?_)
def laws_FnLogCut.T12 : Bool × List (List Nat × List Nat) := (true, [([], []), ([], []), ([0, 1], [0, 1]), ([2], [2]), ([], []), ([], []), ([4, 5, 2], [4, 5]), ([6], [6]), ([3, 7], [3, 7]), ([8, 6], [8]), ([9], [9]), ([9], [9]), ([10, 11, 9, 9], [9, 10, 11]), ([9], [9]), ([9], [9]), ([13, 14, 12, 9], [9, 13, 14]), ([12, 15, 9], [9, 12, 15]), ([9, 16], [9, 16])])
def laws_FnLogCut.B12 : List Nat := [0, 0, 3, 7, 0, 0, 55, 119, 255, 511, 1023, 1023, 4095, 1023, 1023, 32767, 65535, 131071]
theorem laws_FnLogCut.tab12 : rtab .any (opsOf Try.f6 12) = laws_FnLogCut.T12 := by kernel_rfl
theorem laws_FnLogCut.bits12 : waitsOk laws_FnLogCut.T12.2 laws_FnLogCut.B12 = true := by kernel_rfl
def laws_FnLogCut.T16 : Bool × List (List Nat × List Nat) := (true, [([], []), ([], []), ([], []), ([0, 1, 2], [0, 1, 2]), ([], []), ([], []), ([], []), ([4, 5, 6, 3], [4, 5, 6]), ([3, 7], [3, 7]), ([8, 7], [8]), ([9], [9]), ([9], [9]), ([9], [9]), ([10, 11, 12, 9, 9], [9, 10, 11, 12]), ([9, 13], [9, 13]), ([14, 13], [14]), ([15], [15]), ([15], [15]), ([17, 15], [15, 17]), ([18, 15], [15, 18]), ([16, 19, 15, 15], [15, 16, 19]), ([20, 15], [15, 20]), ([15], [15]), ([22, 15], [15, 22]), ([23, 15], [15, 23]), ([21, 24, 15], [15, 21, 24]), ([15, 25], [15, 25]), ([26, 20, 0, 1, 2, 3, 4, 5, 6, 7, 8, 9, 10, 11, 12, 13, 14, 15, 16, 17, 18, 19, 20, 21, 22, 23, 24, 25, 26], [26])])
def laws_FnLogCut.B16 : List Nat := [0, 0, 0, 7, 0, 0, 0, 127, 255, 511, 1023, 1023, 1023, 8191, 16383, 32767, 65535, 65535, 196607, 458751, 1048575, 2097151, 65535, 4259839, 12648447, 33554431, 67108863, 134217727]
theorem laws_FnLogCut.tab16 : rtab .any (opsOf Try.f6 16) = laws_FnLogCut.T16 := by kernel_rfl
theorem laws_FnLogCut.bits16 : waitsOk laws_FnLogCut.T16.2 laws_FnLogCut.B16 = true := by kernel_rfl
set_option maxHeartbeats 8000000 in
set_option maxRecDepth 100000 in
theorem laws_FnLogCut.calls (k : Nat) (A0 : Option Addr) (c0 : Nat) (l0 : List Int) (r : Bool) (w : World) (hr0 : Kd.C (Kd.int .u8) w A0 l0.length l0) (hc0 : l0.length ≤ c0) (h : laws_FnLogCut.f k l0 = some r) :
  Calls Try.prog 6 #[.slice A0 l0.length c0] w fun e w' => e = .returned (.bool r) ∧ Below w.heap.size w w' := by
 have hu36 := Try.underlying36
 have HR0 := q_ hr0
 have HC0 := q_ hc0
 clear hr0 hc0
 have HB := q_ (Below.refl w.heap.size w)
 have H : ((laws_big.f l0).bind fun t450 => (if t450 = true then (some true) else ((spec_DrawLogCut.f k l0).bind fun bt451 => ((impl_LogCut.f bt451.1 bt451.2.1 bt451.2.2.1 bt451.2.2.2).bind fun bt458 => ((spec_LogCut.f bt451.1 bt451.2.1 bt451.2.2.1 bt451.2.2.2).bind fun bt464 => ((laws_sameLog.f k bt458.1 bt458.2.1 bt458.2.2 bt464.1 bt464.2.1 bt464.2.2).bind fun t469 => (if t469 = true then ((impl_LastOf.f bt451.1 bt451.2.1 bt451.2.2.1).bind fun bt470 => ((impl_LastOf.f bt458.1 bt458.2.1 bt458.2.2).bind fun bt472 => (if bt470.1 = bt472.1 then (if bt470.2 = bt472.2 then (if bt458.1 = bt451.1 then (laws_FnLogCut.j0 k l0 false bt458.1 bt458.2.1 bt458.2.2) else (laws_FnLogCut.j0 k l0 (bt458.1 != bt451.2.2.2) bt458.1 bt458.2.1 bt458.2.2)) else (laws_FnLogCut.j0 k l0 true bt458.1 bt458.2.1 bt458.2.2)) else (laws_FnLogCut.j0 k l0 true bt458.1 bt458.2.1 bt458.2.2)))) else (some false)))))))) = some r := h
 clear h
 replace H := Option.bind_eq_some_iff.mp H
 obtain ⟨t450, A20, H⟩ := H
 replace H : (if t450 = true then (some true) else ((spec_DrawLogCut.f k l0).bind fun bt451 => ((impl_LogCut.f bt451.1 bt451.2.1 bt451.2.2.1 bt451.2.2.2).bind fun bt458 => ((spec_LogCut.f bt451.1 bt451.2.1 bt451.2.2.1 bt451.2.2.2).bind fun bt464 => ((laws_sameLog.f k bt458.1 bt458.2.1 bt458.2.2 bt464.1 bt464.2.1 bt464.2.2).bind fun t469 => (if t469 = true then ((impl_LastOf.f bt451.1 bt451.2.1 bt451.2.2.1).bind fun bt470 => ((impl_LastOf.f bt458.1 bt458.2.1 bt458.2.2).bind fun bt472 => (if bt470.1 = bt472.1 then (if bt470.2 = bt472.2 then (if bt458.1 = bt451.1 then (laws_FnLogCut.j0 k l0 false bt458.1 bt458.2.1 bt458.2.2) else (laws_FnLogCut.j0 k l0 (bt458.1 != bt451.2.2.2) bt458.1 bt458.2.1 bt458.2.2)) else (laws_FnLogCut.j0 k l0 true bt458.1 bt458.2.1 bt458.2.2)) else (laws_FnLogCut.j0 k l0 true bt458.1 bt458.2.1 bt458.2.2)))) else (some false))))))) = some r := H
 have A2 := q_ A20
 clear A20
 by_cases c3 : t450 = true
 ·subst c3
  have H1 : (some true) = some r := z132_
  clear H
  have H := H1
  clear H1
  obtain rfl := Option.some.inj H
  go_enter Try.func6, Try.ntmps6
  go_wp2_with (first | ((with_reducible refine gate_callee (f := 34) rfl ?_); refine goesL_ (some 18) rfl rfl Try.func34 (by kernel_rfl) rfl #[.slice A0 l0.length c0] rfl z1_ ?_; (with_reducible refine (laws_big.calls _ _ l0 true _ ?side1 ?side2 A2.out).mono ?_); (case side1 => exact z216_); (case side2 => exact HC0.out); rintro e w' ⟨rfl, ⟨nd, rfl⟩⟩; refine ⟨_, rfl, ?_⟩))
  go_ret
  exact ⟨z4_, z0_⟩
 ·replace c3 := Bool.eq_false_iff.mpr c3
  subst c3
  have H1 : ((spec_DrawLogCut.f k l0).bind fun bt451 => ((impl_LogCut.f bt451.1 bt451.2.1 bt451.2.2.1 bt451.2.2.2).bind fun bt458 => ((spec_LogCut.f bt451.1 bt451.2.1 bt451.2.2.1 bt451.2.2.2).bind fun bt464 => ((laws_sameLog.f k bt458.1 bt458.2.1 bt458.2.2 bt464.1 bt464.2.1 bt464.2.2).bind fun t469 => (if t469 = true then ((impl_LastOf.f bt451.1 bt451.2.1 bt451.2.2.1).bind fun bt470 => ((impl_LastOf.f bt458.1 bt458.2.1 bt458.2.2).bind fun bt472 => (if bt470.1 = bt472.1 then (if bt470.2 = bt472.2 then (if bt458.1 = bt451.1 then (laws_FnLogCut.j0 k l0 false bt458.1 bt458.2.1 bt458.2.2) else (laws_FnLogCut.j0 k l0 (bt458.1 != bt451.2.2.2) bt458.1 bt458.2.1 bt458.2.2)) else (laws_FnLogCut.j0 k l0 true bt458.1 bt458.2.1 bt458.2.2)) else (laws_FnLogCut.j0 k l0 true bt458.1 bt458.2.1 bt458.2.2)))) else (some false)))))) = some r := by rw [if_neg (show ¬ (false = true) by decide)] at H; exact H
  clear H
  have H := H1
  clear H1
  replace H := Option.bind_eq_some_iff.mp H
  obtain ⟨⟨t451, t452, t453, t456⟩, A40, H⟩ := H
  replace H : ((impl_LogCut.f t451 t452 t453 t456).bind fun bt458 => ((spec_LogCut.f t451 t452 t453 t456).bind fun bt464 => ((laws_sameLog.f k bt458.1 bt458.2.1 bt458.2.2 bt464.1 bt464.2.1 bt464.2.2).bind fun t469 => (if t469 = true then ((impl_LastOf.f t451 t452 t453).bind fun bt470 => ((impl_LastOf.f bt458.1 bt458.2.1 bt458.2.2).bind fun bt472 => (if bt470.1 = bt472.1 then (if bt470.2 = bt472.2 then (if bt458.1 = t451 then (laws_FnLogCut.j0 k l0 false bt458.1 bt458.2.1 bt458.2.2) else (laws_FnLogCut.j0 k l0 (bt458.1 != t456) bt458.1 bt458.2.1 bt458.2.2)) else (laws_FnLogCut.j0 k l0 true bt458.1 bt458.2.1 bt458.2.2)) else (laws_FnLogCut.j0 k l0 true bt458.1 bt458.2.1 bt458.2.2)))) else (some false))))) = some r := H
  have A4 := q_ A40
  clear A40
  replace H := Option.bind_eq_some_iff.mp H
  obtain ⟨⟨t458, t459, t460⟩, A50, H⟩ := H
  replace H : ((spec_LogCut.f t451 t452 t453 t456).bind fun bt464 => ((laws_sameLog.f k t458 t459 t460 bt464.1 bt464.2.1 bt464.2.2).bind fun t469 => (if t469 = true then ((impl_LastOf.f t451 t452 t453).bind fun bt470 => ((impl_LastOf.f t458 t459 t460).bind fun bt472 => (if bt470.1 = bt472.1 then (if bt470.2 = bt472.2 then (if t458 = t451 then (laws_FnLogCut.j0 k l0 false t458 t459 t460) else (laws_FnLogCut.j0 k l0 (t458 != t456) t458 t459 t460)) else (laws_FnLogCut.j0 k l0 true t458 t459 t460)) else (laws_FnLogCut.j0 k l0 true t458 t459 t460)))) else (some false)))) = some r := H
  have A5 := q_ A50
  clear A50
  replace H := Option.bind_eq_some_iff.mp H
  obtain ⟨⟨t464, t465, t466⟩, A60, H⟩ := H
  replace H : ((laws_sameLog.f k t458 t459 t460 t464 t465 t466).bind fun t469 => (if t469 = true then ((impl_LastOf.f t451 t452 t453).bind fun bt470 => ((impl_LastOf.f t458 t459 t460).bind fun bt472 => (if bt470.1 = bt472.1 then (if bt470.2 = bt472.2 then (if t458 = t451 then (laws_FnLogCut.j0 k l0 false t458 t459 t460) else (laws_FnLogCut.j0 k l0 (t458 != t456) t458 t459 t460)) else (laws_FnLogCut.j0 k l0 true t458 t459 t460)) else (laws_FnLogCut.j0 k l0 true t458 t459 t460)))) else (some false))) = some r := H
  have A6 := q_ A60
  clear A60
  replace H := Option.bind_eq_some_iff.mp H
  obtain ⟨t469, A70, H⟩ := H
  replace H : (if t469 = true then ((impl_LastOf.f t451 t452 t453).bind fun bt470 => ((impl_LastOf.f t458 t459 t460).bind fun bt472 => (if bt470.1 = bt472.1 then (if bt470.2 = bt472.2 then (if t458 = t451 then (laws_FnLogCut.j0 k l0 false t458 t459 t460) else (laws_FnLogCut.j0 k l0 (t458 != t456) t458 t459 t460)) else (laws_FnLogCut.j0 k l0 true t458 t459 t460)) else (laws_FnLogCut.j0 k l0 true t458 t459 t460)))) else (some false)) = some r := H
  have A7 := q_ A70
  clear A70
  by_cases c8 : t469 = true
  ·subst c8
   have H1 : ((impl_LastOf.f t451 t452 t453).bind fun bt470 => ((impl_LastOf.f t458 t459 t460).bind fun bt472 => (if bt470.1 = bt472.1 then (if bt470.2 = bt472.2 then (if t458 = t451 then (laws_FnLogCut.j0 k l0 false t458 t459 t460) else (laws_FnLogCut.j0 k l0 (t458 != t456) t458 t459 t460)) else (laws_FnLogCut.j0 k l0 true t458 t459 t460)) else (laws_FnLogCut.j0 k l0 true t458 t459 t460)))) = some r := z132_
   clear H
   have H := H1
   clear H1
   replace H := Option.bind_eq_some_iff.mp H
   obtain ⟨⟨t470, t471⟩, A90, H⟩ := H
   replace H : ((impl_LastOf.f t458 t459 t460).bind fun bt472 => (if t470 = bt472.1 then (if t471 = bt472.2 then (if t458 = t451 then (laws_FnLogCut.j0 k l0 false t458 t459 t460) else (laws_FnLogCut.j0 k l0 (t458 != t456) t458 t459 t460)) else (laws_FnLogCut.j0 k l0 true t458 t459 t460)) else (laws_FnLogCut.j0 k l0 true t458 t459 t460))) = some r := H
   have A9 := q_ A90
   clear A90
   replace H := Option.bind_eq_some_iff.mp H
   obtain ⟨⟨t472, t473⟩, A100, H⟩ := H
   replace H : (if t470 = t472 then (if t471 = t473 then (if t458 = t451 then (laws_FnLogCut.j0 k l0 false t458 t459 t460) else (laws_FnLogCut.j0 k l0 (t458 != t456) t458 t459 t460)) else (laws_FnLogCut.j0 k l0 true t458 t459 t460)) else (laws_FnLogCut.j0 k l0 true t458 t459 t460)) = some r := H
   have A10 := q_ A100
   clear A100
   have HC11 := q_ H
   clear H
   go_enter Try.func6, Try.ntmps6
   try go_wp2_with (first | ((with_reducible refine gate_callee (f := 34) rfl ?_); refine goesL_ (some 18) rfl rfl Try.func34 (by kernel_rfl) rfl #[.slice A0 l0.length c0] rfl z1_ ?_; (with_reducible refine (laws_big.calls _ _ l0 false _ ?side1 ?side2 A2.out).mono ?_); (case side1 => exact z216_); (case side2 => exact HC0.out); rintro e w' ⟨rfl, ⟨nd, rfl⟩⟩; refine ⟨_, rfl, ?_⟩) | ((with_reducible refine gate_callee (f := 35) rfl ?_); refine goesL_ (some 21) rfl rfl Try.func35 (by kernel_rfl) rfl #[.slice A0 l0.length c0] rfl z1_ ?_; (with_reducible refine (spec_DrawLogCut.calls k _ _ l0 t451 t452 t453 t456 _ ?side1 ?side2 A4.out).mono ?_); (case side1 => exact z216_); (case side2 => exact HC0.out); rintro e w12 ⟨v454, rfl, ho0, hb⟩; refine ⟨_, rfl, ?_⟩; have n0_ := q_ (Kd.R_lower ho0 (below_size z0_)); have n1_ := q_ (below_step z0_ hb); clear HB; have HO455 := n0_; have HB := n1_; clear n0_ n1_; (try clear hb); (try clear hb2); (try clear hk); (try clear hi); (try clear ho0)) | ((with_reducible refine gate_dst (N := 3) rfl ?_); (try (refine gate_guard (by rfl) ?_; dsimp only)); refine box_event ?hg (N := 3) ?hd (cs := #[.int .i64 0, .int .i64 0, .slice none 0 0]) (t := 36) ?hr ?_; (case hd => rfl); (case hg => rfl); (case hr => exact z195_); intro gb457 hg w13 hbox hb; have n0_ := q_ (Kd.R_below z65_ hb); have n1_ := q_ (below_step z0_ hb); have n2_ := q_ (hbox); have n3_ := q_ ((z150_ : w.heap.size ≤ gb457)); have n4_ := q_ ((z150_ : w.heap.size ≤ gb457)); clear HO455; clear HB; have HO455 := n0_; have HB := n1_; have BK457 := n2_; have GW457 := n3_; have GE457 := n4_; clear n0_ n1_ n2_ n3_ n4_; clear hb hbox hg; obtain ⟨hcz14_0, hcz14_1, hcz14_2, hfz14_0, hfz14_1, hfz14_2⟩ := cs3_ BK457.out; obtain ⟨Ao15, co15, eo15⟩ := Kd.R_slice HO455.out; subst eo15) | ((with_reducible refine gate_callee (f := 25) rfl ?_); refine goesL_ (some 26) rfl rfl Try.func25 (by kernel_rfl) rfl #[.agg #[.int .i64 t451, .int .i64 t452, .slice Ao15 t453.length co15], .int .i64 t456] rfl z1_ ?_; (with_reducible refine (impl_LogCut.calls t451 t452 _ _ t453 t456 t458 t459 t460 _ ?side1 ?side2 A5.out).mono ?_); (case side1 => refine (Kd.R_reads' (e := 129) (base := w.heap.size) (ok := fun k_ => True) (n := t453.length) (c := co15) ?_).2.2; exact (by (with_reducible repeat (first | apply Kd.R_alloc | apply Kd.R_drewN | apply Kd.R_drew)); exact (Kd.R_mono (Kd.R_far (p := ⟨gb457, 2, none⟩) (Kd.R_far (p := ⟨gb457, 1, none⟩) (Kd.R_far (p := ⟨gb457, 0, none⟩) (Kd.R_types HO455.out BK457.out (by decide)) (fun _ hk => hk.2) (.int .i64 t451)) (fun _ hk => hk.2) (.int .i64 t452)) (fun _ hk => hk.2) (.slice Ao15 t453.length co15)) (fun _ h_ => h_.1)))); (case side2 => exact z234_); rintro e w16 ⟨v461, rfl, ho0, hb⟩; refine ⟨_, rfl, ?_⟩; have n0_ := q_ (Kd.R_elder' (by (with_reducible repeat (first | apply Kd.R_alloc | apply Kd.R_drewN | apply Kd.R_drew)); exact (Kd.R_mono (Kd.R_far (p := ⟨gb457, 2, none⟩) (Kd.R_far (p := ⟨gb457, 1, none⟩) (Kd.R_far (p := ⟨gb457, 0, none⟩) (Kd.R_types HO455.out BK457.out (by decide)) (fun _ hk => hk.2) (.int .i64 t451)) (fun _ hk => hk.2) (.int .i64 t452)) (fun _ hk => hk.2) (.slice Ao15 t453.length co15)) (fun _ h_ => h_.1))) (Kd.R_base ho0) hb); have n1_ := q_ (Kd.R_lower (Kd.R_new' ho0 (Kd.R_lt (by (with_reducible repeat (first | apply Kd.R_alloc | apply Kd.R_drewN | apply Kd.R_drew)); exact (Kd.R_mono (Kd.R_far (p := ⟨gb457, 2, none⟩) (Kd.R_far (p := ⟨gb457, 1, none⟩) (Kd.R_far (p := ⟨gb457, 0, none⟩) (Kd.R_types HO455.out BK457.out (by decide)) (fun _ hk => hk.2) (.int .i64 t451)) (fun _ hk => hk.2) (.int .i64 t452)) (fun _ hk => hk.2) (.slice Ao15 t453.length co15)) (fun _ h_ => h_.1))))) (below_size z50_)); have n2_ := q_ (blk_below (g := gb457) (o := .cells #[.int .i64 t451, .int .i64 t452, .slice Ao15 t453.length co15] 36 (0, 0)) z60_ hb); have n3_ := q_ (below_step z50_ hb); clear HO455; clear BK457; clear HB; have HO455 := n0_; have HO462 := n1_; have BK457 := n2_; have HB := n3_; clear n0_ n1_ n2_ n3_; (try clear hb); (try clear hb2); (try clear hk); (try clear hi); (try clear ho0)) | ((with_reducible refine gate_dst (N := 5) rfl ?_); (try (refine gate_guard (by rfl) ?_; dsimp only)); refine box_event ?hg (N := 5) ?hd (cs := #[.int .i64 0, .int .i64 0, .slice none 0 0]) (t := 36) ?hr ?_; (case hd => rfl); (case hg => rfl); (case hr => exact z195_); intro gb463 hg w17 hbox hb; have n0_ := q_ (Kd.R_below z65_ hb); have n1_ := q_ (Kd.R_below z77_ hb); have n2_ := q_ (blk_below (g := gb457) (o := .cells #[.int .i64 t451, .int .i64 t452, .slice Ao15 t453.length co15] 36 (0, 0)) z58_ hb); have n3_ := q_ (below_step z50_ hb); have n4_ := q_ (hbox); have n5_ := q_ ((z192_ : w.heap.size ≤ gb463)); have n6_ := q_ ((z192_ : w.heap.size ≤ gb463)); have n7_ := q_ ((by rw [hg]; exact Nat.ne_of_lt (blk_lt (g := gb457) (o := .cells #[.int .i64 t451, .int .i64 t452, .slice Ao15 t453.length co15] 36 (0, 0)) z58_) : gb457 ≠ gb463)); have n8_ := q_ ((by rw [hg]; exact Nat.ne_of_gt (blk_lt (g := gb457) (o := .cells #[.int .i64 t451, .int .i64 t452, .slice Ao15 t453.length co15] 36 (0, 0)) z58_) : gb463 ≠ gb457)); clear HO455; clear HO462; clear BK457; clear HB; have HO455 := n0_; have HO462 := n1_; have BK457 := n2_; have HB := n3_; have BK463 := n4_; have GW463 := n5_; have GE463 := n6_; have NB457_463 := n7_; have NB463_457 := n8_; clear n0_ n1_ n2_ n3_ n4_ n5_ n6_ n7_ n8_; clear hb hbox hg; have hnb18 := NB463_457.out; have hnc18 := NB457_463.out; obtain ⟨hcz19_0, hcz19_1, hcz19_2, hfz19_0, hfz19_1, hfz19_2⟩ := cs3_ BK463.out; obtain ⟨Ao20, co20, eo20⟩ := Kd.R_slice HO462.out; subst eo20))
   have n0_ : Aside0 (Kd.R k129 129 (((w17.setCell ⟨gb463, 0, none⟩ (.int .i64 t458)).setCell ⟨gb463, 1, none⟩ (.int .i64 t459)).setCell ⟨gb463, 2, none⟩ (.slice Ao20 t460.length co20)) w.heap.size (fun k_ => some k_ ≠ (.slice Ao20 t460.length co20 : Value).ownBlock) (.slice Ao15 t453.length co15) t453) := ⟨by (with_reducible repeat (first | apply Kd.R_alloc | apply Kd.R_drewN | apply Kd.R_drew)); exact Kd.R_mono (Kd.R_far (p := ⟨gb463, 2, none⟩) (Kd.R_far (p := ⟨gb463, 1, none⟩) (Kd.R_far (p := ⟨gb463, 0, none⟩) (Kd.R_types HO455.out BK463.out (by decide)) (fun _ hk => hk.2) (.int .i64 t458)) (fun _ hk => hk.2) (.int .i64 t459)) (fun _ hk => hk.2) (.slice Ao20 t460.length co20)) (fun _ hk => hk.1.2)⟩
   have n1_ : Aside0 (Kd.R k129 129 (((w17.setCell ⟨gb463, 0, none⟩ (.int .i64 t458)).setCell ⟨gb463, 1, none⟩ (.int .i64 t459)).setCell ⟨gb463, 2, none⟩ (.slice Ao20 t460.length co20)) w.heap.size (fun k_ => some k_ ≠ (.slice Ao15 t453.length co15 : Value).ownBlock) (.slice Ao20 t460.length co20) t460) := ⟨by (with_reducible repeat (first | apply Kd.R_alloc | apply Kd.R_drewN | apply Kd.R_drew)); exact Kd.R_mono (Kd.R_far (p := ⟨gb463, 2, none⟩) (Kd.R_far (p := ⟨gb463, 1, none⟩) (Kd.R_far (p := ⟨gb463, 0, none⟩) (Kd.R_types HO462.out BK463.out (by decide)) (fun _ hk => hk.2) (.int .i64 t458)) (fun _ hk => hk.2) (.int .i64 t459)) (fun _ hk => hk.2) (.slice Ao20 t460.length co20)) (fun _ hk => hk.1.2)⟩
   have n2_ : Aside0 ((((w17.setCell ⟨gb463, 0, none⟩ (.int .i64 t458)).setCell ⟨gb463, 1, none⟩ (.int .i64 t459)).setCell ⟨gb463, 2, none⟩ (.slice Ao20 t460.length co20)).heap[gb457]? = some (.cells #[.int .i64 t451, .int .i64 t452, .slice Ao15 t453.length co15] 36 (0, 0))) := ⟨z79_⟩
   have n3_ : Aside0 ((((w17.setCell ⟨gb463, 0, none⟩ (.int .i64 t458)).setCell ⟨gb463, 1, none⟩ (.int .i64 t459)).setCell ⟨gb463, 2, none⟩ (.slice Ao20 t460.length co20)).heap[gb463]? = some (.cells #[.int .i64 t458, .int .i64 t459, .slice Ao20 t460.length co20] 36 (0, 0))) := ⟨z61_⟩
   have n4_ : Aside0 (Below w.heap.size w (((w17.setCell ⟨gb463, 0, none⟩ (.int .i64 t458)).setCell ⟨gb463, 1, none⟩ (.int .i64 t459)).setCell ⟨gb463, 2, none⟩ (.slice Ao20 t460.length co20))) := ⟨z21_⟩
   (try clear HO455)
   (try clear HO462)
   (try clear BK457)
   (try clear BK463)
   (try clear HB)
   generalize (((w17.setCell ⟨gb463, 0, none⟩ (.int .i64 t458)).setCell ⟨gb463, 1, none⟩ (.int .i64 t459)).setCell ⟨gb463, 2, none⟩ (.slice Ao20 t460.length co20)) = w21 at n0_ n1_ n2_ n3_ n4_ ⊢
   have HO455 := n0_
   have HO462 := n1_
   have BK457 := n2_
   have BK463 := n3_
   have HB := n4_
   clear n0_ n1_ n2_ n3_ n4_
   have n0_ := q_ (Kd.R_drew HO455.out)
   have n1_ := q_ (Kd.R_drew HO462.out)
   have n2_ := q_ (blk_drew BK457.out)
   have n3_ := q_ (blk_drew BK463.out)
   have n4_ := q_ (below_drew1 HB.out)
   clear HO455
   clear HO462
   clear BK457
   clear BK463
   clear HB
   have HO455 := n0_
   have HO462 := n1_
   have BK457 := n2_
   have BK463 := n3_
   have HB := n4_
   clear n0_ n1_ n2_ n3_ n4_
   refine start_ (n := 6) (S := fun w' => w'.cell? ⟨gb463, 0, none⟩ = some (.int .i64 t458) ∧ w'.cell? ⟨gb463, 1, none⟩ = some (.int .i64 t459) ∧ w'.cell? ⟨gb463, 2, none⟩ = some (.slice Ao20 t460.length co20) ∧ w'.cell? ⟨gb457, 0, none⟩ = some (.int .i64 t451) ∧ w'.cell? ⟨gb457, 1, none⟩ = some (.int .i64 t452) ∧ w'.cell? ⟨gb457, 2, none⟩ = some (.slice Ao15 t453.length co15)) (ds := []) #[false, false, false, false, false, false] (by kernel_rfl) rfl rfl ⟨(blk_cell BK463.out 0).trans rfl, (blk_cell BK463.out 1).trans rfl, (blk_cell BK463.out 2).trans rfl, (blk_cell BK457.out 0).trans rfl, (blk_cell BK457.out 1).trans rfl, (blk_cell BK457.out 2).trans rfl⟩ (fun hHeld => ?_)
   generalize w21.drew = w22 at HO455 HO462 BK457 BK463 HB hHeld ⊢
   refine pure_ (i := 2) (N := some 29) (v := ?_) (a' := ?_) #[false, false, true, false, false, false] rfl rfl (by kernel_rfl) (fun _ _ _ h => h) (Or.inl ⟨by rfl, ?_⟩) ?_ ?_
   rotate_left
   ·intro w'
    go_simp
    with_reducible rfl
   rotate_left
   ·simp only [Act.put, List.setIfInBounds_toArray, List.set_cons_zero, List.set_cons_succ, i64_w, i32_w]
    rfl
   refine take_ (i := 0) (N := some 27) (v := ?_) (a' := ?_) #[true, false, true, false, false, false] rfl rfl (by kernel_rfl) (fun _ _ _ h => h) (Or.inl ⟨by rfl, ?_⟩) hHeld ?_ ?_
   rotate_left
   ·rintro w' ⟨s0, s1, s2, s3, s4, s5⟩
    go_simp
    with_reducible rfl
   rotate_left
   ·simp only [Act.put, List.setIfInBounds_toArray, List.set_cons_zero, List.set_cons_succ, i64_w, i32_w]
    rfl
   refine take_ (i := 1) (N := some 28) (v := ?_) (a' := ?_) #[true, true, true, false, false, false] rfl rfl (by kernel_rfl) (fun _ _ _ h => h) (Or.inl ⟨by rfl, ?_⟩) hHeld ?_ ?_
   rotate_left
   ·rintro w' ⟨s0, s1, s2, s3, s4, s5⟩
    go_simp
    with_reducible rfl
   rotate_left
   ·simp only [Act.put, List.setIfInBounds_toArray, List.set_cons_zero, List.set_cons_succ, i64_w, i32_w]
    rfl
   refine one_ (i := 3) (N := some 30) #[true, true, true, true, false, false] rfl rfl (by kernel_rfl) (by decide) (fun K hK => ?_)
   refine goes_ Try.func23 (by kernel_rfl) rfl #[.agg #[.int .i64 t451, .int .i64 t452, .slice Ao15 t453.length co15], .int .i64 t456] (by rfl) rfl rfl z1_ ?_
   with_reducible refine (spec_LogCut.calls t451 t452 _ _ t453 t456 t464 t465 t466 _ ?side1 ?side2 A6.out).mono ?_
   (case side1 => exact z219_)
   (case side2 => exact z234_)
   rintro e w23 ⟨v467, rfl, ho0, hb⟩
   refine ⟨_, rfl, ?_⟩
   have n0_ := q_ (Kd.R_elder' z65_ (Kd.R_base ho0) hb)
   have n1_ := q_ (Kd.R_elder' z77_ (Kd.R_base ho0) hb)
   have n2_ := q_ (Kd.R_lower (Kd.R_new' (Kd.R_new' ho0 (Kd.R_lt z65_)) (Kd.R_lt z77_)) (below_size z21_))
   have n3_ := q_ (blk_below (g := gb457) (o := .cells #[.int .i64 t451, .int .i64 t452, .slice Ao15 t453.length co15] 36 (0, 0)) z58_ hb)
   have n4_ := q_ (blk_below (g := gb463) (o := .cells #[.int .i64 t458, .int .i64 t459, .slice Ao20 t460.length co20] 36 (0, 0)) z7_ hb)
   have n5_ := q_ (below_step z21_ hb)
   clear HO455
   clear HO462
   clear BK457
   clear BK463
   clear HB
   have HO455 := n0_
   have HO462 := n1_
   have HO468 := n2_
   have BK457 := n3_
   have BK463 := n4_
   have HB := n5_
   clear n0_ n1_ n2_ n3_ n4_ n5_
   (try clear hb)
   (try clear hb2)
   (try clear hk)
   (try clear hi)
   (try clear ho0)
   obtain ⟨Ao24, co24, eo24⟩ := Kd.R_slice HO468.out
   (first | subst eo24 | (injection eo24 with f1_ f2_ f3_; have f4_ := f1_.symm; have f5_ := f3_.symm; clear f1_ f2_ f3_; subst f4_; subst f5_))
   refine hK.out _ _ ⟨(blk_cell BK463.out 0).trans rfl, (blk_cell BK463.out 1).trans rfl, (blk_cell BK463.out 2).trans rfl, (blk_cell BK457.out 0).trans rfl, (blk_cell BK457.out 1).trans rfl, (blk_cell BK457.out 2).trans rfl⟩ (fun hHeld => ?_)
   clear hK K
   refine norm_ (a' := ?_) ?_ ?_
   rotate_left
   ·show Act.put _ (some 30) _ = _
    simp only [Act.put, List.setIfInBounds_toArray, List.set_cons_zero, List.set_cons_succ, i64_w, i32_w]
    rfl
   refine one_ (i := 4) (N := some 31) #[true, true, true, true, true, false] rfl rfl (by kernel_rfl) (by decide) (fun K hK => ?_)
   refine goes_ Try.func36 (by kernel_rfl) rfl #[.agg #[.int .i64 t458, .int .i64 t459, .slice Ao20 t460.length co20], .agg #[.int .i64 t464, .int .i64 t465, .slice Ao24 t466.length co24]] (by rfl) rfl rfl z1_ ?_
   with_reducible refine (laws_sameLog.calls k t458 t459 _ _ t460 t464 t465 _ _ t466 true _ ?side1 ?side2 ?side3 ?side4 A7.out).mono ?_
   (case side1 => exact z220_)
   (case side2 => exact (Kd.R_reads' HO462.out).2.1)
   (case side3 => exact z232_)
   (case side4 => exact (Kd.R_reads' HO468.out).2.1)
   rintro e w25 ⟨rfl, hb⟩
   refine ⟨_, rfl, ?_⟩
   have n0_ := q_ (Kd.R_below z65_ hb)
   have n1_ := q_ (Kd.R_below z77_ hb)
   have n2_ := q_ (Kd.R_below z129_ hb)
   have n3_ := q_ (blk_below (g := gb457) (o := .cells #[.int .i64 t451, .int .i64 t452, .slice Ao15 t453.length co15] 36 (0, 0)) z58_ hb)
   have n4_ := q_ (blk_below (g := gb463) (o := .cells #[.int .i64 t458, .int .i64 t459, .slice Ao20 t460.length co20] 36 (0, 0)) z7_ hb)
   have n5_ := q_ (below_step z21_ hb)
   clear HO455
   clear HO462
   clear HO468
   clear BK457
   clear BK463
   clear HB
   have HO455 := n0_
   have HO462 := n1_
   have HO468 := n2_
   have BK457 := n3_
   have BK463 := n4_
   have HB := n5_
   clear n0_ n1_ n2_ n3_ n4_ n5_
   (try clear hb)
   (try clear hb2)
   (try clear hk)
   (try clear hi)
   refine hK.out _ _ ⟨(blk_cell BK463.out 0).trans rfl, (blk_cell BK463.out 1).trans rfl, (blk_cell BK463.out 2).trans rfl, (blk_cell BK457.out 0).trans rfl, (blk_cell BK457.out 1).trans rfl, (blk_cell BK457.out 2).trans rfl⟩ (fun hHeld => ?_)
   clear hK K
   refine norm_ (a' := ?_) ?_ ?_
   rotate_left
   ·show Act.put _ (some 31) _ = _
    simp only [Act.put, List.setIfInBounds_toArray, List.set_cons_zero, List.set_cons_succ, i64_w, i32_w]
    rfl
   refine pure_ (i := 5) (N := some 32) (v := ?_) (a' := ?_) #[true, true, true, true, true, true] rfl rfl (by kernel_rfl) (fun _ _ _ h => h) (Or.inl ⟨by rfl, ?_⟩) ?_ ?_
   rotate_left
   ·intro w'
    go_simp
    with_reducible rfl
   rotate_left
   ·simp only [Act.put, List.setIfInBounds_toArray, List.set_cons_zero, List.set_cons_succ, i64_w, i32_w]
    rfl
   refine done_ (by kernel_rfl) ?_
   obtain ⟨hcz26_0, hcz26_1, hcz26_2, hfz26_0, hfz26_1, hfz26_2⟩ := cs3_ BK457.out
   go_upto_region 9 with (first | ((with_reducible refine gate_callee (f := 37) rfl ?_); refine goesL_ (some 35) rfl rfl Try.func37 (by kernel_rfl) rfl #[.agg #[.int .i64 t451, .int .i64 t452, .slice Ao15 t453.length co15]] rfl z1_ ?_; (with_reducible refine (impl_LastOf.calls t451 t452 _ _ t453 t470 t471 _ ?side1 ?side2 A9.out).mono ?_); (case side1 => exact z219_); (case side2 => exact z234_); rintro e w27 ⟨rfl, hb⟩; refine ⟨_, rfl, ?_⟩; have n0_ := q_ (Kd.R_below z65_ hb); have n1_ := q_ (Kd.R_below z77_ hb); have n2_ := q_ (Kd.R_below z129_ hb); have n3_ := q_ (blk_below (g := gb457) (o := .cells #[.int .i64 t451, .int .i64 t452, .slice Ao15 t453.length co15] 36 (0, 0)) z58_ hb); have n4_ := q_ (blk_below (g := gb463) (o := .cells #[.int .i64 t458, .int .i64 t459, .slice Ao20 t460.length co20] 36 (0, 0)) z7_ hb); have n5_ := q_ (below_step z21_ hb); clear HO455; clear HO462; clear HO468; clear BK457; clear BK463; clear HB; have HO455 := n0_; have HO462 := n1_; have HO468 := n2_; have BK457 := n3_; have BK463 := n4_; have HB := n5_; clear n0_ n1_ n2_ n3_ n4_ n5_; (try clear hb); (try clear hb2); (try clear hk); (try clear hi); obtain ⟨hcz28_0, hcz28_1, hcz28_2, hfz28_0, hfz28_1, hfz28_2⟩ := cs3_ BK463.out) | ((with_reducible refine gate_callee (f := 37) rfl ?_); refine goesL_ (some 40) rfl rfl Try.func37 (by kernel_rfl) rfl #[.agg #[.int .i64 t458, .int .i64 t459, .slice Ao20 t460.length co20]] rfl z1_ ?_; (with_reducible refine (impl_LastOf.calls t458 t459 _ _ t460 t472 t473 _ ?side1 ?side2 A10.out).mono ?_); (case side1 => exact z220_); (case side2 => exact (Kd.R_reads' HO462.out).2.1); rintro e w29 ⟨rfl, hb⟩; refine ⟨_, rfl, ?_⟩; have n0_ := q_ (Kd.R_below z65_ hb); have n1_ := q_ (Kd.R_below z77_ hb); have n2_ := q_ (Kd.R_below z129_ hb); have n3_ := q_ (blk_below (g := gb457) (o := .cells #[.int .i64 t451, .int .i64 t452, .slice Ao15 t453.length co15] 36 (0, 0)) z58_ hb); have n4_ := q_ (blk_below (g := gb463) (o := .cells #[.int .i64 t458, .int .i64 t459, .slice Ao20 t460.length co20] 36 (0, 0)) z7_ hb); have n5_ := q_ (below_step z21_ hb); clear HO455; clear HO462; clear HO468; clear BK457; clear BK463; clear HB; have HO455 := n0_; have HO462 := n1_; have HO468 := n2_; have BK457 := n3_; have BK463 := n4_; have HB := n5_; clear n0_ n1_ n2_ n3_ n4_ n5_; (try clear hb); (try clear hb2); (try clear hk); (try clear hi)))
   (try simp only [Act.put, List.setIfInBounds_toArray, List.set_cons_zero, List.set_cons_succ])
   go_cut [63] (fun v63 wc => ∃ (kq : Nat) (x63_10 : Bool), v63 = .bool x63_10 ∧ Aside0 (laws_FnLogCut.j0 kq l0 x63_10 t458 t459 t460 = some r) ∧ Aside0 (kq ≤ k) ∧ Aside0 (Kd.R k129 129 wc w.heap.size (fun _ => True) (.slice Ao20 t460.length co20) t460) ∧ Aside0 (wc.heap[gb463]? = some (.cells #[.int .i64 t458, .int .i64 t459, (.slice Ao20 t460.length co20)] 36 (0, 0))) ∧ Aside0 (Below w.heap.size w wc))
   case first =>
    have H := HC11.out
    clear HC11
    by_cases c30 : t470 = t472
    ·rw [if_pos c30] at H
     have c30b0 : (t470 == t472) = true := beq_iff_eq.mpr c30
     have c30b1 : (t470 != t472) = false := bne_eq_false_iff_eq.mpr c30
     clear c30
     (first | rw [c30b0] | (simp only [i64_w, i32_w]; rw [c30b0]) | skip)
     by_cases c31 : t471 = t473
     ·rw [if_pos c31] at H
      have c31b0 : (t471 == t473) = true := beq_iff_eq.mpr c31
      have c31b1 : (t471 != t473) = false := bne_eq_false_iff_eq.mpr c31
      clear c31
      by_cases c32 : t458 = t451
      ·rw [if_pos c32] at H
       have c32b0 : (t458 == t451) = true := beq_iff_eq.mpr c32
       have c32b1 : (t458 != t451) = false := bne_eq_false_iff_eq.mpr c32
       clear c32
       have H' := q_ H
       clear H
       have hnb33 := NB463_457.out
       have hnc33 := NB457_463.out
       obtain ⟨hcz34_0, hcz34_1, hcz34_2, hfz34_0, hfz34_1, hfz34_2⟩ := cs3_ BK463.out
       obtain ⟨hcz35_0, hcz35_1, hcz35_2, hfz35_0, hfz35_1, hfz35_2⟩ := cs3_ BK457.out
       go_wp2
       go_meet
       case rel => exact ⟨_, (false), z67_, H', ⟨z144_⟩, ⟨z110_⟩, ⟨z7_⟩, ⟨z21_⟩⟩
      ·rw [if_neg c32] at H
       have c32b0 : (t458 == t451) = false := beq_eq_false_iff_ne.mpr c32
       have c32b1 : (t458 != t451) = true := bne_iff_ne.mpr c32
       have H' := q_ H
       clear H
       have hnb36 := NB463_457.out
       have hnc36 := NB457_463.out
       obtain ⟨hcz37_0, hcz37_1, hcz37_2, hfz37_0, hfz37_1, hfz37_2⟩ := cs3_ BK463.out
       obtain ⟨hcz38_0, hcz38_1, hcz38_2, hfz38_0, hfz38_1, hfz38_2⟩ := cs3_ BK457.out
       go_wp2
       go_meet
       case rel => exact ⟨_, ((t458 != t456)), z67_, H', ⟨z144_⟩, ⟨z110_⟩, ⟨z7_⟩, ⟨z21_⟩⟩
     ·rw [if_neg c31] at H
      have c31b0 : (t471 == t473) = false := beq_eq_false_iff_ne.mpr c31
      have c31b1 : (t471 != t473) = true := bne_iff_ne.mpr c31
      have H' := q_ H
      clear H
      go_wp2
      go_meet
      case rel => exact ⟨_, (true), z67_, H', ⟨z144_⟩, ⟨z110_⟩, ⟨z7_⟩, ⟨z21_⟩⟩
    ·rw [if_neg c30] at H
     have c30b0 : (t470 == t472) = false := beq_eq_false_iff_ne.mpr c30
     have c30b1 : (t470 != t472) = true := bne_iff_ne.mpr c30
     (first | rw [c30b0] | (simp only [i64_w, i32_w]; rw [c30b0]) | skip)
     have H' := q_ H
     clear H
     go_wp2
     go_meet
     case rel => exact ⟨_, (true), z67_, H', ⟨z144_⟩, ⟨z110_⟩, ⟨z7_⟩, ⟨z21_⟩⟩
   case rest =>
    clear HC11
    try clear c1
    try clear c2
    try clear p2
    try clear c3
    try clear c6
    try clear c8
    try clear c18
    try clear c23
    try clear c25
    try clear c30
    try clear c30b0
    try clear c30b1
    try clear c31
    try clear c31b0
    try clear c31b1
    try clear c32
    try clear c32b0
    try clear c32b1
    try clear c33
    try clear c34
    try clear c35
    try clear c36
    try clear c37
    try clear hcz14_0
    try clear hcz14_1
    try clear hcz14_2
    try clear hcz19_0
    try clear hcz19_1
    try clear hcz19_2
    try clear hcz26_0
    try clear hcz26_1
    try clear hcz26_2
    try clear hcz28_0
    try clear hcz28_1
    try clear hcz28_2
    try clear hcz34_0
    try clear hcz34_1
    try clear hcz34_2
    try clear hcz35_0
    try clear hcz35_1
    try clear hcz35_2
    try clear hcz37_0
    try clear hcz37_1
    try clear hcz37_2
    try clear hcz38_0
    try clear hcz38_1
    try clear hcz38_2
    try clear hfz14_0
    try clear hfz14_1
    try clear hfz14_2
    try clear hfz19_0
    try clear hfz19_1
    try clear hfz19_2
    try clear hfz26_0
    try clear hfz26_1
    try clear hfz26_2
    try clear hfz28_0
    try clear hfz28_1
    try clear hfz28_2
    try clear hfz34_0
    try clear hfz34_1
    try clear hfz34_2
    try clear hfz35_0
    try clear hfz35_1
    try clear hfz35_2
    try clear hfz37_0
    try clear hfz37_1
    try clear hfz37_2
    try clear hfz38_0
    try clear hfz38_1
    try clear hfz38_2
    obtain ⟨kq, x63_10, rfl, HA, HJ10, HO_464002, BK463, HB⟩ := hcut
    cases kq with
    | zero => exact absurd HA.out (by simp [laws_FnLogCut.j0])
    | succ kj10 =>
     have H := HA.out
     clear HA
     simp only [laws_FnLogCut.j0] at H
     by_cases c39 : x63_10 = true
     ·subst c39
      have H1 : (some false) = some r := z132_
      clear H
      have H := H1
      clear H1
      obtain rfl := Option.some.inj H
      go_wp2
      go_ret
      exact ⟨z4_, z12_⟩
     ·replace c39 := Bool.eq_false_iff.mpr c39
      subst c39
      have H1 : ((spec_DrawEntriesFrom.f kj10 l0).bind fun bt474 => ((impl_EntriesFrom.f bt474.1 bt474.2.1 bt474.2.2.1 bt474.2.2.2).bind fun t481 => ((spec_EntriesFrom.f bt474.1 bt474.2.1 bt474.2.2.1 bt474.2.2.2).bind fun t484 => (if (t481.length : Int) = (t484.length : Int) then ((impl_TermAt.f bt474.1 bt474.2.1 bt474.2.2.1 bt474.2.2.2).bind fun t487 => ((spec_TermAt.f bt474.1 bt474.2.1 bt474.2.2.1 bt474.2.2.2).bind fun t488 => (laws_FnLogCut.j1 kj10 l0 (t487 != t488) t458 t459 t460))) else (laws_FnLogCut.j1 kj10 l0 true t458 t459 t460))))) = some r := by rw [if_neg (show ¬ (false = true) by decide)] at H; exact H
      clear H
      have H := H1
      clear H1
      replace H := Option.bind_eq_some_iff.mp H
      obtain ⟨⟨t474, t475, t476, t479⟩, A400, H⟩ := H
      replace H : ((impl_EntriesFrom.f t474 t475 t476 t479).bind fun t481 => ((spec_EntriesFrom.f t474 t475 t476 t479).bind fun t484 => (if (t481.length : Int) = (t484.length : Int) then ((impl_TermAt.f t474 t475 t476 t479).bind fun t487 => ((spec_TermAt.f t474 t475 t476 t479).bind fun t488 => (laws_FnLogCut.j1 kj10 l0 (t487 != t488) t458 t459 t460))) else (laws_FnLogCut.j1 kj10 l0 true t458 t459 t460)))) = some r := H
      have A40 := q_ A400
      clear A400
      have HC41 := q_ H
      clear H
      go_upto_region 12 with (first | ((with_reducible refine gate_callee (f := 38) rfl ?_); refine goesL_ (some 66) rfl rfl Try.func38 (by kernel_rfl) rfl #[.slice A0 l0.length c0] rfl z1_ ?_; (with_reducible refine (spec_DrawEntriesFrom.calls kj10 _ _ l0 t474 t475 t476 t479 _ ?side1 ?side2 A40.out).mono ?_); (case side1 => exact z210_); (case side2 => exact HC0.out); rintro e w42 ⟨v477, rfl, ho0, hb⟩; refine ⟨_, rfl, ?_⟩; have n0_ := q_ (Kd.R_elder' z15_ (Kd.R_base ho0) hb); have n1_ := q_ (Kd.R_lower (Kd.R_new' ho0 (Kd.R_lt z15_)) (below_size z12_)); have n2_ := q_ (blk_below (g := gb463) (o := .cells #[.int .i64 t458, .int .i64 t459, .slice Ao20 t460.length co20] 36 (0, 0)) z7_ hb); have n3_ := q_ (below_step z12_ hb); clear HO_464002; clear BK463; clear HB; have HO_464002 := n0_; have HO478 := n1_; have BK463 := n2_; have HB := n3_; clear n0_ n1_ n2_ n3_; (try clear hb); (try clear hb2); (try clear hk); (try clear hi); (try clear ho0)) | ((with_reducible refine gate_dst (N := 10) rfl ?_); (try (refine gate_guard (by rfl) ?_; dsimp only)); refine box_event ?hg (N := 10) ?hd (cs := #[.int .i64 0, .int .i64 0, .slice none 0 0]) (t := 36) ?hr ?_; (case hd => rfl); (case hg => rfl); (case hr => exact z195_); intro gb480 hg w43 hbox hb; have n0_ := q_ (Kd.R_below z15_ hb); have n1_ := q_ (Kd.R_below z69_ hb); have n2_ := q_ (blk_below (g := gb463) (o := .cells #[.int .i64 t458, .int .i64 t459, .slice Ao20 t460.length co20] 36 (0, 0)) z7_ hb); have n3_ := q_ (below_step z12_ hb); have n4_ := q_ (hbox); have n5_ := q_ ((z181_ : w.heap.size ≤ gb480)); have n6_ := q_ ((z181_ : w.heap.size ≤ gb480)); have n7_ := q_ ((z159_ : gb463 ≠ gb480)); have n8_ := q_ ((z160_ : gb480 ≠ gb463)); clear HO_464002; clear HO478; clear BK463; clear HB; have HO_464002 := n0_; have HO478 := n1_; have BK463 := n2_; have HB := n3_; have BK480 := n4_; have GW480 := n5_; have GE480 := n6_; have NB463_480 := n7_; have NB480_463 := n8_; clear n0_ n1_ n2_ n3_ n4_ n5_ n6_ n7_ n8_; clear hb hbox hg; have hnb44 := NB480_463.out; have hnc44 := NB463_480.out; obtain ⟨hcz45_0, hcz45_1, hcz45_2, hfz45_0, hfz45_1, hfz45_2⟩ := cs3_ BK480.out; obtain ⟨Ao46, co46, eo46⟩ := Kd.R_slice HO478.out; subst eo46))
      (try simp only [Act.put, List.setIfInBounds_toArray, List.set_cons_zero, List.set_cons_succ])
      go_cut [86] (fun v86 wc => ∃ (kq : Nat) (x86_40 : Bool), v86 = .bool x86_40 ∧ Aside0 (laws_FnLogCut.j1 kq l0 x86_40 t458 t459 t460 = some r) ∧ Aside0 (kq ≤ kj10) ∧ Aside0 (Kd.R k129 129 wc w.heap.size (fun _ => True) (.slice Ao20 t460.length co20) t460) ∧ Aside0 (wc.heap[gb463]? = some (.cells #[.int .i64 t458, .int .i64 t459, (.slice Ao20 t460.length co20)] 36 (0, 0))) ∧ Aside0 (Below w.heap.size w wc))
      case first =>
       have H := HC41.out
       clear HC41
       replace H := Option.bind_eq_some_iff.mp H
       obtain ⟨t481, A470, H⟩ := H
       replace H : ((spec_EntriesFrom.f t474 t475 t476 t479).bind fun t484 => (if (t481.length : Int) = (t484.length : Int) then ((impl_TermAt.f t474 t475 t476 t479).bind fun t487 => ((spec_TermAt.f t474 t475 t476 t479).bind fun t488 => (laws_FnLogCut.j1 kj10 l0 (t487 != t488) t458 t459 t460))) else (laws_FnLogCut.j1 kj10 l0 true t458 t459 t460))) = some r := H
       have A47 := q_ A470
       clear A470
       replace H := Option.bind_eq_some_iff.mp H
       obtain ⟨t484, A480, H⟩ := H
       replace H : (if (t481.length : Int) = (t484.length : Int) then ((impl_TermAt.f t474 t475 t476 t479).bind fun t487 => ((spec_TermAt.f t474 t475 t476 t479).bind fun t488 => (laws_FnLogCut.j1 kj10 l0 (t487 != t488) t458 t459 t460))) else (laws_FnLogCut.j1 kj10 l0 true t458 t459 t460)) = some r := H
       have A48 := q_ A480
       clear A480
       by_cases c49 : (t481.length : Int) = (t484.length : Int)
       ·rw [if_pos c49] at H
        have c49b0 : ((t481.length : Int) == (t484.length : Int)) = true := beq_iff_eq.mpr c49
        have c49b1 : ((t481.length : Int) != (t484.length : Int)) = false := bne_eq_false_iff_eq.mpr c49
        have c49b2 : (t481.length == t484.length) = true := by first | simpa using c49 | (simp at c49 ⊢; omega)
        clear c49
        (first | rw [c49b0] | (simp only [i64_w, i32_w]; rw [c49b0]) | skip)
        replace H := Option.bind_eq_some_iff.mp H
        obtain ⟨t487, A500, H⟩ := H
        replace H : ((spec_TermAt.f t474 t475 t476 t479).bind fun t488 => (laws_FnLogCut.j1 kj10 l0 (t487 != t488) t458 t459 t460)) = some r := H
        have A50 := q_ A500
        clear A500
        replace H := Option.bind_eq_some_iff.mp H
        obtain ⟨t488, A510, H⟩ := H
        replace H : (laws_FnLogCut.j1 kj10 l0 (t487 != t488) t458 t459 t460) = some r := H
        have A51 := q_ A510
        clear A510
        have H' := q_ H
        clear H
        try go_wp2
        have n0_ : Aside0 (Kd.R k129 129 (((w43.setCell ⟨gb480, 0, none⟩ (.int .i64 t474)).setCell ⟨gb480, 1, none⟩ (.int .i64 t475)).setCell ⟨gb480, 2, none⟩ (.slice Ao46 t476.length co46)) w.heap.size (fun k_ => some k_ ≠ (.slice Ao46 t476.length co46 : Value).ownBlock) (.slice Ao20 t460.length co20) t460) := ⟨by (with_reducible repeat (first | apply Kd.R_alloc | apply Kd.R_drewN | apply Kd.R_drew)); exact Kd.R_mono (Kd.R_far (p := ⟨gb480, 2, none⟩) (Kd.R_far (p := ⟨gb480, 1, none⟩) (Kd.R_far (p := ⟨gb480, 0, none⟩) (Kd.R_types HO_464002.out BK480.out (by decide)) (fun _ hk => hk.2) (.int .i64 t474)) (fun _ hk => hk.2) (.int .i64 t475)) (fun _ hk => hk.2) (.slice Ao46 t476.length co46)) (fun _ hk => hk.1.2)⟩
        have n1_ : Aside0 (Kd.R k129 129 (((w43.setCell ⟨gb480, 0, none⟩ (.int .i64 t474)).setCell ⟨gb480, 1, none⟩ (.int .i64 t475)).setCell ⟨gb480, 2, none⟩ (.slice Ao46 t476.length co46)) w.heap.size (fun k_ => some k_ ≠ (.slice Ao20 t460.length co20 : Value).ownBlock) (.slice Ao46 t476.length co46) t476) := ⟨by (with_reducible repeat (first | apply Kd.R_alloc | apply Kd.R_drewN | apply Kd.R_drew)); exact Kd.R_mono (Kd.R_far (p := ⟨gb480, 2, none⟩) (Kd.R_far (p := ⟨gb480, 1, none⟩) (Kd.R_far (p := ⟨gb480, 0, none⟩) (Kd.R_types HO478.out BK480.out (by decide)) (fun _ hk => hk.2) (.int .i64 t474)) (fun _ hk => hk.2) (.int .i64 t475)) (fun _ hk => hk.2) (.slice Ao46 t476.length co46)) (fun _ hk => hk.1.2)⟩
        have n2_ : Aside0 ((((w43.setCell ⟨gb480, 0, none⟩ (.int .i64 t474)).setCell ⟨gb480, 1, none⟩ (.int .i64 t475)).setCell ⟨gb480, 2, none⟩ (.slice Ao46 t476.length co46)).heap[gb463]? = some (.cells #[.int .i64 t458, .int .i64 t459, .slice Ao20 t460.length co20] 36 (0, 0))) := ⟨z80_⟩
        have n3_ : Aside0 ((((w43.setCell ⟨gb480, 0, none⟩ (.int .i64 t474)).setCell ⟨gb480, 1, none⟩ (.int .i64 t475)).setCell ⟨gb480, 2, none⟩ (.slice Ao46 t476.length co46)).heap[gb480]? = some (.cells #[.int .i64 t474, .int .i64 t475, .slice Ao46 t476.length co46] 36 (0, 0))) := ⟨z62_⟩
        have n4_ : Aside0 (Below w.heap.size w (((w43.setCell ⟨gb480, 0, none⟩ (.int .i64 t474)).setCell ⟨gb480, 1, none⟩ (.int .i64 t475)).setCell ⟨gb480, 2, none⟩ (.slice Ao46 t476.length co46))) := ⟨z24_⟩
        (try clear HO_464002)
        (try clear HO478)
        (try clear BK463)
        (try clear BK480)
        (try clear HB)
        generalize (((w43.setCell ⟨gb480, 0, none⟩ (.int .i64 t474)).setCell ⟨gb480, 1, none⟩ (.int .i64 t475)).setCell ⟨gb480, 2, none⟩ (.slice Ao46 t476.length co46)) = w52 at n0_ n1_ n2_ n3_ n4_ ⊢
        have HO_464002 := n0_
        have HO478 := n1_
        have BK463 := n2_
        have BK480 := n3_
        have HB := n4_
        clear n0_ n1_ n2_ n3_ n4_
        have n0_ := q_ (Kd.R_drew HO_464002.out)
        have n1_ := q_ (Kd.R_drew HO478.out)
        have n2_ := q_ (blk_drew BK463.out)
        have n3_ := q_ (blk_drew BK480.out)
        have n4_ := q_ (below_drew1 HB.out)
        clear HO_464002
        clear HO478
        clear BK463
        clear BK480
        clear HB
        have HO_464002 := n0_
        have HO478 := n1_
        have BK463 := n2_
        have BK480 := n3_
        have HB := n4_
        clear n0_ n1_ n2_ n3_ n4_
        refine start_ (n := 18) (S := fun w' => w'.cell? ⟨gb480, 0, none⟩ = some (.int .i64 t474) ∧ w'.cell? ⟨gb480, 1, none⟩ = some (.int .i64 t475) ∧ w'.cell? ⟨gb480, 2, none⟩ = some (.slice Ao46 t476.length co46)) (ds := []) #[false, false, false, false, false, false, false, false, false, false, false, false, false, false, false, false, false, false] (by kernel_rfl) rfl rfl ⟨(blk_cell BK480.out 0).trans rfl, (blk_cell BK480.out 1).trans rfl, (blk_cell BK480.out 2).trans rfl⟩ (fun hHeld => ?_); refine with_tabW laws_FnLogCut.tab12 laws_FnLogCut.bits12 (fun HT_ HW_ => ?_)
        generalize w52.drew = w53 at HO_464002 HO478 BK463 BK480 HB hHeld ⊢
        refine pure_ (i := 1) (N := some 70) (v := ?_) (a' := ?_) #[false, true, false, false, false, false, false, false, false, false, false, false, false, false, false, false, false, false] rfl rfl (any_of HT_.out (by kernel_rfl)) (fun _ _ _ h => h) (Or.inl ⟨by rfl, ?_⟩) ?_ ?_
        rotate_left
        ·intro w'
         go_simp
         with_reducible rfl
        rotate_left
        ·simp only [Act.put, List.setIfInBounds_toArray, List.set_cons_zero, List.set_cons_succ, i64_w, i32_w]
         rfl
        refine pure_ (i := 5) (N := some 74) (v := ?_) (a' := ?_) #[false, true, false, false, false, true, false, false, false, false, false, false, false, false, false, false, false, false] rfl rfl (any_of HT_.out (by kernel_rfl)) (fun _ _ _ h => h) (Or.inl ⟨by rfl, ?_⟩) ?_ ?_
        rotate_left
        ·intro w'
         go_simp
         with_reducible rfl
        rotate_left
        ·simp only [Act.put, List.setIfInBounds_toArray, List.set_cons_zero, List.set_cons_succ, i64_w, i32_w]
         rfl
        refine take_ (i := 0) (N := some 69) (v := ?_) (a' := ?_) #[true, true, false, false, false, true, false, false, false, false, false, false, false, false, false, false, false, false] rfl rfl (take_ofW HT_.out HW_.out (by kernel_rfl)) (fun _ _ _ h => h) (Or.inl ⟨by rfl, ?_⟩) hHeld ?_ ?_
        rotate_left
        ·rintro w' ⟨s0, s1, s2⟩
         go_simp
         with_reducible rfl
        rotate_left
        ·simp only [Act.put, List.setIfInBounds_toArray, List.set_cons_zero, List.set_cons_succ, i64_w, i32_w]
         rfl
        refine take_ (i := 4) (N := some 73) (v := ?_) (a' := ?_) #[true, true, false, false, true, true, false, false, false, false, false, false, false, false, false, false, false, false] rfl rfl (take_ofW HT_.out HW_.out (by kernel_rfl)) (fun _ _ _ h => h) (Or.inl ⟨by rfl, ?_⟩) hHeld ?_ ?_
        rotate_left
        ·rintro w' ⟨s0, s1, s2⟩
         go_simp
         with_reducible rfl
        rotate_left
        ·simp only [Act.put, List.setIfInBounds_toArray, List.set_cons_zero, List.set_cons_succ, i64_w, i32_w]
         rfl
        refine one_ (i := 2) (N := some 71) #[true, true, true, false, true, true, false, false, false, false, false, false, false, false, false, false, false, false] rfl rfl (one_of HT_.out (by kernel_rfl)) (by decide) (fun K hK => ?_)
        refine goes_ Try.func39 (by kernel_rfl) rfl #[.agg #[.int .i64 t474, .int .i64 t475, .slice Ao46 t476.length co46], .int .i64 t479] (by rfl) rfl rfl z1_ ?_
        with_reducible refine (impl_EntriesFrom.calls t474 t475 _ _ t476 t479 t481 _ ?side1 ?side2 A47.out).mono ?_
        (case side1 => exact z211_)
        (case side2 => exact z233_)
        rintro e w54 ⟨v482, rfl, ho0, hb⟩
        refine ⟨_, rfl, ?_⟩
        have n0_ := q_ (Kd.R_elder' z15_ (Kd.R_base ho0) hb)
        have n1_ := q_ (Kd.R_elder' z69_ (Kd.R_base ho0) hb)
        have n2_ := q_ (Kd.R_lower (Kd.R_new' (Kd.R_new' ho0 (Kd.R_lt z15_)) (Kd.R_lt z69_)) (below_size z24_))
        have n3_ := q_ (blk_below (g := gb463) (o := .cells #[.int .i64 t458, .int .i64 t459, .slice Ao20 t460.length co20] 36 (0, 0)) z7_ hb)
        have n4_ := q_ (blk_below (g := gb480) (o := .cells #[.int .i64 t474, .int .i64 t475, .slice Ao46 t476.length co46] 36 (0, 0)) z100_ hb)
        have n5_ := q_ (below_step z24_ hb)
        clear HO_464002
        clear HO478
        clear BK463
        clear BK480
        clear HB
        have HO_464002 := n0_
        have HO478 := n1_
        have HO483 := n2_
        have BK463 := n3_
        have BK480 := n4_
        have HB := n5_
        clear n0_ n1_ n2_ n3_ n4_ n5_
        (try clear hb)
        (try clear hb2)
        (try clear hk)
        (try clear hi)
        (try clear ho0)
        obtain ⟨Ao55, co55, eo55⟩ := Kd.R_slice HO483.out
        (first | subst eo55 | (injection eo55 with f1_ f2_ f3_; have f4_ := f1_.symm; have f5_ := f3_.symm; clear f1_ f2_ f3_; subst f4_; subst f5_))
        refine hK.out _ _ ⟨(blk_cell BK480.out 0).trans rfl, (blk_cell BK480.out 1).trans rfl, (blk_cell BK480.out 2).trans rfl⟩ (fun hHeld => ?_)
        clear hK K
        refine norm_ (a' := ?_) ?_ ?_
        rotate_left
        ·show Act.put _ (some 71) _ = _
         simp only [Act.put, List.setIfInBounds_toArray, List.set_cons_zero, List.set_cons_succ, i64_w, i32_w]
         rfl
        refine pure_ (i := 3) (N := some 72) (v := ?_) (a' := ?_) #[true, true, true, true, true, true, false, false, false, false, false, false, false, false, false, false, false, false] rfl rfl (any_of HT_.out (by kernel_rfl)) (fun _ _ _ h => h) (Or.inl ⟨by rfl, ?_⟩) ?_ ?_
        rotate_left
        ·intro w'
         go_simp
         with_reducible rfl
        rotate_left
        ·simp only [Act.put, List.setIfInBounds_toArray, List.set_cons_zero, List.set_cons_succ, i64_w, i32_w]
         rfl
        refine one_ (i := 6) (N := some 75) #[true, true, true, true, true, true, true, false, false, false, false, false, false, false, false, false, false, false] rfl rfl (one_of HT_.out (by kernel_rfl)) (by decide) (fun K hK => ?_)
        refine goes_ Try.func40 (by kernel_rfl) rfl #[.agg #[.int .i64 t474, .int .i64 t475, .slice Ao46 t476.length co46], .int .i64 t479] (by rfl) rfl rfl z1_ ?_
        with_reducible refine (spec_EntriesFrom.calls t474 t475 _ _ t476 t479 t484 _ ?side1 ?side2 A48.out).mono ?_
        (case side1 => exact z211_)
        (case side2 => exact z233_)
        rintro e w56 ⟨v485, rfl, ho0, hb⟩
        refine ⟨_, rfl, ?_⟩
        have n0_ := q_ (Kd.R_elder' z15_ (Kd.R_base ho0) hb)
        have n1_ := q_ (Kd.R_elder' z69_ (Kd.R_base ho0) hb)
        have n2_ := q_ (Kd.R_elder' z104_ (Kd.R_base ho0) hb)
        have n3_ := q_ (Kd.R_lower (Kd.R_new' (Kd.R_new' (Kd.R_new' ho0 (Kd.R_lt z15_)) (Kd.R_lt z69_)) (Kd.R_lt z104_)) (below_size z24_))
        have n4_ := q_ (blk_below (g := gb463) (o := .cells #[.int .i64 t458, .int .i64 t459, .slice Ao20 t460.length co20] 36 (0, 0)) z7_ hb)
        have n5_ := q_ (blk_below (g := gb480) (o := .cells #[.int .i64 t474, .int .i64 t475, .slice Ao46 t476.length co46] 36 (0, 0)) z100_ hb)
        have n6_ := q_ (below_step z24_ hb)
        clear HO_464002
        clear HO478
        clear HO483
        clear BK463
        clear BK480
        clear HB
        have HO_464002 := n0_
        have HO478 := n1_
        have HO483 := n2_
        have HO486 := n3_
        have BK463 := n4_
        have BK480 := n5_
        have HB := n6_
        clear n0_ n1_ n2_ n3_ n4_ n5_ n6_
        (try clear hb)
        (try clear hb2)
        (try clear hk)
        (try clear hi)
        (try clear ho0)
        obtain ⟨Ao57, co57, eo57⟩ := Kd.R_slice HO486.out
        (first | subst eo57 | (injection eo57 with f1_ f2_ f3_; have f4_ := f1_.symm; have f5_ := f3_.symm; clear f1_ f2_ f3_; subst f4_; subst f5_))
        refine hK.out _ _ ⟨(blk_cell BK480.out 0).trans rfl, (blk_cell BK480.out 1).trans rfl, (blk_cell BK480.out 2).trans rfl⟩ (fun hHeld => ?_)
        clear hK K
        refine norm_ (a' := ?_) ?_ ?_
        rotate_left
        ·show Act.put _ (some 75) _ = _
         simp only [Act.put, List.setIfInBounds_toArray, List.set_cons_zero, List.set_cons_succ, i64_w, i32_w]
         rfl
        refine pure_ (i := 7) (N := some 76) (v := ?_) (a' := ?_) #[true, true, true, true, true, true, true, true, false, false, false, false, false, false, false, false, false, false] rfl rfl (any_of HT_.out (by kernel_rfl)) (fun _ _ _ h => h) (Or.inl ⟨by rfl, ?_⟩) ?_ ?_
        rotate_left
        ·intro w'
         go_simp
         with_reducible rfl
        rotate_left
        ·simp only [Act.put, List.setIfInBounds_toArray, List.set_cons_zero, List.set_cons_succ, i64_w, i32_w]
         rfl
        refine pure_ (i := 8) (N := some 77) (v := ?_) (a' := ?_) #[true, true, true, true, true, true, true, true, true, false, false, false, false, false, false, false, false, false] rfl rfl (any_of HT_.out (by kernel_rfl)) (fun _ _ _ h => h) (Or.inl ⟨by rfl, ?_⟩) ?_ ?_
        rotate_left
        ·intro w'
         go_simp
         with_reducible rfl
        rotate_left
        ·simp only [Act.put, List.setIfInBounds_toArray, List.set_cons_zero, List.set_cons_succ, i64_w, i32_w]
         rfl
        refine pure_ (i := 9) (N := some 78) (v := ?_) (a' := ?_) #[true, true, true, true, true, true, true, true, true, true, false, false, false, false, false, false, false, false] rfl rfl (any_of HT_.out (by kernel_rfl)) (fun _ _ _ h => h) (Or.inl ⟨by rfl, ?_⟩) ?_ ?_
        rotate_left
        ·intro w'
         go_simp
         with_reducible rfl
        rotate_left
        ·simp only [Act.put, List.setIfInBounds_toArray, List.set_cons_zero, List.set_cons_succ, i64_w, i32_w]
         rfl
        refine pure_ (i := 11) (N := some 80) (v := ?_) (a' := ?_) #[true, true, true, true, true, true, true, true, true, true, false, true, false, false, false, false, false, false] rfl rfl (any_of HT_.out (by kernel_rfl)) (fun _ _ _ h => h) (Or.inl ⟨by rfl, ?_⟩) ?_ ?_
        rotate_left
        ·intro w'
         go_simp
         with_reducible rfl
        rotate_left
        ·simp only [Act.put, List.setIfInBounds_toArray, List.set_cons_zero, List.set_cons_succ, i64_w, i32_w]
         rfl
        refine pure_ (i := 14) (N := some 83) (v := ?_) (a' := ?_) #[true, true, true, true, true, true, true, true, true, true, false, true, false, false, true, false, false, false] rfl rfl (any_of HT_.out (by kernel_rfl)) (fun _ _ _ h => h) (Or.inl ⟨by rfl, ?_⟩) ?_ ?_
        rotate_left
        ·intro w'
         go_simp
         with_reducible rfl
        rotate_left
        ·simp only [Act.put, List.setIfInBounds_toArray, List.set_cons_zero, List.set_cons_succ, i64_w, i32_w]
         rfl
        refine take_ (i := 10) (N := some 79) (v := ?_) (a' := ?_) #[true, true, true, true, true, true, true, true, true, true, true, true, false, false, true, false, false, false] rfl rfl (take_ofW HT_.out HW_.out (by kernel_rfl)) (fun _ _ _ h => h) (Or.inl ⟨by rfl, ?_⟩) hHeld ?_ ?_
        rotate_left
        ·rintro w' ⟨s0, s1, s2⟩
         go_simp
         with_reducible rfl
        rotate_left
        ·simp only [Act.put, List.setIfInBounds_toArray, List.set_cons_zero, List.set_cons_succ, i64_w, i32_w]
         rfl
        refine take_ (i := 13) (N := some 82) (v := ?_) (a' := ?_) #[true, true, true, true, true, true, true, true, true, true, true, true, false, true, true, false, false, false] rfl rfl (take_ofW HT_.out HW_.out (by kernel_rfl)) (fun _ _ _ h => h) (Or.inl ⟨by rfl, ?_⟩) hHeld ?_ ?_
        rotate_left
        ·rintro w' ⟨s0, s1, s2⟩
         go_simp
         with_reducible rfl
        rotate_left
        ·simp only [Act.put, List.setIfInBounds_toArray, List.set_cons_zero, List.set_cons_succ, i64_w, i32_w]
         rfl
        refine one_ (i := 12) (N := some 81) #[true, true, true, true, true, true, true, true, true, true, true, true, true, true, true, false, false, false] rfl rfl (one_of HT_.out (by kernel_rfl)) (by decide) (fun K hK => ?_)
        refine goes_ Try.func41 (by kernel_rfl) rfl #[.agg #[.int .i64 t474, .int .i64 t475, .slice Ao46 t476.length co46], .int .i64 t479] (by rfl) rfl rfl z1_ ?_
        with_reducible refine (impl_TermAt.calls t474 t475 _ _ t476 t479 t487 _ ?side1 ?side2 A50.out).mono ?_
        (case side1 => exact z211_)
        (case side2 => exact z233_)
        rintro e w58 ⟨rfl, hb⟩
        refine ⟨_, rfl, ?_⟩
        have n0_ := q_ (Kd.R_below z15_ hb)
        have n1_ := q_ (Kd.R_below z69_ hb)
        have n2_ := q_ (Kd.R_below z104_ hb)
        have n3_ := q_ (Kd.R_below z145_ hb)
        have n4_ := q_ (blk_below (g := gb463) (o := .cells #[.int .i64 t458, .int .i64 t459, .slice Ao20 t460.length co20] 36 (0, 0)) z7_ hb)
        have n5_ := q_ (blk_below (g := gb480) (o := .cells #[.int .i64 t474, .int .i64 t475, .slice Ao46 t476.length co46] 36 (0, 0)) z100_ hb)
        have n6_ := q_ (below_step z24_ hb)
        clear HO_464002
        clear HO478
        clear HO483
        clear HO486
        clear BK463
        clear BK480
        clear HB
        have HO_464002 := n0_
        have HO478 := n1_
        have HO483 := n2_
        have HO486 := n3_
        have BK463 := n4_
        have BK480 := n5_
        have HB := n6_
        clear n0_ n1_ n2_ n3_ n4_ n5_ n6_
        (try clear hb)
        (try clear hb2)
        (try clear hk)
        (try clear hi)
        refine hK.out _ _ ⟨(blk_cell BK480.out 0).trans rfl, (blk_cell BK480.out 1).trans rfl, (blk_cell BK480.out 2).trans rfl⟩ (fun hHeld => ?_)
        clear hK K
        refine norm_ (a' := ?_) ?_ ?_
        rotate_left
        ·show Act.put _ (some 81) _ = _
         simp only [Act.put, List.setIfInBounds_toArray, List.set_cons_zero, List.set_cons_succ, i64_w, i32_w]
         rfl
        refine one_ (i := 15) (N := some 84) #[true, true, true, true, true, true, true, true, true, true, true, true, true, true, true, true, false, false] rfl rfl (one_of HT_.out (by kernel_rfl)) (by decide) (fun K hK => ?_)
        refine goes_ Try.func42 (by kernel_rfl) rfl #[.agg #[.int .i64 t474, .int .i64 t475, .slice Ao46 t476.length co46], .int .i64 t479] (by rfl) rfl rfl z1_ ?_
        with_reducible refine (spec_TermAt.calls t474 t475 _ _ t476 t479 t488 _ ?side1 ?side2 A51.out).mono ?_
        (case side1 => exact z211_)
        (case side2 => exact z233_)
        rintro e w59 ⟨rfl, hb⟩
        refine ⟨_, rfl, ?_⟩
        have n0_ := q_ (Kd.R_below z15_ hb)
        have n1_ := q_ (Kd.R_below z69_ hb)
        have n2_ := q_ (Kd.R_below z104_ hb)
        have n3_ := q_ (Kd.R_below z145_ hb)
        have n4_ := q_ (blk_below (g := gb463) (o := .cells #[.int .i64 t458, .int .i64 t459, .slice Ao20 t460.length co20] 36 (0, 0)) z7_ hb)
        have n5_ := q_ (blk_below (g := gb480) (o := .cells #[.int .i64 t474, .int .i64 t475, .slice Ao46 t476.length co46] 36 (0, 0)) z100_ hb)
        have n6_ := q_ (below_step z24_ hb)
        clear HO_464002
        clear HO478
        clear HO483
        clear HO486
        clear BK463
        clear BK480
        clear HB
        have HO_464002 := n0_
        have HO478 := n1_
        have HO483 := n2_
        have HO486 := n3_
        have BK463 := n4_
        have BK480 := n5_
        have HB := n6_
        clear n0_ n1_ n2_ n3_ n4_ n5_ n6_
        (try clear hb)
        (try clear hb2)
        (try clear hk)
        (try clear hi)
        refine hK.out _ _ ⟨(blk_cell BK480.out 0).trans rfl, (blk_cell BK480.out 1).trans rfl, (blk_cell BK480.out 2).trans rfl⟩ (fun hHeld => ?_)
        clear hK K
        refine norm_ (a' := ?_) ?_ ?_
        rotate_left
        ·show Act.put _ (some 84) _ = _
         simp only [Act.put, List.setIfInBounds_toArray, List.set_cons_zero, List.set_cons_succ, i64_w, i32_w]
         rfl
        refine pure_ (i := 16) (N := some 85) (v := ?_) (a' := ?_) #[true, true, true, true, true, true, true, true, true, true, true, true, true, true, true, true, true, false] rfl rfl (any_of HT_.out (by kernel_rfl)) (fun _ _ _ h => h) (Or.inl ⟨by rfl, ?_⟩) ?_ ?_
        rotate_left
        ·intro w'
         go_simp
         with_reducible rfl
        rotate_left
        ·simp only [Act.put, List.setIfInBounds_toArray, List.set_cons_zero, List.set_cons_succ, i64_w, i32_w]
         rfl
        refine pure_ (i := 17) (N := some 86) (v := ?_) (a' := ?_) #[true, true, true, true, true, true, true, true, true, true, true, true, true, true, true, true, true, true] rfl rfl (any_of HT_.out (by kernel_rfl)) (fun _ _ _ h => h) (Or.inl ⟨by rfl, ?_⟩) ?_ ?_
        rotate_left
        ·intro w'
         go_simp
         with_reducible rfl
        rotate_left
        ·simp only [Act.put, List.setIfInBounds_toArray, List.set_cons_zero, List.set_cons_succ, i64_w, i32_w]
         rfl
        refine done_ (done_of HT_.out (by kernel_rfl)) ?_
        try go_wp2
        go_meet
        case rel => exact ⟨_, ((t487 != t488)), z67_, H', ⟨z147_⟩, ⟨z140_⟩, ⟨z7_⟩, ⟨z24_⟩⟩
       ·rw [if_neg c49] at H
        have c49b0 : ((t481.length : Int) == (t484.length : Int)) = false := beq_eq_false_iff_ne.mpr c49
        have c49b1 : ((t481.length : Int) != (t484.length : Int)) = true := bne_iff_ne.mpr c49
        have c49b2 : (t481.length == t484.length) = false := by first | simpa using c49 | (simp at c49 ⊢; omega)
        (first | rw [c49b0] | (simp only [i64_w, i32_w]; rw [c49b0]) | skip)
        have H' := q_ H
        clear H
        try go_wp2
        have n0_ : Aside0 (Kd.R k129 129 (((w43.setCell ⟨gb480, 0, none⟩ (.int .i64 t474)).setCell ⟨gb480, 1, none⟩ (.int .i64 t475)).setCell ⟨gb480, 2, none⟩ (.slice Ao46 t476.length co46)) w.heap.size (fun k_ => some k_ ≠ (.slice Ao46 t476.length co46 : Value).ownBlock) (.slice Ao20 t460.length co20) t460) := ⟨by (with_reducible repeat (first | apply Kd.R_alloc | apply Kd.R_drewN | apply Kd.R_drew)); exact Kd.R_mono (Kd.R_far (p := ⟨gb480, 2, none⟩) (Kd.R_far (p := ⟨gb480, 1, none⟩) (Kd.R_far (p := ⟨gb480, 0, none⟩) (Kd.R_types HO_464002.out BK480.out (by decide)) (fun _ hk => hk.2) (.int .i64 t474)) (fun _ hk => hk.2) (.int .i64 t475)) (fun _ hk => hk.2) (.slice Ao46 t476.length co46)) (fun _ hk => hk.1.2)⟩
        have n1_ : Aside0 (Kd.R k129 129 (((w43.setCell ⟨gb480, 0, none⟩ (.int .i64 t474)).setCell ⟨gb480, 1, none⟩ (.int .i64 t475)).setCell ⟨gb480, 2, none⟩ (.slice Ao46 t476.length co46)) w.heap.size (fun k_ => some k_ ≠ (.slice Ao20 t460.length co20 : Value).ownBlock) (.slice Ao46 t476.length co46) t476) := ⟨by (with_reducible repeat (first | apply Kd.R_alloc | apply Kd.R_drewN | apply Kd.R_drew)); exact Kd.R_mono (Kd.R_far (p := ⟨gb480, 2, none⟩) (Kd.R_far (p := ⟨gb480, 1, none⟩) (Kd.R_far (p := ⟨gb480, 0, none⟩) (Kd.R_types HO478.out BK480.out (by decide)) (fun _ hk => hk.2) (.int .i64 t474)) (fun _ hk => hk.2) (.int .i64 t475)) (fun _ hk => hk.2) (.slice Ao46 t476.length co46)) (fun _ hk => hk.1.2)⟩
        have n2_ : Aside0 ((((w43.setCell ⟨gb480, 0, none⟩ (.int .i64 t474)).setCell ⟨gb480, 1, none⟩ (.int .i64 t475)).setCell ⟨gb480, 2, none⟩ (.slice Ao46 t476.length co46)).heap[gb463]? = some (.cells #[.int .i64 t458, .int .i64 t459, .slice Ao20 t460.length co20] 36 (0, 0))) := ⟨z80_⟩
        have n3_ : Aside0 ((((w43.setCell ⟨gb480, 0, none⟩ (.int .i64 t474)).setCell ⟨gb480, 1, none⟩ (.int .i64 t475)).setCell ⟨gb480, 2, none⟩ (.slice Ao46 t476.length co46)).heap[gb480]? = some (.cells #[.int .i64 t474, .int .i64 t475, .slice Ao46 t476.length co46] 36 (0, 0))) := ⟨z62_⟩
        have n4_ : Aside0 (Below w.heap.size w (((w43.setCell ⟨gb480, 0, none⟩ (.int .i64 t474)).setCell ⟨gb480, 1, none⟩ (.int .i64 t475)).setCell ⟨gb480, 2, none⟩ (.slice Ao46 t476.length co46))) := ⟨z24_⟩
        (try clear HO_464002)
        (try clear HO478)
        (try clear BK463)
        (try clear BK480)
        (try clear HB)
        generalize (((w43.setCell ⟨gb480, 0, none⟩ (.int .i64 t474)).setCell ⟨gb480, 1, none⟩ (.int .i64 t475)).setCell ⟨gb480, 2, none⟩ (.slice Ao46 t476.length co46)) = w60 at n0_ n1_ n2_ n3_ n4_ ⊢
        have HO_464002 := n0_
        have HO478 := n1_
        have BK463 := n2_
        have BK480 := n3_
        have HB := n4_
        clear n0_ n1_ n2_ n3_ n4_
        have n0_ := q_ (Kd.R_drew HO_464002.out)
        have n1_ := q_ (Kd.R_drew HO478.out)
        have n2_ := q_ (blk_drew BK463.out)
        have n3_ := q_ (blk_drew BK480.out)
        have n4_ := q_ (below_drew1 HB.out)
        clear HO_464002
        clear HO478
        clear BK463
        clear BK480
        clear HB
        have HO_464002 := n0_
        have HO478 := n1_
        have BK463 := n2_
        have BK480 := n3_
        have HB := n4_
        clear n0_ n1_ n2_ n3_ n4_
        refine start_ (n := 18) (S := fun w' => w'.cell? ⟨gb480, 0, none⟩ = some (.int .i64 t474) ∧ w'.cell? ⟨gb480, 1, none⟩ = some (.int .i64 t475) ∧ w'.cell? ⟨gb480, 2, none⟩ = some (.slice Ao46 t476.length co46)) (ds := []) #[false, false, false, false, false, false, false, false, false, false, false, false, false, false, false, false, false, false] (by kernel_rfl) rfl rfl ⟨(blk_cell BK480.out 0).trans rfl, (blk_cell BK480.out 1).trans rfl, (blk_cell BK480.out 2).trans rfl⟩ (fun hHeld => ?_); refine with_tabW laws_FnLogCut.tab12 laws_FnLogCut.bits12 (fun HT_ HW_ => ?_)
        generalize w60.drew = w61 at HO_464002 HO478 BK463 BK480 HB hHeld ⊢
        refine pure_ (i := 1) (N := some 70) (v := ?_) (a' := ?_) #[false, true, false, false, false, false, false, false, false, false, false, false, false, false, false, false, false, false] rfl rfl (any_of HT_.out (by kernel_rfl)) (fun _ _ _ h => h) (Or.inl ⟨by rfl, ?_⟩) ?_ ?_
        rotate_left
        ·intro w'
         go_simp
         with_reducible rfl
        rotate_left
        ·simp only [Act.put, List.setIfInBounds_toArray, List.set_cons_zero, List.set_cons_succ, i64_w, i32_w]
         rfl
        refine pure_ (i := 5) (N := some 74) (v := ?_) (a' := ?_) #[false, true, false, false, false, true, false, false, false, false, false, false, false, false, false, false, false, false] rfl rfl (any_of HT_.out (by kernel_rfl)) (fun _ _ _ h => h) (Or.inl ⟨by rfl, ?_⟩) ?_ ?_
        rotate_left
        ·intro w'
         go_simp
         with_reducible rfl
        rotate_left
        ·simp only [Act.put, List.setIfInBounds_toArray, List.set_cons_zero, List.set_cons_succ, i64_w, i32_w]
         rfl
        refine take_ (i := 0) (N := some 69) (v := ?_) (a' := ?_) #[true, true, false, false, false, true, false, false, false, false, false, false, false, false, false, false, false, false] rfl rfl (take_ofW HT_.out HW_.out (by kernel_rfl)) (fun _ _ _ h => h) (Or.inl ⟨by rfl, ?_⟩) hHeld ?_ ?_
        rotate_left
        ·rintro w' ⟨s0, s1, s2⟩
         go_simp
         with_reducible rfl
        rotate_left
        ·simp only [Act.put, List.setIfInBounds_toArray, List.set_cons_zero, List.set_cons_succ, i64_w, i32_w]
         rfl
        refine take_ (i := 4) (N := some 73) (v := ?_) (a' := ?_) #[true, true, false, false, true, true, false, false, false, false, false, false, false, false, false, false, false, false] rfl rfl (take_ofW HT_.out HW_.out (by kernel_rfl)) (fun _ _ _ h => h) (Or.inl ⟨by rfl, ?_⟩) hHeld ?_ ?_
        rotate_left
        ·rintro w' ⟨s0, s1, s2⟩
         go_simp
         with_reducible rfl
        rotate_left
        ·simp only [Act.put, List.setIfInBounds_toArray, List.set_cons_zero, List.set_cons_succ, i64_w, i32_w]
         rfl
        refine one_ (i := 2) (N := some 71) #[true, true, true, false, true, true, false, false, false, false, false, false, false, false, false, false, false, false] rfl rfl (one_of HT_.out (by kernel_rfl)) (by decide) (fun K hK => ?_)
        refine goes_ Try.func39 (by kernel_rfl) rfl #[.agg #[.int .i64 t474, .int .i64 t475, .slice Ao46 t476.length co46], .int .i64 t479] (by rfl) rfl rfl z1_ ?_
        with_reducible refine (impl_EntriesFrom.calls t474 t475 _ _ t476 t479 t481 _ ?side1 ?side2 A47.out).mono ?_
        (case side1 => exact z211_)
        (case side2 => exact z233_)
        rintro e w62 ⟨v482, rfl, ho0, hb⟩
        refine ⟨_, rfl, ?_⟩
        have n0_ := q_ (Kd.R_elder' z15_ (Kd.R_base ho0) hb)
        have n1_ := q_ (Kd.R_elder' z69_ (Kd.R_base ho0) hb)
        have n2_ := q_ (Kd.R_lower (Kd.R_new' (Kd.R_new' ho0 (Kd.R_lt z15_)) (Kd.R_lt z69_)) (below_size z24_))
        have n3_ := q_ (blk_below (g := gb463) (o := .cells #[.int .i64 t458, .int .i64 t459, .slice Ao20 t460.length co20] 36 (0, 0)) z7_ hb)
        have n4_ := q_ (blk_below (g := gb480) (o := .cells #[.int .i64 t474, .int .i64 t475, .slice Ao46 t476.length co46] 36 (0, 0)) z100_ hb)
        have n5_ := q_ (below_step z24_ hb)
        clear HO_464002
        clear HO478
        clear BK463
        clear BK480
        clear HB
        have HO_464002 := n0_
        have HO478 := n1_
        have HO483 := n2_
        have BK463 := n3_
        have BK480 := n4_
        have HB := n5_
        clear n0_ n1_ n2_ n3_ n4_ n5_
        (try clear hb)
        (try clear hb2)
        (try clear hk)
        (try clear hi)
        (try clear ho0)
        obtain ⟨Ao63, co63, eo63⟩ := Kd.R_slice HO483.out
        (first | subst eo63 | (injection eo63 with f1_ f2_ f3_; have f4_ := f1_.symm; have f5_ := f3_.symm; clear f1_ f2_ f3_; subst f4_; subst f5_))
        refine hK.out _ _ ⟨(blk_cell BK480.out 0).trans rfl, (blk_cell BK480.out 1).trans rfl, (blk_cell BK480.out 2).trans rfl⟩ (fun hHeld => ?_)
        clear hK K
        refine norm_ (a' := ?_) ?_ ?_
        rotate_left
        ·show Act.put _ (some 71) _ = _
         simp only [Act.put, List.setIfInBounds_toArray, List.set_cons_zero, List.set_cons_succ, i64_w, i32_w]
         rfl
        refine pure_ (i := 3) (N := some 72) (v := ?_) (a' := ?_) #[true, true, true, true, true, true, false, false, false, false, false, false, false, false, false, false, false, false] rfl rfl (any_of HT_.out (by kernel_rfl)) (fun _ _ _ h => h) (Or.inl ⟨by rfl, ?_⟩) ?_ ?_
        rotate_left
        ·intro w'
         go_simp
         with_reducible rfl
        rotate_left
        ·simp only [Act.put, List.setIfInBounds_toArray, List.set_cons_zero, List.set_cons_succ, i64_w, i32_w]
         rfl
        refine one_ (i := 6) (N := some 75) #[true, true, true, true, true, true, true, false, false, false, false, false, false, false, false, false, false, false] rfl rfl (one_of HT_.out (by kernel_rfl)) (by decide) (fun K hK => ?_)
        refine goes_ Try.func40 (by kernel_rfl) rfl #[.agg #[.int .i64 t474, .int .i64 t475, .slice Ao46 t476.length co46], .int .i64 t479] (by rfl) rfl rfl z1_ ?_
        with_reducible refine (spec_EntriesFrom.calls t474 t475 _ _ t476 t479 t484 _ ?side1 ?side2 A48.out).mono ?_
        (case side1 => exact z211_)
        (case side2 => exact z233_)
        rintro e w64 ⟨v485, rfl, ho0, hb⟩
        refine ⟨_, rfl, ?_⟩
        have n0_ := q_ (Kd.R_elder' z15_ (Kd.R_base ho0) hb)
        have n1_ := q_ (Kd.R_elder' z69_ (Kd.R_base ho0) hb)
        have n2_ := q_ (Kd.R_elder' z104_ (Kd.R_base ho0) hb)
        have n3_ := q_ (Kd.R_lower (Kd.R_new' (Kd.R_new' (Kd.R_new' ho0 (Kd.R_lt z15_)) (Kd.R_lt z69_)) (Kd.R_lt z104_)) (below_size z24_))
        have n4_ := q_ (blk_below (g := gb463) (o := .cells #[.int .i64 t458, .int .i64 t459, .slice Ao20 t460.length co20] 36 (0, 0)) z7_ hb)
        have n5_ := q_ (blk_below (g := gb480) (o := .cells #[.int .i64 t474, .int .i64 t475, .slice Ao46 t476.length co46] 36 (0, 0)) z100_ hb)
        have n6_ := q_ (below_step z24_ hb)
        clear HO_464002
        clear HO478
        clear HO483
        clear BK463
        clear BK480
        clear HB
        have HO_464002 := n0_
        have HO478 := n1_
        have HO483 := n2_
        have HO486 := n3_
        have BK463 := n4_
        have BK480 := n5_
        have HB := n6_
        clear n0_ n1_ n2_ n3_ n4_ n5_ n6_
        (try clear hb)
        (try clear hb2)
        (try clear hk)
        (try clear hi)
        (try clear ho0)
        obtain ⟨Ao65, co65, eo65⟩ := Kd.R_slice HO486.out
        (first | subst eo65 | (injection eo65 with f1_ f2_ f3_; have f4_ := f1_.symm; have f5_ := f3_.symm; clear f1_ f2_ f3_; subst f4_; subst f5_))
        refine hK.out _ _ ⟨(blk_cell BK480.out 0).trans rfl, (blk_cell BK480.out 1).trans rfl, (blk_cell BK480.out 2).trans rfl⟩ (fun hHeld => ?_)
        clear hK K
        refine norm_ (a' := ?_) ?_ ?_
        rotate_left
        ·show Act.put _ (some 75) _ = _
         simp only [Act.put, List.setIfInBounds_toArray, List.set_cons_zero, List.set_cons_succ, i64_w, i32_w]
         rfl
        refine pure_ (i := 7) (N := some 76) (v := ?_) (a' := ?_) #[true, true, true, true, true, true, true, true, false, false, false, false, false, false, false, false, false, false] rfl rfl (any_of HT_.out (by kernel_rfl)) (fun _ _ _ h => h) (Or.inl ⟨by rfl, ?_⟩) ?_ ?_
        rotate_left
        ·intro w'
         go_simp
         with_reducible rfl
        rotate_left
        ·simp only [Act.put, List.setIfInBounds_toArray, List.set_cons_zero, List.set_cons_succ, i64_w, i32_w]
         rfl
        refine pure_ (i := 8) (N := some 77) (v := ?_) (a' := ?_) #[true, true, true, true, true, true, true, true, true, false, false, false, false, false, false, false, false, false] rfl rfl (any_of HT_.out (by kernel_rfl)) (fun _ _ _ h => h) (Or.inl ⟨by rfl, ?_⟩) ?_ ?_
        rotate_left
        ·intro w'
         go_simp
         with_reducible rfl
        rotate_left
        ·simp only [Act.put, List.setIfInBounds_toArray, List.set_cons_zero, List.set_cons_succ, i64_w, i32_w]
         rfl
        refine pure_ (i := 9) (N := some 78) (v := ?_) (a' := ?_) #[true, true, true, true, true, true, true, true, true, true, false, false, false, false, false, false, false, false] rfl rfl (any_of HT_.out (by kernel_rfl)) (fun _ _ _ h => h) (Or.inl ⟨by rfl, ?_⟩) ?_ ?_
        rotate_left
        ·intro w'
         go_simp
         with_reducible rfl
        rotate_left
        ·simp only [Act.put, List.setIfInBounds_toArray, List.set_cons_zero, List.set_cons_succ, i64_w, i32_w]
         rfl
        refine pure_ (i := 10) (N := some 79) (v := undef) (a' := ?_) #[true, true, true, true, true, true, true, true, true, true, true, false, false, false, false, false, false, false] rfl rfl (any_of HT_.out (by kernel_rfl)) (fun _ _ _ h => h) (Or.inr ⟨by rfl, rfl⟩) ?_ ?_
        rotate_left
        ·simp only [Act.put, List.setIfInBounds_toArray, List.set_cons_zero, List.set_cons_succ, i64_w, i32_w]
         rfl
        refine pure_ (i := 11) (N := some 80) (v := undef) (a' := ?_) #[true, true, true, true, true, true, true, true, true, true, true, true, false, false, false, false, false, false] rfl rfl (any_of HT_.out (by kernel_rfl)) (fun _ _ _ h => h) (Or.inr ⟨by rfl, rfl⟩) ?_ ?_
        rotate_left
        ·simp only [Act.put, List.setIfInBounds_toArray, List.set_cons_zero, List.set_cons_succ, i64_w, i32_w]
         rfl
        refine pure_ (i := 12) (N := some 81) (v := undef) (a' := ?_) #[true, true, true, true, true, true, true, true, true, true, true, true, true, false, false, false, false, false] rfl rfl (any_of HT_.out (by kernel_rfl)) (fun _ _ _ h => h) (Or.inr ⟨by rfl, rfl⟩) ?_ ?_
        rotate_left
        ·simp only [Act.put, List.setIfInBounds_toArray, List.set_cons_zero, List.set_cons_succ, i64_w, i32_w]
         rfl
        refine pure_ (i := 13) (N := some 82) (v := undef) (a' := ?_) #[true, true, true, true, true, true, true, true, true, true, true, true, true, true, false, false, false, false] rfl rfl (any_of HT_.out (by kernel_rfl)) (fun _ _ _ h => h) (Or.inr ⟨by rfl, rfl⟩) ?_ ?_
        rotate_left
        ·simp only [Act.put, List.setIfInBounds_toArray, List.set_cons_zero, List.set_cons_succ, i64_w, i32_w]
         rfl
        refine pure_ (i := 14) (N := some 83) (v := undef) (a' := ?_) #[true, true, true, true, true, true, true, true, true, true, true, true, true, true, true, false, false, false] rfl rfl (any_of HT_.out (by kernel_rfl)) (fun _ _ _ h => h) (Or.inr ⟨by rfl, rfl⟩) ?_ ?_
        rotate_left
        ·simp only [Act.put, List.setIfInBounds_toArray, List.set_cons_zero, List.set_cons_succ, i64_w, i32_w]
         rfl
        refine pure_ (i := 15) (N := some 84) (v := undef) (a' := ?_) #[true, true, true, true, true, true, true, true, true, true, true, true, true, true, true, true, false, false] rfl rfl (any_of HT_.out (by kernel_rfl)) (fun _ _ _ h => h) (Or.inr ⟨by rfl, rfl⟩) ?_ ?_
        rotate_left
        ·simp only [Act.put, List.setIfInBounds_toArray, List.set_cons_zero, List.set_cons_succ, i64_w, i32_w]
         rfl
        refine pure_ (i := 16) (N := some 85) (v := undef) (a' := ?_) #[true, true, true, true, true, true, true, true, true, true, true, true, true, true, true, true, true, false] rfl rfl (any_of HT_.out (by kernel_rfl)) (fun _ _ _ h => h) (Or.inr ⟨by rfl, rfl⟩) ?_ ?_
        rotate_left
        ·simp only [Act.put, List.setIfInBounds_toArray, List.set_cons_zero, List.set_cons_succ, i64_w, i32_w]
         rfl
        refine pure_ (i := 17) (N := some 86) (v := ?_) (a' := ?_) #[true, true, true, true, true, true, true, true, true, true, true, true, true, true, true, true, true, true] rfl rfl (any_of HT_.out (by kernel_rfl)) (fun _ _ _ h => h) (Or.inl ⟨by rfl, ?_⟩) ?_ ?_
        rotate_left
        ·intro w'
         go_simp
         with_reducible rfl
        rotate_left
        ·simp only [Act.put, List.setIfInBounds_toArray, List.set_cons_zero, List.set_cons_succ, i64_w, i32_w]
         rfl
        refine done_ (done_of HT_.out (by kernel_rfl)) ?_
        try go_wp2
        go_meet
        case rel => exact ⟨_, (true), z67_, H', ⟨z147_⟩, ⟨z140_⟩, ⟨z7_⟩, ⟨z24_⟩⟩
      case rest =>
       clear HC41
       try clear p2
       try clear c3
       try clear c4
       try clear c38
       try clear c39
       try clear c40
       try clear c41
       try clear c42
       try clear c44
       try clear c49
       try clear c49b0
       try clear c49b1
       try clear c49b2
       try clear hcz45_0
       try clear hcz45_1
       try clear hcz45_2
       try clear hfz45_0
       try clear hfz45_1
       try clear hfz45_2
       obtain ⟨kq, x86_40, rfl, HA, HJ40, HO_464002, BK463, HB⟩ := hcut
       cases kq with
       | zero => exact absurd HA.out (by simp [laws_FnLogCut.j1])
       | succ kj40 =>
        have H := HA.out
        clear HA
        simp only [laws_FnLogCut.j1] at H
        by_cases c66 : x86_40 = true
        ·subst c66
         have H1 : (some false) = some r := z132_
         clear H
         have H := H1
         clear H1
         obtain rfl := Option.some.inj H
         go_wp2
         go_ret
         exact ⟨z4_, z12_⟩
        ·replace c66 := Bool.eq_false_iff.mpr c66
         subst c66
         have H1 : ((spec_DrawNewer.f kj40 l0).bind fun bt489 => ((spec_LastOf.f bt489.1 bt489.2.1 bt489.2.2.1).bind fun bt497 => ((impl_Newer.f bt489.1 bt489.2.1 bt489.2.2.1 bt489.2.2.2.1 bt489.2.2.2.2).bind fun t499 => ((spec_Newer.f bt489.1 bt489.2.1 bt489.2.2.1 bt489.2.2.2.1 bt489.2.2.2.2).bind fun t500 => (if (t499 == t500) = true then ((impl_Newer.f bt489.1 bt489.2.1 bt489.2.2.1 bt497.1 bt497.2).bind fun t501 => (if t501 = true then ((impl_EntriesFrom.f t458 t459 t460 (wrap64 (t458 + 1))).bind fun t502 => (some ((t502.length : Int) == (t460.length : Int)))) else (some false))) else (some false)))))) = some r := by rw [if_neg (show ¬ (false = true) by decide)] at H; exact H
         clear H
         have H := H1
         clear H1
         replace H := Option.bind_eq_some_iff.mp H
         obtain ⟨⟨t489, t490, t491, t494, t495⟩, A670, H⟩ := H
         replace H : ((spec_LastOf.f t489 t490 t491).bind fun bt497 => ((impl_Newer.f t489 t490 t491 t494 t495).bind fun t499 => ((spec_Newer.f t489 t490 t491 t494 t495).bind fun t500 => (if (t499 == t500) = true then ((impl_Newer.f t489 t490 t491 bt497.1 bt497.2).bind fun t501 => (if t501 = true then ((impl_EntriesFrom.f t458 t459 t460 (wrap64 (t458 + 1))).bind fun t502 => (some ((t502.length : Int) == (t460.length : Int)))) else (some false))) else (some false))))) = some r := H
         have A67 := q_ A670
         clear A670
         replace H := Option.bind_eq_some_iff.mp H
         obtain ⟨⟨t497, t498⟩, A680, H⟩ := H
         replace H : ((impl_Newer.f t489 t490 t491 t494 t495).bind fun t499 => ((spec_Newer.f t489 t490 t491 t494 t495).bind fun t500 => (if (t499 == t500) = true then ((impl_Newer.f t489 t490 t491 t497 t498).bind fun t501 => (if t501 = true then ((impl_EntriesFrom.f t458 t459 t460 (wrap64 (t458 + 1))).bind fun t502 => (some ((t502.length : Int) == (t460.length : Int)))) else (some false))) else (some false)))) = some r := H
         have A68 := q_ A680
         clear A680
         replace H := Option.bind_eq_some_iff.mp H
         obtain ⟨t499, A690, H⟩ := H
         replace H : ((spec_Newer.f t489 t490 t491 t494 t495).bind fun t500 => (if (t499 == t500) = true then ((impl_Newer.f t489 t490 t491 t497 t498).bind fun t501 => (if t501 = true then ((impl_EntriesFrom.f t458 t459 t460 (wrap64 (t458 + 1))).bind fun t502 => (some ((t502.length : Int) == (t460.length : Int)))) else (some false))) else (some false))) = some r := H
         have A69 := q_ A690
         clear A690
         replace H := Option.bind_eq_some_iff.mp H
         obtain ⟨t500, A700, H⟩ := H
         replace H : (if (t499 == t500) = true then ((impl_Newer.f t489 t490 t491 t497 t498).bind fun t501 => (if t501 = true then ((impl_EntriesFrom.f t458 t459 t460 (wrap64 (t458 + 1))).bind fun t502 => (some ((t502.length : Int) == (t460.length : Int)))) else (some false))) else (some false)) = some r := H
         have A70 := q_ A700
         clear A700
         by_cases c71 : (t499 == t500) = true
         ·rw [if_pos c71] at H
          have c71b0 : (t499 == t500) = true := c71
          (try (have c71b1 : decide (t499 = t500) = true := z148_))
          (try (have c71b2 : (t499 == t500) = true := z148_))
          clear c71
          replace H := Option.bind_eq_some_iff.mp H
          obtain ⟨t501, A720, H⟩ := H
          replace H : (if t501 = true then ((impl_EntriesFrom.f t458 t459 t460 (wrap64 (t458 + 1))).bind fun t502 => (some ((t502.length : Int) == (t460.length : Int)))) else (some false)) = some r := H
          have A72 := q_ A720
          clear A720
          by_cases c73 : t501 = true
          ·subst c73
           have H1 : ((impl_EntriesFrom.f t458 t459 t460 (wrap64 (t458 + 1))).bind fun t502 => (some ((t502.length : Int) == (t460.length : Int)))) = some r := z132_
           clear H
           have H := H1
           clear H1
           replace H := Option.bind_eq_some_iff.mp H
           obtain ⟨t502, A740, H⟩ := H
           replace H : (some ((t502.length : Int) == (t460.length : Int))) = some r := H
           have A74 := q_ A740
           clear A740
           obtain rfl := Option.some.inj H
           try go_wp2_with (first | ((with_reducible refine gate_callee (f := 43) rfl ?_); refine goesL_ (some 89) rfl rfl Try.func43 (by kernel_rfl) rfl #[.slice A0 l0.length c0] rfl z1_ ?_; (with_reducible refine (spec_DrawNewer.calls kj40 _ _ l0 t489 t490 t491 t494 t495 _ ?side1 ?side2 A67.out).mono ?_); (case side1 => exact z210_); (case side2 => exact HC0.out); rintro e w75 ⟨v492, rfl, ho0, hb⟩; refine ⟨_, rfl, ?_⟩; have n0_ := q_ (Kd.R_elder' z15_ (Kd.R_base ho0) hb); have n1_ := q_ (Kd.R_lower (Kd.R_new' ho0 (Kd.R_lt z15_)) (below_size z12_)); have n2_ := q_ (blk_below (g := gb463) (o := .cells #[.int .i64 t458, .int .i64 t459, .slice Ao20 t460.length co20] 36 (0, 0)) z7_ hb); have n3_ := q_ (below_step z12_ hb); clear HO_464002; clear BK463; clear HB; have HO_464002 := n0_; have HO493 := n1_; have BK463 := n2_; have HB := n3_; clear n0_ n1_ n2_ n3_; (try clear hb); (try clear hb2); (try clear hk); (try clear hi); (try clear ho0)) | ((with_reducible refine gate_dst (N := 12) rfl ?_); (try (refine gate_guard (by rfl) ?_; dsimp only)); refine box_event ?hg (N := 12) ?hd (cs := #[.int .i64 0, .int .i64 0, .slice none 0 0]) (t := 36) ?hr ?_; (case hd => rfl); (case hg => rfl); (case hr => exact z195_); intro gb496 hg w76 hbox hb; have n0_ := q_ (Kd.R_below z15_ hb); have n1_ := q_ (Kd.R_below z59_ hb); have n2_ := q_ (blk_below (g := gb463) (o := .cells #[.int .i64 t458, .int .i64 t459, .slice Ao20 t460.length co20] 36 (0, 0)) z7_ hb); have n3_ := q_ (below_step z12_ hb); have n4_ := q_ (hbox); have n5_ := q_ ((z181_ : w.heap.size ≤ gb496)); have n6_ := q_ ((z181_ : w.heap.size ≤ gb496)); have n7_ := q_ ((z159_ : gb463 ≠ gb496)); have n8_ := q_ ((z160_ : gb496 ≠ gb463)); clear HO_464002; clear HO493; clear BK463; clear HB; have HO_464002 := n0_; have HO493 := n1_; have BK463 := n2_; have HB := n3_; have BK496 := n4_; have GW496 := n5_; have GE496 := n6_; have NB463_496 := n7_; have NB496_463 := n8_; clear n0_ n1_ n2_ n3_ n4_ n5_ n6_ n7_ n8_; clear hb hbox hg; have hnb77 := NB496_463.out; have hnc77 := NB463_496.out; obtain ⟨hcz78_0, hcz78_1, hcz78_2, hfz78_0, hfz78_1, hfz78_2⟩ := cs3_ BK496.out; obtain ⟨Ao79, co79, eo79⟩ := Kd.R_slice HO493.out; subst eo79) | ((with_reducible refine gate_callee (f := 44) rfl ?_); refine goesL_ (some 95) rfl rfl Try.func44 (by kernel_rfl) rfl #[.agg #[.int .i64 t489, .int .i64 t490, .slice Ao79 t491.length co79]] rfl z1_ ?_; (with_reducible refine (spec_LastOf.calls t489 t490 _ _ t491 t497 t498 _ ?side1 ?side2 A68.out).mono ?_); (case side1 => refine (Kd.R_reads' (e := 129) (base := w.heap.size) (ok := fun k_ => (True ∧ some k_ ≠ (.slice Ao20 t460.length co20 : Value).ownBlock)) (n := t491.length) (c := co79) ?_).2.2; exact (by (with_reducible repeat (first | apply Kd.R_alloc | apply Kd.R_drewN | apply Kd.R_drew)); exact (Kd.R_mono (Kd.R_far (p := ⟨gb496, 2, none⟩) (Kd.R_far (p := ⟨gb496, 1, none⟩) (Kd.R_far (p := ⟨gb496, 0, none⟩) (Kd.R_types HO493.out BK496.out (by decide)) (fun _ hk => hk.2) (.int .i64 t489)) (fun _ hk => hk.2) (.int .i64 t490)) (fun _ hk => hk.2) (.slice Ao79 t491.length co79)) (fun _ h_ => h_.1)))); (case side2 => exact z231_); rintro e w80 ⟨rfl, hb⟩; refine ⟨_, rfl, ?_⟩; have n0_ := q_ (Kd.R_below (by (with_reducible repeat (first | apply Kd.R_alloc | apply Kd.R_drewN | apply Kd.R_drew)); exact (Kd.R_mono (Kd.R_far (p := ⟨gb496, 2, none⟩) (Kd.R_far (p := ⟨gb496, 1, none⟩) (Kd.R_far (p := ⟨gb496, 0, none⟩) (Kd.R_types HO_464002.out BK496.out (by decide)) (fun _ hk => hk.2) (.int .i64 t489)) (fun _ hk => hk.2) (.int .i64 t490)) (fun _ hk => hk.2) (.slice Ao79 t491.length co79)) (fun _ h_ => h_.1))) hb); have n1_ := q_ (Kd.R_below (by (with_reducible repeat (first | apply Kd.R_alloc | apply Kd.R_drewN | apply Kd.R_drew)); exact (Kd.R_mono (Kd.R_far (p := ⟨gb496, 2, none⟩) (Kd.R_far (p := ⟨gb496, 1, none⟩) (Kd.R_far (p := ⟨gb496, 0, none⟩) (Kd.R_types HO493.out BK496.out (by decide)) (fun _ hk => hk.2) (.int .i64 t489)) (fun _ hk => hk.2) (.int .i64 t490)) (fun _ hk => hk.2) (.slice Ao79 t491.length co79)) (fun _ h_ => h_.1))) hb); have n2_ := q_ (blk_below (g := gb463) (o := .cells #[.int .i64 t458, .int .i64 t459, .slice Ao20 t460.length co20] 36 (0, 0)) z51_ hb); have n3_ := q_ (blk_below (g := gb496) (o := .cells #[.int .i64 t489, .int .i64 t490, .slice Ao79 t491.length co79] 36 (0, 0)) z44_ hb); have n4_ := q_ (below_step z19_ hb); clear HO_464002; clear HO493; clear BK463; clear BK496; clear HB; have HO_464002 := n0_; have HO493 := n1_; have BK463 := n2_; have BK496 := n3_; have HB := n4_; clear n0_ n1_ n2_ n3_ n4_; (try clear hb); (try clear hb2); (try clear hk); (try clear hi)))
           have n0_ := q_ (Kd.R_drew HO_464002.out)
           have n1_ := q_ (Kd.R_drew HO493.out)
           have n2_ := q_ (blk_drew BK463.out)
           have n3_ := q_ (blk_drew BK496.out)
           have n4_ := q_ (below_drew1 HB.out)
           clear HO_464002
           clear HO493
           clear BK463
           clear BK496
           clear HB
           have HO_464002 := n0_
           have HO493 := n1_
           have BK463 := n2_
           have BK496 := n3_
           have HB := n4_
           clear n0_ n1_ n2_ n3_ n4_
           refine start_ (n := 28) (S := fun w' => w'.cell? ⟨gb496, 0, none⟩ = some (.int .i64 t489) ∧ w'.cell? ⟨gb496, 1, none⟩ = some (.int .i64 t490) ∧ w'.cell? ⟨gb496, 2, none⟩ = some (.slice Ao79 t491.length co79) ∧ w'.cell? ⟨gb463, 0, none⟩ = some (.int .i64 t458) ∧ w'.cell? ⟨gb463, 1, none⟩ = some (.int .i64 t459) ∧ w'.cell? ⟨gb463, 2, none⟩ = some (.slice Ao20 t460.length co20)) (ds := []) #[false, false, false, false, false, false, false, false, false, false, false, false, false, false, false, false, false, false, false, false, false, false, false, false, false, false, false, false] (by kernel_rfl) rfl rfl ⟨(blk_cell BK496.out 0).trans rfl, (blk_cell BK496.out 1).trans rfl, (blk_cell BK496.out 2).trans rfl, (blk_cell BK463.out 0).trans rfl, (blk_cell BK463.out 1).trans rfl, (blk_cell BK463.out 2).trans rfl⟩ (fun hHeld => ?_); refine with_tabW laws_FnLogCut.tab16 laws_FnLogCut.bits16 (fun HT_ HW_ => ?_)
           generalize w80.drew = w81 at HO_464002 HO493 BK463 BK496 HB hHeld ⊢
           refine pure_ (i := 1) (N := some 99) (v := ?_) (a' := ?_) #[false, true, false, false, false, false, false, false, false, false, false, false, false, false, false, false, false, false, false, false, false, false, false, false, false, false, false, false] rfl rfl (any_of HT_.out (by kernel_rfl)) (fun _ _ _ h => h) (Or.inl ⟨by rfl, ?_⟩) ?_ ?_
           rotate_left
           ·intro w'
            go_simp
            with_reducible rfl
           rotate_left
           ·simp only [Act.put, List.setIfInBounds_toArray, List.set_cons_zero, List.set_cons_succ, i64_w, i32_w]
            rfl
           refine pure_ (i := 2) (N := some 100) (v := ?_) (a' := ?_) #[false, true, true, false, false, false, false, false, false, false, false, false, false, false, false, false, false, false, false, false, false, false, false, false, false, false, false, false] rfl rfl (any_of HT_.out (by kernel_rfl)) (fun _ _ _ h => h) (Or.inl ⟨by rfl, ?_⟩) ?_ ?_
           rotate_left
           ·intro w'
            go_simp
            with_reducible rfl
           rotate_left
           ·simp only [Act.put, List.setIfInBounds_toArray, List.set_cons_zero, List.set_cons_succ, i64_w, i32_w]
            rfl
           refine pure_ (i := 5) (N := some 103) (v := ?_) (a' := ?_) #[false, true, true, false, false, true, false, false, false, false, false, false, false, false, false, false, false, false, false, false, false, false, false, false, false, false, false, false] rfl rfl (any_of HT_.out (by kernel_rfl)) (fun _ _ _ h => h) (Or.inl ⟨by rfl, ?_⟩) ?_ ?_
           rotate_left
           ·intro w'
            go_simp
            with_reducible rfl
           rotate_left
           ·simp only [Act.put, List.setIfInBounds_toArray, List.set_cons_zero, List.set_cons_succ, i64_w, i32_w]
            rfl
           refine pure_ (i := 6) (N := some 104) (v := ?_) (a' := ?_) #[false, true, true, false, false, true, true, false, false, false, false, false, false, false, false, false, false, false, false, false, false, false, false, false, false, false, false, false] rfl rfl (any_of HT_.out (by kernel_rfl)) (fun _ _ _ h => h) (Or.inl ⟨by rfl, ?_⟩) ?_ ?_
           rotate_left
           ·intro w'
            go_simp
            with_reducible rfl
           rotate_left
           ·simp only [Act.put, List.setIfInBounds_toArray, List.set_cons_zero, List.set_cons_succ, i64_w, i32_w]
            rfl
           refine take_ (i := 0) (N := some 98) (v := ?_) (a' := ?_) #[true, true, true, false, false, true, true, false, false, false, false, false, false, false, false, false, false, false, false, false, false, false, false, false, false, false, false, false] rfl rfl (take_ofW HT_.out HW_.out (by kernel_rfl)) (fun _ _ _ h => h) (Or.inl ⟨by rfl, ?_⟩) hHeld ?_ ?_
           rotate_left
           ·rintro w' ⟨s0, s1, s2, s3, s4, s5⟩
            go_simp
            with_reducible rfl
           rotate_left
           ·simp only [Act.put, List.setIfInBounds_toArray, List.set_cons_zero, List.set_cons_succ, i64_w, i32_w]
            rfl
           refine take_ (i := 4) (N := some 102) (v := ?_) (a' := ?_) #[true, true, true, false, true, true, true, false, false, false, false, false, false, false, false, false, false, false, false, false, false, false, false, false, false, false, false, false] rfl rfl (take_ofW HT_.out HW_.out (by kernel_rfl)) (fun _ _ _ h => h) (Or.inl ⟨by rfl, ?_⟩) hHeld ?_ ?_
           rotate_left
           ·rintro w' ⟨s0, s1, s2, s3, s4, s5⟩
            go_simp
            with_reducible rfl
           rotate_left
           ·simp only [Act.put, List.setIfInBounds_toArray, List.set_cons_zero, List.set_cons_succ, i64_w, i32_w]
            rfl
           refine one_ (i := 3) (N := some 101) #[true, true, true, true, true, true, true, false, false, false, false, false, false, false, false, false, false, false, false, false, false, false, false, false, false, false, false, false] rfl rfl (one_of HT_.out (by kernel_rfl)) (by decide) (fun K hK => ?_)
           refine goes_ Try.func45 (by kernel_rfl) rfl #[.agg #[.int .i64 t489, .int .i64 t490, .slice Ao79 t491.length co79], .int .i64 t494, .int .i64 t495] (by rfl) rfl rfl z1_ ?_
           with_reducible refine (impl_Newer.calls t489 t490 _ _ t491 t494 t495 t499 _ ?side1 ?side2 A69.out).mono ?_
           (case side1 => exact z208_)
           (case side2 => exact z231_)
           rintro e w82 ⟨rfl, hb⟩
           refine ⟨_, rfl, ?_⟩
           have n0_ := q_ (Kd.R_below z15_ hb)
           have n1_ := q_ (Kd.R_below z59_ hb)
           have n2_ := q_ (blk_below (g := gb463) (o := .cells #[.int .i64 t458, .int .i64 t459, .slice Ao20 t460.length co20] 36 (0, 0)) z7_ hb)
           have n3_ := q_ (blk_below (g := gb496) (o := .cells #[.int .i64 t489, .int .i64 t490, .slice Ao79 t491.length co79] 36 (0, 0)) z75_ hb)
           have n4_ := q_ (below_step z19_ hb)
           clear HO_464002
           clear HO493
           clear BK463
           clear BK496
           clear HB
           have HO_464002 := n0_
           have HO493 := n1_
           have BK463 := n2_
           have BK496 := n3_
           have HB := n4_
           clear n0_ n1_ n2_ n3_ n4_
           (try clear hb)
           (try clear hb2)
           (try clear hk)
           (try clear hi)
           refine hK.out _ _ ⟨(blk_cell BK496.out 0).trans rfl, (blk_cell BK496.out 1).trans rfl, (blk_cell BK496.out 2).trans rfl, (blk_cell BK463.out 0).trans rfl, (blk_cell BK463.out 1).trans rfl, (blk_cell BK463.out 2).trans rfl⟩ (fun hHeld => ?_)
           clear hK K
           refine norm_ (a' := ?_) ?_ ?_
           rotate_left
           ·show Act.put _ (some 101) _ = _
            simp only [Act.put, List.setIfInBounds_toArray, List.set_cons_zero, List.set_cons_succ, i64_w, i32_w]
            rfl
           refine one_ (i := 7) (N := some 105) #[true, true, true, true, true, true, true, true, false, false, false, false, false, false, false, false, false, false, false, false, false, false, false, false, false, false, false, false] rfl rfl (one_of HT_.out (by kernel_rfl)) (by decide) (fun K hK => ?_)
           refine goes_ Try.func46 (by kernel_rfl) rfl #[.agg #[.int .i64 t489, .int .i64 t490, .slice Ao79 t491.length co79], .int .i64 t494, .int .i64 t495] (by rfl) rfl rfl z1_ ?_
           with_reducible refine (spec_Newer.calls t489 t490 _ _ t491 t494 t495 t500 _ ?side1 ?side2 A70.out).mono ?_
           (case side1 => exact z208_)
           (case side2 => exact z231_)
           rintro e w83 ⟨rfl, hb⟩
           refine ⟨_, rfl, ?_⟩
           have n0_ := q_ (Kd.R_below z15_ hb)
           have n1_ := q_ (Kd.R_below z59_ hb)
           have n2_ := q_ (blk_below (g := gb463) (o := .cells #[.int .i64 t458, .int .i64 t459, .slice Ao20 t460.length co20] 36 (0, 0)) z7_ hb)
           have n3_ := q_ (blk_below (g := gb496) (o := .cells #[.int .i64 t489, .int .i64 t490, .slice Ao79 t491.length co79] 36 (0, 0)) z75_ hb)
           have n4_ := q_ (below_step z19_ hb)
           clear HO_464002
           clear HO493
           clear BK463
           clear BK496
           clear HB
           have HO_464002 := n0_
           have HO493 := n1_
           have BK463 := n2_
           have BK496 := n3_
           have HB := n4_
           clear n0_ n1_ n2_ n3_ n4_
           (try clear hb)
           (try clear hb2)
           (try clear hk)
           (try clear hi)
           refine hK.out _ _ ⟨(blk_cell BK496.out 0).trans rfl, (blk_cell BK496.out 1).trans rfl, (blk_cell BK496.out 2).trans rfl, (blk_cell BK463.out 0).trans rfl, (blk_cell BK463.out 1).trans rfl, (blk_cell BK463.out 2).trans rfl⟩ (fun hHeld => ?_)
           clear hK K
           refine norm_ (a' := ?_) ?_ ?_
           rotate_left
           ·show Act.put _ (some 105) _ = _
            simp only [Act.put, List.setIfInBounds_toArray, List.set_cons_zero, List.set_cons_succ, i64_w, i32_w]
            rfl
           refine pure_ (i := 8) (N := some 106) (v := ?_) (a' := ?_) #[true, true, true, true, true, true, true, true, true, false, false, false, false, false, false, false, false, false, false, false, false, false, false, false, false, false, false, false] rfl rfl (any_of HT_.out (by kernel_rfl)) (fun _ _ _ h => h) (Or.inl ⟨by rfl, ?_⟩) ?_ ?_
           rotate_left
           ·intro w'
            go_simp
            with_reducible rfl
           rotate_left
           ·simp only [Act.put, List.setIfInBounds_toArray, List.set_cons_zero, List.set_cons_succ, i64_w, i32_w]
            rfl
           refine pure_ (i := 9) (N := some 107) (v := ?_) (a' := ?_) #[true, true, true, true, true, true, true, true, true, true, false, false, false, false, false, false, false, false, false, false, false, false, false, false, false, false, false, false] rfl rfl (any_of HT_.out (by kernel_rfl)) (fun _ _ _ h => h) (Or.inl ⟨by rfl, ?_⟩) ?_ ?_
           rotate_left
           ·intro w'
            go_simp
            with_reducible rfl
           rotate_left
           ·simp only [Act.put, List.setIfInBounds_toArray, List.set_cons_zero, List.set_cons_succ, i64_w, i32_w]
            rfl
           refine pure_ (i := 11) (N := some 109) (v := ?_) (a' := ?_) #[true, true, true, true, true, true, true, true, true, true, false, true, false, false, false, false, false, false, false, false, false, false, false, false, false, false, false, false] rfl rfl (any_of HT_.out (by kernel_rfl)) (fun _ _ _ h => h) (Or.inl ⟨by rfl, ?_⟩) ?_ ?_
           rotate_left
           ·intro w'
            go_simp
            with_reducible rfl
           rotate_left
           ·simp only [Act.put, List.setIfInBounds_toArray, List.set_cons_zero, List.set_cons_succ, i64_w, i32_w]
            rfl
           refine pure_ (i := 12) (N := some 110) (v := ?_) (a' := ?_) #[true, true, true, true, true, true, true, true, true, true, false, true, true, false, false, false, false, false, false, false, false, false, false, false, false, false, false, false] rfl rfl (any_of HT_.out (by kernel_rfl)) (fun _ _ _ h => h) (Or.inl ⟨by rfl, ?_⟩) ?_ ?_
           rotate_left
           ·intro w'
            go_simp
            with_reducible rfl
           rotate_left
           ·simp only [Act.put, List.setIfInBounds_toArray, List.set_cons_zero, List.set_cons_succ, i64_w, i32_w]
            rfl
           refine take_ (i := 10) (N := some 108) (v := ?_) (a' := ?_) #[true, true, true, true, true, true, true, true, true, true, true, true, true, false, false, false, false, false, false, false, false, false, false, false, false, false, false, false] rfl rfl (take_ofW HT_.out HW_.out (by kernel_rfl)) (fun _ _ _ h => h) (Or.inl ⟨by rfl, ?_⟩) hHeld ?_ ?_
           rotate_left
           ·rintro w' ⟨s0, s1, s2, s3, s4, s5⟩
            go_simp
            with_reducible rfl
           rotate_left
           ·simp only [Act.put, List.setIfInBounds_toArray, List.set_cons_zero, List.set_cons_succ, i64_w, i32_w]
            rfl
           refine one_ (i := 13) (N := some 111) #[true, true, true, true, true, true, true, true, true, true, true, true, true, true, false, false, false, false, false, false, false, false, false, false, false, false, false, false] rfl rfl (one_of HT_.out (by kernel_rfl)) (by decide) (fun K hK => ?_)
           refine goes_ Try.func45 (by kernel_rfl) rfl #[.agg #[.int .i64 t489, .int .i64 t490, .slice Ao79 t491.length co79], .int .i64 t497, .int .i64 t498] (by rfl) rfl rfl z1_ ?_
           with_reducible refine (impl_Newer.calls t489 t490 _ _ t491 t497 t498 true _ ?side1 ?side2 A72.out).mono ?_
           (case side1 => exact z208_)
           (case side2 => exact z231_)
           rintro e w84 ⟨rfl, hb⟩
           refine ⟨_, rfl, ?_⟩
           have n0_ := q_ (Kd.R_below z15_ hb)
           have n1_ := q_ (Kd.R_below z59_ hb)
           have n2_ := q_ (blk_below (g := gb463) (o := .cells #[.int .i64 t458, .int .i64 t459, .slice Ao20 t460.length co20] 36 (0, 0)) z7_ hb)
           have n3_ := q_ (blk_below (g := gb496) (o := .cells #[.int .i64 t489, .int .i64 t490, .slice Ao79 t491.length co79] 36 (0, 0)) z75_ hb)
           have n4_ := q_ (below_step z19_ hb)
           clear HO_464002
           clear HO493
           clear BK463
           clear BK496
           clear HB
           have HO_464002 := n0_
           have HO493 := n1_
           have BK463 := n2_
           have BK496 := n3_
           have HB := n4_
           clear n0_ n1_ n2_ n3_ n4_
           (try clear hb)
           (try clear hb2)
           (try clear hk)
           (try clear hi)
           refine hK.out _ _ ⟨(blk_cell BK496.out 0).trans rfl, (blk_cell BK496.out 1).trans rfl, (blk_cell BK496.out 2).trans rfl, (blk_cell BK463.out 0).trans rfl, (blk_cell BK463.out 1).trans rfl, (blk_cell BK463.out 2).trans rfl⟩ (fun hHeld => ?_)
           clear hK K
           refine norm_ (a' := ?_) ?_ ?_
           rotate_left
           ·show Act.put _ (some 111) _ = _
            simp only [Act.put, List.setIfInBounds_toArray, List.set_cons_zero, List.set_cons_succ, i64_w, i32_w]
            rfl
           refine pure_ (i := 14) (N := some 112) (v := ?_) (a' := ?_) #[true, true, true, true, true, true, true, true, true, true, true, true, true, true, true, false, false, false, false, false, false, false, false, false, false, false, false, false] rfl rfl (any_of HT_.out (by kernel_rfl)) (fun _ _ _ h => h) (Or.inl ⟨by rfl, ?_⟩) ?_ ?_
           rotate_left
           ·intro w'
            go_simp
            with_reducible rfl
           rotate_left
           ·simp only [Act.put, List.setIfInBounds_toArray, List.set_cons_zero, List.set_cons_succ, i64_w, i32_w]
            rfl
           refine pure_ (i := 15) (N := some 113) (v := ?_) (a' := ?_) #[true, true, true, true, true, true, true, true, true, true, true, true, true, true, true, true, false, false, false, false, false, false, false, false, false, false, false, false] rfl rfl (any_of HT_.out (by kernel_rfl)) (fun _ _ _ h => h) (Or.inl ⟨by rfl, ?_⟩) ?_ ?_
           rotate_left
           ·intro w'
            go_simp
            with_reducible rfl
           rotate_left
           ·simp only [Act.put, List.setIfInBounds_toArray, List.set_cons_zero, List.set_cons_succ, i64_w, i32_w]
            rfl
           refine pure_ (i := 17) (N := some 115) (v := ?_) (a' := ?_) #[true, true, true, true, true, true, true, true, true, true, true, true, true, true, true, true, false, true, false, false, false, false, false, false, false, false, false, false] rfl rfl (any_of HT_.out (by kernel_rfl)) (fun _ _ _ h => h) (Or.inl ⟨by rfl, ?_⟩) ?_ ?_
           rotate_left
           ·intro w'
            go_simp
            with_reducible rfl
           rotate_left
           ·simp only [Act.put, List.setIfInBounds_toArray, List.set_cons_zero, List.set_cons_succ, i64_w, i32_w]
            rfl
           refine pure_ (i := 22) (N := some 120) (v := ?_) (a' := ?_) #[true, true, true, true, true, true, true, true, true, true, true, true, true, true, true, true, false, true, false, false, false, false, true, false, false, false, false, false] rfl rfl (any_of HT_.out (by kernel_rfl)) (fun _ _ _ h => h) (Or.inl ⟨by rfl, ?_⟩) ?_ ?_
           rotate_left
           ·intro w'
            go_simp
            with_reducible rfl
           rotate_left
           ·simp only [Act.put, List.setIfInBounds_toArray, List.set_cons_zero, List.set_cons_succ, i64_w, i32_w]
            rfl
           refine take_ (i := 16) (N := some 114) (v := ?_) (a' := ?_) #[true, true, true, true, true, true, true, true, true, true, true, true, true, true, true, true, true, true, false, false, false, false, true, false, false, false, false, false] rfl rfl (take_ofW HT_.out HW_.out (by kernel_rfl)) (fun _ _ _ h => h) (Or.inl ⟨by rfl, ?_⟩) hHeld ?_ ?_
           rotate_left
           ·rintro w' ⟨s0, s1, s2, s3, s4, s5⟩
            go_simp
            with_reducible rfl
           rotate_left
           ·simp only [Act.put, List.setIfInBounds_toArray, List.set_cons_zero, List.set_cons_succ, i64_w, i32_w]
            rfl
           refine take_ (i := 18) (N := some 116) (v := ?_) (a' := ?_) #[true, true, true, true, true, true, true, true, true, true, true, true, true, true, true, true, true, true, true, false, false, false, true, false, false, false, false, false] rfl rfl (take_ofW HT_.out HW_.out (by kernel_rfl)) (fun _ _ _ h => h) (Or.inl ⟨by rfl, ?_⟩) hHeld ?_ ?_
           rotate_left
           ·rintro w' ⟨s0, s1, s2, s3, s4, s5⟩
            go_simp
            with_reducible rfl
           rotate_left
           ·simp only [Act.put, List.setIfInBounds_toArray, List.set_cons_zero, List.set_cons_succ, i64_w, i32_w]
            rfl
           refine pure_ (i := 19) (N := some 117) (v := ?_) (a' := ?_) #[true, true, true, true, true, true, true, true, true, true, true, true, true, true, true, true, true, true, true, true, false, false, true, false, false, false, false, false] rfl rfl (any_of HT_.out (by kernel_rfl)) (fun _ _ _ h => h) (Or.inl ⟨by rfl, ?_⟩) ?_ ?_
           rotate_left
           ·intro w'
            go_simp
            with_reducible rfl
           rotate_left
           ·simp only [Act.put, List.setIfInBounds_toArray, List.set_cons_zero, List.set_cons_succ, i64_w, i32_w]
            rfl
           refine take_ (i := 23) (N := some 121) (v := ?_) (a' := ?_) #[true, true, true, true, true, true, true, true, true, true, true, true, true, true, true, true, true, true, true, true, false, false, true, true, false, false, false, false] rfl rfl (take_ofW HT_.out HW_.out (by kernel_rfl)) (fun _ _ _ h => h) (Or.inl ⟨by rfl, ?_⟩) hHeld ?_ ?_
           rotate_left
           ·rintro w' ⟨s0, s1, s2, s3, s4, s5⟩
            go_simp
            with_reducible rfl
           rotate_left
           ·simp only [Act.put, List.setIfInBounds_toArray, List.set_cons_zero, List.set_cons_succ, i64_w, i32_w]
            rfl
           refine pure_ (i := 24) (N := some 122) (v := ?_) (a' := ?_) #[true, true, true, true, true, true, true, true, true, true, true, true, true, true, true, true, true, true, true, true, false, false, true, true, true, false, false, false] rfl rfl (any_of HT_.out (by kernel_rfl)) (fun _ _ _ h => h) (Or.inl ⟨by rfl, ?_⟩) ?_ ?_
           rotate_left
           ·intro w'
            go_simp
            with_reducible rfl
           rotate_left
           ·simp only [Act.put, List.setIfInBounds_toArray, List.set_cons_zero, List.set_cons_succ, i64_w, i32_w]
            rfl
           refine one_ (i := 20) (N := some 118) #[true, true, true, true, true, true, true, true, true, true, true, true, true, true, true, true, true, true, true, true, true, false, true, true, true, false, false, false] rfl rfl (one_of HT_.out (by kernel_rfl)) (by decide) (fun K hK => ?_)
           refine goes_ Try.func39 (by kernel_rfl) rfl #[.agg #[.int .i64 t458, .int .i64 t459, .slice Ao20 t460.length co20], .int .i64 (wrap64 (t458 + 1))] (by rfl) rfl rfl z1_ ?_
           with_reducible refine (impl_EntriesFrom.calls t458 t459 _ _ t460 (wrap64 (t458 + 1)) t502 _ ?side1 ?side2 A74.out).mono ?_
           (case side1 => repeat (first | exact (Kd.R_reads' HO_464002.out).2.2 | (with_reducible refine Kd.C_alloc ?_ _) | (with_reducible refine Kd.C_drewN ?_ _) | (with_reducible refine Kd.C_drew ?_)))
           (case side2 => exact (Kd.R_reads' HO_464002.out).2.1)
           rintro e w85 ⟨v503, rfl, ho0, hb⟩
           refine ⟨_, rfl, ?_⟩
           have n0_ := q_ (Kd.R_elder' z15_ (Kd.R_base ho0) hb)
           have n1_ := q_ (Kd.R_elder' z59_ (Kd.R_base ho0) hb)
           have n2_ := q_ (Kd.R_lower (Kd.R_new' (Kd.R_new' ho0 (Kd.R_lt z15_)) (Kd.R_lt z59_)) (below_size z19_))
           have n3_ := q_ (blk_below (g := gb463) (o := .cells #[.int .i64 t458, .int .i64 t459, .slice Ao20 t460.length co20] 36 (0, 0)) z7_ hb)
           have n4_ := q_ (blk_below (g := gb496) (o := .cells #[.int .i64 t489, .int .i64 t490, .slice Ao79 t491.length co79] 36 (0, 0)) z75_ hb)
           have n5_ := q_ (below_step z19_ hb)
           clear HO_464002
           clear HO493
           clear BK463
           clear BK496
           clear HB
           have HO_464002 := n0_
           have HO493 := n1_
           have HO504 := n2_
           have BK463 := n3_
           have BK496 := n4_
           have HB := n5_
           clear n0_ n1_ n2_ n3_ n4_ n5_
           (try clear hb)
           (try clear hb2)
           (try clear hk)
           (try clear hi)
           (try clear ho0)
           obtain ⟨Ao86, co86, eo86⟩ := Kd.R_slice HO504.out
           (first | subst eo86 | (injection eo86 with f1_ f2_ f3_; have f4_ := f1_.symm; have f5_ := f3_.symm; clear f1_ f2_ f3_; subst f4_; subst f5_))
           refine hK.out _ _ ⟨(blk_cell BK496.out 0).trans rfl, (blk_cell BK496.out 1).trans rfl, (blk_cell BK496.out 2).trans rfl, (blk_cell BK463.out 0).trans rfl, (blk_cell BK463.out 1).trans rfl, (blk_cell BK463.out 2).trans rfl⟩ (fun hHeld => ?_)
           clear hK K
           refine norm_ (a' := ?_) ?_ ?_
           rotate_left
           ·show Act.put _ (some 118) _ = _
            simp only [Act.put, List.setIfInBounds_toArray, List.set_cons_zero, List.set_cons_succ, i64_w, i32_w]
            rfl
           refine pure_ (i := 21) (N := some 119) (v := ?_) (a' := ?_) #[true, true, true, true, true, true, true, true, true, true, true, true, true, true, true, true, true, true, true, true, true, true, true, true, true, false, false, false] rfl rfl (any_of HT_.out (by kernel_rfl)) (fun _ _ _ h => h) (Or.inl ⟨by rfl, ?_⟩) ?_ ?_
           rotate_left
           ·intro w'
            go_simp
            with_reducible rfl
           rotate_left
           ·simp only [Act.put, List.setIfInBounds_toArray, List.set_cons_zero, List.set_cons_succ, i64_w, i32_w]
            rfl
           refine pure_ (i := 25) (N := some 123) (v := ?_) (a' := ?_) #[true, true, true, true, true, true, true, true, true, true, true, true, true, true, true, true, true, true, true, true, true, true, true, true, true, true, false, false] rfl rfl (any_of HT_.out (by kernel_rfl)) (fun _ _ _ h => h) (Or.inl ⟨by rfl, ?_⟩) ?_ ?_
           rotate_left
           ·intro w'
            go_simp
            with_reducible rfl
           rotate_left
           ·simp only [Act.put, List.setIfInBounds_toArray, List.set_cons_zero, List.set_cons_succ, i64_w, i32_w]
            rfl
           refine pure_ (i := 26) (N := some 124) (v := ?_) (a' := ?_) #[true, true, true, true, true, true, true, true, true, true, true, true, true, true, true, true, true, true, true, true, true, true, true, true, true, true, true, false] rfl rfl (any_of HT_.out (by kernel_rfl)) (fun _ _ _ h => h) (Or.inl ⟨by rfl, ?_⟩) ?_ ?_
           rotate_left
           ·intro w'
            go_simp
            with_reducible rfl
           rotate_left
           ·simp only [Act.put, List.setIfInBounds_toArray, List.set_cons_zero, List.set_cons_succ, i64_w, i32_w]
            rfl
           refine pure_ (i := 27) (N := some 2) (v := ?_) (a' := ?_) #[true, true, true, true, true, true, true, true, true, true, true, true, true, true, true, true, true, true, true, true, true, true, true, true, true, true, true, true] rfl rfl (any_of HT_.out (by kernel_rfl)) (fun _ _ _ h => h) (Or.inl ⟨by rfl, ?_⟩) ?_ ?_
           rotate_left
           ·intro w'
            go_simp
            with_reducible rfl
           rotate_left
           ·simp only [Act.put, List.setIfInBounds_toArray, List.set_cons_zero, List.set_cons_succ, i64_w, i32_w]
            rfl
           refine done_ (done_of HT_.out (by kernel_rfl)) ?_
           try go_wp2
           go_ret
           exact ⟨z4_, z19_⟩
          ·replace c73 := Bool.eq_false_iff.mpr c73
           subst c73
           have H1 : (some false) = some r := by rw [if_neg (show ¬ (false = true) by decide)] at H; exact H
           clear H
           have H := H1
           clear H1
           obtain rfl := Option.some.inj H
           try go_wp2_with (first | ((with_reducible refine gate_callee (f := 43) rfl ?_); refine goesL_ (some 89) rfl rfl Try.func43 (by kernel_rfl) rfl #[.slice A0 l0.length c0] rfl z1_ ?_; (with_reducible refine (spec_DrawNewer.calls kj40 _ _ l0 t489 t490 t491 t494 t495 _ ?side1 ?side2 A67.out).mono ?_); (case side1 => exact z210_); (case side2 => exact HC0.out); rintro e w87 ⟨v492, rfl, ho0, hb⟩; refine ⟨_, rfl, ?_⟩; have n0_ := q_ (Kd.R_elder' z15_ (Kd.R_base ho0) hb); have n1_ := q_ (Kd.R_lower (Kd.R_new' ho0 (Kd.R_lt z15_)) (below_size z12_)); have n2_ := q_ (blk_below (g := gb463) (o := .cells #[.int .i64 t458, .int .i64 t459, .slice Ao20 t460.length co20] 36 (0, 0)) z7_ hb); have n3_ := q_ (below_step z12_ hb); clear HO_464002; clear BK463; clear HB; have HO_464002 := n0_; have HO493 := n1_; have BK463 := n2_; have HB := n3_; clear n0_ n1_ n2_ n3_; (try clear hb); (try clear hb2); (try clear hk); (try clear hi); (try clear ho0)) | ((with_reducible refine gate_dst (N := 12) rfl ?_); (try (refine gate_guard (by rfl) ?_; dsimp only)); refine box_event ?hg (N := 12) ?hd (cs := #[.int .i64 0, .int .i64 0, .slice none 0 0]) (t := 36) ?hr ?_; (case hd => rfl); (case hg => rfl); (case hr => exact z195_); intro gb496 hg w88 hbox hb; have n0_ := q_ (Kd.R_below z15_ hb); have n1_ := q_ (Kd.R_below z59_ hb); have n2_ := q_ (blk_below (g := gb463) (o := .cells #[.int .i64 t458, .int .i64 t459, .slice Ao20 t460.length co20] 36 (0, 0)) z7_ hb); have n3_ := q_ (below_step z12_ hb); have n4_ := q_ (hbox); have n5_ := q_ ((z181_ : w.heap.size ≤ gb496)); have n6_ := q_ ((z181_ : w.heap.size ≤ gb496)); have n7_ := q_ ((z159_ : gb463 ≠ gb496)); have n8_ := q_ ((z160_ : gb496 ≠ gb463)); clear HO_464002; clear HO493; clear BK463; clear HB; have HO_464002 := n0_; have HO493 := n1_; have BK463 := n2_; have HB := n3_; have BK496 := n4_; have GW496 := n5_; have GE496 := n6_; have NB463_496 := n7_; have NB496_463 := n8_; clear n0_ n1_ n2_ n3_ n4_ n5_ n6_ n7_ n8_; clear hb hbox hg; have hnb89 := NB496_463.out; have hnc89 := NB463_496.out; obtain ⟨hcz90_0, hcz90_1, hcz90_2, hfz90_0, hfz90_1, hfz90_2⟩ := cs3_ BK496.out; obtain ⟨Ao91, co91, eo91⟩ := Kd.R_slice HO493.out; subst eo91) | ((with_reducible refine gate_callee (f := 44) rfl ?_); refine goesL_ (some 95) rfl rfl Try.func44 (by kernel_rfl) rfl #[.agg #[.int .i64 t489, .int .i64 t490, .slice Ao91 t491.length co91]] rfl z1_ ?_; (with_reducible refine (spec_LastOf.calls t489 t490 _ _ t491 t497 t498 _ ?side1 ?side2 A68.out).mono ?_); (case side1 => refine (Kd.R_reads' (e := 129) (base := w.heap.size) (ok := fun k_ => (True ∧ some k_ ≠ (.slice Ao20 t460.length co20 : Value).ownBlock)) (n := t491.length) (c := co91) ?_).2.2; exact (by (with_reducible repeat (first | apply Kd.R_alloc | apply Kd.R_drewN | apply Kd.R_drew)); exact (Kd.R_mono (Kd.R_far (p := ⟨gb496, 2, none⟩) (Kd.R_far (p := ⟨gb496, 1, none⟩) (Kd.R_far (p := ⟨gb496, 0, none⟩) (Kd.R_types HO493.out BK496.out (by decide)) (fun _ hk => hk.2) (.int .i64 t489)) (fun _ hk => hk.2) (.int .i64 t490)) (fun _ hk => hk.2) (.slice Ao91 t491.length co91)) (fun _ h_ => h_.1)))); (case side2 => exact z231_); rintro e w92 ⟨rfl, hb⟩; refine ⟨_, rfl, ?_⟩; have n0_ := q_ (Kd.R_below (by (with_reducible repeat (first | apply Kd.R_alloc | apply Kd.R_drewN | apply Kd.R_drew)); exact (Kd.R_mono (Kd.R_far (p := ⟨gb496, 2, none⟩) (Kd.R_far (p := ⟨gb496, 1, none⟩) (Kd.R_far (p := ⟨gb496, 0, none⟩) (Kd.R_types HO_464002.out BK496.out (by decide)) (fun _ hk => hk.2) (.int .i64 t489)) (fun _ hk => hk.2) (.int .i64 t490)) (fun _ hk => hk.2) (.slice Ao91 t491.length co91)) (fun _ h_ => h_.1))) hb); have n1_ := q_ (Kd.R_below (by (with_reducible repeat (first | apply Kd.R_alloc | apply Kd.R_drewN | apply Kd.R_drew)); exact (Kd.R_mono (Kd.R_far (p := ⟨gb496, 2, none⟩) (Kd.R_far (p := ⟨gb496, 1, none⟩) (Kd.R_far (p := ⟨gb496, 0, none⟩) (Kd.R_types HO493.out BK496.out (by decide)) (fun _ hk => hk.2) (.int .i64 t489)) (fun _ hk => hk.2) (.int .i64 t490)) (fun _ hk => hk.2) (.slice Ao91 t491.length co91)) (fun _ h_ => h_.1))) hb); have n2_ := q_ (blk_below (g := gb463) (o := .cells #[.int .i64 t458, .int .i64 t459, .slice Ao20 t460.length co20] 36 (0, 0)) z51_ hb); have n3_ := q_ (blk_below (g := gb496) (o := .cells #[.int .i64 t489, .int .i64 t490, .slice Ao91 t491.length co91] 36 (0, 0)) z44_ hb); have n4_ := q_ (below_step z19_ hb); clear HO_464002; clear HO493; clear BK463; clear BK496; clear HB; have HO_464002 := n0_; have HO493 := n1_; have BK463 := n2_; have BK496 := n3_; have HB := n4_; clear n0_ n1_ n2_ n3_ n4_; (try clear hb); (try clear hb2); (try clear hk); (try clear hi)))
           have n0_ := q_ (Kd.R_drew HO_464002.out)
           have n1_ := q_ (Kd.R_drew HO493.out)
           have n2_ := q_ (blk_drew BK463.out)
           have n3_ := q_ (blk_drew BK496.out)
           have n4_ := q_ (below_drew1 HB.out)
           clear HO_464002
           clear HO493
           clear BK463
           clear BK496
           clear HB
           have HO_464002 := n0_
           have HO493 := n1_
           have BK463 := n2_
           have BK496 := n3_
           have HB := n4_
           clear n0_ n1_ n2_ n3_ n4_
           refine start_ (n := 28) (S := fun w' => w'.cell? ⟨gb496, 0, none⟩ = some (.int .i64 t489) ∧ w'.cell? ⟨gb496, 1, none⟩ = some (.int .i64 t490) ∧ w'.cell? ⟨gb496, 2, none⟩ = some (.slice Ao91 t491.length co91)) (ds := []) #[false, false, false, false, false, false, false, false, false, false, false, false, false, false, false, false, false, false, false, false, false, false, false, false, false, false, false, false] (by kernel_rfl) rfl rfl ⟨(blk_cell BK496.out 0).trans rfl, (blk_cell BK496.out 1).trans rfl, (blk_cell BK496.out 2).trans rfl⟩ (fun hHeld => ?_); refine with_tabW laws_FnLogCut.tab16 laws_FnLogCut.bits16 (fun HT_ HW_ => ?_)
           generalize w92.drew = w93 at HO_464002 HO493 BK463 BK496 HB hHeld ⊢
           refine pure_ (i := 1) (N := some 99) (v := ?_) (a' := ?_) #[false, true, false, false, false, false, false, false, false, false, false, false, false, false, false, false, false, false, false, false, false, false, false, false, false, false, false, false] rfl rfl (any_of HT_.out (by kernel_rfl)) (fun _ _ _ h => h) (Or.inl ⟨by rfl, ?_⟩) ?_ ?_
           rotate_left
           ·intro w'
            go_simp
            with_reducible rfl
           rotate_left
           ·simp only [Act.put, List.setIfInBounds_toArray, List.set_cons_zero, List.set_cons_succ, i64_w, i32_w]
            rfl
           refine pure_ (i := 2) (N := some 100) (v := ?_) (a' := ?_) #[false, true, true, false, false, false, false, false, false, false, false, false, false, false, false, false, false, false, false, false, false, false, false, false, false, false, false, false] rfl rfl (any_of HT_.out (by kernel_rfl)) (fun _ _ _ h => h) (Or.inl ⟨by rfl, ?_⟩) ?_ ?_
           rotate_left
           ·intro w'
            go_simp
            with_reducible rfl
           rotate_left
           ·simp only [Act.put, List.setIfInBounds_toArray, List.set_cons_zero, List.set_cons_succ, i64_w, i32_w]
            rfl
           refine pure_ (i := 5) (N := some 103) (v := ?_) (a' := ?_) #[false, true, true, false, false, true, false, false, false, false, false, false, false, false, false, false, false, false, false, false, false, false, false, false, false, false, false, false] rfl rfl (any_of HT_.out (by kernel_rfl)) (fun _ _ _ h => h) (Or.inl ⟨by rfl, ?_⟩) ?_ ?_
           rotate_left
           ·intro w'
            go_simp
            with_reducible rfl
           rotate_left
           ·simp only [Act.put, List.setIfInBounds_toArray, List.set_cons_zero, List.set_cons_succ, i64_w, i32_w]
            rfl
           refine pure_ (i := 6) (N := some 104) (v := ?_) (a' := ?_) #[false, true, true, false, false, true, true, false, false, false, false, false, false, false, false, false, false, false, false, false, false, false, false, false, false, false, false, false] rfl rfl (any_of HT_.out (by kernel_rfl)) (fun _ _ _ h => h) (Or.inl ⟨by rfl, ?_⟩) ?_ ?_
           rotate_left
           ·intro w'
            go_simp
            with_reducible rfl
           rotate_left
           ·simp only [Act.put, List.setIfInBounds_toArray, List.set_cons_zero, List.set_cons_succ, i64_w, i32_w]
            rfl
           refine take_ (i := 0) (N := some 98) (v := ?_) (a' := ?_) #[true, true, true, false, false, true, true, false, false, false, false, false, false, false, false, false, false, false, false, false, false, false, false, false, false, false, false, false] rfl rfl (take_ofW HT_.out HW_.out (by kernel_rfl)) (fun _ _ _ h => h) (Or.inl ⟨by rfl, ?_⟩) hHeld ?_ ?_
           rotate_left
           ·rintro w' ⟨s0, s1, s2⟩
            go_simp
            with_reducible rfl
           rotate_left
           ·simp only [Act.put, List.setIfInBounds_toArray, List.set_cons_zero, List.set_cons_succ, i64_w, i32_w]
            rfl
           refine take_ (i := 4) (N := some 102) (v := ?_) (a' := ?_) #[true, true, true, false, true, true, true, false, false, false, false, false, false, false, false, false, false, false, false, false, false, false, false, false, false, false, false, false] rfl rfl (take_ofW HT_.out HW_.out (by kernel_rfl)) (fun _ _ _ h => h) (Or.inl ⟨by rfl, ?_⟩) hHeld ?_ ?_
           rotate_left
           ·rintro w' ⟨s0, s1, s2⟩
            go_simp
            with_reducible rfl
           rotate_left
           ·simp only [Act.put, List.setIfInBounds_toArray, List.set_cons_zero, List.set_cons_succ, i64_w, i32_w]
            rfl
           refine one_ (i := 3) (N := some 101) #[true, true, true, true, true, true, true, false, false, false, false, false, false, false, false, false, false, false, false, false, false, false, false, false, false, false, false, false] rfl rfl (one_of HT_.out (by kernel_rfl)) (by decide) (fun K hK => ?_)
           refine goes_ Try.func45 (by kernel_rfl) rfl #[.agg #[.int .i64 t489, .int .i64 t490, .slice Ao91 t491.length co91], .int .i64 t494, .int .i64 t495] (by rfl) rfl rfl z1_ ?_
           with_reducible refine (impl_Newer.calls t489 t490 _ _ t491 t494 t495 t499 _ ?side1 ?side2 A69.out).mono ?_
           (case side1 => exact z208_)
           (case side2 => exact z231_)
           rintro e w94 ⟨rfl, hb⟩
           refine ⟨_, rfl, ?_⟩
           have n0_ := q_ (Kd.R_below z15_ hb)
           have n1_ := q_ (Kd.R_below z59_ hb)
           have n2_ := q_ (blk_below (g := gb463) (o := .cells #[.int .i64 t458, .int .i64 t459, .slice Ao20 t460.length co20] 36 (0, 0)) z7_ hb)
           have n3_ := q_ (blk_below (g := gb496) (o := .cells #[.int .i64 t489, .int .i64 t490, .slice Ao91 t491.length co91] 36 (0, 0)) z75_ hb)
           have n4_ := q_ (below_step z19_ hb)
           clear HO_464002
           clear HO493
           clear BK463
           clear BK496
           clear HB
           have HO_464002 := n0_
           have HO493 := n1_
           have BK463 := n2_
           have BK496 := n3_
           have HB := n4_
           clear n0_ n1_ n2_ n3_ n4_
           (try clear hb)
           (try clear hb2)
           (try clear hk)
           (try clear hi)
           refine hK.out _ _ ⟨(blk_cell BK496.out 0).trans rfl, (blk_cell BK496.out 1).trans rfl, (blk_cell BK496.out 2).trans rfl⟩ (fun hHeld => ?_)
           clear hK K
           refine norm_ (a' := ?_) ?_ ?_
           rotate_left
           ·show Act.put _ (some 101) _ = _
            simp only [Act.put, List.setIfInBounds_toArray, List.set_cons_zero, List.set_cons_succ, i64_w, i32_w]
            rfl
           refine one_ (i := 7) (N := some 105) #[true, true, true, true, true, true, true, true, false, false, false, false, false, false, false, false, false, false, false, false, false, false, false, false, false, false, false, false] rfl rfl (one_of HT_.out (by kernel_rfl)) (by decide) (fun K hK => ?_)
           refine goes_ Try.func46 (by kernel_rfl) rfl #[.agg #[.int .i64 t489, .int .i64 t490, .slice Ao91 t491.length co91], .int .i64 t494, .int .i64 t495] (by rfl) rfl rfl z1_ ?_
           with_reducible refine (spec_Newer.calls t489 t490 _ _ t491 t494 t495 t500 _ ?side1 ?side2 A70.out).mono ?_
           (case side1 => exact z208_)
           (case side2 => exact z231_)
           rintro e w95 ⟨rfl, hb⟩
           refine ⟨_, rfl, ?_⟩
           have n0_ := q_ (Kd.R_below z15_ hb)
           have n1_ := q_ (Kd.R_below z59_ hb)
           have n2_ := q_ (blk_below (g := gb463) (o := .cells #[.int .i64 t458, .int .i64 t459, .slice Ao20 t460.length co20] 36 (0, 0)) z7_ hb)
           have n3_ := q_ (blk_below (g := gb496) (o := .cells #[.int .i64 t489, .int .i64 t490, .slice Ao91 t491.length co91] 36 (0, 0)) z75_ hb)
           have n4_ := q_ (below_step z19_ hb)
           clear HO_464002
           clear HO493
           clear BK463
           clear BK496
           clear HB
           have HO_464002 := n0_
           have HO493 := n1_
           have BK463 := n2_
           have BK496 := n3_
           have HB := n4_
           clear n0_ n1_ n2_ n3_ n4_
           (try clear hb)
           (try clear hb2)
           (try clear hk)
           (try clear hi)
           refine hK.out _ _ ⟨(blk_cell BK496.out 0).trans rfl, (blk_cell BK496.out 1).trans rfl, (blk_cell BK496.out 2).trans rfl⟩ (fun hHeld => ?_)
           clear hK K
           refine norm_ (a' := ?_) ?_ ?_
           rotate_left
           ·show Act.put _ (some 105) _ = _
            simp only [Act.put, List.setIfInBounds_toArray, List.set_cons_zero, List.set_cons_succ, i64_w, i32_w]
            rfl
           refine pure_ (i := 8) (N := some 106) (v := ?_) (a' := ?_) #[true, true, true, true, true, true, true, true, true, false, false, false, false, false, false, false, false, false, false, false, false, false, false, false, false, false, false, false] rfl rfl (any_of HT_.out (by kernel_rfl)) (fun _ _ _ h => h) (Or.inl ⟨by rfl, ?_⟩) ?_ ?_
           rotate_left
           ·intro w'
            go_simp
            with_reducible rfl
           rotate_left
           ·simp only [Act.put, List.setIfInBounds_toArray, List.set_cons_zero, List.set_cons_succ, i64_w, i32_w]
            rfl
           refine pure_ (i := 9) (N := some 107) (v := ?_) (a' := ?_) #[true, true, true, true, true, true, true, true, true, true, false, false, false, false, false, false, false, false, false, false, false, false, false, false, false, false, false, false] rfl rfl (any_of HT_.out (by kernel_rfl)) (fun _ _ _ h => h) (Or.inl ⟨by rfl, ?_⟩) ?_ ?_
           rotate_left
           ·intro w'
            go_simp
            with_reducible rfl
           rotate_left
           ·simp only [Act.put, List.setIfInBounds_toArray, List.set_cons_zero, List.set_cons_succ, i64_w, i32_w]
            rfl
           refine pure_ (i := 11) (N := some 109) (v := ?_) (a' := ?_) #[true, true, true, true, true, true, true, true, true, true, false, true, false, false, false, false, false, false, false, false, false, false, false, false, false, false, false, false] rfl rfl (any_of HT_.out (by kernel_rfl)) (fun _ _ _ h => h) (Or.inl ⟨by rfl, ?_⟩) ?_ ?_
           rotate_left
           ·intro w'
            go_simp
            with_reducible rfl
           rotate_left
           ·simp only [Act.put, List.setIfInBounds_toArray, List.set_cons_zero, List.set_cons_succ, i64_w, i32_w]
            rfl
           refine pure_ (i := 12) (N := some 110) (v := ?_) (a' := ?_) #[true, true, true, true, true, true, true, true, true, true, false, true, true, false, false, false, false, false, false, false, false, false, false, false, false, false, false, false] rfl rfl (any_of HT_.out (by kernel_rfl)) (fun _ _ _ h => h) (Or.inl ⟨by rfl, ?_⟩) ?_ ?_
           rotate_left
           ·intro w'
            go_simp
            with_reducible rfl
           rotate_left
           ·simp only [Act.put, List.setIfInBounds_toArray, List.set_cons_zero, List.set_cons_succ, i64_w, i32_w]
            rfl
           refine take_ (i := 10) (N := some 108) (v := ?_) (a' := ?_) #[true, true, true, true, true, true, true, true, true, true, true, true, true, false, false, false, false, false, false, false, false, false, false, false, false, false, false, false] rfl rfl (take_ofW HT_.out HW_.out (by kernel_rfl)) (fun _ _ _ h => h) (Or.inl ⟨by rfl, ?_⟩) hHeld ?_ ?_
           rotate_left
           ·rintro w' ⟨s0, s1, s2⟩
            go_simp
            with_reducible rfl
           rotate_left
           ·simp only [Act.put, List.setIfInBounds_toArray, List.set_cons_zero, List.set_cons_succ, i64_w, i32_w]
            rfl
           refine one_ (i := 13) (N := some 111) #[true, true, true, true, true, true, true, true, true, true, true, true, true, true, false, false, false, false, false, false, false, false, false, false, false, false, false, false] rfl rfl (one_of HT_.out (by kernel_rfl)) (by decide) (fun K hK => ?_)
           refine goes_ Try.func45 (by kernel_rfl) rfl #[.agg #[.int .i64 t489, .int .i64 t490, .slice Ao91 t491.length co91], .int .i64 t497, .int .i64 t498] (by rfl) rfl rfl z1_ ?_
           with_reducible refine (impl_Newer.calls t489 t490 _ _ t491 t497 t498 false _ ?side1 ?side2 A72.out).mono ?_
           (case side1 => exact z208_)
           (case side2 => exact z231_)
           rintro e w96 ⟨rfl, hb⟩
           refine ⟨_, rfl, ?_⟩
           have n0_ := q_ (Kd.R_below z15_ hb)
           have n1_ := q_ (Kd.R_below z59_ hb)
           have n2_ := q_ (blk_below (g := gb463) (o := .cells #[.int .i64 t458, .int .i64 t459, .slice Ao20 t460.length co20] 36 (0, 0)) z7_ hb)
           have n3_ := q_ (blk_below (g := gb496) (o := .cells #[.int .i64 t489, .int .i64 t490, .slice Ao91 t491.length co91] 36 (0, 0)) z75_ hb)
           have n4_ := q_ (below_step z19_ hb)
           clear HO_464002
           clear HO493
           clear BK463
           clear BK496
           clear HB
           have HO_464002 := n0_
           have HO493 := n1_
           have BK463 := n2_
           have BK496 := n3_
           have HB := n4_
           clear n0_ n1_ n2_ n3_ n4_
           (try clear hb)
           (try clear hb2)
           (try clear hk)
           (try clear hi)
           refine hK.out _ _ ⟨(blk_cell BK496.out 0).trans rfl, (blk_cell BK496.out 1).trans rfl, (blk_cell BK496.out 2).trans rfl⟩ (fun hHeld => ?_)
           clear hK K
           refine norm_ (a' := ?_) ?_ ?_
           rotate_left
           ·show Act.put _ (some 111) _ = _
            simp only [Act.put, List.setIfInBounds_toArray, List.set_cons_zero, List.set_cons_succ, i64_w, i32_w]
            rfl
           refine pure_ (i := 14) (N := some 112) (v := ?_) (a' := ?_) #[true, true, true, true, true, true, true, true, true, true, true, true, true, true, true, false, false, false, false, false, false, false, false, false, false, false, false, false] rfl rfl (any_of HT_.out (by kernel_rfl)) (fun _ _ _ h => h) (Or.inl ⟨by rfl, ?_⟩) ?_ ?_
           rotate_left
           ·intro w'
            go_simp
            with_reducible rfl
           rotate_left
           ·simp only [Act.put, List.setIfInBounds_toArray, List.set_cons_zero, List.set_cons_succ, i64_w, i32_w]
            rfl
           refine pure_ (i := 15) (N := some 113) (v := ?_) (a' := ?_) #[true, true, true, true, true, true, true, true, true, true, true, true, true, true, true, true, false, false, false, false, false, false, false, false, false, false, false, false] rfl rfl (any_of HT_.out (by kernel_rfl)) (fun _ _ _ h => h) (Or.inl ⟨by rfl, ?_⟩) ?_ ?_
           rotate_left
           ·intro w'
            go_simp
            with_reducible rfl
           rotate_left
           ·simp only [Act.put, List.setIfInBounds_toArray, List.set_cons_zero, List.set_cons_succ, i64_w, i32_w]
            rfl
           refine pure_ (i := 16) (N := some 114) (v := undef) (a' := ?_) #[true, true, true, true, true, true, true, true, true, true, true, true, true, true, true, true, true, false, false, false, false, false, false, false, false, false, false, false] rfl rfl (any_of HT_.out (by kernel_rfl)) (fun _ _ _ h => h) (Or.inr ⟨by rfl, rfl⟩) ?_ ?_
           rotate_left
           ·simp only [Act.put, List.setIfInBounds_toArray, List.set_cons_zero, List.set_cons_succ, i64_w, i32_w]
            rfl
           refine pure_ (i := 17) (N := some 115) (v := undef) (a' := ?_) #[true, true, true, true, true, true, true, true, true, true, true, true, true, true, true, true, true, true, false, false, false, false, false, false, false, false, false, false] rfl rfl (any_of HT_.out (by kernel_rfl)) (fun _ _ _ h => h) (Or.inr ⟨by rfl, rfl⟩) ?_ ?_
           rotate_left
           ·simp only [Act.put, List.setIfInBounds_toArray, List.set_cons_zero, List.set_cons_succ, i64_w, i32_w]
            rfl
           refine pure_ (i := 18) (N := some 116) (v := undef) (a' := ?_) #[true, true, true, true, true, true, true, true, true, true, true, true, true, true, true, true, true, true, true, false, false, false, false, false, false, false, false, false] rfl rfl (any_of HT_.out (by kernel_rfl)) (fun _ _ _ h => h) (Or.inr ⟨by rfl, rfl⟩) ?_ ?_
           rotate_left
           ·simp only [Act.put, List.setIfInBounds_toArray, List.set_cons_zero, List.set_cons_succ, i64_w, i32_w]
            rfl
           refine pure_ (i := 19) (N := some 117) (v := undef) (a' := ?_) #[true, true, true, true, true, true, true, true, true, true, true, true, true, true, true, true, true, true, true, true, false, false, false, false, false, false, false, false] rfl rfl (any_of HT_.out (by kernel_rfl)) (fun _ _ _ h => h) (Or.inr ⟨by rfl, rfl⟩) ?_ ?_
           rotate_left
           ·simp only [Act.put, List.setIfInBounds_toArray, List.set_cons_zero, List.set_cons_succ, i64_w, i32_w]
            rfl
           refine pure_ (i := 20) (N := some 118) (v := undef) (a' := ?_) #[true, true, true, true, true, true, true, true, true, true, true, true, true, true, true, true, true, true, true, true, true, false, false, false, false, false, false, false] rfl rfl (any_of HT_.out (by kernel_rfl)) (fun _ _ _ h => h) (Or.inr ⟨by rfl, rfl⟩) ?_ ?_
           rotate_left
           ·simp only [Act.put, List.setIfInBounds_toArray, List.set_cons_zero, List.set_cons_succ, i64_w, i32_w]
            rfl
           refine pure_ (i := 21) (N := some 119) (v := undef) (a' := ?_) #[true, true, true, true, true, true, true, true, true, true, true, true, true, true, true, true, true, true, true, true, true, true, false, false, false, false, false, false] rfl rfl (any_of HT_.out (by kernel_rfl)) (fun _ _ _ h => h) (Or.inr ⟨by rfl, rfl⟩) ?_ ?_
           rotate_left
           ·simp only [Act.put, List.setIfInBounds_toArray, List.set_cons_zero, List.set_cons_succ, i64_w, i32_w]
            rfl
           refine pure_ (i := 22) (N := some 120) (v := undef) (a' := ?_) #[true, true, true, true, true, true, true, true, true, true, true, true, true, true, true, true, true, true, true, true, true, true, true, false, false, false, false, false] rfl rfl (any_of HT_.out (by kernel_rfl)) (fun _ _ _ h => h) (Or.inr ⟨by rfl, rfl⟩) ?_ ?_
           rotate_left
           ·simp only [Act.put, List.setIfInBounds_toArray, List.set_cons_zero, List.set_cons_succ, i64_w, i32_w]
            rfl
           refine pure_ (i := 23) (N := some 121) (v := undef) (a' := ?_) #[true, true, true, true, true, true, true, true, true, true, true, true, true, true, true, true, true, true, true, true, true, true, true, true, false, false, false, false] rfl rfl (any_of HT_.out (by kernel_rfl)) (fun _ _ _ h => h) (Or.inr ⟨by rfl, rfl⟩) ?_ ?_
           rotate_left
           ·simp only [Act.put, List.setIfInBounds_toArray, List.set_cons_zero, List.set_cons_succ, i64_w, i32_w]
            rfl
           refine pure_ (i := 24) (N := some 122) (v := undef) (a' := ?_) #[true, true, true, true, true, true, true, true, true, true, true, true, true, true, true, true, true, true, true, true, true, true, true, true, true, false, false, false] rfl rfl (any_of HT_.out (by kernel_rfl)) (fun _ _ _ h => h) (Or.inr ⟨by rfl, rfl⟩) ?_ ?_
           rotate_left
           ·simp only [Act.put, List.setIfInBounds_toArray, List.set_cons_zero, List.set_cons_succ, i64_w, i32_w]
            rfl
           refine pure_ (i := 25) (N := some 123) (v := undef) (a' := ?_) #[true, true, true, true, true, true, true, true, true, true, true, true, true, true, true, true, true, true, true, true, true, true, true, true, true, true, false, false] rfl rfl (any_of HT_.out (by kernel_rfl)) (fun _ _ _ h => h) (Or.inr ⟨by rfl, rfl⟩) ?_ ?_
           rotate_left
           ·simp only [Act.put, List.setIfInBounds_toArray, List.set_cons_zero, List.set_cons_succ, i64_w, i32_w]
            rfl
           refine pure_ (i := 26) (N := some 124) (v := ?_) (a' := ?_) #[true, true, true, true, true, true, true, true, true, true, true, true, true, true, true, true, true, true, true, true, true, true, true, true, true, true, true, false] rfl rfl (any_of HT_.out (by kernel_rfl)) (fun _ _ _ h => h) (Or.inl ⟨by rfl, ?_⟩) ?_ ?_
           rotate_left
           ·intro w'
            go_simp
            with_reducible rfl
           rotate_left
           ·simp only [Act.put, List.setIfInBounds_toArray, List.set_cons_zero, List.set_cons_succ, i64_w, i32_w]
            rfl
           refine pure_ (i := 27) (N := some 2) (v := ?_) (a' := ?_) #[true, true, true, true, true, true, true, true, true, true, true, true, true, true, true, true, true, true, true, true, true, true, true, true, true, true, true, true] rfl rfl (any_of HT_.out (by kernel_rfl)) (fun _ _ _ h => h) (Or.inl ⟨by rfl, ?_⟩) ?_ ?_
           rotate_left
           ·intro w'
            go_simp
            with_reducible rfl
           rotate_left
           ·simp only [Act.put, List.setIfInBounds_toArray, List.set_cons_zero, List.set_cons_succ, i64_w, i32_w]
            rfl
           refine done_ (done_of HT_.out (by kernel_rfl)) ?_
           try go_wp2
           go_ret
           exact ⟨z4_, z19_⟩
         ·rw [if_neg c71] at H
          have c71b0 : (t499 == t500) = false := z148_
          (try (have c71b1 : decide (t499 = t500) = false := z148_))
          (try (have c71b2 : (t499 == t500) = false := z148_))
          (try (have c71b3 : ¬ (t499 = t500) := z148_))
          clear c71
          obtain rfl := Option.some.inj H
          try go_wp2_with (first | ((with_reducible refine gate_callee (f := 43) rfl ?_); refine goesL_ (some 89) rfl rfl Try.func43 (by kernel_rfl) rfl #[.slice A0 l0.length c0] rfl z1_ ?_; (with_reducible refine (spec_DrawNewer.calls kj40 _ _ l0 t489 t490 t491 t494 t495 _ ?side1 ?side2 A67.out).mono ?_); (case side1 => exact z210_); (case side2 => exact HC0.out); rintro e w97 ⟨v492, rfl, ho0, hb⟩; refine ⟨_, rfl, ?_⟩; have n0_ := q_ (Kd.R_elder' z15_ (Kd.R_base ho0) hb); have n1_ := q_ (Kd.R_lower (Kd.R_new' ho0 (Kd.R_lt z15_)) (below_size z12_)); have n2_ := q_ (blk_below (g := gb463) (o := .cells #[.int .i64 t458, .int .i64 t459, .slice Ao20 t460.length co20] 36 (0, 0)) z7_ hb); have n3_ := q_ (below_step z12_ hb); clear HO_464002; clear BK463; clear HB; have HO_464002 := n0_; have HO493 := n1_; have BK463 := n2_; have HB := n3_; clear n0_ n1_ n2_ n3_; (try clear hb); (try clear hb2); (try clear hk); (try clear hi); (try clear ho0)) | ((with_reducible refine gate_dst (N := 12) rfl ?_); (try (refine gate_guard (by rfl) ?_; dsimp only)); refine box_event ?hg (N := 12) ?hd (cs := #[.int .i64 0, .int .i64 0, .slice none 0 0]) (t := 36) ?hr ?_; (case hd => rfl); (case hg => rfl); (case hr => exact z195_); intro gb496 hg w98 hbox hb; have n0_ := q_ (Kd.R_below z15_ hb); have n1_ := q_ (Kd.R_below z59_ hb); have n2_ := q_ (blk_below (g := gb463) (o := .cells #[.int .i64 t458, .int .i64 t459, .slice Ao20 t460.length co20] 36 (0, 0)) z7_ hb); have n3_ := q_ (below_step z12_ hb); have n4_ := q_ (hbox); have n5_ := q_ ((z181_ : w.heap.size ≤ gb496)); have n6_ := q_ ((z181_ : w.heap.size ≤ gb496)); have n7_ := q_ ((z159_ : gb463 ≠ gb496)); have n8_ := q_ ((z160_ : gb496 ≠ gb463)); clear HO_464002; clear HO493; clear BK463; clear HB; have HO_464002 := n0_; have HO493 := n1_; have BK463 := n2_; have HB := n3_; have BK496 := n4_; have GW496 := n5_; have GE496 := n6_; have NB463_496 := n7_; have NB496_463 := n8_; clear n0_ n1_ n2_ n3_ n4_ n5_ n6_ n7_ n8_; clear hb hbox hg; have hnb99 := NB496_463.out; have hnc99 := NB463_496.out; obtain ⟨hcz100_0, hcz100_1, hcz100_2, hfz100_0, hfz100_1, hfz100_2⟩ := cs3_ BK496.out; obtain ⟨Ao101, co101, eo101⟩ := Kd.R_slice HO493.out; subst eo101) | ((with_reducible refine gate_callee (f := 44) rfl ?_); refine goesL_ (some 95) rfl rfl Try.func44 (by kernel_rfl) rfl #[.agg #[.int .i64 t489, .int .i64 t490, .slice Ao101 t491.length co101]] rfl z1_ ?_; (with_reducible refine (spec_LastOf.calls t489 t490 _ _ t491 t497 t498 _ ?side1 ?side2 A68.out).mono ?_); (case side1 => refine (Kd.R_reads' (e := 129) (base := w.heap.size) (ok := fun k_ => (True ∧ some k_ ≠ (.slice Ao20 t460.length co20 : Value).ownBlock)) (n := t491.length) (c := co101) ?_).2.2; exact (by (with_reducible repeat (first | apply Kd.R_alloc | apply Kd.R_drewN | apply Kd.R_drew)); exact (Kd.R_mono (Kd.R_far (p := ⟨gb496, 2, none⟩) (Kd.R_far (p := ⟨gb496, 1, none⟩) (Kd.R_far (p := ⟨gb496, 0, none⟩) (Kd.R_types HO493.out BK496.out (by decide)) (fun _ hk => hk.2) (.int .i64 t489)) (fun _ hk => hk.2) (.int .i64 t490)) (fun _ hk => hk.2) (.slice Ao101 t491.length co101)) (fun _ h_ => h_.1)))); (case side2 => exact z231_); rintro e w102 ⟨rfl, hb⟩; refine ⟨_, rfl, ?_⟩; have n0_ := q_ (Kd.R_below (by (with_reducible repeat (first | apply Kd.R_alloc | apply Kd.R_drewN | apply Kd.R_drew)); exact (Kd.R_mono (Kd.R_far (p := ⟨gb496, 2, none⟩) (Kd.R_far (p := ⟨gb496, 1, none⟩) (Kd.R_far (p := ⟨gb496, 0, none⟩) (Kd.R_types HO_464002.out BK496.out (by decide)) (fun _ hk => hk.2) (.int .i64 t489)) (fun _ hk => hk.2) (.int .i64 t490)) (fun _ hk => hk.2) (.slice Ao101 t491.length co101)) (fun _ h_ => h_.1))) hb); have n1_ := q_ (Kd.R_below (by (with_reducible repeat (first | apply Kd.R_alloc | apply Kd.R_drewN | apply Kd.R_drew)); exact (Kd.R_mono (Kd.R_far (p := ⟨gb496, 2, none⟩) (Kd.R_far (p := ⟨gb496, 1, none⟩) (Kd.R_far (p := ⟨gb496, 0, none⟩) (Kd.R_types HO493.out BK496.out (by decide)) (fun _ hk => hk.2) (.int .i64 t489)) (fun _ hk => hk.2) (.int .i64 t490)) (fun _ hk => hk.2) (.slice Ao101 t491.length co101)) (fun _ h_ => h_.1))) hb); have n2_ := q_ (blk_below (g := gb463) (o := .cells #[.int .i64 t458, .int .i64 t459, .slice Ao20 t460.length co20] 36 (0, 0)) z51_ hb); have n3_ := q_ (blk_below (g := gb496) (o := .cells #[.int .i64 t489, .int .i64 t490, .slice Ao101 t491.length co101] 36 (0, 0)) z44_ hb); have n4_ := q_ (below_step z19_ hb); clear HO_464002; clear HO493; clear BK463; clear BK496; clear HB; have HO_464002 := n0_; have HO493 := n1_; have BK463 := n2_; have BK496 := n3_; have HB := n4_; clear n0_ n1_ n2_ n3_ n4_; (try clear hb); (try clear hb2); (try clear hk); (try clear hi)))
          have n0_ := q_ (Kd.R_drew HO_464002.out)
          have n1_ := q_ (Kd.R_drew HO493.out)
          have n2_ := q_ (blk_drew BK463.out)
          have n3_ := q_ (blk_drew BK496.out)
          have n4_ := q_ (below_drew1 HB.out)
          clear HO_464002
          clear HO493
          clear BK463
          clear BK496
          clear HB
          have HO_464002 := n0_
          have HO493 := n1_
          have BK463 := n2_
          have BK496 := n3_
          have HB := n4_
          clear n0_ n1_ n2_ n3_ n4_
          refine start_ (n := 28) (S := fun w' => w'.cell? ⟨gb496, 0, none⟩ = some (.int .i64 t489) ∧ w'.cell? ⟨gb496, 1, none⟩ = some (.int .i64 t490) ∧ w'.cell? ⟨gb496, 2, none⟩ = some (.slice Ao101 t491.length co101)) (ds := []) #[false, false, false, false, false, false, false, false, false, false, false, false, false, false, false, false, false, false, false, false, false, false, false, false, false, false, false, false] (by kernel_rfl) rfl rfl ⟨(blk_cell BK496.out 0).trans rfl, (blk_cell BK496.out 1).trans rfl, (blk_cell BK496.out 2).trans rfl⟩ (fun hHeld => ?_); refine with_tabW laws_FnLogCut.tab16 laws_FnLogCut.bits16 (fun HT_ HW_ => ?_)
          generalize w102.drew = w103 at HO_464002 HO493 BK463 BK496 HB hHeld ⊢
          refine pure_ (i := 1) (N := some 99) (v := ?_) (a' := ?_) #[false, true, false, false, false, false, false, false, false, false, false, false, false, false, false, false, false, false, false, false, false, false, false, false, false, false, false, false] rfl rfl (any_of HT_.out (by kernel_rfl)) (fun _ _ _ h => h) (Or.inl ⟨by rfl, ?_⟩) ?_ ?_
          rotate_left
          ·intro w'
           go_simp
           with_reducible rfl
          rotate_left
          ·simp only [Act.put, List.setIfInBounds_toArray, List.set_cons_zero, List.set_cons_succ, i64_w, i32_w]
           rfl
          refine pure_ (i := 2) (N := some 100) (v := ?_) (a' := ?_) #[false, true, true, false, false, false, false, false, false, false, false, false, false, false, false, false, false, false, false, false, false, false, false, false, false, false, false, false] rfl rfl (any_of HT_.out (by kernel_rfl)) (fun _ _ _ h => h) (Or.inl ⟨by rfl, ?_⟩) ?_ ?_
          rotate_left
          ·intro w'
           go_simp
           with_reducible rfl
          rotate_left
          ·simp only [Act.put, List.setIfInBounds_toArray, List.set_cons_zero, List.set_cons_succ, i64_w, i32_w]
           rfl
          refine pure_ (i := 5) (N := some 103) (v := ?_) (a' := ?_) #[false, true, true, false, false, true, false, false, false, false, false, false, false, false, false, false, false, false, false, false, false, false, false, false, false, false, false, false] rfl rfl (any_of HT_.out (by kernel_rfl)) (fun _ _ _ h => h) (Or.inl ⟨by rfl, ?_⟩) ?_ ?_
          rotate_left
          ·intro w'
           go_simp
           with_reducible rfl
          rotate_left
          ·simp only [Act.put, List.setIfInBounds_toArray, List.set_cons_zero, List.set_cons_succ, i64_w, i32_w]
           rfl
          refine pure_ (i := 6) (N := some 104) (v := ?_) (a' := ?_) #[false, true, true, false, false, true, true, false, false, false, false, false, false, false, false, false, false, false, false, false, false, false, false, false, false, false, false, false] rfl rfl (any_of HT_.out (by kernel_rfl)) (fun _ _ _ h => h) (Or.inl ⟨by rfl, ?_⟩) ?_ ?_
          rotate_left
          ·intro w'
           go_simp
           with_reducible rfl
          rotate_left
          ·simp only [Act.put, List.setIfInBounds_toArray, List.set_cons_zero, List.set_cons_succ, i64_w, i32_w]
           rfl
          refine take_ (i := 0) (N := some 98) (v := ?_) (a' := ?_) #[true, true, true, false, false, true, true, false, false, false, false, false, false, false, false, false, false, false, false, false, false, false, false, false, false, false, false, false] rfl rfl (take_ofW HT_.out HW_.out (by kernel_rfl)) (fun _ _ _ h => h) (Or.inl ⟨by rfl, ?_⟩) hHeld ?_ ?_
          rotate_left
          ·rintro w' ⟨s0, s1, s2⟩
           go_simp
           with_reducible rfl
          rotate_left
          ·simp only [Act.put, List.setIfInBounds_toArray, List.set_cons_zero, List.set_cons_succ, i64_w, i32_w]
           rfl
          refine take_ (i := 4) (N := some 102) (v := ?_) (a' := ?_) #[true, true, true, false, true, true, true, false, false, false, false, false, false, false, false, false, false, false, false, false, false, false, false, false, false, false, false, false] rfl rfl (take_ofW HT_.out HW_.out (by kernel_rfl)) (fun _ _ _ h => h) (Or.inl ⟨by rfl, ?_⟩) hHeld ?_ ?_
          rotate_left
          ·rintro w' ⟨s0, s1, s2⟩
           go_simp
           with_reducible rfl
          rotate_left
          ·simp only [Act.put, List.setIfInBounds_toArray, List.set_cons_zero, List.set_cons_succ, i64_w, i32_w]
           rfl
          refine one_ (i := 3) (N := some 101) #[true, true, true, true, true, true, true, false, false, false, false, false, false, false, false, false, false, false, false, false, false, false, false, false, false, false, false, false] rfl rfl (one_of HT_.out (by kernel_rfl)) (by decide) (fun K hK => ?_)
          refine goes_ Try.func45 (by kernel_rfl) rfl #[.agg #[.int .i64 t489, .int .i64 t490, .slice Ao101 t491.length co101], .int .i64 t494, .int .i64 t495] (by rfl) rfl rfl z1_ ?_
          with_reducible refine (impl_Newer.calls t489 t490 _ _ t491 t494 t495 t499 _ ?side1 ?side2 A69.out).mono ?_
          (case side1 => exact z208_)
          (case side2 => exact z231_)
          rintro e w104 ⟨rfl, hb⟩
          refine ⟨_, rfl, ?_⟩
          have n0_ := q_ (Kd.R_below z15_ hb)
          have n1_ := q_ (Kd.R_below z59_ hb)
          have n2_ := q_ (blk_below (g := gb463) (o := .cells #[.int .i64 t458, .int .i64 t459, .slice Ao20 t460.length co20] 36 (0, 0)) z7_ hb)
          have n3_ := q_ (blk_below (g := gb496) (o := .cells #[.int .i64 t489, .int .i64 t490, .slice Ao101 t491.length co101] 36 (0, 0)) z75_ hb)
          have n4_ := q_ (below_step z19_ hb)
          clear HO_464002
          clear HO493
          clear BK463
          clear BK496
          clear HB
          have HO_464002 := n0_
          have HO493 := n1_
          have BK463 := n2_
          have BK496 := n3_
          have HB := n4_
          clear n0_ n1_ n2_ n3_ n4_
          (try clear hb)
          (try clear hb2)
          (try clear hk)
          (try clear hi)
          refine hK.out _ _ ⟨(blk_cell BK496.out 0).trans rfl, (blk_cell BK496.out 1).trans rfl, (blk_cell BK496.out 2).trans rfl⟩ (fun hHeld => ?_)
          clear hK K
          refine norm_ (a' := ?_) ?_ ?_
          rotate_left
          ·show Act.put _ (some 101) _ = _
           simp only [Act.put, List.setIfInBounds_toArray, List.set_cons_zero, List.set_cons_succ, i64_w, i32_w]
           rfl
          refine one_ (i := 7) (N := some 105) #[true, true, true, true, true, true, true, true, false, false, false, false, false, false, false, false, false, false, false, false, false, false, false, false, false, false, false, false] rfl rfl (one_of HT_.out (by kernel_rfl)) (by decide) (fun K hK => ?_)
          refine goes_ Try.func46 (by kernel_rfl) rfl #[.agg #[.int .i64 t489, .int .i64 t490, .slice Ao101 t491.length co101], .int .i64 t494, .int .i64 t495] (by rfl) rfl rfl z1_ ?_
          with_reducible refine (spec_Newer.calls t489 t490 _ _ t491 t494 t495 t500 _ ?side1 ?side2 A70.out).mono ?_
          (case side1 => exact z208_)
          (case side2 => exact z231_)
          rintro e w105 ⟨rfl, hb⟩
          refine ⟨_, rfl, ?_⟩
          have n0_ := q_ (Kd.R_below z15_ hb)
          have n1_ := q_ (Kd.R_below z59_ hb)
          have n2_ := q_ (blk_below (g := gb463) (o := .cells #[.int .i64 t458, .int .i64 t459, .slice Ao20 t460.length co20] 36 (0, 0)) z7_ hb)
          have n3_ := q_ (blk_below (g := gb496) (o := .cells #[.int .i64 t489, .int .i64 t490, .slice Ao101 t491.length co101] 36 (0, 0)) z75_ hb)
          have n4_ := q_ (below_step z19_ hb)
          clear HO_464002
          clear HO493
          clear BK463
          clear BK496
          clear HB
          have HO_464002 := n0_
          have HO493 := n1_
          have BK463 := n2_
          have BK496 := n3_
          have HB := n4_
          clear n0_ n1_ n2_ n3_ n4_
          (try clear hb)
          (try clear hb2)
          (try clear hk)
          (try clear hi)
          refine hK.out _ _ ⟨(blk_cell BK496.out 0).trans rfl, (blk_cell BK496.out 1).trans rfl, (blk_cell BK496.out 2).trans rfl⟩ (fun hHeld => ?_)
          clear hK K
          refine norm_ (a' := ?_) ?_ ?_
          rotate_left
          ·show Act.put _ (some 105) _ = _
           simp only [Act.put, List.setIfInBounds_toArray, List.set_cons_zero, List.set_cons_succ, i64_w, i32_w]
           rfl
          refine pure_ (i := 8) (N := some 106) (v := ?_) (a' := ?_) #[true, true, true, true, true, true, true, true, true, false, false, false, false, false, false, false, false, false, false, false, false, false, false, false, false, false, false, false] rfl rfl (any_of HT_.out (by kernel_rfl)) (fun _ _ _ h => h) (Or.inl ⟨by rfl, ?_⟩) ?_ ?_
          rotate_left
          ·intro w'
           go_simp
           with_reducible rfl
          rotate_left
          ·simp only [Act.put, List.setIfInBounds_toArray, List.set_cons_zero, List.set_cons_succ, i64_w, i32_w]
           rfl
          refine pure_ (i := 9) (N := some 107) (v := ?_) (a' := ?_) #[true, true, true, true, true, true, true, true, true, true, false, false, false, false, false, false, false, false, false, false, false, false, false, false, false, false, false, false] rfl rfl (any_of HT_.out (by kernel_rfl)) (fun _ _ _ h => h) (Or.inl ⟨by rfl, ?_⟩) ?_ ?_
          rotate_left
          ·intro w'
           go_simp
           with_reducible rfl
          rotate_left
          ·simp only [Act.put, List.setIfInBounds_toArray, List.set_cons_zero, List.set_cons_succ, i64_w, i32_w]
           rfl
          refine pure_ (i := 10) (N := some 108) (v := undef) (a' := ?_) #[true, true, true, true, true, true, true, true, true, true, true, false, false, false, false, false, false, false, false, false, false, false, false, false, false, false, false, false] rfl rfl (any_of HT_.out (by kernel_rfl)) (fun _ _ _ h => h) (Or.inr ⟨by rfl, rfl⟩) ?_ ?_
          rotate_left
          ·simp only [Act.put, List.setIfInBounds_toArray, List.set_cons_zero, List.set_cons_succ, i64_w, i32_w]
           rfl
          refine pure_ (i := 11) (N := some 109) (v := undef) (a' := ?_) #[true, true, true, true, true, true, true, true, true, true, true, true, false, false, false, false, false, false, false, false, false, false, false, false, false, false, false, false] rfl rfl (any_of HT_.out (by kernel_rfl)) (fun _ _ _ h => h) (Or.inr ⟨by rfl, rfl⟩) ?_ ?_
          rotate_left
          ·simp only [Act.put, List.setIfInBounds_toArray, List.set_cons_zero, List.set_cons_succ, i64_w, i32_w]
           rfl
          refine pure_ (i := 12) (N := some 110) (v := undef) (a' := ?_) #[true, true, true, true, true, true, true, true, true, true, true, true, true, false, false, false, false, false, false, false, false, false, false, false, false, false, false, false] rfl rfl (any_of HT_.out (by kernel_rfl)) (fun _ _ _ h => h) (Or.inr ⟨by rfl, rfl⟩) ?_ ?_
          rotate_left
          ·simp only [Act.put, List.setIfInBounds_toArray, List.set_cons_zero, List.set_cons_succ, i64_w, i32_w]
           rfl
          refine pure_ (i := 13) (N := some 111) (v := undef) (a' := ?_) #[true, true, true, true, true, true, true, true, true, true, true, true, true, true, false, false, false, false, false, false, false, false, false, false, false, false, false, false] rfl rfl (any_of HT_.out (by kernel_rfl)) (fun _ _ _ h => h) (Or.inr ⟨by rfl, rfl⟩) ?_ ?_
          rotate_left
          ·simp only [Act.put, List.setIfInBounds_toArray, List.set_cons_zero, List.set_cons_succ, i64_w, i32_w]
           rfl
          refine pure_ (i := 14) (N := some 112) (v := ?_) (a' := ?_) #[true, true, true, true, true, true, true, true, true, true, true, true, true, true, true, false, false, false, false, false, false, false, false, false, false, false, false, false] rfl rfl (any_of HT_.out (by kernel_rfl)) (fun _ _ _ h => h) (Or.inl ⟨by rfl, ?_⟩) ?_ ?_
          rotate_left
          ·intro w'
           go_simp
           with_reducible rfl
          rotate_left
          ·simp only [Act.put, List.setIfInBounds_toArray, List.set_cons_zero, List.set_cons_succ, i64_w, i32_w]
           rfl
          refine pure_ (i := 15) (N := some 113) (v := ?_) (a' := ?_) #[true, true, true, true, true, true, true, true, true, true, true, true, true, true, true, true, false, false, false, false, false, false, false, false, false, false, false, false] rfl rfl (any_of HT_.out (by kernel_rfl)) (fun _ _ _ h => h) (Or.inl ⟨by rfl, ?_⟩) ?_ ?_
          rotate_left
          ·intro w'
           go_simp
           with_reducible rfl
          rotate_left
          ·simp only [Act.put, List.setIfInBounds_toArray, List.set_cons_zero, List.set_cons_succ, i64_w, i32_w]
           rfl
          refine pure_ (i := 16) (N := some 114) (v := undef) (a' := ?_) #[true, true, true, true, true, true, true, true, true, true, true, true, true, true, true, true, true, false, false, false, false, false, false, false, false, false, false, false] rfl rfl (any_of HT_.out (by kernel_rfl)) (fun _ _ _ h => h) (Or.inr ⟨by rfl, rfl⟩) ?_ ?_
          rotate_left
          ·simp only [Act.put, List.setIfInBounds_toArray, List.set_cons_zero, List.set_cons_succ, i64_w, i32_w]
           rfl
          refine pure_ (i := 17) (N := some 115) (v := undef) (a' := ?_) #[true, true, true, true, true, true, true, true, true, true, true, true, true, true, true, true, true, true, false, false, false, false, false, false, false, false, false, false] rfl rfl (any_of HT_.out (by kernel_rfl)) (fun _ _ _ h => h) (Or.inr ⟨by rfl, rfl⟩) ?_ ?_
          rotate_left
          ·simp only [Act.put, List.setIfInBounds_toArray, List.set_cons_zero, List.set_cons_succ, i64_w, i32_w]
           rfl
          refine pure_ (i := 18) (N := some 116) (v := undef) (a' := ?_) #[true, true, true, true, true, true, true, true, true, true, true, true, true, true, true, true, true, true, true, false, false, false, false, false, false, false, false, false] rfl rfl (any_of HT_.out (by kernel_rfl)) (fun _ _ _ h => h) (Or.inr ⟨by rfl, rfl⟩) ?_ ?_
          rotate_left
          ·simp only [Act.put, List.setIfInBounds_toArray, List.set_cons_zero, List.set_cons_succ, i64_w, i32_w]
           rfl
          refine pure_ (i := 19) (N := some 117) (v := undef) (a' := ?_) #[true, true, true, true, true, true, true, true, true, true, true, true, true, true, true, true, true, true, true, true, false, false, false, false, false, false, false, false] rfl rfl (any_of HT_.out (by kernel_rfl)) (fun _ _ _ h => h) (Or.inr ⟨by rfl, rfl⟩) ?_ ?_
          rotate_left
          ·simp only [Act.put, List.setIfInBounds_toArray, List.set_cons_zero, List.set_cons_succ, i64_w, i32_w]
           rfl
          refine pure_ (i := 20) (N := some 118) (v := undef) (a' := ?_) #[true, true, true, true, true, true, true, true, true, true, true, true, true, true, true, true, true, true, true, true, true, false, false, false, false, false, false, false] rfl rfl (any_of HT_.out (by kernel_rfl)) (fun _ _ _ h => h) (Or.inr ⟨by rfl, rfl⟩) ?_ ?_
          rotate_left
          ·simp only [Act.put, List.setIfInBounds_toArray, List.set_cons_zero, List.set_cons_succ, i64_w, i32_w]
           rfl
          refine pure_ (i := 21) (N := some 119) (v := undef) (a' := ?_) #[true, true, true, true, true, true, true, true, true, true, true, true, true, true, true, true, true, true, true, true, true, true, false, false, false, false, false, false] rfl rfl (any_of HT_.out (by kernel_rfl)) (fun _ _ _ h => h) (Or.inr ⟨by rfl, rfl⟩) ?_ ?_
          rotate_left
          ·simp only [Act.put, List.setIfInBounds_toArray, List.set_cons_zero, List.set_cons_succ, i64_w, i32_w]
           rfl
          refine pure_ (i := 22) (N := some 120) (v := undef) (a' := ?_) #[true, true, true, true, true, true, true, true, true, true, true, true, true, true, true, true, true, true, true, true, true, true, true, false, false, false, false, false] rfl rfl (any_of HT_.out (by kernel_rfl)) (fun _ _ _ h => h) (Or.inr ⟨by rfl, rfl⟩) ?_ ?_
          rotate_left
          ·simp only [Act.put, List.setIfInBounds_toArray, List.set_cons_zero, List.set_cons_succ, i64_w, i32_w]
           rfl
          refine pure_ (i := 23) (N := some 121) (v := undef) (a' := ?_) #[true, true, true, true, true, true, true, true, true, true, true, true, true, true, true, true, true, true, true, true, true, true, true, true, false, false, false, false] rfl rfl (any_of HT_.out (by kernel_rfl)) (fun _ _ _ h => h) (Or.inr ⟨by rfl, rfl⟩) ?_ ?_
          rotate_left
          ·simp only [Act.put, List.setIfInBounds_toArray, List.set_cons_zero, List.set_cons_succ, i64_w, i32_w]
           rfl
          refine pure_ (i := 24) (N := some 122) (v := undef) (a' := ?_) #[true, true, true, true, true, true, true, true, true, true, true, true, true, true, true, true, true, true, true, true, true, true, true, true, true, false, false, false] rfl rfl (any_of HT_.out (by kernel_rfl)) (fun _ _ _ h => h) (Or.inr ⟨by rfl, rfl⟩) ?_ ?_
          rotate_left
          ·simp only [Act.put, List.setIfInBounds_toArray, List.set_cons_zero, List.set_cons_succ, i64_w, i32_w]
           rfl
          refine pure_ (i := 25) (N := some 123) (v := undef) (a' := ?_) #[true, true, true, true, true, true, true, true, true, true, true, true, true, true, true, true, true, true, true, true, true, true, true, true, true, true, false, false] rfl rfl (any_of HT_.out (by kernel_rfl)) (fun _ _ _ h => h) (Or.inr ⟨by rfl, rfl⟩) ?_ ?_
          rotate_left
          ·simp only [Act.put, List.setIfInBounds_toArray, List.set_cons_zero, List.set_cons_succ, i64_w, i32_w]
           rfl
          refine pure_ (i := 26) (N := some 124) (v := ?_) (a' := ?_) #[true, true, true, true, true, true, true, true, true, true, true, true, true, true, true, true, true, true, true, true, true, true, true, true, true, true, true, false] rfl rfl (any_of HT_.out (by kernel_rfl)) (fun _ _ _ h => h) (Or.inl ⟨by rfl, ?_⟩) ?_ ?_
          rotate_left
          ·intro w'
           go_simp
           with_reducible rfl
          rotate_left
          ·simp only [Act.put, List.setIfInBounds_toArray, List.set_cons_zero, List.set_cons_succ, i64_w, i32_w]
           rfl
          refine pure_ (i := 27) (N := some 2) (v := ?_) (a' := ?_) #[true, true, true, true, true, true, true, true, true, true, true, true, true, true, true, true, true, true, true, true, true, true, true, true, true, true, true, true] rfl rfl (any_of HT_.out (by kernel_rfl)) (fun _ _ _ h => h) (Or.inl ⟨by rfl, ?_⟩) ?_ ?_
          rotate_left
          ·intro w'
           go_simp
           with_reducible rfl
          rotate_left
          ·simp only [Act.put, List.setIfInBounds_toArray, List.set_cons_zero, List.set_cons_succ, i64_w, i32_w]
           rfl
          refine done_ (done_of HT_.out (by kernel_rfl)) ?_
          try go_wp2
          go_ret
          exact ⟨z4_, z19_⟩
  ·replace c8 := Bool.eq_false_iff.mpr c8
   subst c8
   have H1 : (some false) = some r := by rw [if_neg (show ¬ (false = true) by decide)] at H; exact H
   clear H
   have H := H1
   clear H1
   obtain rfl := Option.some.inj H
   go_enter Try.func6, Try.ntmps6
   try go_wp2_with (first | ((with_reducible refine gate_callee (f := 34) rfl ?_); refine goesL_ (some 18) rfl rfl Try.func34 (by kernel_rfl) rfl #[.slice A0 l0.length c0] rfl z1_ ?_; (with_reducible refine (laws_big.calls _ _ l0 false _ ?side1 ?side2 A2.out).mono ?_); (case side1 => exact z216_); (case side2 => exact HC0.out); rintro e w' ⟨rfl, ⟨nd, rfl⟩⟩; refine ⟨_, rfl, ?_⟩) | ((with_reducible refine gate_callee (f := 35) rfl ?_); refine goesL_ (some 21) rfl rfl Try.func35 (by kernel_rfl) rfl #[.slice A0 l0.length c0] rfl z1_ ?_; (with_reducible refine (spec_DrawLogCut.calls k _ _ l0 t451 t452 t453 t456 _ ?side1 ?side2 A4.out).mono ?_); (case side1 => exact z216_); (case side2 => exact HC0.out); rintro e w106 ⟨v454, rfl, ho0, hb⟩; refine ⟨_, rfl, ?_⟩; have n0_ := q_ (Kd.R_lower ho0 (below_size z0_)); have n1_ := q_ (below_step z0_ hb); clear HB; have HO455 := n0_; have HB := n1_; clear n0_ n1_; (try clear hb); (try clear hb2); (try clear hk); (try clear hi); (try clear ho0)) | ((with_reducible refine gate_dst (N := 3) rfl ?_); (try (refine gate_guard (by rfl) ?_; dsimp only)); refine box_event ?hg (N := 3) ?hd (cs := #[.int .i64 0, .int .i64 0, .slice none 0 0]) (t := 36) ?hr ?_; (case hd => rfl); (case hg => rfl); (case hr => exact z195_); intro gb457 hg w107 hbox hb; have n0_ := q_ (Kd.R_below z65_ hb); have n1_ := q_ (below_step z0_ hb); have n2_ := q_ (hbox); have n3_ := q_ ((z150_ : w.heap.size ≤ gb457)); have n4_ := q_ ((z150_ : w.heap.size ≤ gb457)); clear HO455; clear HB; have HO455 := n0_; have HB := n1_; have BK457 := n2_; have GW457 := n3_; have GE457 := n4_; clear n0_ n1_ n2_ n3_ n4_; clear hb hbox hg; obtain ⟨hcz108_0, hcz108_1, hcz108_2, hfz108_0, hfz108_1, hfz108_2⟩ := cs3_ BK457.out; obtain ⟨Ao109, co109, eo109⟩ := Kd.R_slice HO455.out; subst eo109) | ((with_reducible refine gate_callee (f := 25) rfl ?_); refine goesL_ (some 26) rfl rfl Try.func25 (by kernel_rfl) rfl #[.agg #[.int .i64 t451, .int .i64 t452, .slice Ao109 t453.length co109], .int .i64 t456] rfl z1_ ?_; (with_reducible refine (impl_LogCut.calls t451 t452 _ _ t453 t456 t458 t459 t460 _ ?side1 ?side2 A5.out).mono ?_); (case side1 => refine (Kd.R_reads' (e := 129) (base := w.heap.size) (ok := fun k_ => True) (n := t453.length) (c := co109) ?_).2.2; exact (by (with_reducible repeat (first | apply Kd.R_alloc | apply Kd.R_drewN | apply Kd.R_drew)); exact (Kd.R_mono (Kd.R_far (p := ⟨gb457, 2, none⟩) (Kd.R_far (p := ⟨gb457, 1, none⟩) (Kd.R_far (p := ⟨gb457, 0, none⟩) (Kd.R_types HO455.out BK457.out (by decide)) (fun _ hk => hk.2) (.int .i64 t451)) (fun _ hk => hk.2) (.int .i64 t452)) (fun _ hk => hk.2) (.slice Ao109 t453.length co109)) (fun _ h_ => h_.1)))); (case side2 => exact z234_); rintro e w110 ⟨v461, rfl, ho0, hb⟩; refine ⟨_, rfl, ?_⟩; have n0_ := q_ (Kd.R_elder' (by (with_reducible repeat (first | apply Kd.R_alloc | apply Kd.R_drewN | apply Kd.R_drew)); exact (Kd.R_mono (Kd.R_far (p := ⟨gb457, 2, none⟩) (Kd.R_far (p := ⟨gb457, 1, none⟩) (Kd.R_far (p := ⟨gb457, 0, none⟩) (Kd.R_types HO455.out BK457.out (by decide)) (fun _ hk => hk.2) (.int .i64 t451)) (fun _ hk => hk.2) (.int .i64 t452)) (fun _ hk => hk.2) (.slice Ao109 t453.length co109)) (fun _ h_ => h_.1))) (Kd.R_base ho0) hb); have n1_ := q_ (Kd.R_lower (Kd.R_new' ho0 (Kd.R_lt (by (with_reducible repeat (first | apply Kd.R_alloc | apply Kd.R_drewN | apply Kd.R_drew)); exact (Kd.R_mono (Kd.R_far (p := ⟨gb457, 2, none⟩) (Kd.R_far (p := ⟨gb457, 1, none⟩) (Kd.R_far (p := ⟨gb457, 0, none⟩) (Kd.R_types HO455.out BK457.out (by decide)) (fun _ hk => hk.2) (.int .i64 t451)) (fun _ hk => hk.2) (.int .i64 t452)) (fun _ hk => hk.2) (.slice Ao109 t453.length co109)) (fun _ h_ => h_.1))))) (below_size z50_)); have n2_ := q_ (blk_below (g := gb457) (o := .cells #[.int .i64 t451, .int .i64 t452, .slice Ao109 t453.length co109] 36 (0, 0)) z60_ hb); have n3_ := q_ (below_step z50_ hb); clear HO455; clear BK457; clear HB; have HO455 := n0_; have HO462 := n1_; have BK457 := n2_; have HB := n3_; clear n0_ n1_ n2_ n3_; (try clear hb); (try clear hb2); (try clear hk); (try clear hi); (try clear ho0)) | ((with_reducible refine gate_dst (N := 5) rfl ?_); (try (refine gate_guard (by rfl) ?_; dsimp only)); refine box_event ?hg (N := 5) ?hd (cs := #[.int .i64 0, .int .i64 0, .slice none 0 0]) (t := 36) ?hr ?_; (case hd => rfl); (case hg => rfl); (case hr => exact z195_); intro gb463 hg w111 hbox hb; have n0_ := q_ (Kd.R_below z65_ hb); have n1_ := q_ (Kd.R_below z77_ hb); have n2_ := q_ (blk_below (g := gb457) (o := .cells #[.int .i64 t451, .int .i64 t452, .slice Ao109 t453.length co109] 36 (0, 0)) z58_ hb); have n3_ := q_ (below_step z50_ hb); have n4_ := q_ (hbox); have n5_ := q_ ((z192_ : w.heap.size ≤ gb463)); have n6_ := q_ ((z192_ : w.heap.size ≤ gb463)); have n7_ := q_ ((by rw [hg]; exact Nat.ne_of_lt (blk_lt (g := gb457) (o := .cells #[.int .i64 t451, .int .i64 t452, .slice Ao109 t453.length co109] 36 (0, 0)) z58_) : gb457 ≠ gb463)); have n8_ := q_ ((by rw [hg]; exact Nat.ne_of_gt (blk_lt (g := gb457) (o := .cells #[.int .i64 t451, .int .i64 t452, .slice Ao109 t453.length co109] 36 (0, 0)) z58_) : gb463 ≠ gb457)); clear HO455; clear HO462; clear BK457; clear HB; have HO455 := n0_; have HO462 := n1_; have BK457 := n2_; have HB := n3_; have BK463 := n4_; have GW463 := n5_; have GE463 := n6_; have NB457_463 := n7_; have NB463_457 := n8_; clear n0_ n1_ n2_ n3_ n4_ n5_ n6_ n7_ n8_; clear hb hbox hg; have hnb112 := NB463_457.out; have hnc112 := NB457_463.out; obtain ⟨hcz113_0, hcz113_1, hcz113_2, hfz113_0, hfz113_1, hfz113_2⟩ := cs3_ BK463.out; obtain ⟨Ao114, co114, eo114⟩ := Kd.R_slice HO462.out; subst eo114))
   have n0_ : Aside0 (Kd.R k129 129 (((w111.setCell ⟨gb463, 0, none⟩ (.int .i64 t458)).setCell ⟨gb463, 1, none⟩ (.int .i64 t459)).setCell ⟨gb463, 2, none⟩ (.slice Ao114 t460.length co114)) w.heap.size (fun k_ => some k_ ≠ (.slice Ao114 t460.length co114 : Value).ownBlock) (.slice Ao109 t453.length co109) t453) := ⟨by (with_reducible repeat (first | apply Kd.R_alloc | apply Kd.R_drewN | apply Kd.R_drew)); exact Kd.R_mono (Kd.R_far (p := ⟨gb463, 2, none⟩) (Kd.R_far (p := ⟨gb463, 1, none⟩) (Kd.R_far (p := ⟨gb463, 0, none⟩) (Kd.R_types HO455.out BK463.out (by decide)) (fun _ hk => hk.2) (.int .i64 t458)) (fun _ hk => hk.2) (.int .i64 t459)) (fun _ hk => hk.2) (.slice Ao114 t460.length co114)) (fun _ hk => hk.1.2)⟩
   have n1_ : Aside0 (Kd.R k129 129 (((w111.setCell ⟨gb463, 0, none⟩ (.int .i64 t458)).setCell ⟨gb463, 1, none⟩ (.int .i64 t459)).setCell ⟨gb463, 2, none⟩ (.slice Ao114 t460.length co114)) w.heap.size (fun k_ => some k_ ≠ (.slice Ao109 t453.length co109 : Value).ownBlock) (.slice Ao114 t460.length co114) t460) := ⟨by (with_reducible repeat (first | apply Kd.R_alloc | apply Kd.R_drewN | apply Kd.R_drew)); exact Kd.R_mono (Kd.R_far (p := ⟨gb463, 2, none⟩) (Kd.R_far (p := ⟨gb463, 1, none⟩) (Kd.R_far (p := ⟨gb463, 0, none⟩) (Kd.R_types HO462.out BK463.out (by decide)) (fun _ hk => hk.2) (.int .i64 t458)) (fun _ hk => hk.2) (.int .i64 t459)) (fun _ hk => hk.2) (.slice Ao114 t460.length co114)) (fun _ hk => hk.1.2)⟩
   have n2_ : Aside0 ((((w111.setCell ⟨gb463, 0, none⟩ (.int .i64 t458)).setCell ⟨gb463, 1, none⟩ (.int .i64 t459)).setCell ⟨gb463, 2, none⟩ (.slice Ao114 t460.length co114)).heap[gb457]? = some (.cells #[.int .i64 t451, .int .i64 t452, .slice Ao109 t453.length co109] 36 (0, 0))) := ⟨z79_⟩
   have n3_ : Aside0 ((((w111.setCell ⟨gb463, 0, none⟩ (.int .i64 t458)).setCell ⟨gb463, 1, none⟩ (.int .i64 t459)).setCell ⟨gb463, 2, none⟩ (.slice Ao114 t460.length co114)).heap[gb463]? = some (.cells #[.int .i64 t458, .int .i64 t459, .slice Ao114 t460.length co114] 36 (0, 0))) := ⟨z61_⟩
   have n4_ : Aside0 (Below w.heap.size w (((w111.setCell ⟨gb463, 0, none⟩ (.int .i64 t458)).setCell ⟨gb463, 1, none⟩ (.int .i64 t459)).setCell ⟨gb463, 2, none⟩ (.slice Ao114 t460.length co114))) := ⟨z21_⟩
   (try clear HO455)
   (try clear HO462)
   (try clear BK457)
   (try clear BK463)
   (try clear HB)
   generalize (((w111.setCell ⟨gb463, 0, none⟩ (.int .i64 t458)).setCell ⟨gb463, 1, none⟩ (.int .i64 t459)).setCell ⟨gb463, 2, none⟩ (.slice Ao114 t460.length co114)) = w115 at n0_ n1_ n2_ n3_ n4_ ⊢
   have HO455 := n0_
   have HO462 := n1_
   have BK457 := n2_
   have BK463 := n3_
   have HB := n4_
   clear n0_ n1_ n2_ n3_ n4_
   have n0_ := q_ (Kd.R_drew HO455.out)
   have n1_ := q_ (Kd.R_drew HO462.out)
   have n2_ := q_ (blk_drew BK457.out)
   have n3_ := q_ (blk_drew BK463.out)
   have n4_ := q_ (below_drew1 HB.out)
   clear HO455
   clear HO462
   clear BK457
   clear BK463
   clear HB
   have HO455 := n0_
   have HO462 := n1_
   have BK457 := n2_
   have BK463 := n3_
   have HB := n4_
   clear n0_ n1_ n2_ n3_ n4_
   refine start_ (n := 6) (S := fun w' => w'.cell? ⟨gb463, 0, none⟩ = some (.int .i64 t458) ∧ w'.cell? ⟨gb463, 1, none⟩ = some (.int .i64 t459) ∧ w'.cell? ⟨gb463, 2, none⟩ = some (.slice Ao114 t460.length co114) ∧ w'.cell? ⟨gb457, 0, none⟩ = some (.int .i64 t451) ∧ w'.cell? ⟨gb457, 1, none⟩ = some (.int .i64 t452) ∧ w'.cell? ⟨gb457, 2, none⟩ = some (.slice Ao109 t453.length co109)) (ds := []) #[false, false, false, false, false, false] (by kernel_rfl) rfl rfl ⟨(blk_cell BK463.out 0).trans rfl, (blk_cell BK463.out 1).trans rfl, (blk_cell BK463.out 2).trans rfl, (blk_cell BK457.out 0).trans rfl, (blk_cell BK457.out 1).trans rfl, (blk_cell BK457.out 2).trans rfl⟩ (fun hHeld => ?_)
   generalize w115.drew = w116 at HO455 HO462 BK457 BK463 HB hHeld ⊢
   refine pure_ (i := 2) (N := some 29) (v := ?_) (a' := ?_) #[false, false, true, false, false, false] rfl rfl (by kernel_rfl) (fun _ _ _ h => h) (Or.inl ⟨by rfl, ?_⟩) ?_ ?_
   rotate_left
   ·intro w'
    go_simp
    with_reducible rfl
   rotate_left
   ·simp only [Act.put, List.setIfInBounds_toArray, List.set_cons_zero, List.set_cons_succ, i64_w, i32_w]
    rfl
   refine take_ (i := 0) (N := some 27) (v := ?_) (a' := ?_) #[true, false, true, false, false, false] rfl rfl (by kernel_rfl) (fun _ _ _ h => h) (Or.inl ⟨by rfl, ?_⟩) hHeld ?_ ?_
   rotate_left
   ·rintro w' ⟨s0, s1, s2, s3, s4, s5⟩
    go_simp
    with_reducible rfl
   rotate_left
   ·simp only [Act.put, List.setIfInBounds_toArray, List.set_cons_zero, List.set_cons_succ, i64_w, i32_w]
    rfl
   refine take_ (i := 1) (N := some 28) (v := ?_) (a' := ?_) #[true, true, true, false, false, false] rfl rfl (by kernel_rfl) (fun _ _ _ h => h) (Or.inl ⟨by rfl, ?_⟩) hHeld ?_ ?_
   rotate_left
   ·rintro w' ⟨s0, s1, s2, s3, s4, s5⟩
    go_simp
    with_reducible rfl
   rotate_left
   ·simp only [Act.put, List.setIfInBounds_toArray, List.set_cons_zero, List.set_cons_succ, i64_w, i32_w]
    rfl
   refine one_ (i := 3) (N := some 30) #[true, true, true, true, false, false] rfl rfl (by kernel_rfl) (by decide) (fun K hK => ?_)
   refine goes_ Try.func23 (by kernel_rfl) rfl #[.agg #[.int .i64 t451, .int .i64 t452, .slice Ao109 t453.length co109], .int .i64 t456] (by rfl) rfl rfl z1_ ?_
   with_reducible refine (spec_LogCut.calls t451 t452 _ _ t453 t456 t464 t465 t466 _ ?side1 ?side2 A6.out).mono ?_
   (case side1 => exact z219_)
   (case side2 => exact z234_)
   rintro e w117 ⟨v467, rfl, ho0, hb⟩
   refine ⟨_, rfl, ?_⟩
   have n0_ := q_ (Kd.R_elder' z65_ (Kd.R_base ho0) hb)
   have n1_ := q_ (Kd.R_elder' z77_ (Kd.R_base ho0) hb)
   have n2_ := q_ (Kd.R_lower (Kd.R_new' (Kd.R_new' ho0 (Kd.R_lt z65_)) (Kd.R_lt z77_)) (below_size z21_))
   have n3_ := q_ (blk_below (g := gb457) (o := .cells #[.int .i64 t451, .int .i64 t452, .slice Ao109 t453.length co109] 36 (0, 0)) z58_ hb)
   have n4_ := q_ (blk_below (g := gb463) (o := .cells #[.int .i64 t458, .int .i64 t459, .slice Ao114 t460.length co114] 36 (0, 0)) z7_ hb)
   have n5_ := q_ (below_step z21_ hb)
   clear HO455
   clear HO462
   clear BK457
   clear BK463
   clear HB
   have HO455 := n0_
   have HO462 := n1_
   have HO468 := n2_
   have BK457 := n3_
   have BK463 := n4_
   have HB := n5_
   clear n0_ n1_ n2_ n3_ n4_ n5_
   (try clear hb)
   (try clear hb2)
   (try clear hk)
   (try clear hi)
   (try clear ho0)
   obtain ⟨Ao118, co118, eo118⟩ := Kd.R_slice HO468.out
   (first | subst eo118 | (injection eo118 with f1_ f2_ f3_; have f4_ := f1_.symm; have f5_ := f3_.symm; clear f1_ f2_ f3_; subst f4_; subst f5_))
   refine hK.out _ _ ⟨(blk_cell BK463.out 0).trans rfl, (blk_cell BK463.out 1).trans rfl, (blk_cell BK463.out 2).trans rfl, (blk_cell BK457.out 0).trans rfl, (blk_cell BK457.out 1).trans rfl, (blk_cell BK457.out 2).trans rfl⟩ (fun hHeld => ?_)
   clear hK K
   refine norm_ (a' := ?_) ?_ ?_
   rotate_left
   ·show Act.put _ (some 30) _ = _
    simp only [Act.put, List.setIfInBounds_toArray, List.set_cons_zero, List.set_cons_succ, i64_w, i32_w]
    rfl
   refine one_ (i := 4) (N := some 31) #[true, true, true, true, true, false] rfl rfl (by kernel_rfl) (by decide) (fun K hK => ?_)
   refine goes_ Try.func36 (by kernel_rfl) rfl #[.agg #[.int .i64 t458, .int .i64 t459, .slice Ao114 t460.length co114], .agg #[.int .i64 t464, .int .i64 t465, .slice Ao118 t466.length co118]] (by rfl) rfl rfl z1_ ?_
   with_reducible refine (laws_sameLog.calls k t458 t459 _ _ t460 t464 t465 _ _ t466 false _ ?side1 ?side2 ?side3 ?side4 A7.out).mono ?_
   (case side1 => exact z220_)
   (case side2 => exact (Kd.R_reads' HO462.out).2.1)
   (case side3 => exact z232_)
   (case side4 => exact (Kd.R_reads' HO468.out).2.1)
   rintro e w119 ⟨rfl, hb⟩
   refine ⟨_, rfl, ?_⟩
   have n0_ := q_ (Kd.R_below z65_ hb)
   have n1_ := q_ (Kd.R_below z77_ hb)
   have n2_ := q_ (Kd.R_below z129_ hb)
   have n3_ := q_ (blk_below (g := gb457) (o := .cells #[.int .i64 t451, .int .i64 t452, .slice Ao109 t453.length co109] 36 (0, 0)) z58_ hb)
   have n4_ := q_ (blk_below (g := gb463) (o := .cells #[.int .i64 t458, .int .i64 t459, .slice Ao114 t460.length co114] 36 (0, 0)) z7_ hb)
   have n5_ := q_ (below_step z21_ hb)
   clear HO455
   clear HO462
   clear HO468
   clear BK457
   clear BK463
   clear HB
   have HO455 := n0_
   have HO462 := n1_
   have HO468 := n2_
   have BK457 := n3_
   have BK463 := n4_
   have HB := n5_
   clear n0_ n1_ n2_ n3_ n4_ n5_
   (try clear hb)
   (try clear hb2)
   (try clear hk)
   (try clear hi)
   refine hK.out _ _ ⟨(blk_cell BK463.out 0).trans rfl, (blk_cell BK463.out 1).trans rfl, (blk_cell BK463.out 2).trans rfl, (blk_cell BK457.out 0).trans rfl, (blk_cell BK457.out 1).trans rfl, (blk_cell BK457.out 2).trans rfl⟩ (fun hHeld => ?_)
   clear hK K
   refine norm_ (a' := ?_) ?_ ?_
   rotate_left
   ·show Act.put _ (some 31) _ = _
    simp only [Act.put, List.setIfInBounds_toArray, List.set_cons_zero, List.set_cons_succ, i64_w, i32_w]
    rfl
   refine pure_ (i := 5) (N := some 32) (v := ?_) (a' := ?_) #[true, true, true, true, true, true] rfl rfl (by kernel_rfl) (fun _ _ _ h => h) (Or.inl ⟨by rfl, ?_⟩) ?_ ?_
   rotate_left
   ·intro w'
    go_simp
    with_reducible rfl
   rotate_left
   ·simp only [Act.put, List.setIfInBounds_toArray, List.set_cons_zero, List.set_cons_succ, i64_w, i32_w]
    rfl
   refine done_ (by kernel_rfl) ?_
   try go_wp2
   go_ret
   exact ⟨z4_, z21_⟩

/-- THE ONE PURE STATEMENT of laws_FnLogCut: yours. -/
def laws_FnLogCut.Pure : Prop := ∀ (l0 : List Int), l0.length ≤ maxLen → l0.length * 1 ≤ 140737488351232 → (∀ x ∈ l0, (Lit.int .u8 x).wf = true) → ∃ k, laws_FnLogCut.f k l0 = some true
theorem laws_FnLogCut.walk (P : laws_FnLogCut.Pure) (a0 : Option Addr) (len0 cap0 : Nat) (z0 : List Int) (w : World) (w0 : (a0 = none ∧ len0 = 0 ∧ cap0 = 0 ∧ z0 = []) ∨ ∃ x, a0 = some x ∧ len0 ≤ cap0 ∧ cap0 ≤ maxLen ∧ z0.length = cap0 ∧ (∀ i, i < z0.length → w.cell? (x.add i) = some (.int .u8 (z0.getD i 0))) ∧ ∀ n ∈ z0, (Lit.int .u8 n).wf = true) (y0 : len0 * 1 ≤ 140737488351232) :
  Calls Try.prog 6 #[.slice a0 len0 cap0] w fun e w' => e = .returned (.bool true) ∧ Below w.heap.size w w' := by
 obtain ⟨l0, rfl, hr0, hm0, hw0, hc0⟩ := ReadsInt.ofRowC w0
 obtain ⟨k, h⟩ := P l0 hm0 y0 hw0
 refine (laws_FnLogCut.calls k _ _ l0 true w (Kd.C_of_reads (d := (0 : Int)) (h1 := fun _ => rfl) hr0) hc0 h).mono ?_
 rintro e w' ⟨rfl, hd⟩
 exact ⟨rfl, hd⟩

end Go.Proofs.Ytphlmbhjeoljoaa.PFnLogCut
