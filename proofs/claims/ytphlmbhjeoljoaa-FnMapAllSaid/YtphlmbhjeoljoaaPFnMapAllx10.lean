-- Written by a program of this session, which goes by the kit's print. Not trusted: Lean checks it.
import Derived.Test.YtphlmbhjeoljoaaPFnMapAllx0
import Derived.Test.YtphlmbhjeoljoaaPFnMapAllx2
import Derived.Test.YtphlmbhjeoljoaaPFnMapAllx4
import Derived.Test.YtphlmbhjeoljoaaPFnMapAllx5
import Derived.Test.YtphlmbhjeoljoaaPFnMapAllx8
import Derived.Test.YtphlmbhjeoljoaaPFnMapAllx9
namespace Go.Proofs.Ytphlmbhjeoljoaa.PFnMapAll
open Go.RowKit Go.Proofs.YtphlmbhjeoljoaaW.PrintWords Go.Proofs.YtphlmbhjeoljoaaW.PrintLast Go.Proofs.YtphlmbhjeoljoaaW.PrintMore
attribute [local go_sem] max2_int min2_int max_two min_two max_three min_three max_four min_four   -- for this text's walks alone
set_option linter.unusedVariables false
set_option linter.unusedSimpArgs false

/-! ### laws_FnMapAll: function 10 -/
def laws_FnMapAll.f (k : Nat) (l0 : List Int) : Option (Bool) := (laws_big.f l0).bind fun t406 => (if t406 = true then (some true) else ((spec_DrawMapAll.f k l0).bind fun bt407 => ((impl_MapAll.f k bt407.1 bt407.2).bind fun t413 => ((spec_MapAll.f k bt407.1 bt407.2).bind fun t416 => ((laws_samePairs.f k t413 t416).bind fun t419 => (if t419 = true then ((laws_at.f l0 1).bind fun t420 => (if (wrap64 ((bt407.2.length : Int) + 1)) = 0 then (none) else ((spec_DrawMapGet.f k l0).bind fun bt421 => ((impl_MapGet.f k bt421.1 bt421.2).bind fun bt425 => ((spec_MapGet.f k bt421.1 bt421.2).bind fun bt427 => (if bt425.1 = bt427.1 then (if (bt425.2 == bt427.2) = true then (if 0 ≤ (Int.tmod t420 (wrap64 ((bt407.2.length : Int) + 1))) then (if (Int.tmod t420 (wrap64 ((bt407.2.length : Int) + 1))) ≤ (bt407.2.length : Int) then ((impl_MapAll.f k bt407.1 (bt407.2.take ((Int.tmod t420 (wrap64 ((bt407.2.length : Int) + 1))) : Int).toNat)).bind fun t433 => ((impl_MapAll.f k t433 (bt407.2.drop ((Int.tmod t420 (wrap64 ((bt407.2.length : Int) + 1))) : Int).toNat)).bind fun t440 => ((laws_samePairs.f k t440 t413).bind fun t443 => (some t443)))) else (none)) else (none)) else (some false)) else (some false))))))) else (some false)))))))
theorem laws_FnMapAll.mono : ∀ a0 k, LeO (laws_FnMapAll.f k a0) (laws_FnMapAll.f (k + 1) a0) := by
 intro a0 k
 unfold laws_FnMapAll.f
 repeat' first
   | (with_reducible exact impl_MapAll.mono _ _ _)
   | (with_reducible exact impl_MapGet.mono _ _ _)
   | (with_reducible exact laws_samePairs.mono _ _ _)
   | (with_reducible exact spec_DrawMapAll.mono _ _)
   | (with_reducible exact spec_DrawMapGet.mono _ _)
   | (with_reducible exact spec_MapAll.mono _ _ _)
   | (with_reducible exact spec_MapGet.mono _ _ _)
   | (with_reducible exact LeO.refl _)
   | (with_reducible exact LeO.none _)
   | (with_reducible refine LeO.ite ?_ ?_)
   | (with_reducible refine LeO.bind ?_ (fun _ => ?_))
   | exact impl_MapAll.mono _ _ _
   | exact impl_MapGet.mono _ _ _
   | exact laws_samePairs.mono _ _ _
   | exact spec_DrawMapAll.mono _ _
   | exact spec_DrawMapGet.mono _ _
   | exact spec_MapAll.mono _ _ _
   | exact spec_MapGet.mono _ _ _
   | exact LeO.none _
   | refine LeO.ite ?_ ?_
   | refine LeO.bind ?_ (fun _ => ?_)
def laws_FnMapAll.T11 : Bool × List (List Nat × List Nat) := (true, [([], []), ([], []), ([0, 1], [0, 1]), ([2], [2]), ([3], [3]), ([3], [3]), ([4, 5, 3], [3, 4, 5]), ([3, 6], [3, 6]), ([7, 3], [7]), ([8], [8]), ([8], [8]), ([8], [8]), ([10, 11, 8], [8, 10, 11]), ([9, 12, 8, 8], [8, 9, 12]), ([8], [8]), ([8], [8]), ([14, 15, 8], [8, 14, 15]), ([13, 16, 13, 8], [8, 13, 16]), ([8], [8]), ([17, 18, 17, 8], [8, 17, 18]), ([8, 19], [8, 19]), ([20, 19, 0, 1, 2, 3, 4, 5, 6, 7, 8, 9, 10, 11, 12, 13, 14, 15, 16, 17, 18, 19, 20], [20])])
def laws_FnMapAll.B11 : List Nat := [0, 0, 3, 7, 15, 15, 63, 127, 255, 511, 511, 511, 3583, 8191, 511, 511, 49663, 131071, 511, 524287, 1048575, 2097151]
theorem laws_FnMapAll.tab11 : rtab .any (opsOf Try.f10 11) = laws_FnMapAll.T11 := by kernel_rfl
theorem laws_FnMapAll.bits11 : waitsOk laws_FnMapAll.T11.2 laws_FnMapAll.B11 = true := by kernel_rfl
set_option maxHeartbeats 8000000 in
set_option maxRecDepth 100000 in
theorem laws_FnMapAll.calls (k : Nat) (A0 : Option Addr) (c0 : Nat) (l0 : List Int) (r : Bool) (w : World) (hr0 : Kd.C (Kd.int .u8) w A0 l0.length l0) (hc0 : l0.length ≤ c0) (h : laws_FnMapAll.f k l0 = some r) :
  Calls Try.prog 10 #[.slice A0 l0.length c0] w fun e w' => e = .returned (.bool r) ∧ Below w.heap.size w w' := by
 have HR0 := q_ hr0
 have HC0 := q_ hc0
 clear hr0 hc0
 have HB := q_ (Below.refl w.heap.size w)
 have H : ((laws_big.f l0).bind fun t406 => (if t406 = true then (some true) else ((spec_DrawMapAll.f k l0).bind fun bt407 => ((impl_MapAll.f k bt407.1 bt407.2).bind fun t413 => ((spec_MapAll.f k bt407.1 bt407.2).bind fun t416 => ((laws_samePairs.f k t413 t416).bind fun t419 => (if t419 = true then ((laws_at.f l0 1).bind fun t420 => (if (wrap64 ((bt407.2.length : Int) + 1)) = 0 then (none) else ((spec_DrawMapGet.f k l0).bind fun bt421 => ((impl_MapGet.f k bt421.1 bt421.2).bind fun bt425 => ((spec_MapGet.f k bt421.1 bt421.2).bind fun bt427 => (if bt425.1 = bt427.1 then (if (bt425.2 == bt427.2) = true then (if 0 ≤ (Int.tmod t420 (wrap64 ((bt407.2.length : Int) + 1))) then (if (Int.tmod t420 (wrap64 ((bt407.2.length : Int) + 1))) ≤ (bt407.2.length : Int) then ((impl_MapAll.f k bt407.1 (bt407.2.take ((Int.tmod t420 (wrap64 ((bt407.2.length : Int) + 1))) : Int).toNat)).bind fun t433 => ((impl_MapAll.f k t433 (bt407.2.drop ((Int.tmod t420 (wrap64 ((bt407.2.length : Int) + 1))) : Int).toNat)).bind fun t440 => ((laws_samePairs.f k t440 t413).bind fun t443 => (some t443)))) else (none)) else (none)) else (some false)) else (some false))))))) else (some false)))))))) = some r := h
 clear h
 replace H := Option.bind_eq_some_iff.mp H
 obtain ⟨t406, A20, H⟩ := H
 replace H : (if t406 = true then (some true) else ((spec_DrawMapAll.f k l0).bind fun bt407 => ((impl_MapAll.f k bt407.1 bt407.2).bind fun t413 => ((spec_MapAll.f k bt407.1 bt407.2).bind fun t416 => ((laws_samePairs.f k t413 t416).bind fun t419 => (if t419 = true then ((laws_at.f l0 1).bind fun t420 => (if (wrap64 ((bt407.2.length : Int) + 1)) = 0 then (none) else ((spec_DrawMapGet.f k l0).bind fun bt421 => ((impl_MapGet.f k bt421.1 bt421.2).bind fun bt425 => ((spec_MapGet.f k bt421.1 bt421.2).bind fun bt427 => (if bt425.1 = bt427.1 then (if (bt425.2 == bt427.2) = true then (if 0 ≤ (Int.tmod t420 (wrap64 ((bt407.2.length : Int) + 1))) then (if (Int.tmod t420 (wrap64 ((bt407.2.length : Int) + 1))) ≤ (bt407.2.length : Int) then ((impl_MapAll.f k bt407.1 (bt407.2.take ((Int.tmod t420 (wrap64 ((bt407.2.length : Int) + 1))) : Int).toNat)).bind fun t433 => ((impl_MapAll.f k t433 (bt407.2.drop ((Int.tmod t420 (wrap64 ((bt407.2.length : Int) + 1))) : Int).toNat)).bind fun t440 => ((laws_samePairs.f k t440 t413).bind fun t443 => (some t443)))) else (none)) else (none)) else (some false)) else (some false))))))) else (some false))))))) = some r := H
 have A2 := q_ A20
 clear A20
 by_cases c3 : t406 = true
 ·subst c3
  have H1 : (some true) = some r := z51_
  clear H
  have H := H1
  clear H1
  obtain rfl := Option.some.inj H
  go_enter Try.func10, Try.ntmps10
  go_wp2_with (first | ((with_reducible refine gate_callee (f := 34) rfl ?_); refine goesL_ (some 14) rfl rfl Try.func34 (by kernel_rfl) rfl #[.slice A0 l0.length c0] rfl z1_ ?_; (with_reducible refine (laws_big.calls _ _ l0 true _ ?side1 ?side2 A2.out).mono ?_); (case side1 => exact z110_); (case side2 => exact HC0.out); rintro e w' ⟨rfl, ⟨nd, rfl⟩⟩; refine ⟨_, rfl, ?_⟩))
  go_ret
  exact ⟨z4_, z0_⟩
 ·replace c3 := Bool.eq_false_iff.mpr c3
  subst c3
  have H1 : ((spec_DrawMapAll.f k l0).bind fun bt407 => ((impl_MapAll.f k bt407.1 bt407.2).bind fun t413 => ((spec_MapAll.f k bt407.1 bt407.2).bind fun t416 => ((laws_samePairs.f k t413 t416).bind fun t419 => (if t419 = true then ((laws_at.f l0 1).bind fun t420 => (if (wrap64 ((bt407.2.length : Int) + 1)) = 0 then (none) else ((spec_DrawMapGet.f k l0).bind fun bt421 => ((impl_MapGet.f k bt421.1 bt421.2).bind fun bt425 => ((spec_MapGet.f k bt421.1 bt421.2).bind fun bt427 => (if bt425.1 = bt427.1 then (if (bt425.2 == bt427.2) = true then (if 0 ≤ (Int.tmod t420 (wrap64 ((bt407.2.length : Int) + 1))) then (if (Int.tmod t420 (wrap64 ((bt407.2.length : Int) + 1))) ≤ (bt407.2.length : Int) then ((impl_MapAll.f k bt407.1 (bt407.2.take ((Int.tmod t420 (wrap64 ((bt407.2.length : Int) + 1))) : Int).toNat)).bind fun t433 => ((impl_MapAll.f k t433 (bt407.2.drop ((Int.tmod t420 (wrap64 ((bt407.2.length : Int) + 1))) : Int).toNat)).bind fun t440 => ((laws_samePairs.f k t440 t413).bind fun t443 => (some t443)))) else (none)) else (none)) else (some false)) else (some false))))))) else (some false)))))) = some r := by rw [if_neg (show ¬ (false = true) by decide)] at H; exact H
  clear H
  have H := H1
  clear H1
  replace H := Option.bind_eq_some_iff.mp H
  obtain ⟨⟨t407, t408⟩, A40, H⟩ := H
  replace H : ((impl_MapAll.f k t407 t408).bind fun t413 => ((spec_MapAll.f k t407 t408).bind fun t416 => ((laws_samePairs.f k t413 t416).bind fun t419 => (if t419 = true then ((laws_at.f l0 1).bind fun t420 => (if (wrap64 ((t408.length : Int) + 1)) = 0 then (none) else ((spec_DrawMapGet.f k l0).bind fun bt421 => ((impl_MapGet.f k bt421.1 bt421.2).bind fun bt425 => ((spec_MapGet.f k bt421.1 bt421.2).bind fun bt427 => (if bt425.1 = bt427.1 then (if (bt425.2 == bt427.2) = true then (if 0 ≤ (Int.tmod t420 (wrap64 ((t408.length : Int) + 1))) then (if (Int.tmod t420 (wrap64 ((t408.length : Int) + 1))) ≤ (t408.length : Int) then ((impl_MapAll.f k t407 (t408.take ((Int.tmod t420 (wrap64 ((t408.length : Int) + 1))) : Int).toNat)).bind fun t433 => ((impl_MapAll.f k t433 (t408.drop ((Int.tmod t420 (wrap64 ((t408.length : Int) + 1))) : Int).toNat)).bind fun t440 => ((laws_samePairs.f k t440 t413).bind fun t443 => (some t443)))) else (none)) else (none)) else (some false)) else (some false))))))) else (some false))))) = some r := H
  have A4 := q_ A40
  clear A40
  replace H := Option.bind_eq_some_iff.mp H
  obtain ⟨t413, A50, H⟩ := H
  replace H : ((spec_MapAll.f k t407 t408).bind fun t416 => ((laws_samePairs.f k t413 t416).bind fun t419 => (if t419 = true then ((laws_at.f l0 1).bind fun t420 => (if (wrap64 ((t408.length : Int) + 1)) = 0 then (none) else ((spec_DrawMapGet.f k l0).bind fun bt421 => ((impl_MapGet.f k bt421.1 bt421.2).bind fun bt425 => ((spec_MapGet.f k bt421.1 bt421.2).bind fun bt427 => (if bt425.1 = bt427.1 then (if (bt425.2 == bt427.2) = true then (if 0 ≤ (Int.tmod t420 (wrap64 ((t408.length : Int) + 1))) then (if (Int.tmod t420 (wrap64 ((t408.length : Int) + 1))) ≤ (t408.length : Int) then ((impl_MapAll.f k t407 (t408.take ((Int.tmod t420 (wrap64 ((t408.length : Int) + 1))) : Int).toNat)).bind fun t433 => ((impl_MapAll.f k t433 (t408.drop ((Int.tmod t420 (wrap64 ((t408.length : Int) + 1))) : Int).toNat)).bind fun t440 => ((laws_samePairs.f k t440 t413).bind fun t443 => (some t443)))) else (none)) else (none)) else (some false)) else (some false))))))) else (some false)))) = some r := H
  have A5 := q_ A50
  clear A50
  replace H := Option.bind_eq_some_iff.mp H
  obtain ⟨t416, A60, H⟩ := H
  replace H : ((laws_samePairs.f k t413 t416).bind fun t419 => (if t419 = true then ((laws_at.f l0 1).bind fun t420 => (if (wrap64 ((t408.length : Int) + 1)) = 0 then (none) else ((spec_DrawMapGet.f k l0).bind fun bt421 => ((impl_MapGet.f k bt421.1 bt421.2).bind fun bt425 => ((spec_MapGet.f k bt421.1 bt421.2).bind fun bt427 => (if bt425.1 = bt427.1 then (if (bt425.2 == bt427.2) = true then (if 0 ≤ (Int.tmod t420 (wrap64 ((t408.length : Int) + 1))) then (if (Int.tmod t420 (wrap64 ((t408.length : Int) + 1))) ≤ (t408.length : Int) then ((impl_MapAll.f k t407 (t408.take ((Int.tmod t420 (wrap64 ((t408.length : Int) + 1))) : Int).toNat)).bind fun t433 => ((impl_MapAll.f k t433 (t408.drop ((Int.tmod t420 (wrap64 ((t408.length : Int) + 1))) : Int).toNat)).bind fun t440 => ((laws_samePairs.f k t440 t413).bind fun t443 => (some t443)))) else (none)) else (none)) else (some false)) else (some false))))))) else (some false))) = some r := H
  have A6 := q_ A60
  clear A60
  replace H := Option.bind_eq_some_iff.mp H
  obtain ⟨t419, A70, H⟩ := H
  replace H : (if t419 = true then ((laws_at.f l0 1).bind fun t420 => (if (wrap64 ((t408.length : Int) + 1)) = 0 then (none) else ((spec_DrawMapGet.f k l0).bind fun bt421 => ((impl_MapGet.f k bt421.1 bt421.2).bind fun bt425 => ((spec_MapGet.f k bt421.1 bt421.2).bind fun bt427 => (if bt425.1 = bt427.1 then (if (bt425.2 == bt427.2) = true then (if 0 ≤ (Int.tmod t420 (wrap64 ((t408.length : Int) + 1))) then (if (Int.tmod t420 (wrap64 ((t408.length : Int) + 1))) ≤ (t408.length : Int) then ((impl_MapAll.f k t407 (t408.take ((Int.tmod t420 (wrap64 ((t408.length : Int) + 1))) : Int).toNat)).bind fun t433 => ((impl_MapAll.f k t433 (t408.drop ((Int.tmod t420 (wrap64 ((t408.length : Int) + 1))) : Int).toNat)).bind fun t440 => ((laws_samePairs.f k t440 t413).bind fun t443 => (some t443)))) else (none)) else (none)) else (some false)) else (some false))))))) else (some false)) = some r := H
  have A7 := q_ A70
  clear A70
  by_cases c8 : t419 = true
  ·subst c8
   have H1 : ((laws_at.f l0 1).bind fun t420 => (if (wrap64 ((t408.length : Int) + 1)) = 0 then (none) else ((spec_DrawMapGet.f k l0).bind fun bt421 => ((impl_MapGet.f k bt421.1 bt421.2).bind fun bt425 => ((spec_MapGet.f k bt421.1 bt421.2).bind fun bt427 => (if bt425.1 = bt427.1 then (if (bt425.2 == bt427.2) = true then (if 0 ≤ (Int.tmod t420 (wrap64 ((t408.length : Int) + 1))) then (if (Int.tmod t420 (wrap64 ((t408.length : Int) + 1))) ≤ (t408.length : Int) then ((impl_MapAll.f k t407 (t408.take ((Int.tmod t420 (wrap64 ((t408.length : Int) + 1))) : Int).toNat)).bind fun t433 => ((impl_MapAll.f k t433 (t408.drop ((Int.tmod t420 (wrap64 ((t408.length : Int) + 1))) : Int).toNat)).bind fun t440 => ((laws_samePairs.f k t440 t413).bind fun t443 => (some t443)))) else (none)) else (none)) else (some false)) else (some false))))))) = some r := z51_
   clear H
   have H := H1
   clear H1
   replace H := Option.bind_eq_some_iff.mp H
   obtain ⟨t420, A90, H⟩ := H
   replace H : (if (wrap64 ((t408.length : Int) + 1)) = 0 then (none) else ((spec_DrawMapGet.f k l0).bind fun bt421 => ((impl_MapGet.f k bt421.1 bt421.2).bind fun bt425 => ((spec_MapGet.f k bt421.1 bt421.2).bind fun bt427 => (if bt425.1 = bt427.1 then (if (bt425.2 == bt427.2) = true then (if 0 ≤ (Int.tmod t420 (wrap64 ((t408.length : Int) + 1))) then (if (Int.tmod t420 (wrap64 ((t408.length : Int) + 1))) ≤ (t408.length : Int) then ((impl_MapAll.f k t407 (t408.take ((Int.tmod t420 (wrap64 ((t408.length : Int) + 1))) : Int).toNat)).bind fun t433 => ((impl_MapAll.f k t433 (t408.drop ((Int.tmod t420 (wrap64 ((t408.length : Int) + 1))) : Int).toNat)).bind fun t440 => ((laws_samePairs.f k t440 t413).bind fun t443 => (some t443)))) else (none)) else (none)) else (some false)) else (some false)))))) = some r := H
   have A9 := q_ A90
   clear A90
   by_cases c10 : (wrap64 ((t408.length : Int) + 1)) = 0
   ·rw [if_pos c10] at H
    exact absurd H (by simp)
   ·rw [if_neg c10] at H
    have c10b0 : ((wrap64 ((t408.length : Int) + 1)) == 0) = false := beq_eq_false_iff_ne.mpr c10
    have c10b1 : ((wrap64 ((t408.length : Int) + 1)) != 0) = true := bne_iff_ne.mpr c10
    replace H := Option.bind_eq_some_iff.mp H
    obtain ⟨⟨t421, t422⟩, A110, H⟩ := H
    replace H : ((impl_MapGet.f k t421 t422).bind fun bt425 => ((spec_MapGet.f k t421 t422).bind fun bt427 => (if bt425.1 = bt427.1 then (if (bt425.2 == bt427.2) = true then (if 0 ≤ (Int.tmod t420 (wrap64 ((t408.length : Int) + 1))) then (if (Int.tmod t420 (wrap64 ((t408.length : Int) + 1))) ≤ (t408.length : Int) then ((impl_MapAll.f k t407 (t408.take ((Int.tmod t420 (wrap64 ((t408.length : Int) + 1))) : Int).toNat)).bind fun t433 => ((impl_MapAll.f k t433 (t408.drop ((Int.tmod t420 (wrap64 ((t408.length : Int) + 1))) : Int).toNat)).bind fun t440 => ((laws_samePairs.f k t440 t413).bind fun t443 => (some t443)))) else (none)) else (none)) else (some false)) else (some false)))) = some r := H
    have A11 := q_ A110
    clear A110
    replace H := Option.bind_eq_some_iff.mp H
    obtain ⟨⟨t425, t426⟩, A120, H⟩ := H
    replace H : ((spec_MapGet.f k t421 t422).bind fun bt427 => (if t425 = bt427.1 then (if (t426 == bt427.2) = true then (if 0 ≤ (Int.tmod t420 (wrap64 ((t408.length : Int) + 1))) then (if (Int.tmod t420 (wrap64 ((t408.length : Int) + 1))) ≤ (t408.length : Int) then ((impl_MapAll.f k t407 (t408.take ((Int.tmod t420 (wrap64 ((t408.length : Int) + 1))) : Int).toNat)).bind fun t433 => ((impl_MapAll.f k t433 (t408.drop ((Int.tmod t420 (wrap64 ((t408.length : Int) + 1))) : Int).toNat)).bind fun t440 => ((laws_samePairs.f k t440 t413).bind fun t443 => (some t443)))) else (none)) else (none)) else (some false)) else (some false))) = some r := H
    have A12 := q_ A120
    clear A120
    replace H := Option.bind_eq_some_iff.mp H
    obtain ⟨⟨t427, t428⟩, A130, H⟩ := H
    replace H : (if t425 = t427 then (if (t426 == t428) = true then (if 0 ≤ (Int.tmod t420 (wrap64 ((t408.length : Int) + 1))) then (if (Int.tmod t420 (wrap64 ((t408.length : Int) + 1))) ≤ (t408.length : Int) then ((impl_MapAll.f k t407 (t408.take ((Int.tmod t420 (wrap64 ((t408.length : Int) + 1))) : Int).toNat)).bind fun t433 => ((impl_MapAll.f k t433 (t408.drop ((Int.tmod t420 (wrap64 ((t408.length : Int) + 1))) : Int).toNat)).bind fun t440 => ((laws_samePairs.f k t440 t413).bind fun t443 => (some t443)))) else (none)) else (none)) else (some false)) else (some false)) = some r := H
    have A13 := q_ A130
    clear A130
    by_cases c14 : t425 = t427
    ·rw [if_pos c14] at H
     have c14b0 : (t425 == t427) = true := beq_iff_eq.mpr c14
     have c14b1 : (t425 != t427) = false := bne_eq_false_iff_eq.mpr c14
     clear c14
     by_cases c15 : (t426 == t428) = true
     ·rw [if_pos c15] at H
      have c15b0 : (t426 == t428) = true := c15
      (try (have c15b1 : decide (t426 = t428) = true := z88_))
      (try (have c15b2 : (t426 == t428) = true := z88_))
      clear c15
      obtain ⟨ji16, hji16⟩ : ∃ j_ : Int, (Int.tmod t420 (wrap64 ((t408.length : Int) + 1))) = j_ := ⟨_, rfl⟩
      replace H : (if 0 ≤ (ji16) then (if (ji16) ≤ (t408.length : Int) then ((impl_MapAll.f k t407 (t408.take ((ji16) : Int).toNat)).bind fun t433 => ((impl_MapAll.f k t433 (t408.drop ((ji16) : Int).toNat)).bind fun t440 => ((laws_samePairs.f k t440 t413).bind fun t443 => (some t443)))) else (none)) else (none)) = some r := by first | (rw [hji16] at H; exact H) | (simp only [hji16] at H ⊢; exact H)
      (try rw [hji16] at A2)
      (try rw [hji16] at A4)
      (try rw [hji16] at A5)
      (try rw [hji16] at A6)
      (try rw [hji16] at A7)
      (try rw [hji16] at A9)
      (try rw [hji16] at A11)
      (try rw [hji16] at A12)
      (try rw [hji16] at A13)
      by_cases c17 : 0 ≤ (ji16)
      ·rw [if_pos c17] at H
       have c17b0 := eq_true c17
       have c17b1 : decide (0 ≤ (ji16)) = true := decide_eq_true c17
       clear c17
       by_cases c18 : (ji16) ≤ (t408.length : Int)
       ·rw [if_pos c18] at H
        have c18b0 := eq_true c18
        have c18b1 : decide ((ji16) ≤ (t408.length : Int)) = true := decide_eq_true c18
        clear c18
        obtain ⟨y429, hy429⟩ : ∃ y_ : List (S67), y_ = (t408.take ((ji16) : Int).toNat) := ⟨_, rfl⟩
        replace H : ((impl_MapAll.f k t407 y429).bind fun t433 => ((impl_MapAll.f k t433 (t408.drop ((ji16) : Int).toNat)).bind fun t440 => ((laws_samePairs.f k t440 t413).bind fun t443 => (some t443)))) = some r := by first | (rw [hy429]; with_reducible exact H) | (have H2_ := (Option.bind_some _ _).symm.trans H; rw [hy429]; with_reducible exact H2_) | (have H2_ := (Option.bind_some _ _).symm.trans H; with_reducible exact H2_) | with_reducible exact H | (rw [hy429]; exact H) | exact H
        have Ny429 := q_ hy429
        clear hy429
        replace H := Option.bind_eq_some_iff.mp H
        obtain ⟨t433, A190, H⟩ := H
        replace H : ((impl_MapAll.f k t433 (t408.drop ((ji16) : Int).toNat)).bind fun t440 => ((laws_samePairs.f k t440 t413).bind fun t443 => (some t443))) = some r := H
        have A19 := q_ A190
        clear A190
        have c20b0 := eq_true (of_decide_eq_true z5_ : 0 ≤ (ji16))
        have c21b0 := eq_true (of_decide_eq_true z5_ : (ji16) ≤ (t408.length : Int))
        obtain ⟨y436, hy436⟩ : ∃ y_ : List (S67), y_ = (t408.drop ((ji16) : Int).toNat) := ⟨_, rfl⟩
        replace H : ((impl_MapAll.f k t433 y436).bind fun t440 => ((laws_samePairs.f k t440 t413).bind fun t443 => (some t443))) = some r := by first | (rw [hy436]; with_reducible exact H) | (have H2_ := (Option.bind_some _ _).symm.trans H; rw [hy436]; with_reducible exact H2_) | (have H2_ := (Option.bind_some _ _).symm.trans H; with_reducible exact H2_) | with_reducible exact H | (rw [hy436]; exact H) | exact H
        have Ny436 := q_ hy436
        clear hy436
        replace H := Option.bind_eq_some_iff.mp H
        obtain ⟨t440, A220, H⟩ := H
        replace H : ((laws_samePairs.f k t440 t413).bind fun t443 => (some t443)) = some r := H
        have A22 := q_ A220
        clear A220
        replace H := Option.bind_eq_some_iff.mp H
        obtain ⟨t443, A230, H⟩ := H
        replace H : (some t443) = some r := H
        have A23 := q_ A230
        clear A230
        obtain rfl := Option.some.inj H
        go_enter Try.func10, Try.ntmps10
        try go_wp2_with (first | ((with_reducible refine gate_callee (f := 34) rfl ?_); refine goesL_ (some 14) rfl rfl Try.func34 (by kernel_rfl) rfl #[.slice A0 l0.length c0] rfl z1_ ?_; (with_reducible refine (laws_big.calls _ _ l0 false _ ?side1 ?side2 A2.out).mono ?_); (case side1 => exact z110_); (case side2 => exact HC0.out); rintro e w' ⟨rfl, ⟨nd, rfl⟩⟩; refine ⟨_, rfl, ?_⟩) | ((with_reducible refine gate_callee (f := 64) rfl ?_); refine goesL_ (some 17) rfl rfl Try.func64 (by kernel_rfl) rfl #[.slice A0 l0.length c0] rfl z1_ ?_; (with_reducible refine (spec_DrawMapAll.calls k _ _ l0 t407 t408 _ ?side1 ?side2 A4.out).mono ?_); (case side1 => exact z110_); (case side2 => exact HC0.out); rintro e w24 ⟨v409, v411, rfl, ho0, ho1, hb⟩; refine ⟨_, rfl, ?_⟩; have n0_ := q_ (Kd.R_lower ho0 (below_size z0_)); have n1_ := q_ (Kd.R_lower ho1 (below_size z0_)); have n2_ := q_ (below_step z0_ hb); clear HB; have HO410 := n0_; have HO412 := n1_; have HB := n2_; clear n0_ n1_ n2_; (try clear hb); (try clear hb2); (try clear hk); (try clear hi); (try clear ho0); (try clear ho1); obtain ⟨Ao25, co25, eo25⟩ := Kd.R_slice HO410.out; subst eo25; obtain ⟨Ao26, co26, eo26⟩ := Kd.R_slice HO412.out; subst eo26) | ((with_reducible refine gate_callee (f := 63) rfl ?_); refine goesL_ (some 22) rfl rfl Try.func63 (by kernel_rfl) rfl #[.slice Ao25 t407.length co25, .slice Ao26 t408.length co26] rfl z1_ ?_; (with_reducible refine (impl_MapAll.calls k _ _ t407 _ _ t408 t413 _ ?side1 ?side2 ?side3 ?side4 A5.out).mono ?_); (case side1 => exact z113_); (case side2 => exact z135_); (case side3 => exact z114_); (case side4 => exact z136_); rintro e w27 ⟨v414, rfl, ho0, hb⟩; refine ⟨_, rfl, ?_⟩; have n0_ := q_ (Kd.R_elder' z9_ (Kd.R_base ho0) hb); have n1_ := q_ (Kd.R_below z18_ hb); have n2_ := q_ (Kd.R_lower (Kd.R_new' ho0 (Kd.R_lt z9_)) (below_size z0_)); have n3_ := q_ (below_step z0_ hb); clear HO410; clear HO412; clear HB; have HO410 := n0_; have HO412 := n1_; have HO415 := n2_; have HB := n3_; clear n0_ n1_ n2_ n3_; (try clear hb); (try clear hb2); (try clear hk); (try clear hi); (try clear ho0)) | ((with_reducible refine gate_callee (f := 62) rfl ?_); refine goesL_ (some 26) rfl rfl Try.func62 (by kernel_rfl) rfl #[.slice Ao25 t407.length co25, .slice Ao26 t408.length co26] rfl z1_ ?_; (with_reducible refine (spec_MapAll.calls k _ _ t407 _ _ t408 t416 _ ?side1 ?side2 ?side3 ?side4 A6.out).mono ?_); (case side1 => exact z113_); (case side2 => exact z135_); (case side3 => exact z114_); (case side4 => exact z136_); rintro e w28 ⟨v417, rfl, ho0, hb⟩; refine ⟨_, rfl, ?_⟩; have n0_ := q_ (Kd.R_elder' z9_ (Kd.R_base ho0) hb); have n1_ := q_ (Kd.R_below z18_ hb); have n2_ := q_ (Kd.R_elder' z15_ (Kd.R_base ho0) hb); have n3_ := q_ (Kd.R_lower (Kd.R_new' (Kd.R_new' ho0 (Kd.R_lt z9_)) (Kd.R_lt z15_)) (below_size z0_)); have n4_ := q_ (below_step z0_ hb); clear HO410; clear HO412; clear HO415; clear HB; have HO410 := n0_; have HO412 := n1_; have HO415 := n2_; have HO418 := n3_; have HB := n4_; clear n0_ n1_ n2_ n3_ n4_; (try clear hb); (try clear hb2); (try clear hk); (try clear hi); (try clear ho0); obtain ⟨Ao29, co29, eo29⟩ := Kd.R_slice HO415.out; subst eo29; obtain ⟨Ao30, co30, eo30⟩ := Kd.R_slice HO418.out; subst eo30) | ((with_reducible refine gate_callee (f := 56) rfl ?_); refine goesL_ (some 27) rfl rfl Try.func56 (by kernel_rfl) rfl #[.slice Ao29 t413.length co29, .slice Ao30 t416.length co30] rfl z1_ ?_; (with_reducible refine (laws_samePairs.calls k _ _ t413 _ _ t416 true _ ?side1 ?side2 ?side3 ?side4 A7.out).mono ?_); (case side1 => exact z117_); (case side2 => exact z141_); (case side3 => exact z120_); (case side4 => exact z143_); rintro e w' ⟨rfl, ⟨nd, rfl⟩⟩; refine ⟨_, rfl, ?_⟩) | ((with_reducible refine gate_callee (f := 65) rfl ?_); refine goesL_ (some 30) rfl rfl Try.func65 (by kernel_rfl) rfl #[.slice A0 l0.length c0, .int .i64 1] rfl z1_ ?_; (with_reducible refine (laws_at.calls _ _ l0 1 t420 _ ?side1 ?side2 A9.out).mono ?_); (case side1 => exact z115_); (case side2 => exact HC0.out); rintro e w' ⟨rfl, ⟨nd, rfl⟩⟩; refine ⟨_, rfl, ?_⟩) | ((with_reducible refine gate_callee (f := 66) rfl ?_); refine goesL_ (some 37) rfl rfl Try.func66 (by kernel_rfl) rfl #[.slice A0 l0.length c0] rfl z1_ ?_; (with_reducible refine (spec_DrawMapGet.calls k _ _ l0 t421 t422 _ ?side1 ?side2 A11.out).mono ?_); (case side1 => exact z115_); (case side2 => exact HC0.out); rintro e w31 ⟨v423, rfl, ho0, hb⟩; refine ⟨_, rfl, ?_⟩; have n0_ := q_ (Kd.R_elder' z9_ (Kd.R_base ho0) hb); have n1_ := q_ (Kd.R_below z18_ hb); have n2_ := q_ (Kd.R_elder' z15_ (Kd.R_base ho0) hb); have n3_ := q_ (Kd.R_elder' z32_ (Kd.R_base ho0) hb); have n4_ := q_ (Kd.R_lower (Kd.R_new' (Kd.R_new' (Kd.R_new' ho0 (Kd.R_lt z9_)) (Kd.R_lt z15_)) (Kd.R_lt z32_)) (below_size z0_)); have n5_ := q_ (below_step z0_ hb); clear HO410; clear HO412; clear HO415; clear HO418; clear HB; have HO410 := n0_; have HO412 := n1_; have HO415 := n2_; have HO418 := n3_; have HO424 := n4_; have HB := n5_; clear n0_ n1_ n2_ n3_ n4_ n5_; (try clear hb); (try clear hb2); (try clear hk); (try clear hi); (try clear ho0); obtain ⟨Ao32, co32, eo32⟩ := Kd.R_slice HO424.out; subst eo32) | ((with_reducible refine gate_callee (f := 61) rfl ?_); refine goesL_ (some 43) rfl rfl Try.func61 (by kernel_rfl) rfl #[.slice Ao32 t421.length co32, .int .i64 t422] rfl z1_ ?_; (with_reducible refine (impl_MapGet.calls k _ _ t421 t422 t425 t426 _ ?side1 ?side2 A12.out).mono ?_); (case side1 => exact z116_); (case side2 => exact z139_); rintro e w33 ⟨rfl, hb⟩; refine ⟨_, rfl, ?_⟩; have n0_ := q_ (Kd.R_below z9_ hb); have n1_ := q_ (Kd.R_below z18_ hb); have n2_ := q_ (Kd.R_below z15_ hb); have n3_ := q_ (Kd.R_below z32_ hb); have n4_ := q_ (Kd.R_below z54_ hb); have n5_ := q_ (below_step z0_ hb); clear HO410; clear HO412; clear HO415; clear HO418; clear HO424; clear HB; have HO410 := n0_; have HO412 := n1_; have HO415 := n2_; have HO418 := n3_; have HO424 := n4_; have HB := n5_; clear n0_ n1_ n2_ n3_ n4_ n5_; (try clear hb); (try clear hb2); (try clear hk); (try clear hi)) | ((with_reducible refine gate_callee (f := 67) rfl ?_); refine goesL_ (some 49) rfl rfl Try.func67 (by kernel_rfl) rfl #[.slice Ao32 t421.length co32, .int .i64 t422] rfl z1_ ?_; (with_reducible refine (spec_MapGet.calls k _ _ t421 t422 t427 t428 _ ?side1 ?side2 A13.out).mono ?_); (case side1 => exact z116_); (case side2 => exact z139_); rintro e w' ⟨rfl, ⟨nd, rfl⟩⟩; refine ⟨_, rfl, ?_⟩))
        (try (rw [drewN_self w33]; generalize hq_ : World.drewN w33 _ = w33; have n0_ : Aside0 (Kd.R k147 147 w33 w.heap.size (fun k_ => some k_ ≠ (.slice Ao29 t413.length co29 : Value).ownBlock ∧ some k_ ≠ (.slice Ao30 t416.length co30 : Value).ownBlock ∧ some k_ ≠ (.slice Ao32 t421.length co32 : Value).ownBlock) (.slice Ao25 t407.length co25) t407) := ⟨by rw [← hq_]; exact z63_⟩; have n1_ : Aside0 (Kd.R k67 67 w33 w.heap.size (fun _ => True) (.slice Ao26 t408.length co26) t408) := ⟨by rw [← hq_]; exact z18_⟩; have n2_ : Aside0 (Kd.R k147 147 w33 w.heap.size (fun k_ => some k_ ≠ (.slice Ao25 t407.length co25 : Value).ownBlock ∧ some k_ ≠ (.slice Ao30 t416.length co30 : Value).ownBlock ∧ some k_ ≠ (.slice Ao32 t421.length co32 : Value).ownBlock) (.slice Ao29 t413.length co29) t413) := ⟨by rw [← hq_]; exact z64_⟩; have n3_ : Aside0 (Kd.R k147 147 w33 w.heap.size (fun k_ => some k_ ≠ (.slice Ao25 t407.length co25 : Value).ownBlock ∧ some k_ ≠ (.slice Ao29 t413.length co29 : Value).ownBlock ∧ some k_ ≠ (.slice Ao32 t421.length co32 : Value).ownBlock) (.slice Ao30 t416.length co30) t416) := ⟨by rw [← hq_]; exact z65_⟩; have n4_ : Aside0 (Kd.R k147 147 w33 w.heap.size (fun k_ => some k_ ≠ (.slice Ao25 t407.length co25 : Value).ownBlock ∧ some k_ ≠ (.slice Ao29 t413.length co29 : Value).ownBlock ∧ some k_ ≠ (.slice Ao30 t416.length co30 : Value).ownBlock) (.slice Ao32 t421.length co32) t421) := ⟨by rw [← hq_]; exact z66_⟩; have n5_ : Aside0 (Below w.heap.size w w33) := ⟨by rw [← hq_]; exact z0_⟩; clear HO410 HO412 HO415 HO418 HO424 HB hq_; have HO410 := n0_; have HO412 := n1_; have HO415 := n2_; have HO418 := n3_; have HO424 := n4_; have HB := n5_; clear n0_ n1_ n2_ n3_ n4_ n5_))
        have n0_ := q_ (Kd.R_drew HO410.out)
        have n1_ := q_ (Kd.R_drew HO412.out)
        have n2_ := q_ (Kd.R_drew HO415.out)
        have n3_ := q_ (Kd.R_drew HO418.out)
        have n4_ := q_ (Kd.R_drew HO424.out)
        have n5_ := q_ (below_drew1 HB.out)
        clear HO410
        clear HO412
        clear HO415
        clear HO418
        clear HO424
        clear HB
        have HO410 := n0_
        have HO412 := n1_
        have HO415 := n2_
        have HO418 := n3_
        have HO424 := n4_
        have HB := n5_
        clear n0_ n1_ n2_ n3_ n4_ n5_
        have q35 : ((ji16) : Int) ≤ ((t408.length : Int) : Int) := of_decide_eq_true z5_
        obtain ⟨i035, hi035, _, hsz35, _⟩ := info_parts info67
        have hroom35 : t408.length ≤ co26 := (Kd.R_reads' HO412.out).2.1
        have hC35 : Kd.C k67 _ Ao26 t408.length t408 := (Kd.R_reads' HO412.out).2.2
        have hcut35 := cut_to (P := Try.prog) 24 67 .i64 Try.underlying24 hi035 Ao26 t408.length co26 (ji16) (of_decide_eq_true z5_) q35 hroom35
        have hr35 := Kd.C_take (m := ((ji16) : Int).toNat) hC35 (by omega)
        have hy35 : y429.length = ((ji16) : Int).toNat := (by rw [Ny429.out, List.length_take]; omega)
        rw [← Ny429.out] at hr35
        rw [← hy35] at hcut35
        have HR432 := q_ hr35
        have HC432 := q_ (show y429.length ≤ co26 from by omega)
        clear hr35 hC35 hroom35 hi035 hsz35
        have KY35 := q_ hy35
        clear hy35
        have KL35 := q_ (show ((ji16) : Int).toNat ≤ t408.length from by omega)
        replace q35 := eq_true q35
        have q36 : ((ji16) : Int) ≤ ((t408.length : Int) : Int) := of_decide_eq_true z5_
        obtain ⟨i036, hi036, _, hsz36, _⟩ := info_parts info67
        have hroom36 : t408.length ≤ co26 := (Kd.R_reads' HO412.out).2.1
        have hC36 : Kd.C k67 _ Ao26 t408.length t408 := (Kd.R_reads' HO412.out).2.2
        have q036 : (0 : Int) ≤ ((ji16) : Int) := of_decide_eq_true z5_
        have hcut36 := cut_from (P := Try.prog) 24 67 .i64 Try.underlying24 hi036 3 hsz36 Ao26 t408.length co26 (ji16) q036 q36
        have hr36 := Kd.C_drop (m := ((ji16) : Int).toNat) (c := co26) hC36 (by omega) hroom36
        obtain ⟨A36, hA36⟩ : ∃ A1, A1 = (if co26 = ((ji16) : Int).toNat then Ao26 else (Ao26 : Option Addr).map (·.add (((ji16) : Int).toNat * 3))) := ⟨_, rfl⟩
        obtain ⟨c36, hc36⟩ : ∃ c1, c1 = co26 - ((ji16) : Int).toNat := ⟨_, rfl⟩
        have hy36 : y436.length = t408.length - ((ji16) : Int).toNat := (by rw [Ny436.out, List.length_drop] <;> omega)
        rw [show (t408).drop ((ji16) : Int).toNat = y436 from Ny436.out.symm] at hr36
        replace hr36 : Kd.C k67 _ A36 y436.length y436 := (by rw [hA36]; exact hr36)
        rw [← hy36, ← hA36, ← hc36] at hcut36
        have HR439 := q_ hr36
        have HC439 := q_ (show y436.length ≤ c36 from by rw [hy36, hc36]; exact Nat.sub_le_sub_right hroom36 _)
        clear hr36 hC36 hroom36 hi036 hsz36 hc36
        have KY36 := q_ hy36
        have KA36 := q_ hA36
        clear hy36 hA36
        have KL36 := q_ (show ((ji16) : Int).toNat ≤ t408.length from by omega)
        replace q36 := eq_true q36
        refine start_ (n := 22) (S := fun w' => True) (ds := []) #[false, false, false, false, false, false, false, false, false, false, false, false, false, false, false, false, false, false, false, false, false, false] (by kernel_rfl) rfl rfl trivial (fun hHeld => ?_); refine with_tabW laws_FnMapAll.tab11 laws_FnMapAll.bits11 (fun HT_ HW_ => ?_)
        generalize w33.drew = w34 at HO410 HO412 HO415 HO418 HO424 HB HR432 HR439 hHeld ⊢
        refine pure_ (i := 0) (N := some 52) (v := ?_) (a' := ?_) #[true, false, false, false, false, false, false, false, false, false, false, false, false, false, false, false, false, false, false, false, false, false] rfl rfl (any_of HT_.out (by kernel_rfl)) (fun _ _ _ h => h) (Or.inl ⟨by rfl, ?_⟩) ?_ ?_
        rotate_left
        ·intro w'
         go_simp
         with_reducible rfl
        rotate_left
        ·simp only [Act.put, List.setIfInBounds_toArray, List.set_cons_zero, List.set_cons_succ, i64_w, i32_w]
         rfl
        refine pure_ (i := 1) (N := some 53) (v := ?_) (a' := ?_) #[true, true, false, false, false, false, false, false, false, false, false, false, false, false, false, false, false, false, false, false, false, false] rfl rfl (any_of HT_.out (by kernel_rfl)) (fun _ _ _ h => h) (Or.inl ⟨by rfl, ?_⟩) ?_ ?_
        rotate_left
        ·intro w'
         go_simp
         with_reducible rfl
        rotate_left
        ·simp only [Act.put, List.setIfInBounds_toArray, List.set_cons_zero, List.set_cons_succ, i64_w, i32_w]
         rfl
        refine pure_ (i := 2) (N := some 54) (v := ?_) (a' := ?_) #[true, true, true, false, false, false, false, false, false, false, false, false, false, false, false, false, false, false, false, false, false, false] rfl rfl (any_of HT_.out (by kernel_rfl)) (fun _ _ _ h => h) (Or.inl ⟨by rfl, ?_⟩) ?_ ?_
        rotate_left
        ·intro w'
         go_simp
         with_reducible rfl
        rotate_left
        ·simp only [Act.put, List.setIfInBounds_toArray, List.set_cons_zero, List.set_cons_succ, i64_w, i32_w]
         rfl
        refine pure_ (i := 3) (N := some 55) (v := ?_) (a' := ?_) #[true, true, true, true, false, false, false, false, false, false, false, false, false, false, false, false, false, false, false, false, false, false] rfl rfl (any_of HT_.out (by kernel_rfl)) (fun _ _ _ h => h) (Or.inl ⟨by rfl, ?_⟩) ?_ ?_
        rotate_left
        ·intro w'
         go_simp
         with_reducible rfl
        rotate_left
        ·simp only [Act.put, List.setIfInBounds_toArray, List.set_cons_zero, List.set_cons_succ, i64_w, i32_w]
         rfl
        refine pure_ (i := 4) (N := some 56) (v := ?_) (a' := ?_) #[true, true, true, true, true, false, false, false, false, false, false, false, false, false, false, false, false, false, false, false, false, false] rfl rfl (any_of HT_.out (by kernel_rfl)) (fun _ _ _ h => h) (Or.inl ⟨by rfl, ?_⟩) ?_ ?_
        rotate_left
        ·intro w'
         go_simp
         with_reducible rfl
        rotate_left
        ·simp only [Act.put, List.setIfInBounds_toArray, List.set_cons_zero, List.set_cons_succ, i64_w, i32_w]
         rfl
        refine pure_ (i := 5) (N := some 57) (v := ?_) (a' := ?_) #[true, true, true, true, true, true, false, false, false, false, false, false, false, false, false, false, false, false, false, false, false, false] rfl rfl (any_of HT_.out (by kernel_rfl)) (fun _ _ _ h => h) (Or.inl ⟨by rfl, ?_⟩) ?_ ?_
        rotate_left
        ·intro w'
         go_simp
         with_reducible rfl
        rotate_left
        ·simp only [Act.put, List.setIfInBounds_toArray, List.set_cons_zero, List.set_cons_succ, i64_w, i32_w]
         rfl
        refine pure_ (i := 6) (N := some 58) (v := ?_) (a' := ?_) #[true, true, true, true, true, true, true, false, false, false, false, false, false, false, false, false, false, false, false, false, false, false] rfl rfl (any_of HT_.out (by kernel_rfl)) (fun _ _ _ h => h) (Or.inl ⟨by rfl, ?_⟩) ?_ ?_
        rotate_left
        ·intro w'
         go_simp
         with_reducible rfl
        rotate_left
        ·simp only [Act.put, List.setIfInBounds_toArray, List.set_cons_zero, List.set_cons_succ, i64_w, i32_w]
         rfl
        refine pure_ (i := 7) (N := some 59) (v := ?_) (a' := ?_) #[true, true, true, true, true, true, true, true, false, false, false, false, false, false, false, false, false, false, false, false, false, false] rfl rfl (any_of HT_.out (by kernel_rfl)) (fun _ _ _ h => h) (Or.inl ⟨by rfl, ?_⟩) ?_ ?_
        rotate_left
        ·intro w'
         go_simp
         with_reducible rfl
        rotate_left
        ·simp only [Act.put, List.setIfInBounds_toArray, List.set_cons_zero, List.set_cons_succ, i64_w, i32_w]
         rfl
        refine pure_ (i := 8) (N := some 60) (v := ?_) (a' := ?_) #[true, true, true, true, true, true, true, true, true, false, false, false, false, false, false, false, false, false, false, false, false, false] rfl rfl (any_of HT_.out (by kernel_rfl)) (fun _ _ _ h => h) (Or.inl ⟨by rfl, ?_⟩) ?_ ?_
        rotate_left
        ·intro w'
         go_simp
         with_reducible rfl
        rotate_left
        ·simp only [Act.put, List.setIfInBounds_toArray, List.set_cons_zero, List.set_cons_succ, i64_w, i32_w]
         rfl
        refine pure_ (i := 9) (N := some 61) (v := ?_) (a' := ?_) #[true, true, true, true, true, true, true, true, true, true, false, false, false, false, false, false, false, false, false, false, false, false] rfl rfl (any_of HT_.out (by kernel_rfl)) (fun _ _ _ h => h) (Or.inl ⟨by rfl, ?_⟩) ?_ ?_
        rotate_left
        ·intro w'
         go_simp
         with_reducible rfl
        rotate_left
        ·simp only [Act.put, List.setIfInBounds_toArray, List.set_cons_zero, List.set_cons_succ, i64_w, i32_w]
         rfl
        refine pure_ (i := 10) (N := some 62) (v := ?_) (a' := ?_) #[true, true, true, true, true, true, true, true, true, true, true, false, false, false, false, false, false, false, false, false, false, false] rfl rfl (any_of HT_.out (by kernel_rfl)) (fun _ _ _ h => h) (Or.inl ⟨by rfl, ?_⟩) ?_ ?_
        rotate_left
        ·intro w'
         go_simp
         with_reducible rfl
        rotate_left
        ·simp only [Act.put, List.setIfInBounds_toArray, List.set_cons_zero, List.set_cons_succ, i64_w, i32_w]
         rfl
        refine pure_ (i := 11) (N := some 63) (v := ?_) (a' := ?_) #[true, true, true, true, true, true, true, true, true, true, true, true, false, false, false, false, false, false, false, false, false, false] rfl rfl (any_of HT_.out (by kernel_rfl)) (fun _ _ _ h => h) (Or.inl ⟨by rfl, ?_⟩) ?_ ?_
        rotate_left
        ·intro w'
         go_simp
         with_reducible rfl
        rotate_left
        ·simp only [Act.put, List.setIfInBounds_toArray, List.set_cons_zero, List.set_cons_succ, i64_w, i32_w]
         rfl
        refine pure_ (i := 12) (N := some 64) (v := ?_) (a' := ?_) #[true, true, true, true, true, true, true, true, true, true, true, true, true, false, false, false, false, false, false, false, false, false] rfl rfl (any_of HT_.out (by kernel_rfl)) (fun _ _ _ h => h) (Or.inl ⟨by rfl, ?_⟩) ?_ ?_
        rotate_left
        ·intro w'
         go_simp
         with_reducible rfl
        rotate_left
        ·simp only [Act.put, List.setIfInBounds_toArray, List.set_cons_zero, List.set_cons_succ, i64_w, i32_w]
         rfl
        refine pure_ (i := 14) (N := some 66) (v := ?_) (a' := ?_) #[true, true, true, true, true, true, true, true, true, true, true, true, true, false, true, false, false, false, false, false, false, false] rfl rfl (any_of HT_.out (by kernel_rfl)) (fun _ _ _ h => h) (Or.inl ⟨by rfl, ?_⟩) ?_ ?_
        rotate_left
        ·intro w'
         go_simp
         with_reducible rfl
        rotate_left
        ·simp only [Act.put, List.setIfInBounds_toArray, List.set_cons_zero, List.set_cons_succ, i64_w, i32_w]
         rfl
        refine pure_ (i := 15) (N := some 67) (v := ?_) (a' := ?_) #[true, true, true, true, true, true, true, true, true, true, true, true, true, false, true, true, false, false, false, false, false, false] rfl rfl (any_of HT_.out (by kernel_rfl)) (fun _ _ _ h => h) (Or.inl ⟨by rfl, ?_⟩) ?_ ?_
        rotate_left
        ·intro w'
         go_simp
         with_reducible rfl
        rotate_left
        ·simp only [Act.put, List.setIfInBounds_toArray, List.set_cons_zero, List.set_cons_succ, i64_w, i32_w]
         rfl
        refine pure_ (i := 16) (N := some 68) (v := ?_) (a' := ?_) #[true, true, true, true, true, true, true, true, true, true, true, true, true, false, true, true, true, false, false, false, false, false] rfl rfl (any_of HT_.out (by kernel_rfl)) (fun _ _ _ h => h) (Or.inl ⟨by rfl, ?_⟩) ?_ ?_
        rotate_left
        ·intro w'
         go_simp
         with_reducible rfl
        rotate_left
        ·simp only [Act.put, List.setIfInBounds_toArray, List.set_cons_zero, List.set_cons_succ, i64_w, i32_w]
         rfl
        refine pure_ (i := 18) (N := some 70) (v := ?_) (a' := ?_) #[true, true, true, true, true, true, true, true, true, true, true, true, true, false, true, true, true, false, true, false, false, false] rfl rfl (any_of HT_.out (by kernel_rfl)) (fun _ _ _ h => h) (Or.inl ⟨by rfl, ?_⟩) ?_ ?_
        rotate_left
        ·intro w'
         go_simp
         with_reducible rfl
        rotate_left
        ·simp only [Act.put, List.setIfInBounds_toArray, List.set_cons_zero, List.set_cons_succ, i64_w, i32_w]
         rfl
        refine one_ (i := 13) (N := some 65) #[true, true, true, true, true, true, true, true, true, true, true, true, true, true, true, true, true, false, true, false, false, false] rfl rfl (one_of HT_.out (by kernel_rfl)) (by decide) (fun K hK => ?_)
        refine goes_ Try.func63 (by kernel_rfl) rfl #[.slice Ao25 t407.length co25, .slice Ao26 y429.length co26] (by rfl) rfl rfl z1_ ?_
        with_reducible refine (impl_MapAll.calls k _ _ t407 _ _ y429 t433 _ ?side1 ?side2 ?side3 ?side4 A19.out).mono ?_
        (case side1 => exact z113_)
        (case side2 => exact z135_)
        (case side3 => repeat (first | exact z59_ | (with_reducible refine Kd.C_alloc ?_ _) | (with_reducible refine Kd.C_drewN ?_ _) | (with_reducible refine Kd.C_drew ?_)))
        (case side4 => exact HC432.out)
        rintro e w37 ⟨v434, rfl, ho0, hb⟩
        refine ⟨_, rfl, ?_⟩
        have n0_ := q_ (Kd.R_elder' z9_ (Kd.R_base ho0) hb)
        have n1_ := q_ (Kd.R_below z18_ hb)
        have n2_ := q_ (Kd.R_elder' z15_ (Kd.R_base ho0) hb)
        have n3_ := q_ (Kd.R_elder' z32_ (Kd.R_base ho0) hb)
        have n4_ := q_ (Kd.R_elder' z54_ (Kd.R_base ho0) hb)
        have n5_ := q_ (Kd.R_lower (Kd.R_new' (Kd.R_new' (Kd.R_new' (Kd.R_new' ho0 (Kd.R_lt z9_)) (Kd.R_lt z15_)) (Kd.R_lt z32_)) (Kd.R_lt z54_)) (below_size z0_))
        have n6_ := q_ (Kd.C_below z59_ hb)
        have n7_ := q_ (Kd.C_below z60_ hb)
        have n8_ := q_ (below_step z0_ hb)
        clear HO410
        clear HO412
        clear HO415
        clear HO418
        clear HO424
        clear HR432
        clear HR439
        clear HB
        have HO410 := n0_
        have HO412 := n1_
        have HO415 := n2_
        have HO418 := n3_
        have HO424 := n4_
        have HO435 := n5_
        have HR432 := n6_
        have HR439 := n7_
        have HB := n8_
        clear n0_ n1_ n2_ n3_ n4_ n5_ n6_ n7_ n8_
        (try clear hb)
        (try clear hb2)
        (try clear hk)
        (try clear hi)
        (try clear ho0)
        obtain ⟨Ao38, co38, eo38⟩ := Kd.R_slice HO435.out
        (first | subst eo38 | (injection eo38 with f1_ f2_ f3_; have f4_ := f1_.symm; have f5_ := f3_.symm; clear f1_ f2_ f3_; subst f4_; subst f5_))
        refine hK.out _ _ trivial (fun hHeld => ?_)
        clear hK K
        refine norm_ (a' := ?_) ?_ ?_
        rotate_left
        ·show Act.put _ (some 65) _ = _
         simp only [Act.put, List.setIfInBounds_toArray, List.set_cons_zero, List.set_cons_succ, i64_w, i32_w]
         rfl
        refine one_ (i := 17) (N := some 69) #[true, true, true, true, true, true, true, true, true, true, true, true, true, true, true, true, true, true, true, false, false, false] rfl rfl (one_of HT_.out (by kernel_rfl)) (by decide) (fun K hK => ?_)
        refine goes_ Try.func63 (by kernel_rfl) rfl #[.slice Ao38 t433.length co38, .slice A36 y436.length c36] (by rfl) rfl rfl z1_ ?_
        with_reducible refine (impl_MapAll.calls k _ _ t433 _ _ y436 t440 _ ?side1 ?side2 ?side3 ?side4 A22.out).mono ?_
        (case side1 => repeat (first | exact (Kd.R_reads' HO435.out).2.2 | (with_reducible refine Kd.C_alloc ?_ _) | (with_reducible refine Kd.C_drewN ?_ _) | (with_reducible refine Kd.C_drew ?_)))
        (case side2 => exact (Kd.R_reads' HO435.out).2.1)
        (case side3 => repeat (first | exact z60_ | (with_reducible refine Kd.C_alloc ?_ _) | (with_reducible refine Kd.C_drewN ?_ _) | (with_reducible refine Kd.C_drew ?_)))
        (case side4 => exact HC439.out)
        rintro e w39 ⟨v441, rfl, ho0, hb⟩
        refine ⟨_, rfl, ?_⟩
        have n0_ := q_ (Kd.R_elder' z9_ (Kd.R_base ho0) hb)
        have n1_ := q_ (Kd.R_below z18_ hb)
        have n2_ := q_ (Kd.R_elder' z15_ (Kd.R_base ho0) hb)
        have n3_ := q_ (Kd.R_elder' z32_ (Kd.R_base ho0) hb)
        have n4_ := q_ (Kd.R_elder' z54_ (Kd.R_base ho0) hb)
        have n5_ := q_ (Kd.R_elder' z83_ (Kd.R_base ho0) hb)
        have n6_ := q_ (Kd.R_lower (Kd.R_new' (Kd.R_new' (Kd.R_new' (Kd.R_new' (Kd.R_new' ho0 (Kd.R_lt z9_)) (Kd.R_lt z15_)) (Kd.R_lt z32_)) (Kd.R_lt z54_)) (Kd.R_lt z83_)) (below_size z0_))
        have n7_ := q_ (Kd.C_below z59_ hb)
        have n8_ := q_ (Kd.C_below z60_ hb)
        have n9_ := q_ (below_step z0_ hb)
        clear HO410
        clear HO412
        clear HO415
        clear HO418
        clear HO424
        clear HO435
        clear HR432
        clear HR439
        clear HB
        have HO410 := n0_
        have HO412 := n1_
        have HO415 := n2_
        have HO418 := n3_
        have HO424 := n4_
        have HO435 := n5_
        have HO442 := n6_
        have HR432 := n7_
        have HR439 := n8_
        have HB := n9_
        clear n0_ n1_ n2_ n3_ n4_ n5_ n6_ n7_ n8_ n9_
        (try clear hb)
        (try clear hb2)
        (try clear hk)
        (try clear hi)
        (try clear ho0)
        obtain ⟨Ao40, co40, eo40⟩ := Kd.R_slice HO442.out
        (first | subst eo40 | (injection eo40 with f1_ f2_ f3_; have f4_ := f1_.symm; have f5_ := f3_.symm; clear f1_ f2_ f3_; subst f4_; subst f5_))
        refine hK.out _ _ trivial (fun hHeld => ?_)
        clear hK K
        refine norm_ (a' := ?_) ?_ ?_
        rotate_left
        ·show Act.put _ (some 69) _ = _
         simp only [Act.put, List.setIfInBounds_toArray, List.set_cons_zero, List.set_cons_succ, i64_w, i32_w]
         rfl
        refine one_ (i := 19) (N := some 71) #[true, true, true, true, true, true, true, true, true, true, true, true, true, true, true, true, true, true, true, true, false, false] rfl rfl (one_of HT_.out (by kernel_rfl)) (by decide) (fun K hK => ?_)
        refine goes_ Try.func56 (by kernel_rfl) rfl #[.slice Ao40 t440.length co40, .slice Ao29 t413.length co29] (by rfl) rfl rfl z1_ ?_
        with_reducible refine (laws_samePairs.calls k _ _ t440 _ _ t413 t443 _ ?side1 ?side2 ?side3 ?side4 A23.out).mono ?_
        (case side1 => repeat (first | exact (Kd.R_reads' HO442.out).2.2 | (with_reducible refine Kd.C_alloc ?_ _) | (with_reducible refine Kd.C_drewN ?_ _) | (with_reducible refine Kd.C_drew ?_)))
        (case side2 => exact (Kd.R_reads' HO442.out).2.1)
        (case side3 => exact z117_)
        (case side4 => exact z141_)
        rintro e w' ⟨rfl, ⟨nd, rfl⟩⟩
        refine ⟨_, rfl, ?_⟩
        refine hK.out _ _ trivial (fun hHeld => ?_)
        clear hK K
        refine norm_ (a' := ?_) ?_ ?_
        rotate_left
        ·show Act.put _ (some 71) _ = _
         simp only [Act.put, List.setIfInBounds_toArray, List.set_cons_zero, List.set_cons_succ, i64_w, i32_w]
         rfl
        refine pure_ (i := 20) (N := some 72) (v := ?_) (a' := ?_) #[true, true, true, true, true, true, true, true, true, true, true, true, true, true, true, true, true, true, true, true, true, false] rfl rfl (any_of HT_.out (by kernel_rfl)) (fun _ _ _ h => h) (Or.inl ⟨by rfl, ?_⟩) ?_ ?_
        rotate_left
        ·intro w'
         go_simp
         with_reducible rfl
        rotate_left
        ·simp only [Act.put, List.setIfInBounds_toArray, List.set_cons_zero, List.set_cons_succ, i64_w, i32_w]
         rfl
        refine pure_ (i := 21) (N := some 2) (v := ?_) (a' := ?_) #[true, true, true, true, true, true, true, true, true, true, true, true, true, true, true, true, true, true, true, true, true, true] rfl rfl (any_of HT_.out (by kernel_rfl)) (fun _ _ _ h => h) (Or.inl ⟨by rfl, ?_⟩) ?_ ?_
        rotate_left
        ·intro w'
         go_simp
         with_reducible rfl
        rotate_left
        ·simp only [Act.put, List.setIfInBounds_toArray, List.set_cons_zero, List.set_cons_succ, i64_w, i32_w]
         rfl
        refine done_ (done_of HT_.out (by kernel_rfl)) ?_
        try go_wp2
        go_ret
        exact ⟨by first | rfl | (simp [errW_none, errW_some] <;> rfl) | (simp only [← hji16]; first | rfl | (simp [errW_none, errW_some] <;> rfl)) | (simp [*, errW_none, errW_some] <;> rfl), z0_⟩
       ·rw [if_neg c18] at H
        exact absurd H (by simp)
      ·rw [if_neg c17] at H
       exact absurd H (by simp)
     ·rw [if_neg c15] at H
      have c15b0 : (t426 == t428) = false := z88_
      (try (have c15b1 : decide (t426 = t428) = false := z88_))
      (try (have c15b2 : (t426 == t428) = false := z88_))
      (try (have c15b3 : ¬ (t426 = t428) := z88_))
      clear c15
      obtain rfl := Option.some.inj H
      go_enter Try.func10, Try.ntmps10
      try go_wp2_with (first | ((with_reducible refine gate_callee (f := 34) rfl ?_); refine goesL_ (some 14) rfl rfl Try.func34 (by kernel_rfl) rfl #[.slice A0 l0.length c0] rfl z1_ ?_; (with_reducible refine (laws_big.calls _ _ l0 false _ ?side1 ?side2 A2.out).mono ?_); (case side1 => exact z110_); (case side2 => exact HC0.out); rintro e w' ⟨rfl, ⟨nd, rfl⟩⟩; refine ⟨_, rfl, ?_⟩) | ((with_reducible refine gate_callee (f := 64) rfl ?_); refine goesL_ (some 17) rfl rfl Try.func64 (by kernel_rfl) rfl #[.slice A0 l0.length c0] rfl z1_ ?_; (with_reducible refine (spec_DrawMapAll.calls k _ _ l0 t407 t408 _ ?side1 ?side2 A4.out).mono ?_); (case side1 => exact z110_); (case side2 => exact HC0.out); rintro e w41 ⟨v409, v411, rfl, ho0, ho1, hb⟩; refine ⟨_, rfl, ?_⟩; have n0_ := q_ (Kd.R_lower ho0 (below_size z0_)); have n1_ := q_ (Kd.R_lower ho1 (below_size z0_)); have n2_ := q_ (below_step z0_ hb); clear HB; have HO410 := n0_; have HO412 := n1_; have HB := n2_; clear n0_ n1_ n2_; (try clear hb); (try clear hb2); (try clear hk); (try clear hi); (try clear ho0); (try clear ho1); obtain ⟨Ao42, co42, eo42⟩ := Kd.R_slice HO410.out; subst eo42; obtain ⟨Ao43, co43, eo43⟩ := Kd.R_slice HO412.out; subst eo43) | ((with_reducible refine gate_callee (f := 63) rfl ?_); refine goesL_ (some 22) rfl rfl Try.func63 (by kernel_rfl) rfl #[.slice Ao42 t407.length co42, .slice Ao43 t408.length co43] rfl z1_ ?_; (with_reducible refine (impl_MapAll.calls k _ _ t407 _ _ t408 t413 _ ?side1 ?side2 ?side3 ?side4 A5.out).mono ?_); (case side1 => exact z113_); (case side2 => exact z135_); (case side3 => exact z114_); (case side4 => exact z136_); rintro e w44 ⟨v414, rfl, ho0, hb⟩; refine ⟨_, rfl, ?_⟩; have n0_ := q_ (Kd.R_elder' z9_ (Kd.R_base ho0) hb); have n1_ := q_ (Kd.R_below z18_ hb); have n2_ := q_ (Kd.R_lower (Kd.R_new' ho0 (Kd.R_lt z9_)) (below_size z0_)); have n3_ := q_ (below_step z0_ hb); clear HO410; clear HO412; clear HB; have HO410 := n0_; have HO412 := n1_; have HO415 := n2_; have HB := n3_; clear n0_ n1_ n2_ n3_; (try clear hb); (try clear hb2); (try clear hk); (try clear hi); (try clear ho0)) | ((with_reducible refine gate_callee (f := 62) rfl ?_); refine goesL_ (some 26) rfl rfl Try.func62 (by kernel_rfl) rfl #[.slice Ao42 t407.length co42, .slice Ao43 t408.length co43] rfl z1_ ?_; (with_reducible refine (spec_MapAll.calls k _ _ t407 _ _ t408 t416 _ ?side1 ?side2 ?side3 ?side4 A6.out).mono ?_); (case side1 => exact z113_); (case side2 => exact z135_); (case side3 => exact z114_); (case side4 => exact z136_); rintro e w45 ⟨v417, rfl, ho0, hb⟩; refine ⟨_, rfl, ?_⟩; have n0_ := q_ (Kd.R_elder' z9_ (Kd.R_base ho0) hb); have n1_ := q_ (Kd.R_below z18_ hb); have n2_ := q_ (Kd.R_elder' z15_ (Kd.R_base ho0) hb); have n3_ := q_ (Kd.R_lower (Kd.R_new' (Kd.R_new' ho0 (Kd.R_lt z9_)) (Kd.R_lt z15_)) (below_size z0_)); have n4_ := q_ (below_step z0_ hb); clear HO410; clear HO412; clear HO415; clear HB; have HO410 := n0_; have HO412 := n1_; have HO415 := n2_; have HO418 := n3_; have HB := n4_; clear n0_ n1_ n2_ n3_ n4_; (try clear hb); (try clear hb2); (try clear hk); (try clear hi); (try clear ho0); obtain ⟨Ao46, co46, eo46⟩ := Kd.R_slice HO415.out; subst eo46; obtain ⟨Ao47, co47, eo47⟩ := Kd.R_slice HO418.out; subst eo47) | ((with_reducible refine gate_callee (f := 56) rfl ?_); refine goesL_ (some 27) rfl rfl Try.func56 (by kernel_rfl) rfl #[.slice Ao46 t413.length co46, .slice Ao47 t416.length co47] rfl z1_ ?_; (with_reducible refine (laws_samePairs.calls k _ _ t413 _ _ t416 true _ ?side1 ?side2 ?side3 ?side4 A7.out).mono ?_); (case side1 => exact z117_); (case side2 => exact z141_); (case side3 => exact z120_); (case side4 => exact z143_); rintro e w' ⟨rfl, ⟨nd, rfl⟩⟩; refine ⟨_, rfl, ?_⟩) | ((with_reducible refine gate_callee (f := 65) rfl ?_); refine goesL_ (some 30) rfl rfl Try.func65 (by kernel_rfl) rfl #[.slice A0 l0.length c0, .int .i64 1] rfl z1_ ?_; (with_reducible refine (laws_at.calls _ _ l0 1 t420 _ ?side1 ?side2 A9.out).mono ?_); (case side1 => exact z115_); (case side2 => exact HC0.out); rintro e w' ⟨rfl, ⟨nd, rfl⟩⟩; refine ⟨_, rfl, ?_⟩) | ((with_reducible refine gate_callee (f := 66) rfl ?_); refine goesL_ (some 37) rfl rfl Try.func66 (by kernel_rfl) rfl #[.slice A0 l0.length c0] rfl z1_ ?_; (with_reducible refine (spec_DrawMapGet.calls k _ _ l0 t421 t422 _ ?side1 ?side2 A11.out).mono ?_); (case side1 => exact z115_); (case side2 => exact HC0.out); rintro e w48 ⟨v423, rfl, ho0, hb⟩; refine ⟨_, rfl, ?_⟩; have n0_ := q_ (Kd.R_elder' z9_ (Kd.R_base ho0) hb); have n1_ := q_ (Kd.R_below z18_ hb); have n2_ := q_ (Kd.R_elder' z15_ (Kd.R_base ho0) hb); have n3_ := q_ (Kd.R_elder' z32_ (Kd.R_base ho0) hb); have n4_ := q_ (Kd.R_lower (Kd.R_new' (Kd.R_new' (Kd.R_new' ho0 (Kd.R_lt z9_)) (Kd.R_lt z15_)) (Kd.R_lt z32_)) (below_size z0_)); have n5_ := q_ (below_step z0_ hb); clear HO410; clear HO412; clear HO415; clear HO418; clear HB; have HO410 := n0_; have HO412 := n1_; have HO415 := n2_; have HO418 := n3_; have HO424 := n4_; have HB := n5_; clear n0_ n1_ n2_ n3_ n4_ n5_; (try clear hb); (try clear hb2); (try clear hk); (try clear hi); (try clear ho0); obtain ⟨Ao49, co49, eo49⟩ := Kd.R_slice HO424.out; subst eo49) | ((with_reducible refine gate_callee (f := 61) rfl ?_); refine goesL_ (some 43) rfl rfl Try.func61 (by kernel_rfl) rfl #[.slice Ao49 t421.length co49, .int .i64 t422] rfl z1_ ?_; (with_reducible refine (impl_MapGet.calls k _ _ t421 t422 t425 t426 _ ?side1 ?side2 A12.out).mono ?_); (case side1 => exact z116_); (case side2 => exact z139_); rintro e w50 ⟨rfl, hb⟩; refine ⟨_, rfl, ?_⟩; have n0_ := q_ (Kd.R_below z9_ hb); have n1_ := q_ (Kd.R_below z18_ hb); have n2_ := q_ (Kd.R_below z15_ hb); have n3_ := q_ (Kd.R_below z32_ hb); have n4_ := q_ (Kd.R_below z54_ hb); have n5_ := q_ (below_step z0_ hb); clear HO410; clear HO412; clear HO415; clear HO418; clear HO424; clear HB; have HO410 := n0_; have HO412 := n1_; have HO415 := n2_; have HO418 := n3_; have HO424 := n4_; have HB := n5_; clear n0_ n1_ n2_ n3_ n4_ n5_; (try clear hb); (try clear hb2); (try clear hk); (try clear hi)) | ((with_reducible refine gate_callee (f := 67) rfl ?_); refine goesL_ (some 49) rfl rfl Try.func67 (by kernel_rfl) rfl #[.slice Ao49 t421.length co49, .int .i64 t422] rfl z1_ ?_; (with_reducible refine (spec_MapGet.calls k _ _ t421 t422 t427 t428 _ ?side1 ?side2 A13.out).mono ?_); (case side1 => exact z116_); (case side2 => exact z139_); rintro e w' ⟨rfl, ⟨nd, rfl⟩⟩; refine ⟨_, rfl, ?_⟩))
      (try (rw [drewN_self w50]; generalize hq_ : World.drewN w50 _ = w50; have n0_ : Aside0 (Kd.R k147 147 w50 w.heap.size (fun k_ => some k_ ≠ (.slice Ao46 t413.length co46 : Value).ownBlock ∧ some k_ ≠ (.slice Ao47 t416.length co47 : Value).ownBlock ∧ some k_ ≠ (.slice Ao49 t421.length co49 : Value).ownBlock) (.slice Ao42 t407.length co42) t407) := ⟨by rw [← hq_]; exact z63_⟩; have n1_ : Aside0 (Kd.R k67 67 w50 w.heap.size (fun _ => True) (.slice Ao43 t408.length co43) t408) := ⟨by rw [← hq_]; exact z18_⟩; have n2_ : Aside0 (Kd.R k147 147 w50 w.heap.size (fun k_ => some k_ ≠ (.slice Ao42 t407.length co42 : Value).ownBlock ∧ some k_ ≠ (.slice Ao47 t416.length co47 : Value).ownBlock ∧ some k_ ≠ (.slice Ao49 t421.length co49 : Value).ownBlock) (.slice Ao46 t413.length co46) t413) := ⟨by rw [← hq_]; exact z64_⟩; have n3_ : Aside0 (Kd.R k147 147 w50 w.heap.size (fun k_ => some k_ ≠ (.slice Ao42 t407.length co42 : Value).ownBlock ∧ some k_ ≠ (.slice Ao46 t413.length co46 : Value).ownBlock ∧ some k_ ≠ (.slice Ao49 t421.length co49 : Value).ownBlock) (.slice Ao47 t416.length co47) t416) := ⟨by rw [← hq_]; exact z65_⟩; have n4_ : Aside0 (Kd.R k147 147 w50 w.heap.size (fun k_ => some k_ ≠ (.slice Ao42 t407.length co42 : Value).ownBlock ∧ some k_ ≠ (.slice Ao46 t413.length co46 : Value).ownBlock ∧ some k_ ≠ (.slice Ao47 t416.length co47 : Value).ownBlock) (.slice Ao49 t421.length co49) t421) := ⟨by rw [← hq_]; exact z66_⟩; have n5_ : Aside0 (Below w.heap.size w w50) := ⟨by rw [← hq_]; exact z0_⟩; clear HO410 HO412 HO415 HO418 HO424 HB hq_; have HO410 := n0_; have HO412 := n1_; have HO415 := n2_; have HO418 := n3_; have HO424 := n4_; have HB := n5_; clear n0_ n1_ n2_ n3_ n4_ n5_))
      have n0_ := q_ (Kd.R_drew HO410.out)
      have n1_ := q_ (Kd.R_drew HO412.out)
      have n2_ := q_ (Kd.R_drew HO415.out)
      have n3_ := q_ (Kd.R_drew HO418.out)
      have n4_ := q_ (Kd.R_drew HO424.out)
      have n5_ := q_ (below_drew1 HB.out)
      clear HO410
      clear HO412
      clear HO415
      clear HO418
      clear HO424
      clear HB
      have HO410 := n0_
      have HO412 := n1_
      have HO415 := n2_
      have HO418 := n3_
      have HO424 := n4_
      have HB := n5_
      clear n0_ n1_ n2_ n3_ n4_ n5_
      refine start_ (n := 22) (S := fun w' => True) (ds := []) #[false, false, false, false, false, false, false, false, false, false, false, false, false, false, false, false, false, false, false, false, false, false] (by kernel_rfl) rfl rfl trivial (fun hHeld => ?_); refine with_tabW laws_FnMapAll.tab11 laws_FnMapAll.bits11 (fun HT_ HW_ => ?_)
      generalize w50.drew = w51 at HO410 HO412 HO415 HO418 HO424 HB hHeld ⊢
      refine pure_ (i := 0) (N := some 52) (v := ?_) (a' := ?_) #[true, false, false, false, false, false, false, false, false, false, false, false, false, false, false, false, false, false, false, false, false, false] rfl rfl (any_of HT_.out (by kernel_rfl)) (fun _ _ _ h => h) (Or.inl ⟨by rfl, ?_⟩) ?_ ?_
      rotate_left
      ·intro w'
       go_simp
       with_reducible rfl
      rotate_left
      ·simp only [Act.put, List.setIfInBounds_toArray, List.set_cons_zero, List.set_cons_succ, i64_w, i32_w]
       rfl
      refine pure_ (i := 1) (N := some 53) (v := ?_) (a' := ?_) #[true, true, false, false, false, false, false, false, false, false, false, false, false, false, false, false, false, false, false, false, false, false] rfl rfl (any_of HT_.out (by kernel_rfl)) (fun _ _ _ h => h) (Or.inl ⟨by rfl, ?_⟩) ?_ ?_
      rotate_left
      ·intro w'
       go_simp
       with_reducible rfl
      rotate_left
      ·simp only [Act.put, List.setIfInBounds_toArray, List.set_cons_zero, List.set_cons_succ, i64_w, i32_w]
       rfl
      refine pure_ (i := 2) (N := some 54) (v := ?_) (a' := ?_) #[true, true, true, false, false, false, false, false, false, false, false, false, false, false, false, false, false, false, false, false, false, false] rfl rfl (any_of HT_.out (by kernel_rfl)) (fun _ _ _ h => h) (Or.inl ⟨by rfl, ?_⟩) ?_ ?_
      rotate_left
      ·intro w'
       go_simp
       with_reducible rfl
      rotate_left
      ·simp only [Act.put, List.setIfInBounds_toArray, List.set_cons_zero, List.set_cons_succ, i64_w, i32_w]
       rfl
      refine pure_ (i := 3) (N := some 55) (v := ?_) (a' := ?_) #[true, true, true, true, false, false, false, false, false, false, false, false, false, false, false, false, false, false, false, false, false, false] rfl rfl (any_of HT_.out (by kernel_rfl)) (fun _ _ _ h => h) (Or.inl ⟨by rfl, ?_⟩) ?_ ?_
      rotate_left
      ·intro w'
       go_simp
       with_reducible rfl
      rotate_left
      ·simp only [Act.put, List.setIfInBounds_toArray, List.set_cons_zero, List.set_cons_succ, i64_w, i32_w]
       rfl
      refine pure_ (i := 4) (N := some 56) (v := ?_) (a' := ?_) #[true, true, true, true, true, false, false, false, false, false, false, false, false, false, false, false, false, false, false, false, false, false] rfl rfl (any_of HT_.out (by kernel_rfl)) (fun _ _ _ h => h) (Or.inl ⟨by rfl, ?_⟩) ?_ ?_
      rotate_left
      ·intro w'
       go_simp
       with_reducible rfl
      rotate_left
      ·simp only [Act.put, List.setIfInBounds_toArray, List.set_cons_zero, List.set_cons_succ, i64_w, i32_w]
       rfl
      refine pure_ (i := 5) (N := some 57) (v := ?_) (a' := ?_) #[true, true, true, true, true, true, false, false, false, false, false, false, false, false, false, false, false, false, false, false, false, false] rfl rfl (any_of HT_.out (by kernel_rfl)) (fun _ _ _ h => h) (Or.inl ⟨by rfl, ?_⟩) ?_ ?_
      rotate_left
      ·intro w'
       go_simp
       with_reducible rfl
      rotate_left
      ·simp only [Act.put, List.setIfInBounds_toArray, List.set_cons_zero, List.set_cons_succ, i64_w, i32_w]
       rfl
      refine pure_ (i := 6) (N := some 58) (v := ?_) (a' := ?_) #[true, true, true, true, true, true, true, false, false, false, false, false, false, false, false, false, false, false, false, false, false, false] rfl rfl (any_of HT_.out (by kernel_rfl)) (fun _ _ _ h => h) (Or.inl ⟨by rfl, ?_⟩) ?_ ?_
      rotate_left
      ·intro w'
       go_simp
       with_reducible rfl
      rotate_left
      ·simp only [Act.put, List.setIfInBounds_toArray, List.set_cons_zero, List.set_cons_succ, i64_w, i32_w]
       rfl
      refine pure_ (i := 7) (N := some 59) (v := ?_) (a' := ?_) #[true, true, true, true, true, true, true, true, false, false, false, false, false, false, false, false, false, false, false, false, false, false] rfl rfl (any_of HT_.out (by kernel_rfl)) (fun _ _ _ h => h) (Or.inl ⟨by rfl, ?_⟩) ?_ ?_
      rotate_left
      ·intro w'
       go_simp
       with_reducible rfl
      rotate_left
      ·simp only [Act.put, List.setIfInBounds_toArray, List.set_cons_zero, List.set_cons_succ, i64_w, i32_w]
       rfl
      refine pure_ (i := 8) (N := some 60) (v := ?_) (a' := ?_) #[true, true, true, true, true, true, true, true, true, false, false, false, false, false, false, false, false, false, false, false, false, false] rfl rfl (any_of HT_.out (by kernel_rfl)) (fun _ _ _ h => h) (Or.inl ⟨by rfl, ?_⟩) ?_ ?_
      rotate_left
      ·intro w'
       go_simp
       with_reducible rfl
      rotate_left
      ·simp only [Act.put, List.setIfInBounds_toArray, List.set_cons_zero, List.set_cons_succ, i64_w, i32_w]
       rfl
      refine pure_ (i := 9) (N := some 61) (v := undef) (a' := ?_) #[true, true, true, true, true, true, true, true, true, true, false, false, false, false, false, false, false, false, false, false, false, false] rfl rfl (any_of HT_.out (by kernel_rfl)) (fun _ _ _ h => h) (Or.inr ⟨by rfl, rfl⟩) ?_ ?_
      rotate_left
      ·simp only [Act.put, List.setIfInBounds_toArray, List.set_cons_zero, List.set_cons_succ, i64_w, i32_w]
       rfl
      refine pure_ (i := 10) (N := some 62) (v := undef) (a' := ?_) #[true, true, true, true, true, true, true, true, true, true, true, false, false, false, false, false, false, false, false, false, false, false] rfl rfl (any_of HT_.out (by kernel_rfl)) (fun _ _ _ h => h) (Or.inr ⟨by rfl, rfl⟩) ?_ ?_
      rotate_left
      ·simp only [Act.put, List.setIfInBounds_toArray, List.set_cons_zero, List.set_cons_succ, i64_w, i32_w]
       rfl
      refine pure_ (i := 11) (N := some 63) (v := undef) (a' := ?_) #[true, true, true, true, true, true, true, true, true, true, true, true, false, false, false, false, false, false, false, false, false, false] rfl rfl (any_of HT_.out (by kernel_rfl)) (fun _ _ _ h => h) (Or.inr ⟨by rfl, rfl⟩) ?_ ?_
      rotate_left
      ·simp only [Act.put, List.setIfInBounds_toArray, List.set_cons_zero, List.set_cons_succ, i64_w, i32_w]
       rfl
      refine pure_ (i := 12) (N := some 64) (v := undef) (a' := ?_) #[true, true, true, true, true, true, true, true, true, true, true, true, true, false, false, false, false, false, false, false, false, false] rfl rfl (any_of HT_.out (by kernel_rfl)) (fun _ _ _ h => h) (Or.inr ⟨by rfl, rfl⟩) ?_ ?_
      rotate_left
      ·simp only [Act.put, List.setIfInBounds_toArray, List.set_cons_zero, List.set_cons_succ, i64_w, i32_w]
       rfl
      refine pure_ (i := 13) (N := some 65) (v := undef) (a' := ?_) #[true, true, true, true, true, true, true, true, true, true, true, true, true, true, false, false, false, false, false, false, false, false] rfl rfl (any_of HT_.out (by kernel_rfl)) (fun _ _ _ h => h) (Or.inr ⟨by rfl, rfl⟩) ?_ ?_
      rotate_left
      ·simp only [Act.put, List.setIfInBounds_toArray, List.set_cons_zero, List.set_cons_succ, i64_w, i32_w]
       rfl
      refine pure_ (i := 14) (N := some 66) (v := undef) (a' := ?_) #[true, true, true, true, true, true, true, true, true, true, true, true, true, true, true, false, false, false, false, false, false, false] rfl rfl (any_of HT_.out (by kernel_rfl)) (fun _ _ _ h => h) (Or.inr ⟨by rfl, rfl⟩) ?_ ?_
      rotate_left
      ·simp only [Act.put, List.setIfInBounds_toArray, List.set_cons_zero, List.set_cons_succ, i64_w, i32_w]
       rfl
      refine pure_ (i := 15) (N := some 67) (v := undef) (a' := ?_) #[true, true, true, true, true, true, true, true, true, true, true, true, true, true, true, true, false, false, false, false, false, false] rfl rfl (any_of HT_.out (by kernel_rfl)) (fun _ _ _ h => h) (Or.inr ⟨by rfl, rfl⟩) ?_ ?_
      rotate_left
      ·simp only [Act.put, List.setIfInBounds_toArray, List.set_cons_zero, List.set_cons_succ, i64_w, i32_w]
       rfl
      refine pure_ (i := 16) (N := some 68) (v := undef) (a' := ?_) #[true, true, true, true, true, true, true, true, true, true, true, true, true, true, true, true, true, false, false, false, false, false] rfl rfl (any_of HT_.out (by kernel_rfl)) (fun _ _ _ h => h) (Or.inr ⟨by rfl, rfl⟩) ?_ ?_
      rotate_left
      ·simp only [Act.put, List.setIfInBounds_toArray, List.set_cons_zero, List.set_cons_succ, i64_w, i32_w]
       rfl
      refine pure_ (i := 17) (N := some 69) (v := undef) (a' := ?_) #[true, true, true, true, true, true, true, true, true, true, true, true, true, true, true, true, true, true, false, false, false, false] rfl rfl (any_of HT_.out (by kernel_rfl)) (fun _ _ _ h => h) (Or.inr ⟨by rfl, rfl⟩) ?_ ?_
      rotate_left
      ·simp only [Act.put, List.setIfInBounds_toArray, List.set_cons_zero, List.set_cons_succ, i64_w, i32_w]
       rfl
      refine pure_ (i := 18) (N := some 70) (v := undef) (a' := ?_) #[true, true, true, true, true, true, true, true, true, true, true, true, true, true, true, true, true, true, true, false, false, false] rfl rfl (any_of HT_.out (by kernel_rfl)) (fun _ _ _ h => h) (Or.inr ⟨by rfl, rfl⟩) ?_ ?_
      rotate_left
      ·simp only [Act.put, List.setIfInBounds_toArray, List.set_cons_zero, List.set_cons_succ, i64_w, i32_w]
       rfl
      refine pure_ (i := 19) (N := some 71) (v := undef) (a' := ?_) #[true, true, true, true, true, true, true, true, true, true, true, true, true, true, true, true, true, true, true, true, false, false] rfl rfl (any_of HT_.out (by kernel_rfl)) (fun _ _ _ h => h) (Or.inr ⟨by rfl, rfl⟩) ?_ ?_
      rotate_left
      ·simp only [Act.put, List.setIfInBounds_toArray, List.set_cons_zero, List.set_cons_succ, i64_w, i32_w]
       rfl
      refine pure_ (i := 20) (N := some 72) (v := ?_) (a' := ?_) #[true, true, true, true, true, true, true, true, true, true, true, true, true, true, true, true, true, true, true, true, true, false] rfl rfl (any_of HT_.out (by kernel_rfl)) (fun _ _ _ h => h) (Or.inl ⟨by rfl, ?_⟩) ?_ ?_
      rotate_left
      ·intro w'
       go_simp
       with_reducible rfl
      rotate_left
      ·simp only [Act.put, List.setIfInBounds_toArray, List.set_cons_zero, List.set_cons_succ, i64_w, i32_w]
       rfl
      refine pure_ (i := 21) (N := some 2) (v := ?_) (a' := ?_) #[true, true, true, true, true, true, true, true, true, true, true, true, true, true, true, true, true, true, true, true, true, true] rfl rfl (any_of HT_.out (by kernel_rfl)) (fun _ _ _ h => h) (Or.inl ⟨by rfl, ?_⟩) ?_ ?_
      rotate_left
      ·intro w'
       go_simp
       with_reducible rfl
      rotate_left
      ·simp only [Act.put, List.setIfInBounds_toArray, List.set_cons_zero, List.set_cons_succ, i64_w, i32_w]
       rfl
      refine done_ (done_of HT_.out (by kernel_rfl)) ?_
      try go_wp2
      go_ret
      exact ⟨z4_, z0_⟩
    ·rw [if_neg c14] at H
     have c14b0 : (t425 == t427) = false := beq_eq_false_iff_ne.mpr c14
     have c14b1 : (t425 != t427) = true := bne_iff_ne.mpr c14
     obtain rfl := Option.some.inj H
     go_enter Try.func10, Try.ntmps10
     try go_wp2_with (first | ((with_reducible refine gate_callee (f := 34) rfl ?_); refine goesL_ (some 14) rfl rfl Try.func34 (by kernel_rfl) rfl #[.slice A0 l0.length c0] rfl z1_ ?_; (with_reducible refine (laws_big.calls _ _ l0 false _ ?side1 ?side2 A2.out).mono ?_); (case side1 => exact z110_); (case side2 => exact HC0.out); rintro e w' ⟨rfl, ⟨nd, rfl⟩⟩; refine ⟨_, rfl, ?_⟩) | ((with_reducible refine gate_callee (f := 64) rfl ?_); refine goesL_ (some 17) rfl rfl Try.func64 (by kernel_rfl) rfl #[.slice A0 l0.length c0] rfl z1_ ?_; (with_reducible refine (spec_DrawMapAll.calls k _ _ l0 t407 t408 _ ?side1 ?side2 A4.out).mono ?_); (case side1 => exact z110_); (case side2 => exact HC0.out); rintro e w52 ⟨v409, v411, rfl, ho0, ho1, hb⟩; refine ⟨_, rfl, ?_⟩; have n0_ := q_ (Kd.R_lower ho0 (below_size z0_)); have n1_ := q_ (Kd.R_lower ho1 (below_size z0_)); have n2_ := q_ (below_step z0_ hb); clear HB; have HO410 := n0_; have HO412 := n1_; have HB := n2_; clear n0_ n1_ n2_; (try clear hb); (try clear hb2); (try clear hk); (try clear hi); (try clear ho0); (try clear ho1); obtain ⟨Ao53, co53, eo53⟩ := Kd.R_slice HO410.out; subst eo53; obtain ⟨Ao54, co54, eo54⟩ := Kd.R_slice HO412.out; subst eo54) | ((with_reducible refine gate_callee (f := 63) rfl ?_); refine goesL_ (some 22) rfl rfl Try.func63 (by kernel_rfl) rfl #[.slice Ao53 t407.length co53, .slice Ao54 t408.length co54] rfl z1_ ?_; (with_reducible refine (impl_MapAll.calls k _ _ t407 _ _ t408 t413 _ ?side1 ?side2 ?side3 ?side4 A5.out).mono ?_); (case side1 => exact z113_); (case side2 => exact z135_); (case side3 => exact z114_); (case side4 => exact z136_); rintro e w55 ⟨v414, rfl, ho0, hb⟩; refine ⟨_, rfl, ?_⟩; have n0_ := q_ (Kd.R_elder' z9_ (Kd.R_base ho0) hb); have n1_ := q_ (Kd.R_below z18_ hb); have n2_ := q_ (Kd.R_lower (Kd.R_new' ho0 (Kd.R_lt z9_)) (below_size z0_)); have n3_ := q_ (below_step z0_ hb); clear HO410; clear HO412; clear HB; have HO410 := n0_; have HO412 := n1_; have HO415 := n2_; have HB := n3_; clear n0_ n1_ n2_ n3_; (try clear hb); (try clear hb2); (try clear hk); (try clear hi); (try clear ho0)) | ((with_reducible refine gate_callee (f := 62) rfl ?_); refine goesL_ (some 26) rfl rfl Try.func62 (by kernel_rfl) rfl #[.slice Ao53 t407.length co53, .slice Ao54 t408.length co54] rfl z1_ ?_; (with_reducible refine (spec_MapAll.calls k _ _ t407 _ _ t408 t416 _ ?side1 ?side2 ?side3 ?side4 A6.out).mono ?_); (case side1 => exact z113_); (case side2 => exact z135_); (case side3 => exact z114_); (case side4 => exact z136_); rintro e w56 ⟨v417, rfl, ho0, hb⟩; refine ⟨_, rfl, ?_⟩; have n0_ := q_ (Kd.R_elder' z9_ (Kd.R_base ho0) hb); have n1_ := q_ (Kd.R_below z18_ hb); have n2_ := q_ (Kd.R_elder' z15_ (Kd.R_base ho0) hb); have n3_ := q_ (Kd.R_lower (Kd.R_new' (Kd.R_new' ho0 (Kd.R_lt z9_)) (Kd.R_lt z15_)) (below_size z0_)); have n4_ := q_ (below_step z0_ hb); clear HO410; clear HO412; clear HO415; clear HB; have HO410 := n0_; have HO412 := n1_; have HO415 := n2_; have HO418 := n3_; have HB := n4_; clear n0_ n1_ n2_ n3_ n4_; (try clear hb); (try clear hb2); (try clear hk); (try clear hi); (try clear ho0); obtain ⟨Ao57, co57, eo57⟩ := Kd.R_slice HO415.out; subst eo57; obtain ⟨Ao58, co58, eo58⟩ := Kd.R_slice HO418.out; subst eo58) | ((with_reducible refine gate_callee (f := 56) rfl ?_); refine goesL_ (some 27) rfl rfl Try.func56 (by kernel_rfl) rfl #[.slice Ao57 t413.length co57, .slice Ao58 t416.length co58] rfl z1_ ?_; (with_reducible refine (laws_samePairs.calls k _ _ t413 _ _ t416 true _ ?side1 ?side2 ?side3 ?side4 A7.out).mono ?_); (case side1 => exact z117_); (case side2 => exact z141_); (case side3 => exact z120_); (case side4 => exact z143_); rintro e w' ⟨rfl, ⟨nd, rfl⟩⟩; refine ⟨_, rfl, ?_⟩) | ((with_reducible refine gate_callee (f := 65) rfl ?_); refine goesL_ (some 30) rfl rfl Try.func65 (by kernel_rfl) rfl #[.slice A0 l0.length c0, .int .i64 1] rfl z1_ ?_; (with_reducible refine (laws_at.calls _ _ l0 1 t420 _ ?side1 ?side2 A9.out).mono ?_); (case side1 => exact z115_); (case side2 => exact HC0.out); rintro e w' ⟨rfl, ⟨nd, rfl⟩⟩; refine ⟨_, rfl, ?_⟩) | ((with_reducible refine gate_callee (f := 66) rfl ?_); refine goesL_ (some 37) rfl rfl Try.func66 (by kernel_rfl) rfl #[.slice A0 l0.length c0] rfl z1_ ?_; (with_reducible refine (spec_DrawMapGet.calls k _ _ l0 t421 t422 _ ?side1 ?side2 A11.out).mono ?_); (case side1 => exact z115_); (case side2 => exact HC0.out); rintro e w59 ⟨v423, rfl, ho0, hb⟩; refine ⟨_, rfl, ?_⟩; have n0_ := q_ (Kd.R_elder' z9_ (Kd.R_base ho0) hb); have n1_ := q_ (Kd.R_below z18_ hb); have n2_ := q_ (Kd.R_elder' z15_ (Kd.R_base ho0) hb); have n3_ := q_ (Kd.R_elder' z32_ (Kd.R_base ho0) hb); have n4_ := q_ (Kd.R_lower (Kd.R_new' (Kd.R_new' (Kd.R_new' ho0 (Kd.R_lt z9_)) (Kd.R_lt z15_)) (Kd.R_lt z32_)) (below_size z0_)); have n5_ := q_ (below_step z0_ hb); clear HO410; clear HO412; clear HO415; clear HO418; clear HB; have HO410 := n0_; have HO412 := n1_; have HO415 := n2_; have HO418 := n3_; have HO424 := n4_; have HB := n5_; clear n0_ n1_ n2_ n3_ n4_ n5_; (try clear hb); (try clear hb2); (try clear hk); (try clear hi); (try clear ho0); obtain ⟨Ao60, co60, eo60⟩ := Kd.R_slice HO424.out; subst eo60) | ((with_reducible refine gate_callee (f := 61) rfl ?_); refine goesL_ (some 43) rfl rfl Try.func61 (by kernel_rfl) rfl #[.slice Ao60 t421.length co60, .int .i64 t422] rfl z1_ ?_; (with_reducible refine (impl_MapGet.calls k _ _ t421 t422 t425 t426 _ ?side1 ?side2 A12.out).mono ?_); (case side1 => exact z116_); (case side2 => exact z139_); rintro e w61 ⟨rfl, hb⟩; refine ⟨_, rfl, ?_⟩; have n0_ := q_ (Kd.R_below z9_ hb); have n1_ := q_ (Kd.R_below z18_ hb); have n2_ := q_ (Kd.R_below z15_ hb); have n3_ := q_ (Kd.R_below z32_ hb); have n4_ := q_ (Kd.R_below z54_ hb); have n5_ := q_ (below_step z0_ hb); clear HO410; clear HO412; clear HO415; clear HO418; clear HO424; clear HB; have HO410 := n0_; have HO412 := n1_; have HO415 := n2_; have HO418 := n3_; have HO424 := n4_; have HB := n5_; clear n0_ n1_ n2_ n3_ n4_ n5_; (try clear hb); (try clear hb2); (try clear hk); (try clear hi)) | ((with_reducible refine gate_callee (f := 67) rfl ?_); refine goesL_ (some 49) rfl rfl Try.func67 (by kernel_rfl) rfl #[.slice Ao60 t421.length co60, .int .i64 t422] rfl z1_ ?_; (with_reducible refine (spec_MapGet.calls k _ _ t421 t422 t427 t428 _ ?side1 ?side2 A13.out).mono ?_); (case side1 => exact z116_); (case side2 => exact z139_); rintro e w' ⟨rfl, ⟨nd, rfl⟩⟩; refine ⟨_, rfl, ?_⟩))
     (try (rw [drewN_self w61]; generalize hq_ : World.drewN w61 _ = w61; have n0_ : Aside0 (Kd.R k147 147 w61 w.heap.size (fun k_ => some k_ ≠ (.slice Ao57 t413.length co57 : Value).ownBlock ∧ some k_ ≠ (.slice Ao58 t416.length co58 : Value).ownBlock ∧ some k_ ≠ (.slice Ao60 t421.length co60 : Value).ownBlock) (.slice Ao53 t407.length co53) t407) := ⟨by rw [← hq_]; exact z63_⟩; have n1_ : Aside0 (Kd.R k67 67 w61 w.heap.size (fun _ => True) (.slice Ao54 t408.length co54) t408) := ⟨by rw [← hq_]; exact z18_⟩; have n2_ : Aside0 (Kd.R k147 147 w61 w.heap.size (fun k_ => some k_ ≠ (.slice Ao53 t407.length co53 : Value).ownBlock ∧ some k_ ≠ (.slice Ao58 t416.length co58 : Value).ownBlock ∧ some k_ ≠ (.slice Ao60 t421.length co60 : Value).ownBlock) (.slice Ao57 t413.length co57) t413) := ⟨by rw [← hq_]; exact z64_⟩; have n3_ : Aside0 (Kd.R k147 147 w61 w.heap.size (fun k_ => some k_ ≠ (.slice Ao53 t407.length co53 : Value).ownBlock ∧ some k_ ≠ (.slice Ao57 t413.length co57 : Value).ownBlock ∧ some k_ ≠ (.slice Ao60 t421.length co60 : Value).ownBlock) (.slice Ao58 t416.length co58) t416) := ⟨by rw [← hq_]; exact z65_⟩; have n4_ : Aside0 (Kd.R k147 147 w61 w.heap.size (fun k_ => some k_ ≠ (.slice Ao53 t407.length co53 : Value).ownBlock ∧ some k_ ≠ (.slice Ao57 t413.length co57 : Value).ownBlock ∧ some k_ ≠ (.slice Ao58 t416.length co58 : Value).ownBlock) (.slice Ao60 t421.length co60) t421) := ⟨by rw [← hq_]; exact z66_⟩; have n5_ : Aside0 (Below w.heap.size w w61) := ⟨by rw [← hq_]; exact z0_⟩; clear HO410 HO412 HO415 HO418 HO424 HB hq_; have HO410 := n0_; have HO412 := n1_; have HO415 := n2_; have HO418 := n3_; have HO424 := n4_; have HB := n5_; clear n0_ n1_ n2_ n3_ n4_ n5_))
     have n0_ := q_ (Kd.R_drew HO410.out)
     have n1_ := q_ (Kd.R_drew HO412.out)
     have n2_ := q_ (Kd.R_drew HO415.out)
     have n3_ := q_ (Kd.R_drew HO418.out)
     have n4_ := q_ (Kd.R_drew HO424.out)
     have n5_ := q_ (below_drew1 HB.out)
     clear HO410
     clear HO412
     clear HO415
     clear HO418
     clear HO424
     clear HB
     have HO410 := n0_
     have HO412 := n1_
     have HO415 := n2_
     have HO418 := n3_
     have HO424 := n4_
     have HB := n5_
     clear n0_ n1_ n2_ n3_ n4_ n5_
     refine start_ (n := 22) (S := fun w' => True) (ds := []) #[false, false, false, false, false, false, false, false, false, false, false, false, false, false, false, false, false, false, false, false, false, false] (by kernel_rfl) rfl rfl trivial (fun hHeld => ?_); refine with_tabW laws_FnMapAll.tab11 laws_FnMapAll.bits11 (fun HT_ HW_ => ?_)
     generalize w61.drew = w62 at HO410 HO412 HO415 HO418 HO424 HB hHeld ⊢
     refine pure_ (i := 0) (N := some 52) (v := ?_) (a' := ?_) #[true, false, false, false, false, false, false, false, false, false, false, false, false, false, false, false, false, false, false, false, false, false] rfl rfl (any_of HT_.out (by kernel_rfl)) (fun _ _ _ h => h) (Or.inl ⟨by rfl, ?_⟩) ?_ ?_
     rotate_left
     ·intro w'
      go_simp
      with_reducible rfl
     rotate_left
     ·simp only [Act.put, List.setIfInBounds_toArray, List.set_cons_zero, List.set_cons_succ, i64_w, i32_w]
      rfl
     refine pure_ (i := 1) (N := some 53) (v := ?_) (a' := ?_) #[true, true, false, false, false, false, false, false, false, false, false, false, false, false, false, false, false, false, false, false, false, false] rfl rfl (any_of HT_.out (by kernel_rfl)) (fun _ _ _ h => h) (Or.inl ⟨by rfl, ?_⟩) ?_ ?_
     rotate_left
     ·intro w'
      go_simp
      with_reducible rfl
     rotate_left
     ·simp only [Act.put, List.setIfInBounds_toArray, List.set_cons_zero, List.set_cons_succ, i64_w, i32_w]
      rfl
     refine pure_ (i := 2) (N := some 54) (v := ?_) (a' := ?_) #[true, true, true, false, false, false, false, false, false, false, false, false, false, false, false, false, false, false, false, false, false, false] rfl rfl (any_of HT_.out (by kernel_rfl)) (fun _ _ _ h => h) (Or.inl ⟨by rfl, ?_⟩) ?_ ?_
     rotate_left
     ·intro w'
      go_simp
      with_reducible rfl
     rotate_left
     ·simp only [Act.put, List.setIfInBounds_toArray, List.set_cons_zero, List.set_cons_succ, i64_w, i32_w]
      rfl
     refine pure_ (i := 3) (N := some 55) (v := ?_) (a' := ?_) #[true, true, true, true, false, false, false, false, false, false, false, false, false, false, false, false, false, false, false, false, false, false] rfl rfl (any_of HT_.out (by kernel_rfl)) (fun _ _ _ h => h) (Or.inl ⟨by rfl, ?_⟩) ?_ ?_
     rotate_left
     ·intro w'
      go_simp
      with_reducible rfl
     rotate_left
     ·simp only [Act.put, List.setIfInBounds_toArray, List.set_cons_zero, List.set_cons_succ, i64_w, i32_w]
      rfl
     refine pure_ (i := 4) (N := some 56) (v := undef) (a' := ?_) #[true, true, true, true, true, false, false, false, false, false, false, false, false, false, false, false, false, false, false, false, false, false] rfl rfl (any_of HT_.out (by kernel_rfl)) (fun _ _ _ h => h) (Or.inr ⟨by rfl, rfl⟩) ?_ ?_
     rotate_left
     ·simp only [Act.put, List.setIfInBounds_toArray, List.set_cons_zero, List.set_cons_succ, i64_w, i32_w]
      rfl
     refine pure_ (i := 5) (N := some 57) (v := undef) (a' := ?_) #[true, true, true, true, true, true, false, false, false, false, false, false, false, false, false, false, false, false, false, false, false, false] rfl rfl (any_of HT_.out (by kernel_rfl)) (fun _ _ _ h => h) (Or.inr ⟨by rfl, rfl⟩) ?_ ?_
     rotate_left
     ·simp only [Act.put, List.setIfInBounds_toArray, List.set_cons_zero, List.set_cons_succ, i64_w, i32_w]
      rfl
     refine pure_ (i := 6) (N := some 58) (v := undef) (a' := ?_) #[true, true, true, true, true, true, true, false, false, false, false, false, false, false, false, false, false, false, false, false, false, false] rfl rfl (any_of HT_.out (by kernel_rfl)) (fun _ _ _ h => h) (Or.inr ⟨by rfl, rfl⟩) ?_ ?_
     rotate_left
     ·simp only [Act.put, List.setIfInBounds_toArray, List.set_cons_zero, List.set_cons_succ, i64_w, i32_w]
      rfl
     refine pure_ (i := 7) (N := some 59) (v := ?_) (a' := ?_) #[true, true, true, true, true, true, true, true, false, false, false, false, false, false, false, false, false, false, false, false, false, false] rfl rfl (any_of HT_.out (by kernel_rfl)) (fun _ _ _ h => h) (Or.inl ⟨by rfl, ?_⟩) ?_ ?_
     rotate_left
     ·intro w'
      go_simp
      with_reducible rfl
     rotate_left
     ·simp only [Act.put, List.setIfInBounds_toArray, List.set_cons_zero, List.set_cons_succ, i64_w, i32_w]
      rfl
     refine pure_ (i := 8) (N := some 60) (v := ?_) (a' := ?_) #[true, true, true, true, true, true, true, true, true, false, false, false, false, false, false, false, false, false, false, false, false, false] rfl rfl (any_of HT_.out (by kernel_rfl)) (fun _ _ _ h => h) (Or.inl ⟨by rfl, ?_⟩) ?_ ?_
     rotate_left
     ·intro w'
      go_simp
      with_reducible rfl
     rotate_left
     ·simp only [Act.put, List.setIfInBounds_toArray, List.set_cons_zero, List.set_cons_succ, i64_w, i32_w]
      rfl
     refine pure_ (i := 9) (N := some 61) (v := undef) (a' := ?_) #[true, true, true, true, true, true, true, true, true, true, false, false, false, false, false, false, false, false, false, false, false, false] rfl rfl (any_of HT_.out (by kernel_rfl)) (fun _ _ _ h => h) (Or.inr ⟨by rfl, rfl⟩) ?_ ?_
     rotate_left
     ·simp only [Act.put, List.setIfInBounds_toArray, List.set_cons_zero, List.set_cons_succ, i64_w, i32_w]
      rfl
     refine pure_ (i := 10) (N := some 62) (v := undef) (a' := ?_) #[true, true, true, true, true, true, true, true, true, true, true, false, false, false, false, false, false, false, false, false, false, false] rfl rfl (any_of HT_.out (by kernel_rfl)) (fun _ _ _ h => h) (Or.inr ⟨by rfl, rfl⟩) ?_ ?_
     rotate_left
     ·simp only [Act.put, List.setIfInBounds_toArray, List.set_cons_zero, List.set_cons_succ, i64_w, i32_w]
      rfl
     refine pure_ (i := 11) (N := some 63) (v := undef) (a' := ?_) #[true, true, true, true, true, true, true, true, true, true, true, true, false, false, false, false, false, false, false, false, false, false] rfl rfl (any_of HT_.out (by kernel_rfl)) (fun _ _ _ h => h) (Or.inr ⟨by rfl, rfl⟩) ?_ ?_
     rotate_left
     ·simp only [Act.put, List.setIfInBounds_toArray, List.set_cons_zero, List.set_cons_succ, i64_w, i32_w]
      rfl
     refine pure_ (i := 12) (N := some 64) (v := undef) (a' := ?_) #[true, true, true, true, true, true, true, true, true, true, true, true, true, false, false, false, false, false, false, false, false, false] rfl rfl (any_of HT_.out (by kernel_rfl)) (fun _ _ _ h => h) (Or.inr ⟨by rfl, rfl⟩) ?_ ?_
     rotate_left
     ·simp only [Act.put, List.setIfInBounds_toArray, List.set_cons_zero, List.set_cons_succ, i64_w, i32_w]
      rfl
     refine pure_ (i := 13) (N := some 65) (v := undef) (a' := ?_) #[true, true, true, true, true, true, true, true, true, true, true, true, true, true, false, false, false, false, false, false, false, false] rfl rfl (any_of HT_.out (by kernel_rfl)) (fun _ _ _ h => h) (Or.inr ⟨by rfl, rfl⟩) ?_ ?_
     rotate_left
     ·simp only [Act.put, List.setIfInBounds_toArray, List.set_cons_zero, List.set_cons_succ, i64_w, i32_w]
      rfl
     refine pure_ (i := 14) (N := some 66) (v := undef) (a' := ?_) #[true, true, true, true, true, true, true, true, true, true, true, true, true, true, true, false, false, false, false, false, false, false] rfl rfl (any_of HT_.out (by kernel_rfl)) (fun _ _ _ h => h) (Or.inr ⟨by rfl, rfl⟩) ?_ ?_
     rotate_left
     ·simp only [Act.put, List.setIfInBounds_toArray, List.set_cons_zero, List.set_cons_succ, i64_w, i32_w]
      rfl
     refine pure_ (i := 15) (N := some 67) (v := undef) (a' := ?_) #[true, true, true, true, true, true, true, true, true, true, true, true, true, true, true, true, false, false, false, false, false, false] rfl rfl (any_of HT_.out (by kernel_rfl)) (fun _ _ _ h => h) (Or.inr ⟨by rfl, rfl⟩) ?_ ?_
     rotate_left
     ·simp only [Act.put, List.setIfInBounds_toArray, List.set_cons_zero, List.set_cons_succ, i64_w, i32_w]
      rfl
     refine pure_ (i := 16) (N := some 68) (v := undef) (a' := ?_) #[true, true, true, true, true, true, true, true, true, true, true, true, true, true, true, true, true, false, false, false, false, false] rfl rfl (any_of HT_.out (by kernel_rfl)) (fun _ _ _ h => h) (Or.inr ⟨by rfl, rfl⟩) ?_ ?_
     rotate_left
     ·simp only [Act.put, List.setIfInBounds_toArray, List.set_cons_zero, List.set_cons_succ, i64_w, i32_w]
      rfl
     refine pure_ (i := 17) (N := some 69) (v := undef) (a' := ?_) #[true, true, true, true, true, true, true, true, true, true, true, true, true, true, true, true, true, true, false, false, false, false] rfl rfl (any_of HT_.out (by kernel_rfl)) (fun _ _ _ h => h) (Or.inr ⟨by rfl, rfl⟩) ?_ ?_
     rotate_left
     ·simp only [Act.put, List.setIfInBounds_toArray, List.set_cons_zero, List.set_cons_succ, i64_w, i32_w]
      rfl
     refine pure_ (i := 18) (N := some 70) (v := undef) (a' := ?_) #[true, true, true, true, true, true, true, true, true, true, true, true, true, true, true, true, true, true, true, false, false, false] rfl rfl (any_of HT_.out (by kernel_rfl)) (fun _ _ _ h => h) (Or.inr ⟨by rfl, rfl⟩) ?_ ?_
     rotate_left
     ·simp only [Act.put, List.setIfInBounds_toArray, List.set_cons_zero, List.set_cons_succ, i64_w, i32_w]
      rfl
     refine pure_ (i := 19) (N := some 71) (v := undef) (a' := ?_) #[true, true, true, true, true, true, true, true, true, true, true, true, true, true, true, true, true, true, true, true, false, false] rfl rfl (any_of HT_.out (by kernel_rfl)) (fun _ _ _ h => h) (Or.inr ⟨by rfl, rfl⟩) ?_ ?_
     rotate_left
     ·simp only [Act.put, List.setIfInBounds_toArray, List.set_cons_zero, List.set_cons_succ, i64_w, i32_w]
      rfl
     refine pure_ (i := 20) (N := some 72) (v := ?_) (a' := ?_) #[true, true, true, true, true, true, true, true, true, true, true, true, true, true, true, true, true, true, true, true, true, false] rfl rfl (any_of HT_.out (by kernel_rfl)) (fun _ _ _ h => h) (Or.inl ⟨by rfl, ?_⟩) ?_ ?_
     rotate_left
     ·intro w'
      go_simp
      with_reducible rfl
     rotate_left
     ·simp only [Act.put, List.setIfInBounds_toArray, List.set_cons_zero, List.set_cons_succ, i64_w, i32_w]
      rfl
     refine pure_ (i := 21) (N := some 2) (v := ?_) (a' := ?_) #[true, true, true, true, true, true, true, true, true, true, true, true, true, true, true, true, true, true, true, true, true, true] rfl rfl (any_of HT_.out (by kernel_rfl)) (fun _ _ _ h => h) (Or.inl ⟨by rfl, ?_⟩) ?_ ?_
     rotate_left
     ·intro w'
      go_simp
      with_reducible rfl
     rotate_left
     ·simp only [Act.put, List.setIfInBounds_toArray, List.set_cons_zero, List.set_cons_succ, i64_w, i32_w]
      rfl
     refine done_ (done_of HT_.out (by kernel_rfl)) ?_
     try go_wp2
     go_ret
     exact ⟨z4_, z0_⟩
  ·replace c8 := Bool.eq_false_iff.mpr c8
   subst c8
   have H1 : (some false) = some r := by rw [if_neg (show ¬ (false = true) by decide)] at H; exact H
   clear H
   have H := H1
   clear H1
   obtain rfl := Option.some.inj H
   go_enter Try.func10, Try.ntmps10
   go_wp2_with (first | ((with_reducible refine gate_callee (f := 34) rfl ?_); refine goesL_ (some 14) rfl rfl Try.func34 (by kernel_rfl) rfl #[.slice A0 l0.length c0] rfl z1_ ?_; (with_reducible refine (laws_big.calls _ _ l0 false _ ?side1 ?side2 A2.out).mono ?_); (case side1 => exact z110_); (case side2 => exact HC0.out); rintro e w' ⟨rfl, ⟨nd, rfl⟩⟩; refine ⟨_, rfl, ?_⟩) | ((with_reducible refine gate_callee (f := 64) rfl ?_); refine goesL_ (some 17) rfl rfl Try.func64 (by kernel_rfl) rfl #[.slice A0 l0.length c0] rfl z1_ ?_; (with_reducible refine (spec_DrawMapAll.calls k _ _ l0 t407 t408 _ ?side1 ?side2 A4.out).mono ?_); (case side1 => exact z110_); (case side2 => exact HC0.out); rintro e w63 ⟨v409, v411, rfl, ho0, ho1, hb⟩; refine ⟨_, rfl, ?_⟩; have n0_ := q_ (Kd.R_lower ho0 (below_size z0_)); have n1_ := q_ (Kd.R_lower ho1 (below_size z0_)); have n2_ := q_ (below_step z0_ hb); clear HB; have HO410 := n0_; have HO412 := n1_; have HB := n2_; clear n0_ n1_ n2_; (try clear hb); (try clear hb2); (try clear hk); (try clear hi); (try clear ho0); (try clear ho1); obtain ⟨Ao64, co64, eo64⟩ := Kd.R_slice HO410.out; subst eo64; obtain ⟨Ao65, co65, eo65⟩ := Kd.R_slice HO412.out; subst eo65) | ((with_reducible refine gate_callee (f := 63) rfl ?_); refine goesL_ (some 22) rfl rfl Try.func63 (by kernel_rfl) rfl #[.slice Ao64 t407.length co64, .slice Ao65 t408.length co65] rfl z1_ ?_; (with_reducible refine (impl_MapAll.calls k _ _ t407 _ _ t408 t413 _ ?side1 ?side2 ?side3 ?side4 A5.out).mono ?_); (case side1 => exact z113_); (case side2 => exact z135_); (case side3 => exact z114_); (case side4 => exact z136_); rintro e w66 ⟨v414, rfl, ho0, hb⟩; refine ⟨_, rfl, ?_⟩; have n0_ := q_ (Kd.R_elder' z9_ (Kd.R_base ho0) hb); have n1_ := q_ (Kd.R_below z18_ hb); have n2_ := q_ (Kd.R_lower (Kd.R_new' ho0 (Kd.R_lt z9_)) (below_size z0_)); have n3_ := q_ (below_step z0_ hb); clear HO410; clear HO412; clear HB; have HO410 := n0_; have HO412 := n1_; have HO415 := n2_; have HB := n3_; clear n0_ n1_ n2_ n3_; (try clear hb); (try clear hb2); (try clear hk); (try clear hi); (try clear ho0)) | ((with_reducible refine gate_callee (f := 62) rfl ?_); refine goesL_ (some 26) rfl rfl Try.func62 (by kernel_rfl) rfl #[.slice Ao64 t407.length co64, .slice Ao65 t408.length co65] rfl z1_ ?_; (with_reducible refine (spec_MapAll.calls k _ _ t407 _ _ t408 t416 _ ?side1 ?side2 ?side3 ?side4 A6.out).mono ?_); (case side1 => exact z113_); (case side2 => exact z135_); (case side3 => exact z114_); (case side4 => exact z136_); rintro e w67 ⟨v417, rfl, ho0, hb⟩; refine ⟨_, rfl, ?_⟩; have n0_ := q_ (Kd.R_elder' z9_ (Kd.R_base ho0) hb); have n1_ := q_ (Kd.R_below z18_ hb); have n2_ := q_ (Kd.R_elder' z15_ (Kd.R_base ho0) hb); have n3_ := q_ (Kd.R_lower (Kd.R_new' (Kd.R_new' ho0 (Kd.R_lt z9_)) (Kd.R_lt z15_)) (below_size z0_)); have n4_ := q_ (below_step z0_ hb); clear HO410; clear HO412; clear HO415; clear HB; have HO410 := n0_; have HO412 := n1_; have HO415 := n2_; have HO418 := n3_; have HB := n4_; clear n0_ n1_ n2_ n3_ n4_; (try clear hb); (try clear hb2); (try clear hk); (try clear hi); (try clear ho0); obtain ⟨Ao68, co68, eo68⟩ := Kd.R_slice HO415.out; subst eo68; obtain ⟨Ao69, co69, eo69⟩ := Kd.R_slice HO418.out; subst eo69) | ((with_reducible refine gate_callee (f := 56) rfl ?_); refine goesL_ (some 27) rfl rfl Try.func56 (by kernel_rfl) rfl #[.slice Ao68 t413.length co68, .slice Ao69 t416.length co69] rfl z1_ ?_; (with_reducible refine (laws_samePairs.calls k _ _ t413 _ _ t416 false _ ?side1 ?side2 ?side3 ?side4 A7.out).mono ?_); (case side1 => exact z117_); (case side2 => exact z141_); (case side3 => exact z120_); (case side4 => exact z143_); rintro e w' ⟨rfl, ⟨nd, rfl⟩⟩; refine ⟨_, rfl, ?_⟩))
   go_ret
   exact ⟨z4_, z0_⟩

/-- THE ONE PURE STATEMENT of laws_FnMapAll: yours. -/
def laws_FnMapAll.Pure : Prop := ∀ (l0 : List Int), l0.length ≤ maxLen → l0.length * 1 ≤ 140737488351232 → (∀ x ∈ l0, (Lit.int .u8 x).wf = true) → ∃ k, laws_FnMapAll.f k l0 = some true
theorem laws_FnMapAll.walk (P : laws_FnMapAll.Pure) (a0 : Option Addr) (len0 cap0 : Nat) (z0 : List Int) (w : World) (w0 : (a0 = none ∧ len0 = 0 ∧ cap0 = 0 ∧ z0 = []) ∨ ∃ x, a0 = some x ∧ len0 ≤ cap0 ∧ cap0 ≤ maxLen ∧ z0.length = cap0 ∧ (∀ i, i < z0.length → w.cell? (x.add i) = some (.int .u8 (z0.getD i 0))) ∧ ∀ n ∈ z0, (Lit.int .u8 n).wf = true) (y0 : len0 * 1 ≤ 140737488351232) :
  Calls Try.prog 10 #[.slice a0 len0 cap0] w fun e w' => e = .returned (.bool true) ∧ Below w.heap.size w w' := by
 obtain ⟨l0, rfl, hr0, hm0, hw0, hc0⟩ := ReadsInt.ofRowC w0
 obtain ⟨k, h⟩ := P l0 hm0 y0 hw0
 refine (laws_FnMapAll.calls k _ _ l0 true w (Kd.C_of_reads (d := (0 : Int)) (h1 := fun _ => rfl) hr0) hc0 h).mono ?_
 rintro e w' ⟨rfl, hd⟩
 exact ⟨rfl, hd⟩

end Go.Proofs.Ytphlmbhjeoljoaa.PFnMapAll
