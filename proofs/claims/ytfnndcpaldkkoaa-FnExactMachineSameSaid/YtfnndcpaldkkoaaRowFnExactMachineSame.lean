/- The row of the law FnExactMachineSame: its arguments are opened, the printed contract and the pure statement are joined. A text of this session. -/
import Derived.Test.YtfnndcpaldkkoaaRows
import Derived.Test.YtfnndcpaldkkoaaPFnExactMachineSamex22
import Derived.Test.YtfnndcpaldkkoaaOpnFnExactMachineSame
import Derived.Test.YtfnndcpaldkkoaaPureFnExactMachineSame
import Derived.WalkKit
import Derived.ProofKit
import Derived.OpenShut
import Derived.ShutString
import Derived.ChangeOld
import Derived.Below
import Derived.SizedLaws
namespace Go.Proofs.Ytfnndcpaldkkoaa.fnExactMachineSame
open Go.ChangeShapes Go.WideShapes Go.ChangeAt Go.RowKit Go.Proofs.YtfnndcpaldkkoaaOpen Go.Proofs.Ytfnndcpaldkkoaa.OpnFnExactMachineSame Go.Proofs.YtfnndcpaldkkoaaW.PrintWords
open Go.ChangeMaps (open_string shut_string)
set_option linter.unusedVariables false
theorem own : ownKnob Try.prog.godebug = none := by kernel_rfl
theorem laidOut : laidOutB Try.prog = true := by kernel_rfl
set_option maxRecDepth 100000 in
theorem lifted (os : Os) (started : os.Started) (H : Type) (enc : TypeId × Value → H) :
    ReturnsInHanded {} Try.checked os 12 .any (Rows.fnExactMachineSameSpec.pre6 enc Try.prog Try.f12 Rows.fnExactMachineSameRow.domain false) (Rows.fnExactMachineSameSpec.post enc Try.prog Try.f12 false true false false) := by
  refine returnsInHanded_of_change_sized (C := Try.checked) own started (by kernel_rfl) Try.func12
    (ChangeSpec.witness6 (enc := enc) (C := Try.checked) false ⟨#[], #[.agg #[.bool false, .slice none 0 0, .slice none 0 0, .slice none 0 0, .slice none 0 0, .slice none 0 0], .agg #[.bool false, .slice none 0 0, .slice none 0 0, .slice none 0 0, .slice none 0 0, .slice none 0 0]], []⟩ 8 (by kernel_rfl) (by kernel_rfl) (by kernel_rfl) (by kernel_rfl)) ?_
  intro W base args ds gs before hval0 hW hcnd hsz0 _
  have hsz : (DataW.weightsEach Try.prog (Try.f12.params.toList ++ Rows.fnExactMachineSameSpec.plain.varTypes Try.prog) (ds ++ gs)).all (· ≤ reachBytes) = true := hsz0
  have hval : ∀ (j : Nat) t v, Try.f12.params[j]? = some t → args[j]? = some v → Value.okWide Try.prog W .any base t v := hval0
  have hW' := hW
  obtain ⟨p, q, hA0, hV, rfl, hfz, hnd⟩ := hW
  have hA : DataW.TrodAll enc Try.prog W 0 (fun _ => true) true Try.f12.params.toList args.toList ds p := hA0
  rw [Try.params12] at hA hval hsz
  obtain ⟨v0, vs0, d0, ds0, p0, q0, hargs, rfl, rfl, h0, r0⟩ := trodAll_cons hA
  obtain ⟨v1, vs1, d1, ds1, p1, q1, rfl, rfl, rfl, h1, r1⟩ := trodAll_cons r0
  obtain ⟨rfl, rfl, rfl⟩ := trodAll_nil r1
  obtain rfl : args = #[v0, v1] := by cases args; simp_all
  obtain ⟨rfl, rfl⟩ := trodVars_none hV
  have k0 := h0
  have lt0 := trod_lt0 k0
  obtain ⟨x0, hk0, ho0⟩ := open_arg hsz (j := 0) (t := 59) rfl rfl h0 par0
  obtain ⟨cs0, hcs0⟩ := okWide_agg Try.underlying59 (hval 0 59 v0 rfl rfl)
  obtain ⟨u0_6, w0_6, g0_6, ⟨u0_5, w0_5, g0_5, e0_0, ⟨u0_4, w0_4, g0_4, ⟨A0_1, c0_1, e0_1, hc0_1, hr0_1⟩, ⟨u0_3, w0_3, g0_3, ⟨A0_2, c0_2, e0_2, hc0_2, hr0_2⟩, ⟨u0_2, w0_2, g0_2, ⟨A0_3, c0_3, e0_3, hc0_3, hr0_3⟩, ⟨A0_4, c0_4, e0_4, hc0_4, hr0_4⟩⟩⟩⟩⟩, ⟨A0_5, c0_5, e0_5, hc0_5, hr0_5⟩⟩ := hk0
  obtain ⟨⟨_, ⟨hw0_1, ⟨hw0_2, ⟨hw0_3, hw0_4⟩⟩⟩⟩, hw0_5⟩ := ho0
  have hv0 : v0.cells.toList = [.bool x0.1.1, .slice A0_1 x0.1.2.1.length c0_1, .slice A0_2 x0.1.2.2.1.length c0_2, .slice A0_3 x0.1.2.2.2.1.length c0_3, .slice A0_4 x0.1.2.2.2.2.length c0_4, .slice A0_5 x0.2.length c0_5] := by
    rw [g0_6, g0_5, g0_4, g0_3, g0_2, e0_0, e0_1, e0_2, e0_3, e0_4, e0_5]; rfl
  obtain rfl := agg_of hcs0 hv0
  have k1 := h1
  have lt1 := trod_lt0 k1
  obtain ⟨x1, hk1, ho1⟩ := open_arg hsz (j := 1) (t := 59) rfl rfl h1 par1
  obtain ⟨cs1, hcs1⟩ := okWide_agg Try.underlying59 (hval 1 59 v1 rfl rfl)
  obtain ⟨u1_6, w1_6, g1_6, ⟨u1_5, w1_5, g1_5, e1_0, ⟨u1_4, w1_4, g1_4, ⟨A1_1, c1_1, e1_1, hc1_1, hr1_1⟩, ⟨u1_3, w1_3, g1_3, ⟨A1_2, c1_2, e1_2, hc1_2, hr1_2⟩, ⟨u1_2, w1_2, g1_2, ⟨A1_3, c1_3, e1_3, hc1_3, hr1_3⟩, ⟨A1_4, c1_4, e1_4, hc1_4, hr1_4⟩⟩⟩⟩⟩, ⟨A1_5, c1_5, e1_5, hc1_5, hr1_5⟩⟩ := hk1
  obtain ⟨⟨_, ⟨hw1_1, ⟨hw1_2, ⟨hw1_3, hw1_4⟩⟩⟩⟩, hw1_5⟩ := ho1
  have hv1 : v1.cells.toList = [.bool x1.1.1, .slice A1_1 x1.1.2.1.length c1_1, .slice A1_2 x1.1.2.2.1.length c1_2, .slice A1_3 x1.1.2.2.2.1.length c1_3, .slice A1_4 x1.1.2.2.2.2.length c1_4, .slice A1_5 x1.2.length c1_5] := by
    rw [g1_6, g1_5, g1_4, g1_3, g1_2, e1_0, e1_1, e1_2, e1_3, e1_4, e1_5]; rfl
  obtain rfl := agg_of hcs1 hv1
  clear hA0 hval0 hsz0 hsz
  have P : OpnFnExactMachineSame.Pure := Pure.FnExactMachineSame
  obtain ⟨k, h⟩ := P x0.1.1 x0.1.2.1 x0.1.2.2.1 x0.1.2.2.2.1 x0.1.2.2.2.2 x0.2 x1.1.1 x1.1.2.1 x1.1.2.2.1 x1.1.2.2.2.1 x1.1.2.2.2.2 x1.2 hw0_1 hw0_2 hw0_3 hw0_4 hw0_5 hw1_1 hw1_2 hw1_3 hw1_4 hw1_5
  refine (PFnExactMachineSame.laws_FnExactMachineSame.calls k x0.1.1 _ _ x0.1.2.1 _ _ x0.1.2.2.1 _ _ x0.1.2.2.2.1 _ _ x0.1.2.2.2.2 _ _ x0.2 x1.1.1 _ _ x1.1.2.1 _ _ x1.1.2.2.1 _ _ x1.1.2.2.2.1 _ _ x1.1.2.2.2.2 _ _ x1.2 true W hr0_1 hc0_1 hr0_2 hc0_2 hr0_3 hc0_3 hr0_4 hc0_4 hr0_5 hc0_5 hr1_1 hc1_1 hr1_2 hc1_2 hr1_3 hc1_3 hr1_4 hc1_4 hr1_5 hc1_5 h).mono fun e W' ⟨he, bel0⟩ => ?_
  have bel : Below W.heap.size W W' := bel0
  subst he
  exact ⟨_, rfl, _, _, _, [], _, [], hW', trodAll_mk1 (shut_bool Try.underlying4 _), (trodAll_cons_mk (Below.trod laidOut (by kernel_rfl) (of_decide_eq_true (by kernel_rfl)) k0 bel lt0) (trodAll_cons_mk (Below.trod laidOut (by kernel_rfl) (of_decide_eq_true (by kernel_rfl)) k1 bel lt1) trodAll_mk0)), rfl, bel.frame _, fun h => by cases h⟩
theorem over : Rows.fnExactMachineSameRow.holds Try.pinned (OpenSpec.ofChange Rows.fnExactMachineSameSpec) :=
  OpenClaim.holds_of_wide 12 Try.f12 rfl rfl rfl rfl rfl rfl rfl ⟨rfl, rfl, rfl, rfl, rfl⟩ rfl rfl rfl rfl rfl (by kernel_rfl) Try.func12 (by kernel_rfl)
    (of_decide_eq_true (by kernel_rfl)) (by unfold Func.isWrapper; first | (rw [if_pos (by decide +kernel)]; kernel_rfl) | (rw [if_neg (by decide +kernel)]; exact ⟨rfl, rfl⟩))
    (fun os started H enc _ => lifted os started H enc)
theorem proved : Rows.FnExactMachineSameSaid := over
#print axioms proved
end Go.Proofs.Ytfnndcpaldkkoaa.fnExactMachineSame
namespace Go.Proofs.Ytfnndcpaldkkoaa
/-- The row, under a short name, for the claim. -/
theorem fnExactMachineSame_holds : Rows.FnExactMachineSameSaid := fnExactMachineSame.proved
end Go.Proofs.Ytfnndcpaldkkoaa
