/- The row of the law FnExactTreeRange: its arguments are opened, the printed contract and the pure statement are joined. A text of this session. -/
import Derived.Test.YtfnndcpaldkkoaaRows
import Derived.Test.YtfnndcpaldkkoaaPFnExactTreeRangex18
import Derived.Test.YtfnndcpaldkkoaaOpnFnExactTreeRange
import Derived.Test.YtfnndcpaldkkoaaPureFnExactTreeRange
import Derived.WalkKit
import Derived.ProofKit
import Derived.OpenShut
import Derived.ShutString
import Derived.ChangeOld
import Derived.Below
import Derived.SizedLaws
namespace Go.Proofs.Ytfnndcpaldkkoaa.fnExactTreeRange
open Go.ChangeShapes Go.WideShapes Go.ChangeAt Go.RowKit Go.Proofs.YtfnndcpaldkkoaaOpen Go.Proofs.Ytfnndcpaldkkoaa.OpnFnExactTreeRange Go.Proofs.YtfnndcpaldkkoaaW.PrintWords
open Go.ChangeMaps (open_string shut_string)
set_option linter.unusedVariables false
theorem own : ownKnob Try.prog.godebug = none := by kernel_rfl
theorem laidOut : laidOutB Try.prog = true := by kernel_rfl
set_option maxRecDepth 100000 in
theorem lifted (os : Os) (started : os.Started) (H : Type) (enc : TypeId × Value → H) :
    ReturnsInHanded {} Try.checked os 11 .any (Rows.fnExactTreeRangeSpec.pre6 enc Try.prog Try.f11 Rows.fnExactTreeRangeRow.domain false) (Rows.fnExactTreeRangeSpec.post enc Try.prog Try.f11 false true false false) := by
  refine returnsInHanded_of_change_sized (C := Try.checked) own started (by kernel_rfl) Try.func11
    (ChangeSpec.witness6 (enc := enc) (C := Try.checked) false ⟨#[], #[.agg #[.bool false, .slice none 0 0, .slice none 0 0, .slice none 0 0, .slice none 0 0], .int .i64 0, .int .i64 0], []⟩ 8 (by kernel_rfl) (by kernel_rfl) (by kernel_rfl) (by kernel_rfl)) ?_
  intro W base args ds gs before hval0 hW hcnd hsz0 _
  have hsz : (DataW.weightsEach Try.prog (Try.f11.params.toList ++ Rows.fnExactTreeRangeSpec.plain.varTypes Try.prog) (ds ++ gs)).all (· ≤ reachBytes) = true := hsz0
  have hval : ∀ (j : Nat) t v, Try.f11.params[j]? = some t → args[j]? = some v → Value.okWide Try.prog W .any base t v := hval0
  have hW' := hW
  obtain ⟨p, q, hA0, hV, rfl, hfz, hnd⟩ := hW
  have hA : DataW.TrodAll enc Try.prog W 0 (fun _ => true) true Try.f11.params.toList args.toList ds p := hA0
  rw [Try.params11] at hA hval hsz
  obtain ⟨v0, vs0, d0, ds0, p0, q0, hargs, rfl, rfl, h0, r0⟩ := trodAll_cons hA
  obtain ⟨v1, vs1, d1, ds1, p1, q1, rfl, rfl, rfl, h1, r1⟩ := trodAll_cons r0
  obtain ⟨v2, vs2, d2, ds2, p2, q2, rfl, rfl, rfl, h2, r2⟩ := trodAll_cons r1
  obtain ⟨rfl, rfl, rfl⟩ := trodAll_nil r2
  obtain rfl : args = #[v0, v1, v2] := by cases args; simp_all
  obtain ⟨rfl, rfl⟩ := trodVars_none hV
  have k0 := h0
  have lt0 := trod_lt0 k0
  obtain ⟨x0, hk0, ho0⟩ := open_arg hsz (j := 0) (t := 27) rfl rfl h0 par0
  obtain ⟨cs0, hcs0⟩ := okWide_agg Try.underlying27 (hval 0 27 v0 rfl rfl)
  obtain ⟨u0_5, w0_5, g0_5, e0_0, ⟨u0_4, w0_4, g0_4, ⟨A0_1, c0_1, e0_1, hc0_1, hr0_1⟩, ⟨u0_3, w0_3, g0_3, ⟨A0_2, c0_2, e0_2, hc0_2, hr0_2⟩, ⟨u0_2, w0_2, g0_2, ⟨A0_3, c0_3, e0_3, hc0_3, hr0_3⟩, ⟨A0_4, c0_4, e0_4, hc0_4, hr0_4⟩⟩⟩⟩⟩ := hk0
  obtain ⟨_, ⟨hw0_1, ⟨hw0_2, ⟨hw0_3, hw0_4⟩⟩⟩⟩ := ho0
  have hv0 : v0.cells.toList = [.bool x0.1, .slice A0_1 x0.2.1.length c0_1, .slice A0_2 x0.2.2.1.length c0_2, .slice A0_3 x0.2.2.2.1.length c0_3, .slice A0_4 x0.2.2.2.2.length c0_4] := by
    rw [g0_5, g0_4, g0_3, g0_2, e0_0, e0_1, e0_2, e0_3, e0_4]; rfl
  obtain rfl := agg_of hcs0 hv0
  obtain ⟨a1, rfl, rfl, rfl, w1⟩ := open_int Try.underlying3 (hval 1 3 v1 rfl rfl) h1
  obtain ⟨a2, rfl, rfl, rfl, w2⟩ := open_int Try.underlying3 (hval 2 3 v2 rfl rfl) h2
  clear hA0 hval0 hsz0 hsz
  have P : OpnFnExactTreeRange.Pure := Pure.FnExactTreeRange
  obtain ⟨k, h⟩ := P x0.1 x0.2.1 x0.2.2.1 x0.2.2.2.1 x0.2.2.2.2 a1 a2 hw0_1 hw0_2 hw0_3 hw0_4 w1 w2
  refine (PFnExactTreeRange.laws_FnExactTreeRange.calls k x0.1 _ _ x0.2.1 _ _ x0.2.2.1 _ _ x0.2.2.2.1 _ _ x0.2.2.2.2 a1 a2 true W hr0_1 hc0_1 hr0_2 hc0_2 hr0_3 hc0_3 hr0_4 hc0_4 h).mono fun e W' ⟨he, bel0⟩ => ?_
  have bel : Below W.heap.size W W' := bel0
  subst he
  exact ⟨_, rfl, _, _, _, [], _, [], hW', trodAll_mk1 (shut_bool Try.underlying4 _), (trodAll_cons_mk (Below.trod laidOut (by kernel_rfl) (of_decide_eq_true (by kernel_rfl)) k0 bel lt0) (trodAll_cons_mk (shut_int Try.underlying3 w1) (trodAll_cons_mk (shut_int Try.underlying3 w2) trodAll_mk0))), rfl, bel.frame _, fun h => by cases h⟩
theorem over : Rows.fnExactTreeRangeRow.holds Try.pinned (OpenSpec.ofChange Rows.fnExactTreeRangeSpec) :=
  OpenClaim.holds_of_wide 11 Try.f11 rfl rfl rfl rfl rfl rfl rfl ⟨rfl, rfl, rfl, rfl, rfl⟩ rfl rfl rfl rfl rfl (by kernel_rfl) Try.func11 (by kernel_rfl)
    (of_decide_eq_true (by kernel_rfl)) (by unfold Func.isWrapper; first | (rw [if_pos (by decide +kernel)]; kernel_rfl) | (rw [if_neg (by decide +kernel)]; exact ⟨rfl, rfl⟩))
    (fun os started H enc _ => lifted os started H enc)
theorem proved : Rows.FnExactTreeRangeSaid := over
#print axioms proved
end Go.Proofs.Ytfnndcpaldkkoaa.fnExactTreeRange
namespace Go.Proofs.Ytfnndcpaldkkoaa
/-- The row, under a short name, for the claim. -/
theorem fnExactTreeRange_holds : Rows.FnExactTreeRangeSaid := fnExactTreeRange.proved
end Go.Proofs.Ytfnndcpaldkkoaa
