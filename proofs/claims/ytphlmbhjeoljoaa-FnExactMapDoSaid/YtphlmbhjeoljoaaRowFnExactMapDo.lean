/- The row of the law FnExactMapDo: its arguments are opened, the printed contract and the pure statement are joined. A text of this session. -/
import Derived.Test.YtphlmbhjeoljoaaRows
import Derived.Test.YtphlmbhjeoljoaaPFnExactMapDox8
import Derived.Test.YtphlmbhjeoljoaaOpnFnExactMapDo
import Derived.Test.YtphlmbhjeoljoaaPureFnExactMapDo
import Derived.WalkKit
import Derived.ProofKit
import Derived.OpenShut
import Derived.ShutString
import Derived.ChangeOld
import Derived.Below
import Derived.SizedLaws
namespace Go.Proofs.Ytphlmbhjeoljoaa.fnExactMapDo
open Go.ChangeShapes Go.WideShapes Go.ChangeAt Go.RowKit Go.Proofs.YtphlmbhjeoljoaaOpen Go.Proofs.Ytphlmbhjeoljoaa.OpnFnExactMapDo Go.Proofs.YtphlmbhjeoljoaaW.PrintWords
open Go.ChangeMaps (open_string shut_string)
set_option linter.unusedVariables false
theorem own : ownKnob Try.prog.godebug = none := by kernel_rfl
theorem laidOut : laidOutB Try.prog = true := by kernel_rfl
set_option maxRecDepth 100000 in
theorem lifted (os : Os) (started : os.Started) (H : Type) (enc : TypeId × Value → H) :
    ReturnsInHanded {} Try.checked os 7 .any (Rows.fnExactMapDoSpec.pre6 enc Try.prog Try.f7 Rows.fnExactMapDoRow.domain false) (Rows.fnExactMapDoSpec.post enc Try.prog Try.f7 false true false false) := by
  refine returnsInHanded_of_change_sized (C := Try.checked) own started (by kernel_rfl) Try.func7
    (ChangeSpec.witness6 (enc := enc) (C := Try.checked) false ⟨#[], #[.slice none 0 0, .agg #[.int .i64 0, .int .i64 0, .int .i64 0]], []⟩ 8 (by kernel_rfl) (by kernel_rfl) (by kernel_rfl) (by kernel_rfl)) ?_
  intro W base args ds gs before hval0 hW hcnd hsz0 _
  have hsz : (DataW.weightsEach Try.prog (Try.f7.params.toList ++ Rows.fnExactMapDoSpec.plain.varTypes Try.prog) (ds ++ gs)).all (· ≤ reachBytes) = true := hsz0
  have hval : ∀ (j : Nat) t v, Try.f7.params[j]? = some t → args[j]? = some v → Value.okWide Try.prog W .any base t v := hval0
  have hW' := hW
  obtain ⟨p, q, hA0, hV, rfl, hfz, hnd⟩ := hW
  have hA : DataW.TrodAll enc Try.prog W 0 (fun _ => true) true Try.f7.params.toList args.toList ds p := hA0
  rw [Try.params7] at hA hval hsz
  obtain ⟨v0, vs0, d0, ds0, p0, q0, hargs, rfl, rfl, h0, r0⟩ := trodAll_cons hA
  obtain ⟨v1, vs1, d1, ds1, p1, q1, rfl, rfl, rfl, h1, r1⟩ := trodAll_cons r0
  obtain ⟨rfl, rfl, rfl⟩ := trodAll_nil r1
  obtain rfl : args = #[v0, v1] := by cases args; simp_all
  obtain ⟨rfl, rfl⟩ := trodVars_none hV
  have k0 := h0
  have lt0 := trod_lt0 k0
  obtain ⟨x0, hk0, ho0⟩ := open_arg hsz (j := 0) (t := 61) rfl rfl h0 par0
  obtain ⟨a0, len0, cap0, rfl⟩ := okWide_slice Try.underlying61 (hval 0 61 v0 rfl rfl)
  obtain ⟨A0, c0, hcs0, hc0, hr0⟩ := hk0
  simp only [Value.cells, List.cons.injEq, Value.slice.injEq, and_true] at hcs0
  obtain ⟨rfl, rfl, rfl⟩ := hcs0
  have k1 := h1
  have lt1 := trod_lt0 k1
  obtain ⟨x1, hk1, ho1⟩ := open_arg hsz (j := 1) (t := 63) rfl rfl h1 par1
  obtain ⟨cs1, hcs1⟩ := okWide_agg Try.underlying63 (hval 1 63 v1 rfl rfl)
  obtain ⟨u1_3, w1_3, g1_3, e1_0, ⟨u1_2, w1_2, g1_2, e1_1, e1_2⟩⟩ := hk1
  obtain ⟨hw1_0, ⟨hw1_1, hw1_2⟩⟩ := ho1
  have hv1 : v1.cells.toList = [.int .i64 x1.1, .int .i64 x1.2.1, .int .i64 x1.2.2] := by
    rw [g1_3, g1_2, e1_0, e1_1, e1_2]; rfl
  obtain rfl := agg_of hcs1 hv1
  clear hA0 hval0 hsz0 hsz
  have P : OpnFnExactMapDo.Pure := Pure.FnExactMapDo
  obtain ⟨k, h⟩ := P x0 x1.1 x1.2.1 x1.2.2 ho0 hw1_0 hw1_1 hw1_2
  refine (PFnExactMapDo.laws_FnExactMapDo.calls k _ _ x0 x1.1 x1.2.1 x1.2.2 true W hr0 hc0 h).mono fun e W' ⟨he, bel0⟩ => ?_
  have bel : Below W.heap.size W W' := bel0
  subst he
  exact ⟨_, rfl, _, _, _, [], _, [], hW', trodAll_mk1 (shut_bool Try.underlying4 _), (trodAll_cons_mk (Below.trod laidOut (by kernel_rfl) (of_decide_eq_true (by kernel_rfl)) k0 bel lt0) (trodAll_cons_mk (Below.trod laidOut (by kernel_rfl) (of_decide_eq_true (by kernel_rfl)) k1 bel lt1) trodAll_mk0)), rfl, bel.frame _, fun h => by cases h⟩
theorem over : Rows.fnExactMapDoRow.holds Try.pinned (OpenSpec.ofChange Rows.fnExactMapDoSpec) :=
  OpenClaim.holds_of_wide 7 Try.f7 rfl rfl rfl rfl rfl rfl rfl ⟨rfl, rfl, rfl, rfl, rfl⟩ rfl rfl rfl rfl rfl (by kernel_rfl) Try.func7 (by kernel_rfl)
    (of_decide_eq_true (by kernel_rfl)) (by unfold Func.isWrapper; first | (rw [if_pos (by decide +kernel)]; kernel_rfl) | (rw [if_neg (by decide +kernel)]; exact ⟨rfl, rfl⟩))
    (fun os started H enc _ => lifted os started H enc)
theorem proved : Rows.FnExactMapDoSaid := over
#print axioms proved
end Go.Proofs.Ytphlmbhjeoljoaa.fnExactMapDo
namespace Go.Proofs.Ytphlmbhjeoljoaa
/-- The row, under a short name, for the claim. -/
theorem fnExactMapDo_holds : Rows.FnExactMapDoSaid := fnExactMapDo.proved
end Go.Proofs.Ytphlmbhjeoljoaa
