/- The row of the law FnExactSome: its arguments are opened, the printed contract and the pure statement are joined. A text of this session. -/
import Derived.Test.YtphlmbhjeoljoaaRows
import Derived.Test.YtphlmbhjeoljoaaPFnExactSomex9
import Derived.Test.YtphlmbhjeoljoaaOpnFnExactSome
import Derived.Test.YtphlmbhjeoljoaaPureFnExactSome
import Derived.WalkKit
import Derived.ProofKit
import Derived.OpenShut
import Derived.ShutString
import Derived.ChangeOld
import Derived.Below
import Derived.SizedLaws
namespace Go.Proofs.Ytphlmbhjeoljoaa.fnExactSome
open Go.ChangeShapes Go.WideShapes Go.ChangeAt Go.RowKit Go.Proofs.YtphlmbhjeoljoaaOpen Go.Proofs.Ytphlmbhjeoljoaa.OpnFnExactSome Go.Proofs.YtphlmbhjeoljoaaW.PrintWords
open Go.ChangeMaps (open_string shut_string)
set_option linter.unusedVariables false
theorem own : ownKnob Try.prog.godebug = none := by kernel_rfl
theorem laidOut : laidOutB Try.prog = true := by kernel_rfl
set_option maxRecDepth 100000 in
theorem lifted (os : Os) (started : os.Started) (H : Type) (enc : TypeId × Value → H) :
    ReturnsInHanded {} Try.checked os 13 .any (Rows.fnExactSomeSpec.pre6 enc Try.prog Try.f13 Rows.fnExactSomeRow.domain false) (Rows.fnExactSomeSpec.post enc Try.prog Try.f13 false true false false) := by
  refine returnsInHanded_of_change_sized (C := Try.checked) own started (by kernel_rfl) Try.func13
    (ChangeSpec.witness6 (enc := enc) (C := Try.checked) false ⟨#[], #[.agg #[.slice none 0 0, .slice none 0 0], .slice none 0 0, .slice none 0 0], []⟩ 8 (by kernel_rfl) (by kernel_rfl) (by kernel_rfl) (by kernel_rfl)) ?_
  intro W base args ds gs before hval0 hW hcnd hsz0 _
  have hsz : (DataW.weightsEach Try.prog (Try.f13.params.toList ++ Rows.fnExactSomeSpec.plain.varTypes Try.prog) (ds ++ gs)).all (· ≤ reachBytes) = true := hsz0
  have hval : ∀ (j : Nat) t v, Try.f13.params[j]? = some t → args[j]? = some v → Value.okWide Try.prog W .any base t v := hval0
  have hW' := hW
  obtain ⟨p, q, hA0, hV, rfl, hfz, hnd⟩ := hW
  have hA : DataW.TrodAll enc Try.prog W 0 (fun _ => true) true Try.f13.params.toList args.toList ds p := hA0
  rw [Try.params13] at hA hval hsz
  obtain ⟨v0, vs0, d0, ds0, p0, q0, hargs, rfl, rfl, h0, r0⟩ := trodAll_cons hA
  obtain ⟨v1, vs1, d1, ds1, p1, q1, rfl, rfl, rfl, h1, r1⟩ := trodAll_cons r0
  obtain ⟨v2, vs2, d2, ds2, p2, q2, rfl, rfl, rfl, h2, r2⟩ := trodAll_cons r1
  obtain ⟨rfl, rfl, rfl⟩ := trodAll_nil r2
  obtain rfl : args = #[v0, v1, v2] := by cases args; simp_all
  obtain ⟨rfl, rfl⟩ := trodVars_none hV
  have k0 := h0
  have lt0 := trod_lt0 k0
  obtain ⟨x0, hk0, ho0⟩ := open_arg hsz (j := 0) (t := 89) rfl rfl h0 par0
  obtain ⟨cs0, hcs0⟩ := okWide_agg Try.underlying89 (hval 0 89 v0 rfl rfl)
  obtain ⟨u0_2, w0_2, g0_2, ⟨A0_0, c0_0, e0_0, hc0_0, hr0_0⟩, ⟨A0_1, c0_1, e0_1, hc0_1, hr0_1⟩⟩ := hk0
  obtain ⟨hw0_0, hw0_1⟩ := ho0
  have hv0 : v0.cells.toList = [.slice A0_0 x0.1.length c0_0, .slice A0_1 x0.2.length c0_1] := by
    rw [g0_2, e0_0, e0_1]; rfl
  obtain rfl := agg_of hcs0 hv0
  have k1 := h1
  have lt1 := trod_lt0 k1
  obtain ⟨x1, hk1, ho1⟩ := open_arg hsz (j := 1) (t := 90) rfl rfl h1 par1
  obtain ⟨a1, len1, cap1, rfl⟩ := okWide_slice Try.underlying90 (hval 1 90 v1 rfl rfl)
  obtain ⟨A1, c1, hcs1, hc1, hr1⟩ := hk1
  simp only [Value.cells, List.cons.injEq, Value.slice.injEq, and_true] at hcs1
  obtain ⟨rfl, rfl, rfl⟩ := hcs1
  have k2 := h2
  have lt2 := trod_lt0 k2
  obtain ⟨x2, hk2, ho2⟩ := open_arg hsz (j := 2) (t := 105) rfl rfl h2 par2
  obtain ⟨a2, len2, cap2, rfl⟩ := okWide_slice Try.underlying105 (hval 2 105 v2 rfl rfl)
  obtain ⟨A2, c2, hcs2, hc2, hr2⟩ := hk2
  simp only [Value.cells, List.cons.injEq, Value.slice.injEq, and_true] at hcs2
  obtain ⟨rfl, rfl, rfl⟩ := hcs2
  clear hA0 hval0 hsz0 hsz
  have P : OpnFnExactSome.Pure := Pure.FnExactSome
  obtain ⟨k, h⟩ := P x0.1 x0.2 x1 x2 hw0_0 hw0_1 ho1 ho2
  refine (PFnExactSome.laws_FnExactSome.calls k _ _ x0.1 _ _ x0.2 _ _ x1 _ _ x2 true W hr0_0 hc0_0 hr0_1 hc0_1 hr1 hc1 hr2 hc2 h).mono fun e W' ⟨he, bel0⟩ => ?_
  have bel : Below W.heap.size W W' := bel0
  subst he
  exact ⟨_, rfl, _, _, _, [], _, [], hW', trodAll_mk1 (shut_bool Try.underlying4 _), (trodAll_cons_mk (Below.trod laidOut (by kernel_rfl) (of_decide_eq_true (by kernel_rfl)) k0 bel lt0) (trodAll_cons_mk (Below.trod laidOut (by kernel_rfl) (of_decide_eq_true (by kernel_rfl)) k1 bel lt1) (trodAll_cons_mk (Below.trod laidOut (by kernel_rfl) (of_decide_eq_true (by kernel_rfl)) k2 bel lt2) trodAll_mk0))), rfl, bel.frame _, fun h => by cases h⟩
theorem over : Rows.fnExactSomeRow.holds Try.pinned (OpenSpec.ofChange Rows.fnExactSomeSpec) :=
  OpenClaim.holds_of_wide 13 Try.f13 rfl rfl rfl rfl rfl rfl rfl ⟨rfl, rfl, rfl, rfl, rfl⟩ rfl rfl rfl rfl rfl (by kernel_rfl) Try.func13 (by kernel_rfl)
    (of_decide_eq_true (by kernel_rfl)) (by unfold Func.isWrapper; first | (rw [if_pos (by decide +kernel)]; kernel_rfl) | (rw [if_neg (by decide +kernel)]; exact ⟨rfl, rfl⟩))
    (fun os started H enc _ => lifted os started H enc)
theorem proved : Rows.FnExactSomeSaid := over
#print axioms proved
end Go.Proofs.Ytphlmbhjeoljoaa.fnExactSome
namespace Go.Proofs.Ytphlmbhjeoljoaa
/-- The row, under a short name, for the claim. -/
theorem fnExactSome_holds : Rows.FnExactSomeSaid := fnExactSome.proved
end Go.Proofs.Ytphlmbhjeoljoaa
