/- TreeNew of the program and of the reference make the same tree, in memory of its own: no conditions. -/
import Derived.Test.YtphlmbhjeoljoaaRows
import Derived.Test.YtphlmbhjeoljoaaWMore
import Derived.WalkKit
import Derived.ProofKit
import Derived.OpenShut
import Derived.ShutString
import Derived.ChangeOld
import Derived.Below
import Derived.SizedLaws
import Derived.Deep.LoopGhost
namespace Go.Proofs.Ytphlmbhjeoljoaa.fnExactTreeNew
open Go.ChangeShapes Go.WideShapes Go.ChangeAt Go.RowKit Go.Proofs.YtphlmbhjeoljoaaW.PrintWords Go.Proofs.YtphlmbhjeoljoaaW.PrintLast Go.Proofs.YtphlmbhjeoljoaaW.PrintMore
open Go.ChangeMaps (open_string shut_string)
set_option linter.unusedVariables false
set_option maxHeartbeats 8000000 in
set_option maxRecDepth 100000 in
theorem markPairS_nil (A : Option Addr) (c : Nat) (a : Int) (w : World) : Calls Try.prog 53 #[.slice A 0 c, .int .i64 a] w fun e w' => e = .returned (.int .i64 a) ∧ w' = w := by
  go_enter Try.func53, Try.ntmps53
  go_wp2
  refine wp_loop_once ?_
  go_wp2
  go_ret
  exact ⟨rfl, rfl⟩
set_option maxHeartbeats 8000000 in
set_option maxRecDepth 100000 in
theorem heldPairS_nil (A : Option Addr) (c : Nat) (a : Int) (w : World) : Calls Try.prog 54 #[.slice A 0 c, .int .i64 a] w fun e w' => e = .returned (.int .i64 a) ∧ w' = w := by
  go_enter Try.func54, Try.ntmps54
  go_wp2
  refine wp_loop_once ?_
  go_wp2
  go_ret
  exact ⟨rfl, rfl⟩
set_option maxHeartbeats 8000000 in
set_option maxRecDepth 100000 in
theorem eqPairS_nil (A A2 : Option Addr) (c c2 : Nat) (w : World) : Calls Try.prog 52 #[.slice A 0 c, .slice A2 0 c2] w fun e w' => e = .returned (.bool true) ∧ w' = w := by
  go_enter Try.func52, Try.ntmps52
  go_wp2
  refine wp_loop_once ?_
  go_wp2
  go_ret
  exact ⟨rfl, rfl⟩
set_option maxHeartbeats 8000000 in
set_option maxRecDepth 100000 in
theorem markIntS_nil (A : Option Addr) (c : Nat) (a : Int) (w : World) : Calls Try.prog 116 #[.slice A 0 c, .int .i64 a] w fun e w' => e = .returned (.int .i64 a) ∧ w' = w := by
  go_enter Try.func116, Try.ntmps116
  go_wp2
  refine wp_loop_once ?_
  go_wp2
  go_ret
  exact ⟨rfl, rfl⟩
set_option maxHeartbeats 8000000 in
set_option maxRecDepth 100000 in
theorem heldIntS_nil (A : Option Addr) (c : Nat) (a : Int) (w : World) : Calls Try.prog 118 #[.slice A 0 c, .int .i64 a] w fun e w' => e = .returned (.int .i64 a) ∧ w' = w := by
  go_enter Try.func118, Try.ntmps118
  go_wp2
  refine wp_loop_once ?_
  go_wp2
  go_ret
  exact ⟨rfl, rfl⟩
set_option maxHeartbeats 8000000 in
set_option maxRecDepth 100000 in
theorem eqIntS_nil (A A2 : Option Addr) (c c2 : Nat) (w : World) : Calls Try.prog 114 #[.slice A 0 c, .slice A2 0 c2] w fun e w' => e = .returned (.bool true) ∧ w' = w := by
  go_enter Try.func114, Try.ntmps114
  go_wp2
  refine wp_loop_once ?_
  go_wp2
  go_ret
  exact ⟨rfl, rfl⟩
set_option maxHeartbeats 8000000 in
set_option maxRecDepth 100000 in
theorem markTreeS_nil (A : Option Addr) (c : Nat) (a : Int) (w : World) : Calls Try.prog 117 #[.slice A 0 c, .int .i64 a] w fun e w' => e = .returned (.int .i64 a) ∧ w' = w := by
  go_enter Try.func117, Try.ntmps117
  go_wp2
  refine wp_loop_once ?_
  go_wp2
  go_ret
  exact ⟨rfl, rfl⟩
set_option maxHeartbeats 8000000 in
set_option maxRecDepth 100000 in
theorem heldTreeS_nil (A : Option Addr) (c : Nat) (a : Int) (w : World) : Calls Try.prog 119 #[.slice A 0 c, .int .i64 a] w fun e w' => e = .returned (.int .i64 a) ∧ w' = w := by
  go_enter Try.func119, Try.ntmps119
  go_wp2
  refine wp_loop_once ?_
  go_wp2
  go_ret
  exact ⟨rfl, rfl⟩
set_option maxHeartbeats 8000000 in
set_option maxRecDepth 100000 in
theorem eqTreeS_nil (A A2 : Option Addr) (c c2 : Nat) (w : World) : Calls Try.prog 115 #[.slice A 0 c, .slice A2 0 c2] w fun e w' => e = .returned (.bool true) ∧ w' = w := by
  go_enter Try.func115, Try.ntmps115
  go_wp2
  refine wp_loop_once ?_
  go_wp2
  go_ret
  exact ⟨rfl, rfl⟩
set_option maxHeartbeats 8000000 in
set_option maxRecDepth 100000 in
theorem markMsgS_nil (A : Option Addr) (c : Nat) (a : Int) (w : World) : Calls Try.prog 20 #[.slice A 0 c, .int .i64 a] w fun e w' => e = .returned (.int .i64 a) ∧ w' = w := by
  go_enter Try.func20, Try.ntmps20
  go_wp2
  refine wp_loop_once ?_
  go_wp2
  go_ret
  exact ⟨rfl, rfl⟩
set_option maxHeartbeats 8000000 in
set_option maxRecDepth 100000 in
theorem heldMsgS_nil (A : Option Addr) (c : Nat) (a : Int) (w : World) : Calls Try.prog 21 #[.slice A 0 c, .int .i64 a] w fun e w' => e = .returned (.int .i64 a) ∧ w' = w := by
  go_enter Try.func21, Try.ntmps21
  go_wp2
  refine wp_loop_once ?_
  go_wp2
  go_ret
  exact ⟨rfl, rfl⟩
set_option maxHeartbeats 8000000 in
set_option maxRecDepth 100000 in
theorem eqMsgS_nil (A A2 : Option Addr) (c c2 : Nat) (w : World) : Calls Try.prog 19 #[.slice A 0 c, .slice A2 0 c2] w fun e w' => e = .returned (.bool true) ∧ w' = w := by
  go_enter Try.func19, Try.ntmps19
  go_wp2
  refine wp_loop_once ?_
  go_wp2
  go_ret
  exact ⟨rfl, rfl⟩
set_option maxHeartbeats 8000000 in
set_option maxRecDepth 100000 in
theorem markTree_nil (b : Bool) (A1 A2 A3 A4 : Option Addr) (c1 c2 c3 c4 : Nat) (a : Int) (w : World) : Calls Try.prog 32 #[.agg #[.bool b, .slice A1 0 c1, .slice A2 0 c2, .slice A3 0 c3, .slice A4 0 c4], .int .i64 a] w fun e w' => e = .returned (.int .i64 a) ∧ w' = (w.alloc (.cells #[.bool b, .slice A1 0 c1, .slice A2 0 c2, .slice A3 0 c3, .slice A4 0 c4] 46)) := by
  go_enter Try.func32, Try.ntmps32
  go_wp2_with (first | (go_at_call 53; refine (markPairS_nil _ _ _ _).mono ?_; rintro e w' ⟨rfl, rfl⟩) | (go_at_call 116; refine (markIntS_nil _ _ _ _).mono ?_; rintro e w' ⟨rfl, rfl⟩) | (go_at_call 117; refine (markTreeS_nil _ _ _ _).mono ?_; rintro e w' ⟨rfl, rfl⟩) | (go_at_call 20; refine (markMsgS_nil _ _ _ _).mono ?_; rintro e w' ⟨rfl, rfl⟩))
  all_goals go_ret
  all_goals exact ⟨rfl, rfl⟩
set_option maxHeartbeats 8000000 in
set_option maxRecDepth 100000 in
theorem heldTree_nil (b : Bool) (A1 A2 A3 A4 : Option Addr) (c1 c2 c3 c4 : Nat) (a : Int) (ha : 0 ≤ a) (w : World) : Calls Try.prog 33 #[.agg #[.bool b, .slice A1 0 c1, .slice A2 0 c2, .slice A3 0 c3, .slice A4 0 c4], .int .i64 a] w fun e w' => e = .returned (.int .i64 a) ∧ w' = (w.alloc (.cells #[.bool b, .slice A1 0 c1, .slice A2 0 c2, .slice A3 0 c3, .slice A4 0 c4] 46)) := by
  have hn : ¬ (a < 0) := by omega
  go_enter Try.func33, Try.ntmps33
  go_wp2_with (first | (go_at_call 54; refine (heldPairS_nil _ _ _ _).mono ?_; rintro e w' ⟨rfl, rfl⟩) | (go_at_call 118; refine (heldIntS_nil _ _ _ _).mono ?_; rintro e w' ⟨rfl, rfl⟩) | (go_at_call 119; refine (heldTreeS_nil _ _ _ _).mono ?_; rintro e w' ⟨rfl, rfl⟩) | (go_at_call 21; refine (heldMsgS_nil _ _ _ _).mono ?_; rintro e w' ⟨rfl, rfl⟩))
  all_goals go_ret
  all_goals exact ⟨rfl, rfl⟩
set_option maxHeartbeats 8000000 in
set_option maxRecDepth 100000 in
theorem eqTree_nil (b : Bool) (A1 A2 A3 A4 : Option Addr) (c1 c2 c3 c4 : Nat) (A1x A2x A3x A4x : Option Addr) (c1x c2x c3x c4x : Nat) (w : World) : Calls Try.prog 31 #[.agg #[.bool b, .slice A1 0 c1, .slice A2 0 c2, .slice A3 0 c3, .slice A4 0 c4], .agg #[.bool b, .slice A1x 0 c1x, .slice A2x 0 c2x, .slice A3x 0 c3x, .slice A4x 0 c4x]] w fun e w' => e = .returned (.bool true) ∧ w' = ((w.alloc (.cells #[.bool b, .slice A1 0 c1, .slice A2 0 c2, .slice A3 0 c3, .slice A4 0 c4] 46)).alloc (.cells #[.bool b, .slice A1x 0 c1x, .slice A2x 0 c2x, .slice A3x 0 c3x, .slice A4x 0 c4x] 46)) := by
  go_enter Try.func31, Try.ntmps31
  go_wp2_with (first | (go_at_call 52; refine (eqPairS_nil _ _ _ _ _).mono ?_; rintro e w' ⟨rfl, rfl⟩) | (go_at_call 114; refine (eqIntS_nil _ _ _ _ _).mono ?_; rintro e w' ⟨rfl, rfl⟩) | (go_at_call 115; refine (eqTreeS_nil _ _ _ _ _).mono ?_; rintro e w' ⟨rfl, rfl⟩) | (go_at_call 19; refine (eqMsgS_nil _ _ _ _ _).mono ?_; rintro e w' ⟨rfl, rfl⟩))
  all_goals go_ret
  all_goals exact ⟨rfl, rfl⟩
set_option maxHeartbeats 8000000 in
set_option maxRecDepth 100000 in
theorem specTreeNew_is (w : World) : Calls Try.prog 29 #[] w fun e w' => e = .returned (.agg #[.bool true, .slice none 0 0, .slice none 0 0, .slice none 0 0, .slice none 0 0]) ∧ w' = (w.alloc (.cells #[.bool true, .slice none 0 0, .slice none 0 0, .slice none 0 0, .slice none 0 0] 46)) := by
  go_enter Try.func29, Try.ntmps29
  go_wp2_with (first | fail)
  refine bodyPost_ret (results_cell_row rfl _ _ w.heap.size 46 (#[.bool true, .slice none 0 0, .slice none 0 0, .slice none 0 0, .slice none 0 0] : Array Value) (0, 0) _ rfl (heap_alloc_new w _) Try.underlying46 rfl (by kernel_rfl)) rfl ?_
  exact ⟨rfl, rfl⟩
set_option maxHeartbeats 8000000 in
set_option maxRecDepth 100000 in
theorem implTreeNew_is (w : World) : Calls Try.prog 30 #[] w fun e w' => e = .returned (.agg #[.bool true, .slice none 0 0, .slice none 0 0, .slice none 0 0, .slice none 0 0]) ∧ w' = (w.alloc (.cells #[.bool true, .slice none 0 0, .slice none 0 0, .slice none 0 0, .slice none 0 0] 46)) := by
  go_enter Try.func30, Try.ntmps30
  go_wp2_with (first | fail)
  refine bodyPost_ret (results_cell_row rfl _ _ w.heap.size 46 (#[.bool true, .slice none 0 0, .slice none 0 0, .slice none 0 0, .slice none 0 0] : Array Value) (0, 0) _ rfl (heap_alloc_new w _) Try.underlying46 rfl (by kernel_rfl)) rfl ?_
  exact ⟨rfl, rfl⟩
set_option maxHeartbeats 8000000 in
set_option maxRecDepth 100000 in
theorem walk (w : World) : Calls Try.prog 5 #[] w fun e w' => e = .returned (.bool true) ∧ Below w.heap.size w w' := by
  go_enter Try.func5, Try.ntmps5
  go_wp2_with (first | (go_at_call 29; refine (specTreeNew_is  _).mono ?_; rintro e w' ⟨rfl, rfl⟩) | (go_at_call 30; refine (implTreeNew_is  _).mono ?_; rintro e w' ⟨rfl, rfl⟩) | (go_at_call 31; refine (eqTree_nil _ _ _ _ _ _ _ _ _ _ _ _ _ _ _ _ _ _).mono ?_; rintro e w' ⟨rfl, rfl⟩) | (go_at_call 32; refine (markTree_nil _ _ _ _ _ _ _ _ _ _ _).mono ?_; rintro e w' ⟨rfl, rfl⟩) | (go_at_call 33; refine (heldTree_nil _ _ _ _ _ _ _ _ _ _ (by decide) _).mono ?_; rintro e w' ⟨rfl, rfl⟩))
  all_goals go_ret
  all_goals exact ⟨rfl, by repeat (first | exact Below.refl _ _ | apply below_alloc | apply pw_below_drewN | apply below_drew1)⟩
theorem own : ownKnob Try.prog.godebug = none := by kernel_rfl
set_option maxRecDepth 100000 in
theorem lifted (os : Os) (started : os.Started) (H : Type) (enc : TypeId × Value → H) :
    ReturnsInHanded {} Try.checked os 5 .any (Rows.fnExactTreeNewSpec.pre6 enc Try.prog Try.f5 Rows.fnExactTreeNewRow.domain false) (Rows.fnExactTreeNewSpec.post enc Try.prog Try.f5 false true false false) := by
  refine returnsInHanded_of_change_sized (C := Try.checked) own started (by kernel_rfl) Try.func5
    (ChangeSpec.witness6 (enc := enc) (C := Try.checked) false ⟨#[], #[], []⟩ 8 (by kernel_rfl) (by kernel_rfl) (by kernel_rfl) (by kernel_rfl)) ?_
  intro W base args ds gs before hval0 hW hcnd hsz0 _
  have hW' := hW
  obtain ⟨p, q, hA0, hV, rfl, hfz, hnd⟩ := hW
  have hA : DataW.TrodAll enc Try.prog W 0 (fun _ => true) true Try.f5.params.toList args.toList ds p := hA0
  rw [Try.params5] at hA
  obtain ⟨rfl, rfl, rfl⟩ := trodAll_none hA
  obtain ⟨rfl, rfl⟩ := trodVars_none hV
  clear hA0 hval0 hsz0
  refine (walk W).mono fun e W' ⟨he, bel⟩ => ?_
  subst he
  exact ⟨_, rfl, _, _, _, [], _, [], hW', trodAll_mk1 (shut_bool Try.underlying4 _), trodAll_mk0, rfl, bel.frame _, fun h => by cases h⟩
theorem over : Rows.fnExactTreeNewRow.holds Try.pinned (OpenSpec.ofChange Rows.fnExactTreeNewSpec) :=
  OpenClaim.holds_of_wide 5 Try.f5 rfl rfl rfl rfl rfl rfl rfl ⟨rfl, rfl, rfl, rfl, rfl⟩ rfl rfl rfl rfl rfl (by kernel_rfl) Try.func5 (by kernel_rfl)
    (of_decide_eq_true (by kernel_rfl)) (by unfold Func.isWrapper; first | (rw [if_pos (by decide +kernel)]; kernel_rfl) | (rw [if_neg (by decide +kernel)]; exact ⟨rfl, rfl⟩))
    (fun os started H enc _ => lifted os started H enc)
theorem proved : Rows.FnExactTreeNewSaid := over
#print axioms proved
end Go.Proofs.Ytphlmbhjeoljoaa.fnExactTreeNew
namespace Go.Proofs.Ytphlmbhjeoljoaa
/-- The row, under a short name, for the claim. -/
theorem fnExactTreeNew_holds : Rows.FnExactTreeNewSaid := fnExactTreeNew.proved
end Go.Proofs.Ytphlmbhjeoljoaa
