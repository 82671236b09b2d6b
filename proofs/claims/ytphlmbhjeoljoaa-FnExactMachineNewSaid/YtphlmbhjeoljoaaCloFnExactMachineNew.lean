/- MachineNew of the program and of the reference make the same machine, in memory of its own: no conditions. -/
import Derived.Test.YtphlmbhjeoljoaaRows
import Derived.Test.YtphlmbhjeoljoaaWMore
import Derived.WalkKit
import Derived.ProofKit
import Derived.OpenShut
import Derived.ShutString
import Derived.ChangeOld
import Derived.Below
import Derived.SizedLaws
import Derived.Deep.LoopGhost
namespace Go.Proofs.Ytphlmbhjeoljoaa.fnExactMachineNew
open Go.ChangeShapes Go.WideShapes Go.ChangeAt Go.RowKit Go.Proofs.YtphlmbhjeoljoaaW.PrintWords Go.Proofs.YtphlmbhjeoljoaaW.PrintLast Go.Proofs.YtphlmbhjeoljoaaW.PrintMore
open Go.ChangeMaps (open_string shut_string)
set_option linter.unusedVariables false
set_option maxHeartbeats 8000000 in
set_option maxRecDepth 100000 in
theorem markPairS_nil (A : Option Addr) (c : Nat) (a : Int) (w : World) : Calls Try.prog 53 #[.slice A 0 c, .int .i64 a] w fun e w' => e = .returned (.int .i64 a) ∧ w' = w := by
  go_enter Try.func53, Try.ntmps53
  go_wp2
  refine wp_loop_once ?_
  go_wp2
  go_ret
  exact ⟨rfl, rfl⟩
set_option maxHeartbeats 8000000 in
set_option maxRecDepth 100000 in
theorem heldPairS_nil (A : Option Addr) (c : Nat) (a : Int) (w : World) : Calls Try.prog 54 #[.slice A 0 c, .int .i64 a] w fun e w' => e = .returned (.int .i64 a) ∧ w' = w := by
  go_enter Try.func54, Try.ntmps54
  go_wp2
  refine wp_loop_once ?_
  go_wp2
  go_ret
  exact ⟨rfl, rfl⟩
set_option maxHeartbeats 8000000 in
set_option maxRecDepth 100000 in
theorem eqPairS_nil (A A2 : Option Addr) (c c2 : Nat) (w : World) : Calls Try.prog 52 #[.slice A 0 c, .slice A2 0 c2] w fun e w' => e = .returned (.bool true) ∧ w' = w := by
  go_enter Try.func52, Try.ntmps52
  go_wp2
  refine wp_loop_once ?_
  go_wp2
  go_ret
  exact ⟨rfl, rfl⟩
set_option maxHeartbeats 8000000 in
set_option maxRecDepth 100000 in
theorem markIntS_nil (A : Option Addr) (c : Nat) (a : Int) (w : World) : Calls Try.prog 116 #[.slice A 0 c, .int .i64 a] w fun e w' => e = .returned (.int .i64 a) ∧ w' = w := by
  go_enter Try.func116, Try.ntmps116
  go_wp2
  refine wp_loop_once ?_
  go_wp2
  go_ret
  exact ⟨rfl, rfl⟩
set_option maxHeartbeats 8000000 in
set_option maxRecDepth 100000 in
theorem heldIntS_nil (A : Option Addr) (c : Nat) (a : Int) (w : World) : Calls Try.prog 118 #[.slice A 0 c, .int .i64 a] w fun e w' => e = .returned (.int .i64 a) ∧ w' = w := by
  go_enter Try.func118, Try.ntmps118
  go_wp2
  refine wp_loop_once ?_
  go_wp2
  go_ret
  exact ⟨rfl, rfl⟩
set_option maxHeartbeats 8000000 in
set_option maxRecDepth 100000 in
theorem eqIntS_nil (A A2 : Option Addr) (c c2 : Nat) (w : World) : Calls Try.prog 114 #[.slice A 0 c, .slice A2 0 c2] w fun e w' => e = .returned (.bool true) ∧ w' = w := by
  go_enter Try.func114, Try.ntmps114
  go_wp2
  refine wp_loop_once ?_
  go_wp2
  go_ret
  exact ⟨rfl, rfl⟩
set_option maxHeartbeats 8000000 in
set_option maxRecDepth 100000 in
theorem markTreeS_nil (A : Option Addr) (c : Nat) (a : Int) (w : World) : Calls Try.prog 117 #[.slice A 0 c, .int .i64 a] w fun e w' => e = .returned (.int .i64 a) ∧ w' = w := by
  go_enter Try.func117, Try.ntmps117
  go_wp2
  refine wp_loop_once ?_
  go_wp2
  go_ret
  exact ⟨rfl, rfl⟩
set_option maxHeartbeats 8000000 in
set_option maxRecDepth 100000 in
theorem heldTreeS_nil (A : Option Addr) (c : Nat) (a : Int) (w : World) : Calls Try.prog 119 #[.slice A 0 c, .int .i64 a] w fun e w' => e = .returned (.int .i64 a) ∧ w' = w := by
  go_enter Try.func119, Try.ntmps119
  go_wp2
  refine wp_loop_once ?_
  go_wp2
  go_ret
  exact ⟨rfl, rfl⟩
set_option maxHeartbeats 8000000 in
set_option maxRecDepth 100000 in
theorem eqTreeS_nil (A A2 : Option Addr) (c c2 : Nat) (w : World) : Calls Try.prog 115 #[.slice A 0 c, .slice A2 0 c2] w fun e w' => e = .returned (.bool true) ∧ w' = w := by
  go_enter Try.func115, Try.ntmps115
  go_wp2
  refine wp_loop_once ?_
  go_wp2
  go_ret
  exact ⟨rfl, rfl⟩
set_option maxHeartbeats 8000000 in
set_option maxRecDepth 100000 in
theorem markMsgS_nil (A : Option Addr) (c : Nat) (a : Int) (w : World) : Calls Try.prog 20 #[.slice A 0 c, .int .i64 a] w fun e w' => e = .returned (.int .i64 a) ∧ w' = w := by
  go_enter Try.func20, Try.ntmps20
  go_wp2
  refine wp_loop_once ?_
  go_wp2
  go_ret
  exact ⟨rfl, rfl⟩
set_option maxHeartbeats 8000000 in
set_option maxRecDepth 100000 in
theorem heldMsgS_nil (A : Option Addr) (c : Nat) (a : Int) (w : World) : Calls Try.prog 21 #[.slice A 0 c, .int .i64 a] w fun e w' => e = .returned (.int .i64 a) ∧ w' = w := by
  go_enter Try.func21, Try.ntmps21
  go_wp2
  refine wp_loop_once ?_
  go_wp2
  go_ret
  exact ⟨rfl, rfl⟩
set_option maxHeartbeats 8000000 in
set_option maxRecDepth 100000 in
theorem eqMsgS_nil (A A2 : Option Addr) (c c2 : Nat) (w : World) : Calls Try.prog 19 #[.slice A 0 c, .slice A2 0 c2] w fun e w' => e = .returned (.bool true) ∧ w' = w := by
  go_enter Try.func19, Try.ntmps19
  go_wp2
  refine wp_loop_once ?_
  go_wp2
  go_ret
  exact ⟨rfl, rfl⟩
set_option maxHeartbeats 8000000 in
set_option maxRecDepth 100000 in
theorem markDoneS_nil (A : Option Addr) (c : Nat) (a : Int) (w : World) : Calls Try.prog 160 #[.slice A 0 c, .int .i64 a] w fun e w' => e = .returned (.int .i64 a) ∧ w' = w := by
  go_enter Try.func160, Try.ntmps160
  go_wp2
  refine wp_loop_once ?_
  go_wp2
  go_ret
  exact ⟨rfl, rfl⟩
set_option maxHeartbeats 8000000 in
set_option maxRecDepth 100000 in
theorem heldDoneS_nil (A : Option Addr) (c : Nat) (a : Int) (w : World) : Calls Try.prog 161 #[.slice A 0 c, .int .i64 a] w fun e w' => e = .returned (.int .i64 a) ∧ w' = w := by
  go_enter Try.func161, Try.ntmps161
  go_wp2
  refine wp_loop_once ?_
  go_wp2
  go_ret
  exact ⟨rfl, rfl⟩
set_option maxHeartbeats 8000000 in
set_option maxRecDepth 100000 in
theorem eqDoneS_nil (A A2 : Option Addr) (c c2 : Nat) (w : World) : Calls Try.prog 159 #[.slice A 0 c, .slice A2 0 c2] w fun e w' => e = .returned (.bool true) ∧ w' = w := by
  go_enter Try.func159, Try.ntmps159
  go_wp2
  refine wp_loop_once ?_
  go_wp2
  go_ret
  exact ⟨rfl, rfl⟩
set_option maxHeartbeats 8000000 in
set_option maxRecDepth 100000 in
theorem markTree_nil (b : Bool) (A1 A2 A3 A4 : Option Addr) (c1 c2 c3 c4 : Nat) (a : Int) (w : World) : Calls Try.prog 32 #[.agg #[.bool b, .slice A1 0 c1, .slice A2 0 c2, .slice A3 0 c3, .slice A4 0 c4], .int .i64 a] w fun e w' => e = .returned (.int .i64 a) ∧ w' = (w.alloc (.cells #[.bool b, .slice A1 0 c1, .slice A2 0 c2, .slice A3 0 c3, .slice A4 0 c4] 46)) := by
  go_enter Try.func32, Try.ntmps32
  go_wp2_with (first | (go_at_call 53; refine (markPairS_nil _ _ _ _).mono ?_; rintro e w' ⟨rfl, rfl⟩) | (go_at_call 116; refine (markIntS_nil _ _ _ _).mono ?_; rintro e w' ⟨rfl, rfl⟩) | (go_at_call 117; refine (markTreeS_nil _ _ _ _).mono ?_; rintro e w' ⟨rfl, rfl⟩) | (go_at_call 20; refine (markMsgS_nil _ _ _ _).mono ?_; rintro e w' ⟨rfl, rfl⟩))
  all_goals go_ret
  all_goals exact ⟨rfl, rfl⟩
set_option maxHeartbeats 8000000 in
set_option maxRecDepth 100000 in
theorem heldTree_nil (b : Bool) (A1 A2 A3 A4 : Option Addr) (c1 c2 c3 c4 : Nat) (a : Int) (ha : 0 ≤ a) (w : World) : Calls Try.prog 33 #[.agg #[.bool b, .slice A1 0 c1, .slice A2 0 c2, .slice A3 0 c3, .slice A4 0 c4], .int .i64 a] w fun e w' => e = .returned (.int .i64 a) ∧ w' = (w.alloc (.cells #[.bool b, .slice A1 0 c1, .slice A2 0 c2, .slice A3 0 c3, .slice A4 0 c4] 46)) := by
  have hn : ¬ (a < 0) := by omega
  go_enter Try.func33, Try.ntmps33
  go_wp2_with (first | (go_at_call 54; refine (heldPairS_nil _ _ _ _).mono ?_; rintro e w' ⟨rfl, rfl⟩) | (go_at_call 118; refine (heldIntS_nil _ _ _ _).mono ?_; rintro e w' ⟨rfl, rfl⟩) | (go_at_call 119; refine (heldTreeS_nil _ _ _ _).mono ?_; rintro e w' ⟨rfl, rfl⟩) | (go_at_call 21; refine (heldMsgS_nil _ _ _ _).mono ?_; rintro e w' ⟨rfl, rfl⟩))
  all_goals go_ret
  all_goals exact ⟨rfl, rfl⟩
set_option maxHeartbeats 8000000 in
set_option maxRecDepth 100000 in
theorem eqTree_nil (b : Bool) (A1 A2 A3 A4 : Option Addr) (c1 c2 c3 c4 : Nat) (A1x A2x A3x A4x : Option Addr) (c1x c2x c3x c4x : Nat) (w : World) : Calls Try.prog 31 #[.agg #[.bool b, .slice A1 0 c1, .slice A2 0 c2, .slice A3 0 c3, .slice A4 0 c4], .agg #[.bool b, .slice A1x 0 c1x, .slice A2x 0 c2x, .slice A3x 0 c3x, .slice A4x 0 c4x]] w fun e w' => e = .returned (.bool true) ∧ w' = ((w.alloc (.cells #[.bool b, .slice A1 0 c1, .slice A2 0 c2, .slice A3 0 c3, .slice A4 0 c4] 46)).alloc (.cells #[.bool b, .slice A1x 0 c1x, .slice A2x 0 c2x, .slice A3x 0 c3x, .slice A4x 0 c4x] 46)) := by
  go_enter Try.func31, Try.ntmps31
  go_wp2_with (first | (go_at_call 52; refine (eqPairS_nil _ _ _ _ _).mono ?_; rintro e w' ⟨rfl, rfl⟩) | (go_at_call 114; refine (eqIntS_nil _ _ _ _ _).mono ?_; rintro e w' ⟨rfl, rfl⟩) | (go_at_call 115; refine (eqTreeS_nil _ _ _ _ _).mono ?_; rintro e w' ⟨rfl, rfl⟩) | (go_at_call 19; refine (eqMsgS_nil _ _ _ _ _).mono ?_; rintro e w' ⟨rfl, rfl⟩))
  all_goals go_ret
  all_goals exact ⟨rfl, rfl⟩
set_option maxHeartbeats 8000000 in
set_option maxRecDepth 100000 in
theorem markMachine_nil (b : Bool) (A1 A2 A3 A4 A5 : Option Addr) (c1 c2 c3 c4 c5 : Nat) (a : Int) (w : World) : Calls Try.prog 89 #[.agg #[.bool b, .slice A1 0 c1, .slice A2 0 c2, .slice A3 0 c3, .slice A4 0 c4, .slice A5 0 c5], .int .i64 a] w fun e w' => e = .returned (.int .i64 a) ∧ w' = ((w.alloc (.cells #[.bool b, .slice A1 0 c1, .slice A2 0 c2, .slice A3 0 c3, .slice A4 0 c4, .slice A5 0 c5] 113)).alloc (.cells #[.bool b, .slice A1 0 c1, .slice A2 0 c2, .slice A3 0 c3, .slice A4 0 c4] 46)) := by
  go_enter Try.func89, Try.ntmps89
  go_wp2_with (first | (go_at_call 160; refine (markDoneS_nil _ _ _ _).mono ?_; rintro e w' ⟨rfl, rfl⟩) | (go_at_call 32; refine (markTree_nil _ _ _ _ _ _ _ _ _ _ _).mono ?_; rintro e w' ⟨rfl, rfl⟩))
  all_goals go_ret
  all_goals exact ⟨rfl, rfl⟩
set_option maxHeartbeats 8000000 in
set_option maxRecDepth 100000 in
theorem heldMachine_nil (b : Bool) (A1 A2 A3 A4 A5 : Option Addr) (c1 c2 c3 c4 c5 : Nat) (a : Int) (ha : 0 ≤ a) (w : World) : Calls Try.prog 90 #[.agg #[.bool b, .slice A1 0 c1, .slice A2 0 c2, .slice A3 0 c3, .slice A4 0 c4, .slice A5 0 c5], .int .i64 a] w fun e w' => e = .returned (.int .i64 a) ∧ w' = ((w.alloc (.cells #[.bool b, .slice A1 0 c1, .slice A2 0 c2, .slice A3 0 c3, .slice A4 0 c4, .slice A5 0 c5] 113)).alloc (.cells #[.bool b, .slice A1 0 c1, .slice A2 0 c2, .slice A3 0 c3, .slice A4 0 c4] 46)) := by
  have hn : ¬ (a < 0) := by omega
  go_enter Try.func90, Try.ntmps90
  go_wp2_with (first | (go_at_call 161; refine (heldDoneS_nil _ _ _ _).mono ?_; rintro e w' ⟨rfl, rfl⟩) | (go_at_call 33; refine (heldTree_nil _ _ _ _ _ _ _ _ _ _ ha _).mono ?_; rintro e w' ⟨rfl, rfl⟩))
  all_goals go_ret
  all_goals exact ⟨rfl, rfl⟩
set_option maxHeartbeats 8000000 in
set_option maxRecDepth 100000 in
theorem eqMachine_nil (b : Bool) (A1 A2 A3 A4 A5 : Option Addr) (c1 c2 c3 c4 c5 : Nat) (A1x A2x A3x A4x A5x : Option Addr) (c1x c2x c3x c4x c5x : Nat) (w : World) : Calls Try.prog 88 #[.agg #[.bool b, .slice A1 0 c1, .slice A2 0 c2, .slice A3 0 c3, .slice A4 0 c4, .slice A5 0 c5], .agg #[.bool b, .slice A1x 0 c1x, .slice A2x 0 c2x, .slice A3x 0 c3x, .slice A4x 0 c4x, .slice A5x 0 c5x]] w fun e w' => e = .returned (.bool true) ∧ w' = ((((w.alloc (.cells #[.bool b, .slice A1 0 c1, .slice A2 0 c2, .slice A3 0 c3, .slice A4 0 c4, .slice A5 0 c5] 113)).alloc (.cells #[.bool b, .slice A1x 0 c1x, .slice A2x 0 c2x, .slice A3x 0 c3x, .slice A4x 0 c4x, .slice A5x 0 c5x] 113)).alloc (.cells #[.bool b, .slice A1 0 c1, .slice A2 0 c2, .slice A3 0 c3, .slice A4 0 c4] 46)).alloc (.cells #[.bool b, .slice A1x 0 c1x, .slice A2x 0 c2x, .slice A3x 0 c3x, .slice A4x 0 c4x] 46)) := by
  go_enter Try.func88, Try.ntmps88
  go_wp2_with (first | (go_at_call 159; refine (eqDoneS_nil _ _ _ _ _).mono ?_; rintro e w' ⟨rfl, rfl⟩) | (go_at_call 31; refine (eqTree_nil _ _ _ _ _ _ _ _ _ _ _ _ _ _ _ _ _ _).mono ?_; rintro e w' ⟨rfl, rfl⟩))
  all_goals go_ret
  all_goals exact ⟨rfl, rfl⟩
set_option maxHeartbeats 8000000 in
set_option maxRecDepth 100000 in
theorem specTreeNew_is (w : World) : Calls Try.prog 29 #[] w fun e w' => e = .returned (.agg #[.bool true, .slice none 0 0, .slice none 0 0, .slice none 0 0, .slice none 0 0]) ∧ w' = (w.alloc (.cells #[.bool true, .slice none 0 0, .slice none 0 0, .slice none 0 0, .slice none 0 0] 46)) := by
  go_enter Try.func29, Try.ntmps29
  go_wp2_with (first | fail)
  refine bodyPost_ret (results_cell_row rfl _ _ w.heap.size 46 (#[.bool true, .slice none 0 0, .slice none 0 0, .slice none 0 0, .slice none 0 0] : Array Value) (0, 0) _ rfl (heap_alloc_new w _) Try.underlying46 rfl (by kernel_rfl)) rfl ?_
  exact ⟨rfl, rfl⟩
set_option maxHeartbeats 8000000 in
set_option maxRecDepth 100000 in
theorem implTreeNew_is (w : World) : Calls Try.prog 30 #[] w fun e w' => e = .returned (.agg #[.bool true, .slice none 0 0, .slice none 0 0, .slice none 0 0, .slice none 0 0]) ∧ w' = (w.alloc (.cells #[.bool true, .slice none 0 0, .slice none 0 0, .slice none 0 0, .slice none 0 0] 46)) := by
  go_enter Try.func30, Try.ntmps30
  go_wp2_with (first | fail)
  refine bodyPost_ret (results_cell_row rfl _ _ w.heap.size 46 (#[.bool true, .slice none 0 0, .slice none 0 0, .slice none 0 0, .slice none 0 0] : Array Value) (0, 0) _ rfl (heap_alloc_new w _) Try.underlying46 rfl (by kernel_rfl)) rfl ?_
  exact ⟨rfl, rfl⟩
set_option maxHeartbeats 8000000 in
set_option maxRecDepth 100000 in
theorem specMachineNew_is (w : World) : Calls Try.prog 86 #[] w fun e w' => e = .returned (.agg #[.bool true, .slice none 0 0, .slice none 0 0, .slice none 0 0, .slice none 0 0, .slice none 0 0]) ∧ w' = ((w.alloc (.cells #[.bool true, .slice none 0 0, .slice none 0 0, .slice none 0 0, .slice none 0 0, .slice none 0 0] 113)).alloc (.cells #[.bool true, .slice none 0 0, .slice none 0 0, .slice none 0 0, .slice none 0 0] 46)) := by
  go_enter Try.func86, Try.ntmps86
  go_wp2_with (first | (go_at_call 29; refine (specTreeNew_is _).mono ?_; rintro e w' ⟨rfl, rfl⟩))
  refine bodyPost_ret (results_cell_row rfl _ _ w.heap.size 113 (#[.bool true, .slice none 0 0, .slice none 0 0, .slice none 0 0, .slice none 0 0, .slice none 0 0] : Array Value) (0, 0) _ rfl ((heap_alloc_old (w.alloc _) _ (by simp)).trans (heap_alloc_new w _)) Try.underlying113 rfl (by kernel_rfl)) rfl ?_
  exact ⟨rfl, rfl⟩
set_option maxHeartbeats 8000000 in
set_option maxRecDepth 100000 in
theorem implMachineNew_is (w : World) : Calls Try.prog 87 #[] w fun e w' => e = .returned (.agg #[.bool true, .slice none 0 0, .slice none 0 0, .slice none 0 0, .slice none 0 0, .slice none 0 0]) ∧ w' = ((w.alloc (.cells #[.bool true, .slice none 0 0, .slice none 0 0, .slice none 0 0, .slice none 0 0, .slice none 0 0] 113)).alloc (.cells #[.bool true, .slice none 0 0, .slice none 0 0, .slice none 0 0, .slice none 0 0] 46)) := by
  go_enter Try.func87, Try.ntmps87
  go_wp2_with (first | (go_at_call 30; refine (implTreeNew_is _).mono ?_; rintro e w' ⟨rfl, rfl⟩))
  refine bodyPost_ret (results_cell_row rfl _ _ w.heap.size 113 (#[.bool true, .slice none 0 0, .slice none 0 0, .slice none 0 0, .slice none 0 0, .slice none 0 0] : Array Value) (0, 0) _ rfl ((heap_alloc_old (w.alloc _) _ (by simp)).trans (heap_alloc_new w _)) Try.underlying113 rfl (by kernel_rfl)) rfl ?_
  exact ⟨rfl, rfl⟩
theorem implMachineNew_b  (w : World) : Calls Try.prog 87 #[] w fun e w' => e = .returned (.agg #[.bool true, .slice none 0 0, .slice none 0 0, .slice none 0 0, .slice none 0 0, .slice none 0 0]) ∧ Below w.heap.size w w' := by
  refine (implMachineNew_is w).mono ?_
  rintro e w' ⟨he, rfl⟩
  exact ⟨he, by repeat (first | exact Below.refl _ _ | apply below_alloc)⟩
theorem eqMachine_b (b : Bool) (A1 A2 A3 A4 A5 : Option Addr) (c1 c2 c3 c4 c5 : Nat) (A1x A2x A3x A4x A5x : Option Addr) (c1x c2x c3x c4x c5x : Nat) (w : World) : Calls Try.prog 88 #[.agg #[.bool b, .slice A1 0 c1, .slice A2 0 c2, .slice A3 0 c3, .slice A4 0 c4, .slice A5 0 c5], .agg #[.bool b, .slice A1x 0 c1x, .slice A2x 0 c2x, .slice A3x 0 c3x, .slice A4x 0 c4x, .slice A5x 0 c5x]] w fun e w' => e = .returned (.bool true) ∧ Below w.heap.size w w' := by
  refine (eqMachine_nil b A1 A2 A3 A4 A5 c1 c2 c3 c4 c5 A1x A2x A3x A4x A5x c1x c2x c3x c4x c5x w).mono ?_
  rintro e w' ⟨he, rfl⟩
  exact ⟨he, by repeat (first | exact Below.refl _ _ | apply below_alloc)⟩
theorem markMachine_b (b : Bool) (A1 A2 A3 A4 A5 : Option Addr) (c1 c2 c3 c4 c5 : Nat) (a : Int) (w : World) : Calls Try.prog 89 #[.agg #[.bool b, .slice A1 0 c1, .slice A2 0 c2, .slice A3 0 c3, .slice A4 0 c4, .slice A5 0 c5], .int .i64 a] w fun e w' => e = .returned (.int .i64 a) ∧ Below w.heap.size w w' := by
  refine (markMachine_nil b A1 A2 A3 A4 A5 c1 c2 c3 c4 c5 a w).mono ?_
  rintro e w' ⟨he, rfl⟩
  exact ⟨he, by repeat (first | exact Below.refl _ _ | apply below_alloc)⟩
theorem heldMachine_b (b : Bool) (A1 A2 A3 A4 A5 : Option Addr) (c1 c2 c3 c4 c5 : Nat) (a : Int) (ha : 0 ≤ a) (w : World) : Calls Try.prog 90 #[.agg #[.bool b, .slice A1 0 c1, .slice A2 0 c2, .slice A3 0 c3, .slice A4 0 c4, .slice A5 0 c5], .int .i64 a] w fun e w' => e = .returned (.int .i64 a) ∧ Below w.heap.size w w' := by
  refine (heldMachine_nil b A1 A2 A3 A4 A5 c1 c2 c3 c4 c5 a ha w).mono ?_
  rintro e w' ⟨he, rfl⟩
  exact ⟨he, by repeat (first | exact Below.refl _ _ | apply below_alloc)⟩
set_option maxHeartbeats 8000000 in
set_option maxRecDepth 100000 in
theorem walk (w : World) : Calls Try.prog 14 #[] w fun e w' => e = .returned (.bool true) ∧ Below w.heap.size w w' := by
  have HB := Aside0.mk (Below.refl w.heap.size w)
  go_enter Try.func14, Try.ntmps14
  go_wp2_with (first | (go_at_call 86; refine (specMachineNew_is _).mono ?_; rintro e w' ⟨rfl, rfl⟩) | (go_at_call 87; (fail_if_success (have := f0)); refine (implMachineNew_is _).mono ?_; rintro e w' ⟨rfl, rfl⟩) | (go_at_call 87; refine (implMachineNew_b _).mono ?_; rintro e w' ⟨rfl, hb⟩; have nb := Aside0.mk (below_step (show Below w.heap.size w _ from by repeat (first | exact HB.out | apply below_alloc | apply pw_below_drewN | apply below_drew1)) hb); clear HB; have HB := nb; clear nb; (first | ((fail_if_success (have := f0)); obtain ⟨f0, f1, f2, f3, f4, f5, f6, f7, f8, f9, f10, f11⟩ : w'.cell? ⟨w.heap.size + 1 + 1, 0, none⟩ = some (.bool true) ∧ w'.cell? ⟨w.heap.size + 1 + 1, 1, none⟩ = some (.slice none 0 0) ∧ w'.cell? ⟨w.heap.size + 1 + 1, 2, none⟩ = some (.slice none 0 0) ∧ w'.cell? ⟨w.heap.size + 1 + 1, 3, none⟩ = some (.slice none 0 0) ∧ w'.cell? ⟨w.heap.size + 1 + 1, 4, none⟩ = some (.slice none 0 0) ∧ w'.cell? ⟨w.heap.size + 1 + 1, 5, none⟩ = some (.slice none 0 0) ∧ w'.cell? ⟨w.heap.size + 1 + 1 + 1 + 1 + 1, 0, none⟩ = some (.bool true) ∧ w'.cell? ⟨w.heap.size + 1 + 1 + 1 + 1 + 1, 1, none⟩ = some (.slice none 0 0) ∧ w'.cell? ⟨w.heap.size + 1 + 1 + 1 + 1 + 1, 2, none⟩ = some (.slice none 0 0) ∧ w'.cell? ⟨w.heap.size + 1 + 1 + 1 + 1 + 1, 3, none⟩ = some (.slice none 0 0) ∧ w'.cell? ⟨w.heap.size + 1 + 1 + 1 + 1 + 1, 4, none⟩ = some (.slice none 0 0) ∧ w'.cell? ⟨w.heap.size + 1 + 1 + 1 + 1 + 1, 5, none⟩ = some (.slice none 0 0) := by (refine ⟨?_, ?_, ?_, ?_, ?_, ?_, ?_, ?_, ?_, ?_, ?_, ?_⟩ <;> exact (hb.cell (by simp)).trans (by go_simp))) | (replace f0 := pw_cell_below hb (by first | exact f0 | exact (pw_cell_below (below_alloc (Below.refl _ _) _) f0)); replace f1 := pw_cell_below hb (by first | exact f1 | exact (pw_cell_below (below_alloc (Below.refl _ _) _) f1)); replace f2 := pw_cell_below hb (by first | exact f2 | exact (pw_cell_below (below_alloc (Below.refl _ _) _) f2)); replace f3 := pw_cell_below hb (by first | exact f3 | exact (pw_cell_below (below_alloc (Below.refl _ _) _) f3)); replace f4 := pw_cell_below hb (by first | exact f4 | exact (pw_cell_below (below_alloc (Below.refl _ _) _) f4)); replace f5 := pw_cell_below hb (by first | exact f5 | exact (pw_cell_below (below_alloc (Below.refl _ _) _) f5)); replace f6 := pw_cell_below hb (by first | exact f6 | exact (pw_cell_below (below_alloc (Below.refl _ _) _) f6)); replace f7 := pw_cell_below hb (by first | exact f7 | exact (pw_cell_below (below_alloc (Below.refl _ _) _) f7)); replace f8 := pw_cell_below hb (by first | exact f8 | exact (pw_cell_below (below_alloc (Below.refl _ _) _) f8)); replace f9 := pw_cell_below hb (by first | exact f9 | exact (pw_cell_below (below_alloc (Below.refl _ _) _) f9)); replace f10 := pw_cell_below hb (by first | exact f10 | exact (pw_cell_below (below_alloc (Below.refl _ _) _) f10)); replace f11 := pw_cell_below hb (by first | exact f11 | exact (pw_cell_below (below_alloc (Below.refl _ _) _) f11)); have lt1 : w.heap.size + 1 + 1 < w'.heap.size := World.block_lt_of_cell? _ _ f0; have lt2 : w.heap.size + 1 + 1 + 1 + 1 + 1 < w'.heap.size := World.block_lt_of_cell? _ _ f6; have ne1 : ¬ (w.heap.size + 1 + 1 = w'.heap.size) := (by omega); have ne2 : ¬ (w.heap.size + 1 + 1 + 1 + 1 + 1 = w'.heap.size) := (by omega))); clear hb) | (go_at_call 88; refine (eqMachine_b _ _ _ _ _ _ _ _ _ _ _ _ _ _ _ _ _ _ _ _ _ _).mono ?_; rintro e w' ⟨rfl, hb⟩; have nb := Aside0.mk (below_step (show Below w.heap.size w _ from by repeat (first | exact HB.out | apply below_alloc | apply pw_below_drewN | apply below_drew1)) hb); clear HB; have HB := nb; clear nb; (first | ((fail_if_success (have := f0)); obtain ⟨f0, f1, f2, f3, f4, f5, f6, f7, f8, f9, f10, f11⟩ : w'.cell? ⟨w.heap.size + 1 + 1, 0, none⟩ = some (.bool true) ∧ w'.cell? ⟨w.heap.size + 1 + 1, 1, none⟩ = some (.slice none 0 0) ∧ w'.cell? ⟨w.heap.size + 1 + 1, 2, none⟩ = some (.slice none 0 0) ∧ w'.cell? ⟨w.heap.size + 1 + 1, 3, none⟩ = some (.slice none 0 0) ∧ w'.cell? ⟨w.heap.size + 1 + 1, 4, none⟩ = some (.slice none 0 0) ∧ w'.cell? ⟨w.heap.size + 1 + 1, 5, none⟩ = some (.slice none 0 0) ∧ w'.cell? ⟨w.heap.size + 1 + 1 + 1 + 1 + 1, 0, none⟩ = some (.bool true) ∧ w'.cell? ⟨w.heap.size + 1 + 1 + 1 + 1 + 1, 1, none⟩ = some (.slice none 0 0) ∧ w'.cell? ⟨w.heap.size + 1 + 1 + 1 + 1 + 1, 2, none⟩ = some (.slice none 0 0) ∧ w'.cell? ⟨w.heap.size + 1 + 1 + 1 + 1 + 1, 3, none⟩ = some (.slice none 0 0) ∧ w'.cell? ⟨w.heap.size + 1 + 1 + 1 + 1 + 1, 4, none⟩ = some (.slice none 0 0) ∧ w'.cell? ⟨w.heap.size + 1 + 1 + 1 + 1 + 1, 5, none⟩ = some (.slice none 0 0) := by (refine ⟨?_, ?_, ?_, ?_, ?_, ?_, ?_, ?_, ?_, ?_, ?_, ?_⟩ <;> exact (hb.cell (by simp)).trans (by go_simp))) | (replace f0 := pw_cell_below hb (by first | exact f0 | exact (pw_cell_below (below_alloc (Below.refl _ _) _) f0)); replace f1 := pw_cell_below hb (by first | exact f1 | exact (pw_cell_below (below_alloc (Below.refl _ _) _) f1)); replace f2 := pw_cell_below hb (by first | exact f2 | exact (pw_cell_below (below_alloc (Below.refl _ _) _) f2)); replace f3 := pw_cell_below hb (by first | exact f3 | exact (pw_cell_below (below_alloc (Below.refl _ _) _) f3)); replace f4 := pw_cell_below hb (by first | exact f4 | exact (pw_cell_below (below_alloc (Below.refl _ _) _) f4)); replace f5 := pw_cell_below hb (by first | exact f5 | exact (pw_cell_below (below_alloc (Below.refl _ _) _) f5)); replace f6 := pw_cell_below hb (by first | exact f6 | exact (pw_cell_below (below_alloc (Below.refl _ _) _) f6)); replace f7 := pw_cell_below hb (by first | exact f7 | exact (pw_cell_below (below_alloc (Below.refl _ _) _) f7)); replace f8 := pw_cell_below hb (by first | exact f8 | exact (pw_cell_below (below_alloc (Below.refl _ _) _) f8)); replace f9 := pw_cell_below hb (by first | exact f9 | exact (pw_cell_below (below_alloc (Below.refl _ _) _) f9)); replace f10 := pw_cell_below hb (by first | exact f10 | exact (pw_cell_below (below_alloc (Below.refl _ _) _) f10)); replace f11 := pw_cell_below hb (by first | exact f11 | exact (pw_cell_below (below_alloc (Below.refl _ _) _) f11)); have lt1 : w.heap.size + 1 + 1 < w'.heap.size := World.block_lt_of_cell? _ _ f0; have lt2 : w.heap.size + 1 + 1 + 1 + 1 + 1 < w'.heap.size := World.block_lt_of_cell? _ _ f6; have ne1 : ¬ (w.heap.size + 1 + 1 = w'.heap.size) := (by omega); have ne2 : ¬ (w.heap.size + 1 + 1 + 1 + 1 + 1 = w'.heap.size) := (by omega))); clear hb) | (go_at_call 89; refine (markMachine_b _ _ _ _ _ _ _ _ _ _ _ _ _).mono ?_; rintro e w' ⟨rfl, hb⟩; have nb := Aside0.mk (below_step (show Below w.heap.size w _ from by repeat (first | exact HB.out | apply below_alloc | apply pw_below_drewN | apply below_drew1)) hb); clear HB; have HB := nb; clear nb; (first | ((fail_if_success (have := f0)); obtain ⟨f0, f1, f2, f3, f4, f5, f6, f7, f8, f9, f10, f11⟩ : w'.cell? ⟨w.heap.size + 1 + 1, 0, none⟩ = some (.bool true) ∧ w'.cell? ⟨w.heap.size + 1 + 1, 1, none⟩ = some (.slice none 0 0) ∧ w'.cell? ⟨w.heap.size + 1 + 1, 2, none⟩ = some (.slice none 0 0) ∧ w'.cell? ⟨w.heap.size + 1 + 1, 3, none⟩ = some (.slice none 0 0) ∧ w'.cell? ⟨w.heap.size + 1 + 1, 4, none⟩ = some (.slice none 0 0) ∧ w'.cell? ⟨w.heap.size + 1 + 1, 5, none⟩ = some (.slice none 0 0) ∧ w'.cell? ⟨w.heap.size + 1 + 1 + 1 + 1 + 1, 0, none⟩ = some (.bool true) ∧ w'.cell? ⟨w.heap.size + 1 + 1 + 1 + 1 + 1, 1, none⟩ = some (.slice none 0 0) ∧ w'.cell? ⟨w.heap.size + 1 + 1 + 1 + 1 + 1, 2, none⟩ = some (.slice none 0 0) ∧ w'.cell? ⟨w.heap.size + 1 + 1 + 1 + 1 + 1, 3, none⟩ = some (.slice none 0 0) ∧ w'.cell? ⟨w.heap.size + 1 + 1 + 1 + 1 + 1, 4, none⟩ = some (.slice none 0 0) ∧ w'.cell? ⟨w.heap.size + 1 + 1 + 1 + 1 + 1, 5, none⟩ = some (.slice none 0 0) := by (refine ⟨?_, ?_, ?_, ?_, ?_, ?_, ?_, ?_, ?_, ?_, ?_, ?_⟩ <;> exact (hb.cell (by simp)).trans (by go_simp))) | (replace f0 := pw_cell_below hb (by first | exact f0 | exact (pw_cell_below (below_alloc (Below.refl _ _) _) f0)); replace f1 := pw_cell_below hb (by first | exact f1 | exact (pw_cell_below (below_alloc (Below.refl _ _) _) f1)); replace f2 := pw_cell_below hb (by first | exact f2 | exact (pw_cell_below (below_alloc (Below.refl _ _) _) f2)); replace f3 := pw_cell_below hb (by first | exact f3 | exact (pw_cell_below (below_alloc (Below.refl _ _) _) f3)); replace f4 := pw_cell_below hb (by first | exact f4 | exact (pw_cell_below (below_alloc (Below.refl _ _) _) f4)); replace f5 := pw_cell_below hb (by first | exact f5 | exact (pw_cell_below (below_alloc (Below.refl _ _) _) f5)); replace f6 := pw_cell_below hb (by first | exact f6 | exact (pw_cell_below (below_alloc (Below.refl _ _) _) f6)); replace f7 := pw_cell_below hb (by first | exact f7 | exact (pw_cell_below (below_alloc (Below.refl _ _) _) f7)); replace f8 := pw_cell_below hb (by first | exact f8 | exact (pw_cell_below (below_alloc (Below.refl _ _) _) f8)); replace f9 := pw_cell_below hb (by first | exact f9 | exact (pw_cell_below (below_alloc (Below.refl _ _) _) f9)); replace f10 := pw_cell_below hb (by first | exact f10 | exact (pw_cell_below (below_alloc (Below.refl _ _) _) f10)); replace f11 := pw_cell_below hb (by first | exact f11 | exact (pw_cell_below (below_alloc (Below.refl _ _) _) f11)); have lt1 : w.heap.size + 1 + 1 < w'.heap.size := World.block_lt_of_cell? _ _ f0; have lt2 : w.heap.size + 1 + 1 + 1 + 1 + 1 < w'.heap.size := World.block_lt_of_cell? _ _ f6; have ne1 : ¬ (w.heap.size + 1 + 1 = w'.heap.size) := (by omega); have ne2 : ¬ (w.heap.size + 1 + 1 + 1 + 1 + 1 = w'.heap.size) := (by omega))); clear hb) | (go_at_call 90; refine (heldMachine_b _ _ _ _ _ _ _ _ _ _ _ _ (by decide) _).mono ?_; rintro e w' ⟨rfl, hb⟩; have nb := Aside0.mk (below_step (show Below w.heap.size w _ from by repeat (first | exact HB.out | apply below_alloc | apply pw_below_drewN | apply below_drew1)) hb); clear HB; have HB := nb; clear nb; (first | ((fail_if_success (have := f0)); obtain ⟨f0, f1, f2, f3, f4, f5, f6, f7, f8, f9, f10, f11⟩ : w'.cell? ⟨w.heap.size + 1 + 1, 0, none⟩ = some (.bool true) ∧ w'.cell? ⟨w.heap.size + 1 + 1, 1, none⟩ = some (.slice none 0 0) ∧ w'.cell? ⟨w.heap.size + 1 + 1, 2, none⟩ = some (.slice none 0 0) ∧ w'.cell? ⟨w.heap.size + 1 + 1, 3, none⟩ = some (.slice none 0 0) ∧ w'.cell? ⟨w.heap.size + 1 + 1, 4, none⟩ = some (.slice none 0 0) ∧ w'.cell? ⟨w.heap.size + 1 + 1, 5, none⟩ = some (.slice none 0 0) ∧ w'.cell? ⟨w.heap.size + 1 + 1 + 1 + 1 + 1, 0, none⟩ = some (.bool true) ∧ w'.cell? ⟨w.heap.size + 1 + 1 + 1 + 1 + 1, 1, none⟩ = some (.slice none 0 0) ∧ w'.cell? ⟨w.heap.size + 1 + 1 + 1 + 1 + 1, 2, none⟩ = some (.slice none 0 0) ∧ w'.cell? ⟨w.heap.size + 1 + 1 + 1 + 1 + 1, 3, none⟩ = some (.slice none 0 0) ∧ w'.cell? ⟨w.heap.size + 1 + 1 + 1 + 1 + 1, 4, none⟩ = some (.slice none 0 0) ∧ w'.cell? ⟨w.heap.size + 1 + 1 + 1 + 1 + 1, 5, none⟩ = some (.slice none 0 0) := by (refine ⟨?_, ?_, ?_, ?_, ?_, ?_, ?_, ?_, ?_, ?_, ?_, ?_⟩ <;> exact (hb.cell (by simp)).trans (by go_simp))) | (replace f0 := pw_cell_below hb (by first | exact f0 | exact (pw_cell_below (below_alloc (Below.refl _ _) _) f0)); replace f1 := pw_cell_below hb (by first | exact f1 | exact (pw_cell_below (below_alloc (Below.refl _ _) _) f1)); replace f2 := pw_cell_below hb (by first | exact f2 | exact (pw_cell_below (below_alloc (Below.refl _ _) _) f2)); replace f3 := pw_cell_below hb (by first | exact f3 | exact (pw_cell_below (below_alloc (Below.refl _ _) _) f3)); replace f4 := pw_cell_below hb (by first | exact f4 | exact (pw_cell_below (below_alloc (Below.refl _ _) _) f4)); replace f5 := pw_cell_below hb (by first | exact f5 | exact (pw_cell_below (below_alloc (Below.refl _ _) _) f5)); replace f6 := pw_cell_below hb (by first | exact f6 | exact (pw_cell_below (below_alloc (Below.refl _ _) _) f6)); replace f7 := pw_cell_below hb (by first | exact f7 | exact (pw_cell_below (below_alloc (Below.refl _ _) _) f7)); replace f8 := pw_cell_below hb (by first | exact f8 | exact (pw_cell_below (below_alloc (Below.refl _ _) _) f8)); replace f9 := pw_cell_below hb (by first | exact f9 | exact (pw_cell_below (below_alloc (Below.refl _ _) _) f9)); replace f10 := pw_cell_below hb (by first | exact f10 | exact (pw_cell_below (below_alloc (Below.refl _ _) _) f10)); replace f11 := pw_cell_below hb (by first | exact f11 | exact (pw_cell_below (below_alloc (Below.refl _ _) _) f11)); have lt1 : w.heap.size + 1 + 1 < w'.heap.size := World.block_lt_of_cell? _ _ f0; have lt2 : w.heap.size + 1 + 1 + 1 + 1 + 1 < w'.heap.size := World.block_lt_of_cell? _ _ f6; have ne1 : ¬ (w.heap.size + 1 + 1 = w'.heap.size) := (by omega); have ne2 : ¬ (w.heap.size + 1 + 1 + 1 + 1 + 1 = w'.heap.size) := (by omega))); clear hb))
  all_goals go_ret
  all_goals exact ⟨rfl, by repeat (first | exact HB.out | apply below_alloc | apply pw_below_drewN | apply below_drew1)⟩
theorem own : ownKnob Try.prog.godebug = none := by kernel_rfl
set_option maxRecDepth 100000 in
theorem lifted (os : Os) (started : os.Started) (H : Type) (enc : TypeId × Value → H) :
    ReturnsInHanded {} Try.checked os 14 .any (Rows.fnExactMachineNewSpec.pre6 enc Try.prog Try.f14 Rows.fnExactMachineNewRow.domain false) (Rows.fnExactMachineNewSpec.post enc Try.prog Try.f14 false true false false) := by
  refine returnsInHanded_of_change_sized (C := Try.checked) own started (by kernel_rfl) Try.func14
    (ChangeSpec.witness6 (enc := enc) (C := Try.checked) false ⟨#[], #[], []⟩ 8 (by kernel_rfl) (by kernel_rfl) (by kernel_rfl) (by kernel_rfl)) ?_
  intro W base args ds gs before hval0 hW hcnd hsz0 _
  have hW' := hW
  obtain ⟨p, q, hA0, hV, rfl, hfz, hnd⟩ := hW
  have hA : DataW.TrodAll enc Try.prog W 0 (fun _ => true) true Try.f14.params.toList args.toList ds p := hA0
  rw [Try.params14] at hA
  obtain ⟨rfl, rfl, rfl⟩ := trodAll_none hA
  obtain ⟨rfl, rfl⟩ := trodVars_none hV
  clear hA0 hval0 hsz0
  refine (walk W).mono fun e W' ⟨he, bel⟩ => ?_
  subst he
  exact ⟨_, rfl, _, _, _, [], _, [], hW', trodAll_mk1 (shut_bool Try.underlying4 _), trodAll_mk0, rfl, bel.frame _, fun h => by cases h⟩
theorem over : Rows.fnExactMachineNewRow.holds Try.pinned (OpenSpec.ofChange Rows.fnExactMachineNewSpec) :=
  OpenClaim.holds_of_wide 14 Try.f14 rfl rfl rfl rfl rfl rfl rfl ⟨rfl, rfl, rfl, rfl, rfl⟩ rfl rfl rfl rfl rfl (by kernel_rfl) Try.func14 (by kernel_rfl)
    (of_decide_eq_true (by kernel_rfl)) (by unfold Func.isWrapper; first | (rw [if_pos (by decide +kernel)]; kernel_rfl) | (rw [if_neg (by decide +kernel)]; exact ⟨rfl, rfl⟩))
    (fun os started H enc _ => lifted os started H enc)
theorem proved : Rows.FnExactMachineNewSaid := over
#print axioms proved
end Go.Proofs.Ytphlmbhjeoljoaa.fnExactMachineNew
namespace Go.Proofs.Ytphlmbhjeoljoaa
/-- The row, under a short name, for the claim. -/
theorem fnExactMachineNew_holds : Rows.FnExactMachineNewSaid := fnExactMachineNew.proved
end Go.Proofs.Ytphlmbhjeoljoaa
