/-
  No cell of these rows narrows 'for every input' (looked for: loops, veiled, ifaces, maps, wideKeys, modest, calm, conditions, laid).
  DERIVED. THE GIVEN ROWS OF THIS SEAT. 12 by the template 'for every input the law returns true; each argument reads behind the call as it read before'; 0 by the template 'total and deterministic' (their statements: YtphlmbhjeoljoaaTotals.lean).
  GIVEN WITH THE SEED: the statements are not yours to turn. If you find one false, say at which input.
  Laid BY PROGRAM, IN A SANDBOX (cutbox-rows.mjs): the forced cells as the released guide's own fill.sh prints them over the translation 4670b8baae020420… (all of the seat's roots in one cut). By AI agents, Wed Nov 11 2026. No macro, syntax, notation, axiom, sorry.
-/
import Derived.Test.YtphlmbhjeoljoaaChecked
import GoSem.Claim
import GoSem.ClaimJoined
import GoSem.ClaimMapViews
import Derived.JoinedTies
import Derived.KernelRfl
namespace Go.Proofs.Ytphlmbhjeoljoaa
/- THE CELL 'sum', in the pinned program and in every row, IS THE sha256 OF THE DUMP (.gsa) THAT YtphlmbhjeoljoaaProg.lean LOADS. Nothing in Lean hashes anything: it is a label: what it is worth is what the hold of that sum in a sandbox is worth. -/
noncomputable def Try.pinned : Pinned := { name := "ytphlmbhjeoljoaa", sum := "4670b8baae0204209156cc7387244f8181d913bdbcc43cb7d42a310f9441df55", checked := Try.checked }
namespace Rows
def none {H : Type} : Left H := { results := [], args := [] }

/-- 'laws.FnExactShrink': WHATEVER THE INPUT: true; the input reads as it did. -/
def fnExactShrinkSpec : ChangeSpec := { name := "fnExactShrink", fn := fun _ => fun
  | [d] => { results := [.lit (.bool true)], args := [d] }
  | _ => none }
def fnExactShrinkRow : OpenClaim := { program := "ytphlmbhjeoljoaa", sum := "4670b8baae0204209156cc7387244f8181d913bdbcc43cb7d42a310f9441df55", func := "loop.example/g00234/laws.FnExactShrink", spec := "fnExactShrink", unfollowed := true, recurses := true, apart := false }
def FnExactShrinkSaid : Prop := fnExactShrinkRow.holds Try.pinned (OpenSpec.ofChange fnExactShrinkSpec)

/-- ITS FALSE NEIGHBOUR: 'it returns false'. Refute it at one input. -/
def fnExactShrinkWrong : ChangeSpec := { name := "fnExactShrink", fn := fun _ => fun
  | [d] => { results := [.lit (.bool false)], args := [d] }
  | _ => none }
def FnExactShrinkWrongFalsely : Prop := fnExactShrinkRow.holds Try.pinned (OpenSpec.ofChange fnExactShrinkWrong)

/-- 'laws.FnExactLogCut': WHATEVER THE INPUT: true; the input reads as it did. -/
def fnExactLogCutSpec : ChangeSpec := { name := "fnExactLogCut", fn := fun _ => fun
  | [d1, d2] => { results := [.lit (.bool true)], args := [d1, d2] }
  | _ => none }
def fnExactLogCutRow : OpenClaim := { program := "ytphlmbhjeoljoaa", sum := "4670b8baae0204209156cc7387244f8181d913bdbcc43cb7d42a310f9441df55", func := "loop.example/g00234/laws.FnExactLogCut", spec := "fnExactLogCut", apart := false }
def FnExactLogCutSaid : Prop := fnExactLogCutRow.holds Try.pinned (OpenSpec.ofChange fnExactLogCutSpec)

/-- ITS FALSE NEIGHBOUR: 'it returns false'. Refute it at one input. -/
def fnExactLogCutWrong : ChangeSpec := { name := "fnExactLogCut", fn := fun _ => fun
  | [d1, d2] => { results := [.lit (.bool false)], args := [d1, d2] }
  | _ => none }
def FnExactLogCutWrongFalsely : Prop := fnExactLogCutRow.holds Try.pinned (OpenSpec.ofChange fnExactLogCutWrong)

/-- 'laws.FnExactTreeNew': WHATEVER THE INPUT: true; the input reads as it did. -/
def fnExactTreeNewSpec : ChangeSpec := { name := "fnExactTreeNew", fn := fun _ => fun
  | [] => { results := [.lit (.bool true)], args := [] }
  | _ => none }
def fnExactTreeNewRow : OpenClaim := { program := "ytphlmbhjeoljoaa", sum := "4670b8baae0204209156cc7387244f8181d913bdbcc43cb7d42a310f9441df55", func := "loop.example/g00234/laws.FnExactTreeNew", spec := "fnExactTreeNew", recurses := true, apart := false }
def FnExactTreeNewSaid : Prop := fnExactTreeNewRow.holds Try.pinned (OpenSpec.ofChange fnExactTreeNewSpec)

/-- ITS FALSE NEIGHBOUR: 'it returns false'. Refute it at one input. -/
def fnExactTreeNewWrong : ChangeSpec := { name := "fnExactTreeNew", fn := fun _ => fun
  | [] => { results := [.lit (.bool false)], args := [] }
  | _ => none }
def FnExactTreeNewWrongFalsely : Prop := fnExactTreeNewRow.holds Try.pinned (OpenSpec.ofChange fnExactTreeNewWrong)

/-- 'laws.FnLogCut': WHATEVER THE INPUT: true; the input reads as it did. -/
def fnLogCutSpec : ChangeSpec := { name := "fnLogCut", fn := fun _ => fun
  | [d] => { results := [.lit (.bool true)], args := [d] }
  | _ => none }
def fnLogCutRow : OpenClaim := { program := "ytphlmbhjeoljoaa", sum := "4670b8baae0204209156cc7387244f8181d913bdbcc43cb7d42a310f9441df55", func := "loop.example/g00234/laws.FnLogCut", spec := "fnLogCut", apart := false }
def FnLogCutSaid : Prop := fnLogCutRow.holds Try.pinned (OpenSpec.ofChange fnLogCutSpec)

/-- ITS FALSE NEIGHBOUR: 'it returns false'. Refute it at one input. -/
def fnLogCutWrong : ChangeSpec := { name := "fnLogCut", fn := fun _ => fun
  | [d] => { results := [.lit (.bool false)], args := [d] }
  | _ => none }
def FnLogCutWrongFalsely : Prop := fnLogCutRow.holds Try.pinned (OpenSpec.ofChange fnLogCutWrong)

/-- 'laws.FnExactMapDo': WHATEVER THE INPUT: true; the input reads as it did. -/
def fnExactMapDoSpec : ChangeSpec := { name := "fnExactMapDo", fn := fun _ => fun
  | [d1, d2] => { results := [.lit (.bool true)], args := [d1, d2] }
  | _ => none }
def fnExactMapDoRow : OpenClaim := { program := "ytphlmbhjeoljoaa", sum := "4670b8baae0204209156cc7387244f8181d913bdbcc43cb7d42a310f9441df55", func := "loop.example/g00234/laws.FnExactMapDo", spec := "fnExactMapDo", inPlace := ["slices.overlaps[loop.example/g00234/impl.Pair]"], unfollowed := true, recurses := true, apart := false }
def FnExactMapDoSaid : Prop := fnExactMapDoRow.holds Try.pinned (OpenSpec.ofChange fnExactMapDoSpec)

/-- ITS FALSE NEIGHBOUR: 'it returns false'. Refute it at one input. -/
def fnExactMapDoWrong : ChangeSpec := { name := "fnExactMapDo", fn := fun _ => fun
  | [d1, d2] => { results := [.lit (.bool false)], args := [d1, d2] }
  | _ => none }
def FnExactMapDoWrongFalsely : Prop := fnExactMapDoRow.holds Try.pinned (OpenSpec.ofChange fnExactMapDoWrong)

/-- 'laws.FnMapped': WHATEVER THE INPUT: true; the input reads as it did. -/
def fnMappedSpec : ChangeSpec := { name := "fnMapped", fn := fun _ => fun
  | [d] => { results := [.lit (.bool true)], args := [d] }
  | _ => none }
def fnMappedRow : OpenClaim := { program := "ytphlmbhjeoljoaa", sum := "4670b8baae0204209156cc7387244f8181d913bdbcc43cb7d42a310f9441df55", func := "loop.example/g00234/laws.FnMapped", spec := "fnMapped", inPlace := ["slices.overlaps[loop.example/g00234/impl.Pair]"], unfollowed := true, recurses := true, apart := false }
def FnMappedSaid : Prop := fnMappedRow.holds Try.pinned (OpenSpec.ofChange fnMappedSpec)

/-- ITS FALSE NEIGHBOUR: 'it returns false'. Refute it at one input. -/
def fnMappedWrong : ChangeSpec := { name := "fnMapped", fn := fun _ => fun
  | [d] => { results := [.lit (.bool false)], args := [d] }
  | _ => none }
def FnMappedWrongFalsely : Prop := fnMappedRow.holds Try.pinned (OpenSpec.ofChange fnMappedWrong)

/-- 'laws.FnExactMapAll': WHATEVER THE INPUT: true; the input reads as it did. -/
def fnExactMapAllSpec : ChangeSpec := { name := "fnExactMapAll", fn := fun _ => fun
  | [d1, d2] => { results := [.lit (.bool true)], args := [d1, d2] }
  | _ => none }
def fnExactMapAllRow : OpenClaim := { program := "ytphlmbhjeoljoaa", sum := "4670b8baae0204209156cc7387244f8181d913bdbcc43cb7d42a310f9441df55", func := "loop.example/g00234/laws.FnExactMapAll", spec := "fnExactMapAll", inPlace := ["slices.overlaps[loop.example/g00234/impl.Pair]"], unfollowed := true, recurses := true, apart := false }
def FnExactMapAllSaid : Prop := fnExactMapAllRow.holds Try.pinned (OpenSpec.ofChange fnExactMapAllSpec)

/-- ITS FALSE NEIGHBOUR: 'it returns false'. Refute it at one input. -/
def fnExactMapAllWrong : ChangeSpec := { name := "fnExactMapAll", fn := fun _ => fun
  | [d1, d2] => { results := [.lit (.bool false)], args := [d1, d2] }
  | _ => none }
def FnExactMapAllWrongFalsely : Prop := fnExactMapAllRow.holds Try.pinned (OpenSpec.ofChange fnExactMapAllWrong)

/-- 'laws.FnMapAll': WHATEVER THE INPUT: true; the input reads as it did. -/
def fnMapAllSpec : ChangeSpec := { name := "fnMapAll", fn := fun _ => fun
  | [d] => { results := [.lit (.bool true)], args := [d] }
  | _ => none }
def fnMapAllRow : OpenClaim := { program := "ytphlmbhjeoljoaa", sum := "4670b8baae0204209156cc7387244f8181d913bdbcc43cb7d42a310f9441df55", func := "loop.example/g00234/laws.FnMapAll", spec := "fnMapAll", inPlace := ["slices.overlaps[loop.example/g00234/impl.Pair]"], unfollowed := true, recurses := true, apart := false }
def FnMapAllSaid : Prop := fnMapAllRow.holds Try.pinned (OpenSpec.ofChange fnMapAllSpec)

/-- ITS FALSE NEIGHBOUR: 'it returns false'. Refute it at one input. -/
def fnMapAllWrong : ChangeSpec := { name := "fnMapAll", fn := fun _ => fun
  | [d] => { results := [.lit (.bool false)], args := [d] }
  | _ => none }
def FnMapAllWrongFalsely : Prop := fnMapAllRow.holds Try.pinned (OpenSpec.ofChange fnMapAllWrong)

/-- 'laws.FnShrunk': WHATEVER THE INPUT: true; the input reads as it did. -/
def fnShrunkSpec : ChangeSpec := { name := "fnShrunk", fn := fun _ => fun
  | [d] => { results := [.lit (.bool true)], args := [d] }
  | _ => none }
def fnShrunkRow : OpenClaim := { program := "ytphlmbhjeoljoaa", sum := "4670b8baae0204209156cc7387244f8181d913bdbcc43cb7d42a310f9441df55", func := "loop.example/g00234/laws.FnShrunk", spec := "fnShrunk", inPlace := ["slices.overlaps[loop.example/g00234/impl.Pair]"], unfollowed := true, recurses := true, apart := false }
def FnShrunkSaid : Prop := fnShrunkRow.holds Try.pinned (OpenSpec.ofChange fnShrunkSpec)

/-- ITS FALSE NEIGHBOUR: 'it returns false'. Refute it at one input. -/
def fnShrunkWrong : ChangeSpec := { name := "fnShrunk", fn := fun _ => fun
  | [d] => { results := [.lit (.bool false)], args := [d] }
  | _ => none }
def FnShrunkWrongFalsely : Prop := fnShrunkRow.holds Try.pinned (OpenSpec.ofChange fnShrunkWrong)

/-- 'laws.FnExactDo': WHATEVER THE INPUT: true; the input reads as it did. -/
def fnExactDoSpec : ChangeSpec := { name := "fnExactDo", fn := fun _ => fun
  | [d1, d2] => { results := [.lit (.bool true)], args := [d1, d2] }
  | _ => none }
def fnExactDoRow : OpenClaim := { program := "ytphlmbhjeoljoaa", sum := "4670b8baae0204209156cc7387244f8181d913bdbcc43cb7d42a310f9441df55", func := "loop.example/g00234/laws.FnExactDo", spec := "fnExactDo", apart := false }
def FnExactDoSaid : Prop := fnExactDoRow.holds Try.pinned (OpenSpec.ofChange fnExactDoSpec)

/-- ITS FALSE NEIGHBOUR: 'it returns false'. Refute it at one input. -/
def fnExactDoWrong : ChangeSpec := { name := "fnExactDo", fn := fun _ => fun
  | [d1, d2] => { results := [.lit (.bool false)], args := [d1, d2] }
  | _ => none }
def FnExactDoWrongFalsely : Prop := fnExactDoRow.holds Try.pinned (OpenSpec.ofChange fnExactDoWrong)

/-- 'laws.FnExactSome': WHATEVER THE INPUT: true; the input reads as it did. -/
def fnExactSomeSpec : ChangeSpec := { name := "fnExactSome", fn := fun _ => fun
  | [d1, d2, d3] => { results := [.lit (.bool true)], args := [d1, d2, d3] }
  | _ => none }
def fnExactSomeRow : OpenClaim := { program := "ytphlmbhjeoljoaa", sum := "4670b8baae0204209156cc7387244f8181d913bdbcc43cb7d42a310f9441df55", func := "loop.example/g00234/laws.FnExactSome", spec := "fnExactSome", apart := false }
def FnExactSomeSaid : Prop := fnExactSomeRow.holds Try.pinned (OpenSpec.ofChange fnExactSomeSpec)

/-- ITS FALSE NEIGHBOUR: 'it returns false'. Refute it at one input. -/
def fnExactSomeWrong : ChangeSpec := { name := "fnExactSome", fn := fun _ => fun
  | [d1, d2, d3] => { results := [.lit (.bool false)], args := [d1, d2, d3] }
  | _ => none }
def FnExactSomeWrongFalsely : Prop := fnExactSomeRow.holds Try.pinned (OpenSpec.ofChange fnExactSomeWrong)

/-- 'laws.FnExactMachineNew': WHATEVER THE INPUT: true; the input reads as it did. -/
def fnExactMachineNewSpec : ChangeSpec := { name := "fnExactMachineNew", fn := fun _ => fun
  | [] => { results := [.lit (.bool true)], args := [] }
  | _ => none }
def fnExactMachineNewRow : OpenClaim := { program := "ytphlmbhjeoljoaa", sum := "4670b8baae0204209156cc7387244f8181d913bdbcc43cb7d42a310f9441df55", func := "loop.example/g00234/laws.FnExactMachineNew", spec := "fnExactMachineNew", recurses := true, apart := false }
def FnExactMachineNewSaid : Prop := fnExactMachineNewRow.holds Try.pinned (OpenSpec.ofChange fnExactMachineNewSpec)

/-- ITS FALSE NEIGHBOUR: 'it returns false'. Refute it at one input. -/
def fnExactMachineNewWrong : ChangeSpec := { name := "fnExactMachineNew", fn := fun _ => fun
  | [] => { results := [.lit (.bool false)], args := [] }
  | _ => none }
def FnExactMachineNewWrongFalsely : Prop := fnExactMachineNewRow.holds Try.pinned (OpenSpec.ofChange fnExactMachineNewWrong)

/- THE SECOND FORM. 'bulk': how many values and letters a reading holds, each counted each time it is reached (what is shared counts as often as it is met; a slice's spare places count too). A statement '..UptoSaid' is the law's where the arguments, and the package variables that the reading takes, are together of bulk at most 1048576: NARROWER than '..Said'. Prove '..Said' where nothing that the law and all that it calls make is longer than what came in: it says more and counts as full. Else prove '..UptoSaid'. A law counts once. -/
mutual
def uptoBulk {H : Type} : DataW H → Nat
  | .lit (.string bytes) => bytes.length + 1
  | .lit _ => 1
  | .nil => 1
  | .ptr d => uptoBulk d + 1
  | .slice elems spare => uptoBulkAll elems + uptoBulkAll spare + 1
  | .agg parts => uptoBulkAll parts + 1
  | .iface _ d => uptoBulk d + 1
  | .map entries => uptoBulkEntries entries + 1
  | .held _ => 1
def uptoBulkAll {H : Type} : List (DataW H) → Nat
  | [] => 0
  | d :: r => uptoBulk d + uptoBulkAll r
def uptoBulkEntries {H : Type} : List (Lit × DataW H) → Nat
  | [] => 0
  | x :: r => uptoBulkEntry x + uptoBulkEntries r
def uptoBulkEntry {H : Type} : Lit × DataW H → Nat
  | (.string bytes, d) => bytes.length + uptoBulk d + 1
  | (_, d) => uptoBulk d + 1
 end
def uptoSmall : (H : Type) → List (DataW H) → Bool := fun _ ds => decide (uptoBulkAll ds ≤ 1048576)
def OpenSpec.upto (s : _root_.Go.ChangeSpec) : _root_.Go.OpenSpec := { _root_.Go.OpenSpec.ofChange s with cond := some uptoSmall }

/-- 'laws.FnExactShrink', WHERE WHAT IT READS IS OF BULK AT MOST 1048576: true; the input reads as it did. -/
def fnExactShrinkUptoRow : OpenClaim := { program := "ytphlmbhjeoljoaa", sum := "4670b8baae0204209156cc7387244f8181d913bdbcc43cb7d42a310f9441df55", func := "loop.example/g00234/laws.FnExactShrink", spec := "fnExactShrink", unfollowed := true, recurses := true, apart := false, narrowed := true }
def FnExactShrinkUptoSaid : Prop := fnExactShrinkUptoRow.holds Try.pinned (OpenSpec.upto fnExactShrinkSpec)

/-- 'laws.FnExactLogCut', WHERE WHAT IT READS IS OF BULK AT MOST 1048576: true; the input reads as it did. -/
def fnExactLogCutUptoRow : OpenClaim := { program := "ytphlmbhjeoljoaa", sum := "4670b8baae0204209156cc7387244f8181d913bdbcc43cb7d42a310f9441df55", func := "loop.example/g00234/laws.FnExactLogCut", spec := "fnExactLogCut", apart := false, narrowed := true }
def FnExactLogCutUptoSaid : Prop := fnExactLogCutUptoRow.holds Try.pinned (OpenSpec.upto fnExactLogCutSpec)

/-- 'laws.FnExactTreeNew', WHERE WHAT IT READS IS OF BULK AT MOST 1048576: true; the input reads as it did. -/
def fnExactTreeNewUptoRow : OpenClaim := { program := "ytphlmbhjeoljoaa", sum := "4670b8baae0204209156cc7387244f8181d913bdbcc43cb7d42a310f9441df55", func := "loop.example/g00234/laws.FnExactTreeNew", spec := "fnExactTreeNew", recurses := true, apart := false, narrowed := true }
def FnExactTreeNewUptoSaid : Prop := fnExactTreeNewUptoRow.holds Try.pinned (OpenSpec.upto fnExactTreeNewSpec)

/-- 'laws.FnLogCut', WHERE WHAT IT READS IS OF BULK AT MOST 1048576: true; the input reads as it did. -/
def fnLogCutUptoRow : OpenClaim := { program := "ytphlmbhjeoljoaa", sum := "4670b8baae0204209156cc7387244f8181d913bdbcc43cb7d42a310f9441df55", func := "loop.example/g00234/laws.FnLogCut", spec := "fnLogCut", apart := false, narrowed := true }
def FnLogCutUptoSaid : Prop := fnLogCutUptoRow.holds Try.pinned (OpenSpec.upto fnLogCutSpec)

/-- 'laws.FnExactMapDo', WHERE WHAT IT READS IS OF BULK AT MOST 1048576: true; the input reads as it did. -/
def fnExactMapDoUptoRow : OpenClaim := { program := "ytphlmbhjeoljoaa", sum := "4670b8baae0204209156cc7387244f8181d913bdbcc43cb7d42a310f9441df55", func := "loop.example/g00234/laws.FnExactMapDo", spec := "fnExactMapDo", inPlace := ["slices.overlaps[loop.example/g00234/impl.Pair]"], unfollowed := true, recurses := true, apart := false, narrowed := true }
def FnExactMapDoUptoSaid : Prop := fnExactMapDoUptoRow.holds Try.pinned (OpenSpec.upto fnExactMapDoSpec)

/-- 'laws.FnMapped', WHERE WHAT IT READS IS OF BULK AT MOST 1048576: true; the input reads as it did. -/
def fnMappedUptoRow : OpenClaim := { program := "ytphlmbhjeoljoaa", sum := "4670b8baae0204209156cc7387244f8181d913bdbcc43cb7d42a310f9441df55", func := "loop.example/g00234/laws.FnMapped", spec := "fnMapped", inPlace := ["slices.overlaps[loop.example/g00234/impl.Pair]"], unfollowed := true, recurses := true, apart := false, narrowed := true }
def FnMappedUptoSaid : Prop := fnMappedUptoRow.holds Try.pinned (OpenSpec.upto fnMappedSpec)

/-- 'laws.FnExactMapAll', WHERE WHAT IT READS IS OF BULK AT MOST 1048576: true; the input reads as it did. -/
def fnExactMapAllUptoRow : OpenClaim := { program := "ytphlmbhjeoljoaa", sum := "4670b8baae0204209156cc7387244f8181d913bdbcc43cb7d42a310f9441df55", func := "loop.example/g00234/laws.FnExactMapAll", spec := "fnExactMapAll", inPlace := ["slices.overlaps[loop.example/g00234/impl.Pair]"], unfollowed := true, recurses := true, apart := false, narrowed := true }
def FnExactMapAllUptoSaid : Prop := fnExactMapAllUptoRow.holds Try.pinned (OpenSpec.upto fnExactMapAllSpec)

/-- 'laws.FnMapAll', WHERE WHAT IT READS IS OF BULK AT MOST 1048576: true; the input reads as it did. -/
def fnMapAllUptoRow : OpenClaim := { program := "ytphlmbhjeoljoaa", sum := "4670b8baae0204209156cc7387244f8181d913bdbcc43cb7d42a310f9441df55", func := "loop.example/g00234/laws.FnMapAll", spec := "fnMapAll", inPlace := ["slices.overlaps[loop.example/g00234/impl.Pair]"], unfollowed := true, recurses := true, apart := false, narrowed := true }
def FnMapAllUptoSaid : Prop := fnMapAllUptoRow.holds Try.pinned (OpenSpec.upto fnMapAllSpec)

/-- 'laws.FnShrunk', WHERE WHAT IT READS IS OF BULK AT MOST 1048576: true; the input reads as it did. -/
def fnShrunkUptoRow : OpenClaim := { program := "ytphlmbhjeoljoaa", sum := "4670b8baae0204209156cc7387244f8181d913bdbcc43cb7d42a310f9441df55", func := "loop.example/g00234/laws.FnShrunk", spec := "fnShrunk", inPlace := ["slices.overlaps[loop.example/g00234/impl.Pair]"], unfollowed := true, recurses := true, apart := false, narrowed := true }
def FnShrunkUptoSaid : Prop := fnShrunkUptoRow.holds Try.pinned (OpenSpec.upto fnShrunkSpec)

/-- 'laws.FnExactDo', WHERE WHAT IT READS IS OF BULK AT MOST 1048576: true; the input reads as it did. -/
def fnExactDoUptoRow : OpenClaim := { program := "ytphlmbhjeoljoaa", sum := "4670b8baae0204209156cc7387244f8181d913bdbcc43cb7d42a310f9441df55", func := "loop.example/g00234/laws.FnExactDo", spec := "fnExactDo", apart := false, narrowed := true }
def FnExactDoUptoSaid : Prop := fnExactDoUptoRow.holds Try.pinned (OpenSpec.upto fnExactDoSpec)

/-- 'laws.FnExactSome', WHERE WHAT IT READS IS OF BULK AT MOST 1048576: true; the input reads as it did. -/
def fnExactSomeUptoRow : OpenClaim := { program := "ytphlmbhjeoljoaa", sum := "4670b8baae0204209156cc7387244f8181d913bdbcc43cb7d42a310f9441df55", func := "loop.example/g00234/laws.FnExactSome", spec := "fnExactSome", apart := false, narrowed := true }
def FnExactSomeUptoSaid : Prop := fnExactSomeUptoRow.holds Try.pinned (OpenSpec.upto fnExactSomeSpec)

/-- 'laws.FnExactMachineNew', WHERE WHAT IT READS IS OF BULK AT MOST 1048576: true; the input reads as it did. -/
def fnExactMachineNewUptoRow : OpenClaim := { program := "ytphlmbhjeoljoaa", sum := "4670b8baae0204209156cc7387244f8181d913bdbcc43cb7d42a310f9441df55", func := "loop.example/g00234/laws.FnExactMachineNew", spec := "fnExactMachineNew", recurses := true, apart := false, narrowed := true }
def FnExactMachineNewUptoSaid : Prop := fnExactMachineNewUptoRow.holds Try.pinned (OpenSpec.upto fnExactMachineNewSpec)

end Rows
end Go.Proofs.Ytphlmbhjeoljoaa
