/-
  NARROWER THAN 'FOR EVERY INPUT', by the rows' own cells (each row's printed sentence says how): FnExactTreeDepth: loops · FnExactTreeOk: loops · FnExactKidOf: loops · FnExactTreeCount: loops · FnExactPending: loops · FnExactTreeGet: loops · FnExactTreeMap: loops · FnExactTreeRange: loops · FnExactMachineSame: loops.
  DERIVED. THE GIVEN ROWS OF THIS SEAT. 12 by the template 'for every input the law returns true; each argument reads behind the call as it read before'; 0 by the template 'total and deterministic' (their statements: YtfnndcpaldkkoaaTotals.lean).
  GIVEN WITH THE SEED: the statements are not yours to turn. If you find one false, say at which input.
  Laid BY PROGRAM, IN A SANDBOX (cutbox-rows.mjs): the forced cells as the released guide's own fill.sh prints them over the translation 02ac5fb417dd0c68… (all of the seat's roots in one cut). By AI agents, Wed Nov 11 2026. No macro, syntax, notation, axiom, sorry.
-/
import Derived.Test.YtfnndcpaldkkoaaChecked
import GoSem.Claim
import GoSem.ClaimJoined
import GoSem.ClaimMapViews
import Derived.JoinedTies
import Derived.KernelRfl
namespace Go.Proofs.Ytfnndcpaldkkoaa
/- THE CELL 'sum', in the pinned program and in every row, IS THE sha256 OF THE DUMP (.gsa) THAT YtfnndcpaldkkoaaProg.lean LOADS. Nothing in Lean hashes anything: it is a label: what it is worth is what the hold of that sum in a sandbox is worth. -/
noncomputable def Try.pinned : Pinned := { name := "ytfnndcpaldkkoaa", sum := "02ac5fb417dd0c686404b9b8663395593b32c97e137190ac1d82d9253e9d48d5", checked := Try.checked }
namespace Rows
def none {H : Type} : Left H := { results := [], args := [] }

/-- 'laws.FnExactTreeDepth': WHATEVER THE INPUT: true; the input reads as it did. -/
def fnExactTreeDepthSpec : ChangeSpec := { name := "fnExactTreeDepth", fn := fun _ => fun
  | [d] => { results := [.lit (.bool true)], args := [d] }
  | _ => none }
def fnExactTreeDepthRow : OpenClaim := { program := "ytfnndcpaldkkoaa", sum := "02ac5fb417dd0c686404b9b8663395593b32c97e137190ac1d82d9253e9d48d5", func := "loop.example/g00234/laws.FnExactTreeDepth", spec := "fnExactTreeDepth", unfollowed := true, recurses := true, loops := true, apart := false }
def FnExactTreeDepthSaid : Prop := fnExactTreeDepthRow.holds Try.pinned (OpenSpec.ofChange fnExactTreeDepthSpec)

/-- ITS FALSE NEIGHBOUR: 'it returns false'. Refute it at one input. -/
def fnExactTreeDepthWrong : ChangeSpec := { name := "fnExactTreeDepth", fn := fun _ => fun
  | [d] => { results := [.lit (.bool false)], args := [d] }
  | _ => none }
def FnExactTreeDepthWrongFalsely : Prop := fnExactTreeDepthRow.holds Try.pinned (OpenSpec.ofChange fnExactTreeDepthWrong)

/-- 'laws.FnExactTreeOk': WHATEVER THE INPUT: true; the input reads as it did. -/
def fnExactTreeOkSpec : ChangeSpec := { name := "fnExactTreeOk", fn := fun _ => fun
  | [d] => { results := [.lit (.bool true)], args := [d] }
  | _ => none }
def fnExactTreeOkRow : OpenClaim := { program := "ytfnndcpaldkkoaa", sum := "02ac5fb417dd0c686404b9b8663395593b32c97e137190ac1d82d9253e9d48d5", func := "loop.example/g00234/laws.FnExactTreeOk", spec := "fnExactTreeOk", unfollowed := true, recurses := true, loops := true, apart := false }
def FnExactTreeOkSaid : Prop := fnExactTreeOkRow.holds Try.pinned (OpenSpec.ofChange fnExactTreeOkSpec)

/-- ITS FALSE NEIGHBOUR: 'it returns false'. Refute it at one input. -/
def fnExactTreeOkWrong : ChangeSpec := { name := "fnExactTreeOk", fn := fun _ => fun
  | [d] => { results := [.lit (.bool false)], args := [d] }
  | _ => none }
def FnExactTreeOkWrongFalsely : Prop := fnExactTreeOkRow.holds Try.pinned (OpenSpec.ofChange fnExactTreeOkWrong)

/-- 'laws.FnExactKidOf': WHATEVER THE INPUT: true; the input reads as it did. -/
def fnExactKidOfSpec : ChangeSpec := { name := "fnExactKidOf", fn := fun _ => fun
  | [d1, d2] => { results := [.lit (.bool true)], args := [d1, d2] }
  | _ => none }
def fnExactKidOfRow : OpenClaim := { program := "ytfnndcpaldkkoaa", sum := "02ac5fb417dd0c686404b9b8663395593b32c97e137190ac1d82d9253e9d48d5", func := "loop.example/g00234/laws.FnExactKidOf", spec := "fnExactKidOf", unfollowed := true, recurses := true, loops := true, apart := false }
def FnExactKidOfSaid : Prop := fnExactKidOfRow.holds Try.pinned (OpenSpec.ofChange fnExactKidOfSpec)

/-- ITS FALSE NEIGHBOUR: 'it returns false'. Refute it at one input. -/
def fnExactKidOfWrong : ChangeSpec := { name := "fnExactKidOf", fn := fun _ => fun
  | [d1, d2] => { results := [.lit (.bool false)], args := [d1, d2] }
  | _ => none }
def FnExactKidOfWrongFalsely : Prop := fnExactKidOfRow.holds Try.pinned (OpenSpec.ofChange fnExactKidOfWrong)

/-- 'laws.FnExactTreeCount': WHATEVER THE INPUT: true; the input reads as it did. -/
def fnExactTreeCountSpec : ChangeSpec := { name := "fnExactTreeCount", fn := fun _ => fun
  | [d] => { results := [.lit (.bool true)], args := [d] }
  | _ => none }
def fnExactTreeCountRow : OpenClaim := { program := "ytfnndcpaldkkoaa", sum := "02ac5fb417dd0c686404b9b8663395593b32c97e137190ac1d82d9253e9d48d5", func := "loop.example/g00234/laws.FnExactTreeCount", spec := "fnExactTreeCount", unfollowed := true, recurses := true, loops := true, apart := false }
def FnExactTreeCountSaid : Prop := fnExactTreeCountRow.holds Try.pinned (OpenSpec.ofChange fnExactTreeCountSpec)

/-- ITS FALSE NEIGHBOUR: 'it returns false'. Refute it at one input. -/
def fnExactTreeCountWrong : ChangeSpec := { name := "fnExactTreeCount", fn := fun _ => fun
  | [d] => { results := [.lit (.bool false)], args := [d] }
  | _ => none }
def FnExactTreeCountWrongFalsely : Prop := fnExactTreeCountRow.holds Try.pinned (OpenSpec.ofChange fnExactTreeCountWrong)

/-- 'laws.FnExactPending': WHATEVER THE INPUT: true; the input reads as it did. -/
def fnExactPendingSpec : ChangeSpec := { name := "fnExactPending", fn := fun _ => fun
  | [d1, d2] => { results := [.lit (.bool true)], args := [d1, d2] }
  | _ => none }
def fnExactPendingRow : OpenClaim := { program := "ytfnndcpaldkkoaa", sum := "02ac5fb417dd0c686404b9b8663395593b32c97e137190ac1d82d9253e9d48d5", func := "loop.example/g00234/laws.FnExactPending", spec := "fnExactPending", unfollowed := true, recurses := true, loops := true, apart := false }
def FnExactPendingSaid : Prop := fnExactPendingRow.holds Try.pinned (OpenSpec.ofChange fnExactPendingSpec)

/-- ITS FALSE NEIGHBOUR: 'it returns false'. Refute it at one input. -/
def fnExactPendingWrong : ChangeSpec := { name := "fnExactPending", fn := fun _ => fun
  | [d1, d2] => { results := [.lit (.bool false)], args := [d1, d2] }
  | _ => none }
def FnExactPendingWrongFalsely : Prop := fnExactPendingRow.holds Try.pinned (OpenSpec.ofChange fnExactPendingWrong)

/-- 'laws.FnKids': WHATEVER THE INPUT: true; the input reads as it did. -/
def fnKidsSpec : ChangeSpec := { name := "fnKids", fn := fun _ => fun
  | [d] => { results := [.lit (.bool true)], args := [d] }
  | _ => none }
def fnKidsRow : OpenClaim := { program := "ytfnndcpaldkkoaa", sum := "02ac5fb417dd0c686404b9b8663395593b32c97e137190ac1d82d9253e9d48d5", func := "loop.example/g00234/laws.FnKids", spec := "fnKids", unfollowed := true, recurses := true, apart := false }
def FnKidsSaid : Prop := fnKidsRow.holds Try.pinned (OpenSpec.ofChange fnKidsSpec)

/-- ITS FALSE NEIGHBOUR: 'it returns false'. Refute it at one input. -/
def fnKidsWrong : ChangeSpec := { name := "fnKids", fn := fun _ => fun
  | [d] => { results := [.lit (.bool false)], args := [d] }
  | _ => none }
def FnKidsWrongFalsely : Prop := fnKidsRow.holds Try.pinned (OpenSpec.ofChange fnKidsWrong)

/-- 'laws.FnExactTreeGet': WHATEVER THE INPUT: true; the input reads as it did. -/
def fnExactTreeGetSpec : ChangeSpec := { name := "fnExactTreeGet", fn := fun _ => fun
  | [d1, d2] => { results := [.lit (.bool true)], args := [d1, d2] }
  | _ => none }
def fnExactTreeGetRow : OpenClaim := { program := "ytfnndcpaldkkoaa", sum := "02ac5fb417dd0c686404b9b8663395593b32c97e137190ac1d82d9253e9d48d5", func := "loop.example/g00234/laws.FnExactTreeGet", spec := "fnExactTreeGet", inPlace := ["slices.overlaps[loop.example/g00234/impl.Pair]"], unfollowed := true, recurses := true, loops := true, apart := false }
def FnExactTreeGetSaid : Prop := fnExactTreeGetRow.holds Try.pinned (OpenSpec.ofChange fnExactTreeGetSpec)

/-- ITS FALSE NEIGHBOUR: 'it returns false'. Refute it at one input. -/
def fnExactTreeGetWrong : ChangeSpec := { name := "fnExactTreeGet", fn := fun _ => fun
  | [d1, d2] => { results := [.lit (.bool false)], args := [d1, d2] }
  | _ => none }
def FnExactTreeGetWrongFalsely : Prop := fnExactTreeGetRow.holds Try.pinned (OpenSpec.ofChange fnExactTreeGetWrong)

/-- 'laws.FnExactTreeMap': WHATEVER THE INPUT: true; the input reads as it did. -/
def fnExactTreeMapSpec : ChangeSpec := { name := "fnExactTreeMap", fn := fun _ => fun
  | [d] => { results := [.lit (.bool true)], args := [d] }
  | _ => none }
def fnExactTreeMapRow : OpenClaim := { program := "ytfnndcpaldkkoaa", sum := "02ac5fb417dd0c686404b9b8663395593b32c97e137190ac1d82d9253e9d48d5", func := "loop.example/g00234/laws.FnExactTreeMap", spec := "fnExactTreeMap", inPlace := ["slices.overlaps[loop.example/g00234/impl.Pair]"], unfollowed := true, recurses := true, loops := true, apart := false }
def FnExactTreeMapSaid : Prop := fnExactTreeMapRow.holds Try.pinned (OpenSpec.ofChange fnExactTreeMapSpec)

/-- ITS FALSE NEIGHBOUR: 'it returns false'. Refute it at one input. -/
def fnExactTreeMapWrong : ChangeSpec := { name := "fnExactTreeMap", fn := fun _ => fun
  | [d] => { results := [.lit (.bool false)], args := [d] }
  | _ => none }
def FnExactTreeMapWrongFalsely : Prop := fnExactTreeMapRow.holds Try.pinned (OpenSpec.ofChange fnExactTreeMapWrong)

/-- 'laws.FnExactTreeRange': WHATEVER THE INPUT: true; the input reads as it did. -/
def fnExactTreeRangeSpec : ChangeSpec := { name := "fnExactTreeRange", fn := fun _ => fun
  | [d1, d2, d3] => { results := [.lit (.bool true)], args := [d1, d2, d3] }
  | _ => none }
def fnExactTreeRangeRow : OpenClaim := { program := "ytfnndcpaldkkoaa", sum := "02ac5fb417dd0c686404b9b8663395593b32c97e137190ac1d82d9253e9d48d5", func := "loop.example/g00234/laws.FnExactTreeRange", spec := "fnExactTreeRange", inPlace := ["slices.overlaps[loop.example/g00234/impl.Pair]"], unfollowed := true, recurses := true, loops := true, apart := false }
def FnExactTreeRangeSaid : Prop := fnExactTreeRangeRow.holds Try.pinned (OpenSpec.ofChange fnExactTreeRangeSpec)

/-- ITS FALSE NEIGHBOUR: 'it returns false'. Refute it at one input. -/
def fnExactTreeRangeWrong : ChangeSpec := { name := "fnExactTreeRange", fn := fun _ => fun
  | [d1, d2, d3] => { results := [.lit (.bool false)], args := [d1, d2, d3] }
  | _ => none }
def FnExactTreeRangeWrongFalsely : Prop := fnExactTreeRangeRow.holds Try.pinned (OpenSpec.ofChange fnExactTreeRangeWrong)

/-- 'laws.FnExactMachineSame': WHATEVER THE INPUT: true; the input reads as it did. -/
def fnExactMachineSameSpec : ChangeSpec := { name := "fnExactMachineSame", fn := fun _ => fun
  | [d1, d2] => { results := [.lit (.bool true)], args := [d1, d2] }
  | _ => none }
def fnExactMachineSameRow : OpenClaim := { program := "ytfnndcpaldkkoaa", sum := "02ac5fb417dd0c686404b9b8663395593b32c97e137190ac1d82d9253e9d48d5", func := "loop.example/g00234/laws.FnExactMachineSame", spec := "fnExactMachineSame", inPlace := ["slices.overlaps[loop.example/g00234/impl.Pair]"], unfollowed := true, recurses := true, loops := true, apart := false }
def FnExactMachineSameSaid : Prop := fnExactMachineSameRow.holds Try.pinned (OpenSpec.ofChange fnExactMachineSameSpec)

/-- ITS FALSE NEIGHBOUR: 'it returns false'. Refute it at one input. -/
def fnExactMachineSameWrong : ChangeSpec := { name := "fnExactMachineSame", fn := fun _ => fun
  | [d1, d2] => { results := [.lit (.bool false)], args := [d1, d2] }
  | _ => none }
def FnExactMachineSameWrongFalsely : Prop := fnExactMachineSameRow.holds Try.pinned (OpenSpec.ofChange fnExactMachineSameWrong)

/-- 'laws.FnRanged': WHATEVER THE INPUT: true; the input reads as it did. -/
def fnRangedSpec : ChangeSpec := { name := "fnRanged", fn := fun _ => fun
  | [d] => { results := [.lit (.bool true)], args := [d] }
  | _ => none }
def fnRangedRow : OpenClaim := { program := "ytfnndcpaldkkoaa", sum := "02ac5fb417dd0c686404b9b8663395593b32c97e137190ac1d82d9253e9d48d5", func := "loop.example/g00234/laws.FnRanged", spec := "fnRanged", inPlace := ["slices.overlaps[loop.example/g00234/impl.Pair]"], unfollowed := true, recurses := true, apart := false }
def FnRangedSaid : Prop := fnRangedRow.holds Try.pinned (OpenSpec.ofChange fnRangedSpec)

/-- ITS FALSE NEIGHBOUR: 'it returns false'. Refute it at one input. -/
def fnRangedWrong : ChangeSpec := { name := "fnRanged", fn := fun _ => fun
  | [d] => { results := [.lit (.bool false)], args := [d] }
  | _ => none }
def FnRangedWrongFalsely : Prop := fnRangedRow.holds Try.pinned (OpenSpec.ofChange fnRangedWrong)

/-- 'laws.FnGot': WHATEVER THE INPUT: true; the input reads as it did. -/
def fnGotSpec : ChangeSpec := { name := "fnGot", fn := fun _ => fun
  | [d] => { results := [.lit (.bool true)], args := [d] }
  | _ => none }
def fnGotRow : OpenClaim := { program := "ytfnndcpaldkkoaa", sum := "02ac5fb417dd0c686404b9b8663395593b32c97e137190ac1d82d9253e9d48d5", func := "loop.example/g00234/laws.FnGot", spec := "fnGot", inPlace := ["slices.overlaps[loop.example/g00234/impl.Pair]"], unfollowed := true, recurses := true, apart := false }
def FnGotSaid : Prop := fnGotRow.holds Try.pinned (OpenSpec.ofChange fnGotSpec)

/-- ITS FALSE NEIGHBOUR: 'it returns false'. Refute it at one input. -/
def fnGotWrong : ChangeSpec := { name := "fnGot", fn := fun _ => fun
  | [d] => { results := [.lit (.bool false)], args := [d] }
  | _ => none }
def FnGotWrongFalsely : Prop := fnGotRow.holds Try.pinned (OpenSpec.ofChange fnGotWrong)

/- THE SECOND FORM. 'bulk': how many values and letters a reading holds, each counted each time it is reached (what is shared counts as often as it is met; a slice's spare places count too). A statement '..UptoSaid' is the law's where the arguments, and the package variables that the reading takes, are together of bulk at most 1048576: NARROWER than '..Said'. Prove '..Said' where nothing that the law and all that it calls make is longer than what came in: it says more and counts as full. Else prove '..UptoSaid'. A law counts once. -/
mutual
def uptoBulk {H : Type} : DataW H → Nat
  | .lit (.string bytes) => bytes.length + 1
  | .lit _ => 1
  | .nil => 1
  | .ptr d => uptoBulk d + 1
  | .slice elems spare => uptoBulkAll elems + uptoBulkAll spare + 1
  | .agg parts => uptoBulkAll parts + 1
  | .iface _ d => uptoBulk d + 1
  | .map entries => uptoBulkEntries entries + 1
  | .held _ => 1
def uptoBulkAll {H : Type} : List (DataW H) → Nat
  | [] => 0
  | d :: r => uptoBulk d + uptoBulkAll r
def uptoBulkEntries {H : Type} : List (Lit × DataW H) → Nat
  | [] => 0
  | x :: r => uptoBulkEntry x + uptoBulkEntries r
def uptoBulkEntry {H : Type} : Lit × DataW H → Nat
  | (.string bytes, d) => bytes.length + uptoBulk d + 1
  | (_, d) => uptoBulk d + 1
 end
def uptoSmall : (H : Type) → List (DataW H) → Bool := fun _ ds => decide (uptoBulkAll ds ≤ 1048576)
def OpenSpec.upto (s : _root_.Go.ChangeSpec) : _root_.Go.OpenSpec := { _root_.Go.OpenSpec.ofChange s with cond := some uptoSmall }

/-- 'laws.FnExactTreeDepth', WHERE WHAT IT READS IS OF BULK AT MOST 1048576: true; the input reads as it did. -/
def fnExactTreeDepthUptoRow : OpenClaim := { program := "ytfnndcpaldkkoaa", sum := "02ac5fb417dd0c686404b9b8663395593b32c97e137190ac1d82d9253e9d48d5", func := "loop.example/g00234/laws.FnExactTreeDepth", spec := "fnExactTreeDepth", unfollowed := true, recurses := true, loops := true, apart := false, narrowed := true }
def FnExactTreeDepthUptoSaid : Prop := fnExactTreeDepthUptoRow.holds Try.pinned (OpenSpec.upto fnExactTreeDepthSpec)

/-- 'laws.FnExactTreeOk', WHERE WHAT IT READS IS OF BULK AT MOST 1048576: true; the input reads as it did. -/
def fnExactTreeOkUptoRow : OpenClaim := { program := "ytfnndcpaldkkoaa", sum := "02ac5fb417dd0c686404b9b8663395593b32c97e137190ac1d82d9253e9d48d5", func := "loop.example/g00234/laws.FnExactTreeOk", spec := "fnExactTreeOk", unfollowed := true, recurses := true, loops := true, apart := false, narrowed := true }
def FnExactTreeOkUptoSaid : Prop := fnExactTreeOkUptoRow.holds Try.pinned (OpenSpec.upto fnExactTreeOkSpec)

/-- 'laws.FnExactKidOf', WHERE WHAT IT READS IS OF BULK AT MOST 1048576: true; the input reads as it did. -/
def fnExactKidOfUptoRow : OpenClaim := { program := "ytfnndcpaldkkoaa", sum := "02ac5fb417dd0c686404b9b8663395593b32c97e137190ac1d82d9253e9d48d5", func := "loop.example/g00234/laws.FnExactKidOf", spec := "fnExactKidOf", unfollowed := true, recurses := true, loops := true, apart := false, narrowed := true }
def FnExactKidOfUptoSaid : Prop := fnExactKidOfUptoRow.holds Try.pinned (OpenSpec.upto fnExactKidOfSpec)

/-- 'laws.FnExactTreeCount', WHERE WHAT IT READS IS OF BULK AT MOST 1048576: true; the input reads as it did. -/
def fnExactTreeCountUptoRow : OpenClaim := { program := "ytfnndcpaldkkoaa", sum := "02ac5fb417dd0c686404b9b8663395593b32c97e137190ac1d82d9253e9d48d5", func := "loop.example/g00234/laws.FnExactTreeCount", spec := "fnExactTreeCount", unfollowed := true, recurses := true, loops := true, apart := false, narrowed := true }
def FnExactTreeCountUptoSaid : Prop := fnExactTreeCountUptoRow.holds Try.pinned (OpenSpec.upto fnExactTreeCountSpec)

/-- 'laws.FnExactPending', WHERE WHAT IT READS IS OF BULK AT MOST 1048576: true; the input reads as it did. -/
def fnExactPendingUptoRow : OpenClaim := { program := "ytfnndcpaldkkoaa", sum := "02ac5fb417dd0c686404b9b8663395593b32c97e137190ac1d82d9253e9d48d5", func := "loop.example/g00234/laws.FnExactPending", spec := "fnExactPending", unfollowed := true, recurses := true, loops := true, apart := false, narrowed := true }
def FnExactPendingUptoSaid : Prop := fnExactPendingUptoRow.holds Try.pinned (OpenSpec.upto fnExactPendingSpec)

/-- 'laws.FnKids', WHERE WHAT IT READS IS OF BULK AT MOST 1048576: true; the input reads as it did. -/
def fnKidsUptoRow : OpenClaim := { program := "ytfnndcpaldkkoaa", sum := "02ac5fb417dd0c686404b9b8663395593b32c97e137190ac1d82d9253e9d48d5", func := "loop.example/g00234/laws.FnKids", spec := "fnKids", unfollowed := true, recurses := true, apart := false, narrowed := true }
def FnKidsUptoSaid : Prop := fnKidsUptoRow.holds Try.pinned (OpenSpec.upto fnKidsSpec)

/-- 'laws.FnExactTreeGet', WHERE WHAT IT READS IS OF BULK AT MOST 1048576: true; the input reads as it did. -/
def fnExactTreeGetUptoRow : OpenClaim := { program := "ytfnndcpaldkkoaa", sum := "02ac5fb417dd0c686404b9b8663395593b32c97e137190ac1d82d9253e9d48d5", func := "loop.example/g00234/laws.FnExactTreeGet", spec := "fnExactTreeGet", inPlace := ["slices.overlaps[loop.example/g00234/impl.Pair]"], unfollowed := true, recurses := true, loops := true, apart := false, narrowed := true }
def FnExactTreeGetUptoSaid : Prop := fnExactTreeGetUptoRow.holds Try.pinned (OpenSpec.upto fnExactTreeGetSpec)

/-- 'laws.FnExactTreeMap', WHERE WHAT IT READS IS OF BULK AT MOST 1048576: true; the input reads as it did. -/
def fnExactTreeMapUptoRow : OpenClaim := { program := "ytfnndcpaldkkoaa", sum := "02ac5fb417dd0c686404b9b8663395593b32c97e137190ac1d82d9253e9d48d5", func := "loop.example/g00234/laws.FnExactTreeMap", spec := "fnExactTreeMap", inPlace := ["slices.overlaps[loop.example/g00234/impl.Pair]"], unfollowed := true, recurses := true, loops := true, apart := false, narrowed := true }
def FnExactTreeMapUptoSaid : Prop := fnExactTreeMapUptoRow.holds Try.pinned (OpenSpec.upto fnExactTreeMapSpec)

/-- 'laws.FnExactTreeRange', WHERE WHAT IT READS IS OF BULK AT MOST 1048576: true; the input reads as it did. -/
def fnExactTreeRangeUptoRow : OpenClaim := { program := "ytfnndcpaldkkoaa", sum := "02ac5fb417dd0c686404b9b8663395593b32c97e137190ac1d82d9253e9d48d5", func := "loop.example/g00234/laws.FnExactTreeRange", spec := "fnExactTreeRange", inPlace := ["slices.overlaps[loop.example/g00234/impl.Pair]"], unfollowed := true, recurses := true, loops := true, apart := false, narrowed := true }
def FnExactTreeRangeUptoSaid : Prop := fnExactTreeRangeUptoRow.holds Try.pinned (OpenSpec.upto fnExactTreeRangeSpec)

/-- 'laws.FnExactMachineSame', WHERE WHAT IT READS IS OF BULK AT MOST 1048576: true; the input reads as it did. -/
def fnExactMachineSameUptoRow : OpenClaim := { program := "ytfnndcpaldkkoaa", sum := "02ac5fb417dd0c686404b9b8663395593b32c97e137190ac1d82d9253e9d48d5", func := "loop.example/g00234/laws.FnExactMachineSame", spec := "fnExactMachineSame", inPlace := ["slices.overlaps[loop.example/g00234/impl.Pair]"], unfollowed := true, recurses := true, loops := true, apart := false, narrowed := true }
def FnExactMachineSameUptoSaid : Prop := fnExactMachineSameUptoRow.holds Try.pinned (OpenSpec.upto fnExactMachineSameSpec)

/-- 'laws.FnRanged', WHERE WHAT IT READS IS OF BULK AT MOST 1048576: true; the input reads as it did. -/
def fnRangedUptoRow : OpenClaim := { program := "ytfnndcpaldkkoaa", sum := "02ac5fb417dd0c686404b9b8663395593b32c97e137190ac1d82d9253e9d48d5", func := "loop.example/g00234/laws.FnRanged", spec := "fnRanged", inPlace := ["slices.overlaps[loop.example/g00234/impl.Pair]"], unfollowed := true, recurses := true, apart := false, narrowed := true }
def FnRangedUptoSaid : Prop := fnRangedUptoRow.holds Try.pinned (OpenSpec.upto fnRangedSpec)

/-- 'laws.FnGot', WHERE WHAT IT READS IS OF BULK AT MOST 1048576: true; the input reads as it did. -/
def fnGotUptoRow : OpenClaim := { program := "ytfnndcpaldkkoaa", sum := "02ac5fb417dd0c686404b9b8663395593b32c97e137190ac1d82d9253e9d48d5", func := "loop.example/g00234/laws.FnGot", spec := "fnGot", inPlace := ["slices.overlaps[loop.example/g00234/impl.Pair]"], unfollowed := true, recurses := true, apart := false, narrowed := true }
def FnGotUptoSaid : Prop := fnGotUptoRow.holds Try.pinned (OpenSpec.upto fnGotSpec)

end Rows
end Go.Proofs.Ytfnndcpaldkkoaa
