/-
  No cell of these rows narrows 'for every input' (looked for: loops, veiled, ifaces, maps, wideKeys, modest, calm, conditions, laid).
  DERIVED. THE GIVEN ROWS OF THIS SEAT. 7 by the template 'for every input the law returns true; each argument reads behind the call as it read before'; 0 by the template 'total and deterministic' (their statements: YtjjocahgbmibeaaTotals.lean).
  GIVEN WITH THE SEED: the statements are not yours to turn. If you find one false, say at which input.
  Laid BY PROGRAM, IN A SANDBOX (cutbox-rows.mjs): the forced cells as the released guide's own fill.sh prints them over the translation a96ca207b9f5b888… (all of the seat's roots in one cut). By AI agents, Wed Nov 11 2026. No macro, syntax, notation, axiom, sorry.
-/
import Derived.Test.YtjjocahgbmibeaaChecked
import GoSem.Claim
import GoSem.ClaimJoined
import GoSem.ClaimMapViews
import Derived.JoinedTies
import Derived.KernelRfl
namespace Go.Proofs.Ytjjocahgbmibeaa
/- THE CELL 'sum', in the pinned program and in every row, IS THE sha256 OF THE DUMP (.gsa) THAT YtjjocahgbmibeaaProg.lean LOADS. Nothing in Lean hashes anything: it is a label: what it is worth is what the hold of that sum in a sandbox is worth. -/
noncomputable def Try.pinned : Pinned := { name := "ytjjocahgbmibeaa", sum := "a96ca207b9f5b8889400fa660b0fbde11e6fc27f7d97b30828756e91535efb04", checked := Try.checked }
namespace Rows
def none {H : Type} : Left H := { results := [], args := [] }

/-- 'laws.FnKids': WHATEVER THE INPUT: true; the input reads as it did. -/
def fnKidsSpec : ChangeSpec := { name := "fnKids", fn := fun _ => fun
  | [d] => { results := [.lit (.bool true)], args := [d] }
  | _ => none }
def fnKidsRow : OpenClaim := { program := "ytjjocahgbmibeaa", sum := "a96ca207b9f5b8889400fa660b0fbde11e6fc27f7d97b30828756e91535efb04", func := "loop.example/g00234/laws.FnKids", spec := "fnKids", unfollowed := true, recurses := true, apart := false }
def FnKidsSaid : Prop := fnKidsRow.holds Try.pinned (OpenSpec.ofChange fnKidsSpec)

/-- ITS FALSE NEIGHBOUR: 'it returns false'. Refute it at one input. -/
def fnKidsWrong : ChangeSpec := { name := "fnKids", fn := fun _ => fun
  | [d] => { results := [.lit (.bool false)], args := [d] }
  | _ => none }
def FnKidsWrongFalsely : Prop := fnKidsRow.holds Try.pinned (OpenSpec.ofChange fnKidsWrong)

/-- 'laws.FnGot': WHATEVER THE INPUT: true; the input reads as it did. -/
def fnGotSpec : ChangeSpec := { name := "fnGot", fn := fun _ => fun
  | [d] => { results := [.lit (.bool true)], args := [d] }
  | _ => none }
def fnGotRow : OpenClaim := { program := "ytjjocahgbmibeaa", sum := "a96ca207b9f5b8889400fa660b0fbde11e6fc27f7d97b30828756e91535efb04", func := "loop.example/g00234/laws.FnGot", spec := "fnGot", inPlace := ["slices.overlaps[loop.example/g00234/impl.Pair]"], unfollowed := true, recurses := true, apart := false }
def FnGotSaid : Prop := fnGotRow.holds Try.pinned (OpenSpec.ofChange fnGotSpec)

/-- ITS FALSE NEIGHBOUR: 'it returns false'. Refute it at one input. -/
def fnGotWrong : ChangeSpec := { name := "fnGot", fn := fun _ => fun
  | [d] => { results := [.lit (.bool false)], args := [d] }
  | _ => none }
def FnGotWrongFalsely : Prop := fnGotRow.holds Try.pinned (OpenSpec.ofChange fnGotWrong)

/-- 'laws.FnRanged': WHATEVER THE INPUT: true; the input reads as it did. -/
def fnRangedSpec : ChangeSpec := { name := "fnRanged", fn := fun _ => fun
  | [d] => { results := [.lit (.bool true)], args := [d] }
  | _ => none }
def fnRangedRow : OpenClaim := { program := "ytjjocahgbmibeaa", sum := "a96ca207b9f5b8889400fa660b0fbde11e6fc27f7d97b30828756e91535efb04", func := "loop.example/g00234/laws.FnRanged", spec := "fnRanged", inPlace := ["slices.overlaps[loop.example/g00234/impl.Pair]"], unfollowed := true, recurses := true, apart := false }
def FnRangedSaid : Prop := fnRangedRow.holds Try.pinned (OpenSpec.ofChange fnRangedSpec)

/-- ITS FALSE NEIGHBOUR: 'it returns false'. Refute it at one input. -/
def fnRangedWrong : ChangeSpec := { name := "fnRanged", fn := fun _ => fun
  | [d] => { results := [.lit (.bool false)], args := [d] }
  | _ => none }
def FnRangedWrongFalsely : Prop := fnRangedRow.holds Try.pinned (OpenSpec.ofChange fnRangedWrong)

/-- 'laws.FnWrites': WHATEVER THE INPUT: true; the input reads as it did. -/
def fnWritesSpec : ChangeSpec := { name := "fnWrites", fn := fun _ => fun
  | [d] => { results := [.lit (.bool true)], args := [d] }
  | _ => none }
def fnWritesRow : OpenClaim := { program := "ytjjocahgbmibeaa", sum := "a96ca207b9f5b8889400fa660b0fbde11e6fc27f7d97b30828756e91535efb04", func := "loop.example/g00234/laws.FnWrites", spec := "fnWrites", recurses := true, apart := false }
def FnWritesSaid : Prop := fnWritesRow.holds Try.pinned (OpenSpec.ofChange fnWritesSpec)

/-- ITS FALSE NEIGHBOUR: 'it returns false'. Refute it at one input. -/
def fnWritesWrong : ChangeSpec := { name := "fnWrites", fn := fun _ => fun
  | [d] => { results := [.lit (.bool false)], args := [d] }
  | _ => none }
def FnWritesWrongFalsely : Prop := fnWritesRow.holds Try.pinned (OpenSpec.ofChange fnWritesWrong)

/-- 'laws.FnExactGetNode': WHATEVER THE INPUT: true; the input reads as it did. -/
def fnExactGetNodeSpec : ChangeSpec := { name := "fnExactGetNode", fn := fun _ => fun
  | [d] => { results := [.lit (.bool true)], args := [d] }
  | _ => none }
def fnExactGetNodeRow : OpenClaim := { program := "ytjjocahgbmibeaa", sum := "a96ca207b9f5b8889400fa660b0fbde11e6fc27f7d97b30828756e91535efb04", func := "loop.example/g00234/laws.FnExactGetNode", spec := "fnExactGetNode", recurses := true, apart := false }
def FnExactGetNodeSaid : Prop := fnExactGetNodeRow.holds Try.pinned (OpenSpec.ofChange fnExactGetNodeSpec)

/-- ITS FALSE NEIGHBOUR: 'it returns false'. Refute it at one input. -/
def fnExactGetNodeWrong : ChangeSpec := { name := "fnExactGetNode", fn := fun _ => fun
  | [d] => { results := [.lit (.bool false)], args := [d] }
  | _ => none }
def FnExactGetNodeWrongFalsely : Prop := fnExactGetNodeRow.holds Try.pinned (OpenSpec.ofChange fnExactGetNodeWrong)

/-- 'laws.FnExactReadTree': WHATEVER THE INPUT: true; the input reads as it did. -/
def fnExactReadTreeSpec : ChangeSpec := { name := "fnExactReadTree", fn := fun _ => fun
  | [d1, d2] => { results := [.lit (.bool true)], args := [d1, d2] }
  | _ => none }
def fnExactReadTreeRow : OpenClaim := { program := "ytjjocahgbmibeaa", sum := "a96ca207b9f5b8889400fa660b0fbde11e6fc27f7d97b30828756e91535efb04", func := "loop.example/g00234/laws.FnExactReadTree", spec := "fnExactReadTree", unfollowed := true, recurses := true, apart := false }
def FnExactReadTreeSaid : Prop := fnExactReadTreeRow.holds Try.pinned (OpenSpec.ofChange fnExactReadTreeSpec)

/-- ITS FALSE NEIGHBOUR: 'it returns false'. Refute it at one input. -/
def fnExactReadTreeWrong : ChangeSpec := { name := "fnExactReadTree", fn := fun _ => fun
  | [d1, d2] => { results := [.lit (.bool false)], args := [d1, d2] }
  | _ => none }
def FnExactReadTreeWrongFalsely : Prop := fnExactReadTreeRow.holds Try.pinned (OpenSpec.ofChange fnExactReadTreeWrong)

/-- 'laws.FnExactOpen': WHATEVER THE INPUT: true; the input reads as it did. -/
def fnExactOpenSpec : ChangeSpec := { name := "fnExactOpen", fn := fun _ => fun
  | [d] => { results := [.lit (.bool true)], args := [d] }
  | _ => none }
def fnExactOpenRow : OpenClaim := { program := "ytjjocahgbmibeaa", sum := "a96ca207b9f5b8889400fa660b0fbde11e6fc27f7d97b30828756e91535efb04", func := "loop.example/g00234/laws.FnExactOpen", spec := "fnExactOpen", unfollowed := true, recurses := true, apart := false }
def FnExactOpenSaid : Prop := fnExactOpenRow.holds Try.pinned (OpenSpec.ofChange fnExactOpenSpec)

/-- ITS FALSE NEIGHBOUR: 'it returns false'. Refute it at one input. -/
def fnExactOpenWrong : ChangeSpec := { name := "fnExactOpen", fn := fun _ => fun
  | [d] => { results := [.lit (.bool false)], args := [d] }
  | _ => none }
def FnExactOpenWrongFalsely : Prop := fnExactOpenRow.holds Try.pinned (OpenSpec.ofChange fnExactOpenWrong)

/- THE SECOND FORM. 'bulk': how many values and letters a reading holds, each counted each time it is reached (what is shared counts as often as it is met; a slice's spare places count too). A statement '..UptoSaid' is the law's where the arguments, and the package variables that the reading takes, are together of bulk at most 1048576: NARROWER than '..Said'. Prove '..Said' where nothing that the law and all that it calls make is longer than what came in: it says more and counts as full. Else prove '..UptoSaid'. A law counts once. -/
mutual
def uptoBulk {H : Type} : DataW H → Nat
  | .lit (.string bytes) => bytes.length + 1
  | .lit _ => 1
  | .nil => 1
  | .ptr d => uptoBulk d + 1
  | .slice elems spare => uptoBulkAll elems + uptoBulkAll spare + 1
  | .agg parts => uptoBulkAll parts + 1
  | .iface _ d => uptoBulk d + 1
  | .map entries => uptoBulkEntries entries + 1
  | .held _ => 1
def uptoBulkAll {H : Type} : List (DataW H) → Nat
  | [] => 0
  | d :: r => uptoBulk d + uptoBulkAll r
def uptoBulkEntries {H : Type} : List (Lit × DataW H) → Nat
  | [] => 0
  | x :: r => uptoBulkEntry x + uptoBulkEntries r
def uptoBulkEntry {H : Type} : Lit × DataW H → Nat
  | (.string bytes, d) => bytes.length + uptoBulk d + 1
  | (_, d) => uptoBulk d + 1
 end
def uptoSmall : (H : Type) → List (DataW H) → Bool := fun _ ds => decide (uptoBulkAll ds ≤ 1048576)
def OpenSpec.upto (s : _root_.Go.ChangeSpec) : _root_.Go.OpenSpec := { _root_.Go.OpenSpec.ofChange s with cond := some uptoSmall }

/-- 'laws.FnKids', WHERE WHAT IT READS IS OF BULK AT MOST 1048576: true; the input reads as it did. -/
def fnKidsUptoRow : OpenClaim := { program := "ytjjocahgbmibeaa", sum := "a96ca207b9f5b8889400fa660b0fbde11e6fc27f7d97b30828756e91535efb04", func := "loop.example/g00234/laws.FnKids", spec := "fnKids", unfollowed := true, recurses := true, apart := false, narrowed := true }
def FnKidsUptoSaid : Prop := fnKidsUptoRow.holds Try.pinned (OpenSpec.upto fnKidsSpec)

/-- 'laws.FnGot', WHERE WHAT IT READS IS OF BULK AT MOST 1048576: true; the input reads as it did. -/
def fnGotUptoRow : OpenClaim := { program := "ytjjocahgbmibeaa", sum := "a96ca207b9f5b8889400fa660b0fbde11e6fc27f7d97b30828756e91535efb04", func := "loop.example/g00234/laws.FnGot", spec := "fnGot", inPlace := ["slices.overlaps[loop.example/g00234/impl.Pair]"], unfollowed := true, recurses := true, apart := false, narrowed := true }
def FnGotUptoSaid : Prop := fnGotUptoRow.holds Try.pinned (OpenSpec.upto fnGotSpec)

/-- 'laws.FnRanged', WHERE WHAT IT READS IS OF BULK AT MOST 1048576: true; the input reads as it did. -/
def fnRangedUptoRow : OpenClaim := { program := "ytjjocahgbmibeaa", sum := "a96ca207b9f5b8889400fa660b0fbde11e6fc27f7d97b30828756e91535efb04", func := "loop.example/g00234/laws.FnRanged", spec := "fnRanged", inPlace := ["slices.overlaps[loop.example/g00234/impl.Pair]"], unfollowed := true, recurses := true, apart := false, narrowed := true }
def FnRangedUptoSaid : Prop := fnRangedUptoRow.holds Try.pinned (OpenSpec.upto fnRangedSpec)

/-- 'laws.FnWrites', WHERE WHAT IT READS IS OF BULK AT MOST 1048576: true; the input reads as it did. -/
def fnWritesUptoRow : OpenClaim := { program := "ytjjocahgbmibeaa", sum := "a96ca207b9f5b8889400fa660b0fbde11e6fc27f7d97b30828756e91535efb04", func := "loop.example/g00234/laws.FnWrites", spec := "fnWrites", recurses := true, apart := false, narrowed := true }
def FnWritesUptoSaid : Prop := fnWritesUptoRow.holds Try.pinned (OpenSpec.upto fnWritesSpec)

/-- 'laws.FnExactGetNode', WHERE WHAT IT READS IS OF BULK AT MOST 1048576: true; the input reads as it did. -/
def fnExactGetNodeUptoRow : OpenClaim := { program := "ytjjocahgbmibeaa", sum := "a96ca207b9f5b8889400fa660b0fbde11e6fc27f7d97b30828756e91535efb04", func := "loop.example/g00234/laws.FnExactGetNode", spec := "fnExactGetNode", recurses := true, apart := false, narrowed := true }
def FnExactGetNodeUptoSaid : Prop := fnExactGetNodeUptoRow.holds Try.pinned (OpenSpec.upto fnExactGetNodeSpec)

/-- 'laws.FnExactReadTree', WHERE WHAT IT READS IS OF BULK AT MOST 1048576: true; the input reads as it did. -/
def fnExactReadTreeUptoRow : OpenClaim := { program := "ytjjocahgbmibeaa", sum := "a96ca207b9f5b8889400fa660b0fbde11e6fc27f7d97b30828756e91535efb04", func := "loop.example/g00234/laws.FnExactReadTree", spec := "fnExactReadTree", unfollowed := true, recurses := true, apart := false, narrowed := true }
def FnExactReadTreeUptoSaid : Prop := fnExactReadTreeUptoRow.holds Try.pinned (OpenSpec.upto fnExactReadTreeSpec)

/-- 'laws.FnExactOpen', WHERE WHAT IT READS IS OF BULK AT MOST 1048576: true; the input reads as it did. -/
def fnExactOpenUptoRow : OpenClaim := { program := "ytjjocahgbmibeaa", sum := "a96ca207b9f5b8889400fa660b0fbde11e6fc27f7d97b30828756e91535efb04", func := "loop.example/g00234/laws.FnExactOpen", spec := "fnExactOpen", unfollowed := true, recurses := true, apart := false, narrowed := true }
def FnExactOpenUptoSaid : Prop := fnExactOpenUptoRow.holds Try.pinned (OpenSpec.upto fnExactOpenSpec)

end Rows
end Go.Proofs.Ytjjocahgbmibeaa
