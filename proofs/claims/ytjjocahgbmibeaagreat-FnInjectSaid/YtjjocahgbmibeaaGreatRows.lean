/-
  No cell of these rows narrows 'for every input' (looked for: loops, veiled, ifaces, maps, wideKeys, modest, calm, conditions, laid).
  DERIVED. THE GIVEN ROWS OF THIS SEAT. 5 by the template 'for every input the law returns true; each argument reads behind the call as it read before'; 0 by the template 'total and deterministic' (their statements: YtjjocahgbmibeaaGreatTotals.lean).
  GIVEN WITH THE SEED: the statements are not yours to turn. If you find one false, say at which input.
  Laid BY PROGRAM, IN A SANDBOX (cutbox-rows.mjs): the forced cells as the released guide's own fill.sh prints them over the translation 3224ec599cbe6548… (all of the seat's roots in one cut). By AI agents, Wed Nov 11 2026. No macro, syntax, notation, axiom, sorry.
-/
import Derived.Test.YtjjocahgbmibeaaGreatChecked
import GoSem.Claim
import GoSem.ClaimJoined
import GoSem.ClaimMapViews
import Derived.JoinedTies
import Derived.KernelRfl
namespace Go.Proofs.YtjjocahgbmibeaaGreat
/- THE CELL 'sum', in the pinned program and in every row, IS THE sha256 OF THE DUMP (.gsa) THAT YtjjocahgbmibeaaGreatProg.lean LOADS. Nothing in Lean hashes anything: it is a label: what it is worth is what the hold of that sum in a sandbox is worth. -/
noncomputable def Tryz.pinned : Pinned := { name := "ytjjocahgbmibeaagreat", sum := "3224ec599cbe65487474fd3ffbbbd683206d6c885626b9cb850abb1fe8845320", checked := Tryz.checked }
namespace Rows
def none {H : Type} : Left H := { results := [], args := [] }

/-- 'laws.FnInjected': WHATEVER THE INPUT: true; the input reads as it did. -/
def fnInjectedSpec : ChangeSpec := { name := "fnInjected", fn := fun _ => fun
  | [d] => { results := [.lit (.bool true)], args := [d] }
  | _ => none }
def fnInjectedRow : OpenClaim := { program := "ytjjocahgbmibeaagreat", sum := "3224ec599cbe65487474fd3ffbbbd683206d6c885626b9cb850abb1fe8845320", func := "loop.example/g00234/laws.FnInjected", spec := "fnInjected", inPlace := ["slices.overlaps[loop.example/g00234/impl.Pair]"], unfollowed := true, recurses := true, apart := false }
def FnInjectedSaid : Prop := fnInjectedRow.holds Tryz.pinned (OpenSpec.ofChange fnInjectedSpec)

/-- ITS FALSE NEIGHBOUR: 'it returns false'. Refute it at one input. -/
def fnInjectedWrong : ChangeSpec := { name := "fnInjected", fn := fun _ => fun
  | [d] => { results := [.lit (.bool false)], args := [d] }
  | _ => none }
def FnInjectedWrongFalsely : Prop := fnInjectedRow.holds Tryz.pinned (OpenSpec.ofChange fnInjectedWrong)

/-- 'laws.FnInject': WHATEVER THE INPUT: true; the input reads as it did. -/
def fnInjectSpec : ChangeSpec := { name := "fnInject", fn := fun _ => fun
  | [d] => { results := [.lit (.bool true)], args := [d] }
  | _ => none }
def fnInjectRow : OpenClaim := { program := "ytjjocahgbmibeaagreat", sum := "3224ec599cbe65487474fd3ffbbbd683206d6c885626b9cb850abb1fe8845320", func := "loop.example/g00234/laws.FnInject", spec := "fnInject", inPlace := ["slices.overlaps[loop.example/g00234/impl.Pair]"], unfollowed := true, recurses := true, apart := false }
def FnInjectSaid : Prop := fnInjectRow.holds Tryz.pinned (OpenSpec.ofChange fnInjectSpec)

/-- ITS FALSE NEIGHBOUR: 'it returns false'. Refute it at one input. -/
def fnInjectWrong : ChangeSpec := { name := "fnInject", fn := fun _ => fun
  | [d] => { results := [.lit (.bool false)], args := [d] }
  | _ => none }
def FnInjectWrongFalsely : Prop := fnInjectRow.holds Tryz.pinned (OpenSpec.ofChange fnInjectWrong)

/-- 'laws.FnBuilt': WHATEVER THE INPUT: true; the input reads as it did. -/
def fnBuiltSpec : ChangeSpec := { name := "fnBuilt", fn := fun _ => fun
  | [d] => { results := [.lit (.bool true)], args := [d] }
  | _ => none }
def fnBuiltRow : OpenClaim := { program := "ytjjocahgbmibeaagreat", sum := "3224ec599cbe65487474fd3ffbbbd683206d6c885626b9cb850abb1fe8845320", func := "loop.example/g00234/laws.FnBuilt", spec := "fnBuilt", inPlace := ["slices.overlaps[loop.example/g00234/impl.Pair]"], unfollowed := true, recurses := true, apart := false }
def FnBuiltSaid : Prop := fnBuiltRow.holds Tryz.pinned (OpenSpec.ofChange fnBuiltSpec)

/-- ITS FALSE NEIGHBOUR: 'it returns false'. Refute it at one input. -/
def fnBuiltWrong : ChangeSpec := { name := "fnBuilt", fn := fun _ => fun
  | [d] => { results := [.lit (.bool false)], args := [d] }
  | _ => none }
def FnBuiltWrongFalsely : Prop := fnBuiltRow.holds Tryz.pinned (OpenSpec.ofChange fnBuiltWrong)

/-- 'laws.FnCrash': WHATEVER THE INPUT: true; the input reads as it did. -/
def fnCrashSpec : ChangeSpec := { name := "fnCrash", fn := fun _ => fun
  | [d] => { results := [.lit (.bool true)], args := [d] }
  | _ => none }
def fnCrashRow : OpenClaim := { program := "ytjjocahgbmibeaagreat", sum := "3224ec599cbe65487474fd3ffbbbd683206d6c885626b9cb850abb1fe8845320", func := "loop.example/g00234/laws.FnCrash", spec := "fnCrash", unfollowed := true, recurses := true, apart := false }
def FnCrashSaid : Prop := fnCrashRow.holds Tryz.pinned (OpenSpec.ofChange fnCrashSpec)

/-- ITS FALSE NEIGHBOUR: 'it returns false'. Refute it at one input. -/
def fnCrashWrong : ChangeSpec := { name := "fnCrash", fn := fun _ => fun
  | [d] => { results := [.lit (.bool false)], args := [d] }
  | _ => none }
def FnCrashWrongFalsely : Prop := fnCrashRow.holds Tryz.pinned (OpenSpec.ofChange fnCrashWrong)

/-- 'laws.FnDisk': WHATEVER THE INPUT: true; the input reads as it did. -/
def fnDiskSpec : ChangeSpec := { name := "fnDisk", fn := fun _ => fun
  | [d] => { results := [.lit (.bool true)], args := [d] }
  | _ => none }
def fnDiskRow : OpenClaim := { program := "ytjjocahgbmibeaagreat", sum := "3224ec599cbe65487474fd3ffbbbd683206d6c885626b9cb850abb1fe8845320", func := "loop.example/g00234/laws.FnDisk", spec := "fnDisk", unfollowed := true, recurses := true, apart := false }
def FnDiskSaid : Prop := fnDiskRow.holds Tryz.pinned (OpenSpec.ofChange fnDiskSpec)

/-- ITS FALSE NEIGHBOUR: 'it returns false'. Refute it at one input. -/
def fnDiskWrong : ChangeSpec := { name := "fnDisk", fn := fun _ => fun
  | [d] => { results := [.lit (.bool false)], args := [d] }
  | _ => none }
def FnDiskWrongFalsely : Prop := fnDiskRow.holds Tryz.pinned (OpenSpec.ofChange fnDiskWrong)

/- THE SECOND FORM. 'bulk': how many values and letters a reading holds, each counted each time it is reached (what is shared counts as often as it is met; a slice's spare places count too). A statement '..UptoSaid' is the law's where the arguments, and the package variables that the reading takes, are together of bulk at most 1048576: NARROWER than '..Said'. Prove '..Said' where nothing that the law and all that it calls make is longer than what came in: it says more and counts as full. Else prove '..UptoSaid'. A law counts once. -/
mutual
def uptoBulk {H : Type} : DataW H → Nat
  | .lit (.string bytes) => bytes.length + 1
  | .lit _ => 1
  | .nil => 1
  | .ptr d => uptoBulk d + 1
  | .slice elems spare => uptoBulkAll elems + uptoBulkAll spare + 1
  | .agg parts => uptoBulkAll parts + 1
  | .iface _ d => uptoBulk d + 1
  | .map entries => uptoBulkEntries entries + 1
  | .held _ => 1
def uptoBulkAll {H : Type} : List (DataW H) → Nat
  | [] => 0
  | d :: r => uptoBulk d + uptoBulkAll r
def uptoBulkEntries {H : Type} : List (Lit × DataW H) → Nat
  | [] => 0
  | x :: r => uptoBulkEntry x + uptoBulkEntries r
def uptoBulkEntry {H : Type} : Lit × DataW H → Nat
  | (.string bytes, d) => bytes.length + uptoBulk d + 1
  | (_, d) => uptoBulk d + 1
 end
def uptoSmall : (H : Type) → List (DataW H) → Bool := fun _ ds => decide (uptoBulkAll ds ≤ 1048576)
def OpenSpec.upto (s : _root_.Go.ChangeSpec) : _root_.Go.OpenSpec := { _root_.Go.OpenSpec.ofChange s with cond := some uptoSmall }

/-- 'laws.FnInjected', WHERE WHAT IT READS IS OF BULK AT MOST 1048576: true; the input reads as it did. -/
def fnInjectedUptoRow : OpenClaim := { program := "ytjjocahgbmibeaagreat", sum := "3224ec599cbe65487474fd3ffbbbd683206d6c885626b9cb850abb1fe8845320", func := "loop.example/g00234/laws.FnInjected", spec := "fnInjected", inPlace := ["slices.overlaps[loop.example/g00234/impl.Pair]"], unfollowed := true, recurses := true, apart := false, narrowed := true }
def FnInjectedUptoSaid : Prop := fnInjectedUptoRow.holds Tryz.pinned (OpenSpec.upto fnInjectedSpec)

/-- 'laws.FnInject', WHERE WHAT IT READS IS OF BULK AT MOST 1048576: true; the input reads as it did. -/
def fnInjectUptoRow : OpenClaim := { program := "ytjjocahgbmibeaagreat", sum := "3224ec599cbe65487474fd3ffbbbd683206d6c885626b9cb850abb1fe8845320", func := "loop.example/g00234/laws.FnInject", spec := "fnInject", inPlace := ["slices.overlaps[loop.example/g00234/impl.Pair]"], unfollowed := true, recurses := true, apart := false, narrowed := true }
def FnInjectUptoSaid : Prop := fnInjectUptoRow.holds Tryz.pinned (OpenSpec.upto fnInjectSpec)

/-- 'laws.FnBuilt', WHERE WHAT IT READS IS OF BULK AT MOST 1048576: true; the input reads as it did. -/
def fnBuiltUptoRow : OpenClaim := { program := "ytjjocahgbmibeaagreat", sum := "3224ec599cbe65487474fd3ffbbbd683206d6c885626b9cb850abb1fe8845320", func := "loop.example/g00234/laws.FnBuilt", spec := "fnBuilt", inPlace := ["slices.overlaps[loop.example/g00234/impl.Pair]"], unfollowed := true, recurses := true, apart := false, narrowed := true }
def FnBuiltUptoSaid : Prop := fnBuiltUptoRow.holds Tryz.pinned (OpenSpec.upto fnBuiltSpec)

/-- 'laws.FnCrash', WHERE WHAT IT READS IS OF BULK AT MOST 1048576: true; the input reads as it did. -/
def fnCrashUptoRow : OpenClaim := { program := "ytjjocahgbmibeaagreat", sum := "3224ec599cbe65487474fd3ffbbbd683206d6c885626b9cb850abb1fe8845320", func := "loop.example/g00234/laws.FnCrash", spec := "fnCrash", unfollowed := true, recurses := true, apart := false, narrowed := true }
def FnCrashUptoSaid : Prop := fnCrashUptoRow.holds Tryz.pinned (OpenSpec.upto fnCrashSpec)

/-- 'laws.FnDisk', WHERE WHAT IT READS IS OF BULK AT MOST 1048576: true; the input reads as it did. -/
def fnDiskUptoRow : OpenClaim := { program := "ytjjocahgbmibeaagreat", sum := "3224ec599cbe65487474fd3ffbbbd683206d6c885626b9cb850abb1fe8845320", func := "loop.example/g00234/laws.FnDisk", spec := "fnDisk", unfollowed := true, recurses := true, apart := false, narrowed := true }
def FnDiskUptoSaid : Prop := fnDiskUptoRow.holds Tryz.pinned (OpenSpec.upto fnDiskSpec)

end Rows
end Go.Proofs.YtjjocahgbmibeaaGreat
