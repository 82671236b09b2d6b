/- The arguments of the law FnNumBytes, as values of the printed kinds, and the pure statement that is left of it. A text of this session. -/
import Derived.Test.YtomeiaphaimjoaaPFnNumBytesx5
import Derived.Test.YtomeiaphaimjoaaPFnNumByteswOpen
namespace Go.Proofs.Ytomeiaphaimjoaa.OpnFnNumBytes
open Go.RowKit Go.Proofs.Ytomeiaphaimjoaa.PFnNumBytes Go.Proofs.YtomeiaphaimjoaaW.PrintWords Go.Proofs.YtomeiaphaimjoaaOpen

theorem par0 (n : Nat) : Opens Try.prog n 31 (Kd.slice 5 (Kd.int .u8)) (fun xs => (xs.length * 1 ≤ 140737488351232 ∧ ∀ z2_ ∈ xs, (Lit.int .u8 z2_).wf = true)) :=
  Opens.imp (Opens.mono (opens_slice (B := 1) Try.underlying31 (by kernel_rfl) (by kernel_rfl) (opens_int n Try.underlying5)) (Nat.le_succ _)) (fun _ h => h)

/-- The one pure statement that is left of the law. -/
def Pure : Prop := ∀ (l0 : List (Int)), (l0.length * 1 ≤ 140737488351232 ∧ ∀ z2_ ∈ l0, (Lit.int .u8 z2_).wf = true) → ∃ k, laws_FnNumBytes.f k l0 = some true

end Go.Proofs.Ytomeiaphaimjoaa.OpnFnNumBytes
