/- The arguments of the law FnExactGetNum, as values of the printed kinds, and the pure statement that is left of it. A text of this session. -/
import Derived.Test.YtomeiaphaimjoaaPFnExactGetNumx2
import Derived.Test.YtomeiaphaimjoaaOpen
namespace Go.Proofs.Ytomeiaphaimjoaa.OpnFnExactGetNum
open Go.RowKit Go.Proofs.Ytomeiaphaimjoaa.PFnExactGetNum Go.Proofs.YtomeiaphaimjoaaW.PrintWords Go.Proofs.YtomeiaphaimjoaaOpen

theorem par0 (n : Nat) : Opens Try.prog n 31 (Kd.slice 5 (Kd.int .u8)) (fun xs => (xs.length * 1 ≤ 140737488351232 ∧ ∀ z2_ ∈ xs, (Lit.int .u8 z2_).wf = true)) :=
  Opens.imp (Opens.mono (opens_slice (B := 1) Try.underlying31 (by kernel_rfl) (by kernel_rfl) (opens_int n Try.underlying5)) (Nat.le_succ _)) (fun _ h => h)

/-- The one pure statement that is left of the law. -/
def Pure : Prop := ∀ (l0 : List (Int)) (a1 : Int), (l0.length * 1 ≤ 140737488351232 ∧ ∀ z2_ ∈ l0, (Lit.int .u8 z2_).wf = true) → (Lit.int .i64 a1).wf = true → ∃ k, laws_FnExactGetNum.f k l0 a1 = some true

end Go.Proofs.Ytomeiaphaimjoaa.OpnFnExactGetNum
