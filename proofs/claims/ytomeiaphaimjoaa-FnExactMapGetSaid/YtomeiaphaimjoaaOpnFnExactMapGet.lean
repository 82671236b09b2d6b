/- The arguments of the law FnExactMapGet, as values of the printed kinds, and the pure statement that is left of it. A text of this session. -/
import Derived.Test.YtomeiaphaimjoaaPFnExactMapGetx2
import Derived.Test.YtomeiaphaimjoaaOpen
namespace Go.Proofs.Ytomeiaphaimjoaa.OpnFnExactMapGet
open Go.RowKit Go.Proofs.Ytomeiaphaimjoaa.PFnExactMapGet Go.Proofs.YtomeiaphaimjoaaW.PrintWords Go.Proofs.YtomeiaphaimjoaaOpen

def ok76 (y : S76) : Prop := (Lit.int .i64 y.f0).wf = true ∧ (Lit.int .i64 y.f1).wf = true
theorem o76 (n : Nat) : Opens Try.prog n 76 k76 ok76 :=
  Opens.imp (Opens.mono (opens_iso (fun (x : (Int) × (Int)) => (⟨x.1, x.2⟩ : S76)) (fun _ => rfl) (opens_struct Try.underlying76 (by kernel_rfl) (opens_field rfl (by kernel_rfl) (opens_int n Try.underlying3) (opens_last rfl (by kernel_rfl) (opens_int n Try.underlying3))))) (Nat.le_succ _)) (fun _ h => h)
theorem par0 (n : Nat) : Opens Try.prog n 35 (Kd.slice 76 k76) (fun xs => (xs.length * 16 ≤ 140737488351232 ∧ ∀ z2_ ∈ xs, ok76 z2_)) :=
  Opens.imp (Opens.mono (opens_slice (B := 16) Try.underlying35 (by kernel_rfl) (by kernel_rfl) (o76 n)) (Nat.le_succ _)) (fun _ h => h)

/-- The one pure statement that is left of the law. -/
def Pure : Prop := ∀ (l0 : List (S76)) (a1 : Int), (l0.length * 16 ≤ 140737488351232 ∧ ∀ z2_ ∈ l0, ok76 z2_) → (Lit.int .i64 a1).wf = true → ∃ k, laws_FnExactMapGet.f k l0 a1 = some true

end Go.Proofs.Ytomeiaphaimjoaa.OpnFnExactMapGet
