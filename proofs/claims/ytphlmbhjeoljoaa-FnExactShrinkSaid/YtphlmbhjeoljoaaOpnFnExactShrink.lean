/- The arguments of the law FnExactShrink, as values of the printed kinds, and the pure statement that is left of it. A text of this session. -/
import Derived.Test.YtphlmbhjeoljoaaPFnExactShrinkx7
import Derived.Test.YtphlmbhjeoljoaaPFnExactShrinkwOpen
namespace Go.Proofs.Ytphlmbhjeoljoaa.OpnFnExactShrink
open Go.RowKit Go.Proofs.Ytphlmbhjeoljoaa.PFnExactShrink Go.Proofs.YtphlmbhjeoljoaaW.PrintWords Go.Proofs.YtphlmbhjeoljoaaOpen

def ok63 (y : S63) : Prop := (Lit.int .i64 y.f0).wf = true ∧ (Lit.int .i64 y.f1).wf = true ∧ (Lit.int .i64 y.f2).wf = true
theorem o63 (n : Nat) : Opens Try.prog n 63 k63 ok63 :=
  Opens.imp (Opens.mono (opens_iso (fun (x : (Int) × (Int) × (Int)) => (⟨x.1, x.2.1, x.2.2⟩ : S63)) (fun _ => rfl) (opens_struct Try.underlying63 (by kernel_rfl) (opens_field rfl (by kernel_rfl) (opens_int n Try.underlying3) (opens_field rfl (by kernel_rfl) (opens_int n Try.underlying3) (opens_last rfl (by kernel_rfl) (opens_int n Try.underlying3)))))) (Nat.le_succ _)) (fun _ h => h)
theorem par0 (n : Nat) : Opens Try.prog n 22 (Kd.slice 63 k63) (fun xs => (xs.length * 24 ≤ 140737488351232 ∧ ∀ z2_ ∈ xs, ok63 z2_)) :=
  Opens.imp (Opens.mono (opens_slice (B := 24) Try.underlying22 (by kernel_rfl) (by kernel_rfl) (o63 n)) (Nat.le_succ _)) (fun _ h => h)

/-- The one pure statement that is left of the law. -/
def Pure : Prop := ∀ (l0 : List (S63)), (l0.length * 24 ≤ 140737488351232 ∧ ∀ z2_ ∈ l0, ok63 z2_) → ∃ k, laws_FnExactShrink.f k l0 = some true

end Go.Proofs.Ytphlmbhjeoljoaa.OpnFnExactShrink
