/- The arguments of the law FnExactMapDo, as values of the printed kinds, and the pure statement that is left of it. A text of this session. -/
import Derived.Test.YtphlmbhjeoljoaaPFnExactMapDox8
import Derived.Test.YtphlmbhjeoljoaaPFnExactMapDowOpen
namespace Go.Proofs.Ytphlmbhjeoljoaa.OpnFnExactMapDo
open Go.RowKit Go.Proofs.Ytphlmbhjeoljoaa.PFnExactMapDo Go.Proofs.YtphlmbhjeoljoaaW.PrintWords Go.Proofs.YtphlmbhjeoljoaaOpen

def ok149 (y : S149) : Prop := (Lit.int .i64 y.f0).wf = true ∧ (Lit.int .i64 y.f1).wf = true
theorem o149 (n : Nat) : Opens Try.prog n 149 k149 ok149 :=
  Opens.imp (Opens.mono (opens_iso (fun (x : (Int) × (Int)) => (⟨x.1, x.2⟩ : S149)) (fun _ => rfl) (opens_struct Try.underlying149 (by kernel_rfl) (opens_field rfl (by kernel_rfl) (opens_int n Try.underlying3) (opens_last rfl (by kernel_rfl) (opens_int n Try.underlying3))))) (Nat.le_succ _)) (fun _ h => h)
theorem par0 (n : Nat) : Opens Try.prog n 61 (Kd.slice 149 k149) (fun xs => (xs.length * 16 ≤ 140737488351232 ∧ ∀ z2_ ∈ xs, ok149 z2_)) :=
  Opens.imp (Opens.mono (opens_slice (B := 16) Try.underlying61 (by kernel_rfl) (by kernel_rfl) (o149 n)) (Nat.le_succ _)) (fun _ h => h)
theorem par1 (n : Nat) : Opens Try.prog n 63 (Kd.pair (Kd.int .i64) (Kd.pair (Kd.int .i64) (Kd.int .i64))) (fun x => ((Lit.int .i64 x.1).wf = true ∧ ((Lit.int .i64 x.2.1).wf = true ∧ (Lit.int .i64 x.2.2).wf = true))) :=
  Opens.imp (Opens.mono (opens_struct Try.underlying63 (by kernel_rfl) (opens_field rfl (by kernel_rfl) (opens_int n Try.underlying3) (opens_field rfl (by kernel_rfl) (opens_int n Try.underlying3) (opens_last rfl (by kernel_rfl) (opens_int n Try.underlying3))))) (Nat.le_succ _)) (fun _ h => h)

/-- The one pure statement that is left of the law. -/
def Pure : Prop := ∀ (l0 : List (S149)) (a1_0 : Int) (a1_1 : Int) (a1_2 : Int), (l0.length * 16 ≤ 140737488351232 ∧ ∀ z2_ ∈ l0, ok149 z2_) → (Lit.int .i64 a1_0).wf = true → (Lit.int .i64 a1_1).wf = true → (Lit.int .i64 a1_2).wf = true → ∃ k, laws_FnExactMapDo.f k l0 a1_0 a1_1 a1_2 = some true

end Go.Proofs.Ytphlmbhjeoljoaa.OpnFnExactMapDo
