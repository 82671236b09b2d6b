/- The arguments of the law FnExactLogCut, as values of the printed kinds, and the pure statement that is left of it. A text of this session. -/
import Derived.Test.YtphlmbhjeoljoaaPFnExactLogCutx5
import Derived.Test.YtphlmbhjeoljoaaOpen
namespace Go.Proofs.Ytphlmbhjeoljoaa.OpnFnExactLogCut
open Go.RowKit Go.Proofs.Ytphlmbhjeoljoaa.PFnExactLogCut Go.Proofs.YtphlmbhjeoljoaaW.PrintWords Go.Proofs.YtphlmbhjeoljoaaOpen

def ok63 (y : S63) : Prop := (Lit.int .i64 y.f0).wf = true ∧ (Lit.int .i64 y.f1).wf = true ∧ (Lit.int .i64 y.f2).wf = true
theorem o63 (n : Nat) : Opens Try.prog n 63 k63 ok63 :=
  Opens.imp (Opens.mono (opens_iso (fun (x : (Int) × (Int) × (Int)) => (⟨x.1, x.2.1, x.2.2⟩ : S63)) (fun _ => rfl) (opens_struct Try.underlying63 (by kernel_rfl) (opens_field rfl (by kernel_rfl) (opens_int n Try.underlying3) (opens_field rfl (by kernel_rfl) (opens_int n Try.underlying3) (opens_last rfl (by kernel_rfl) (opens_int n Try.underlying3)))))) (Nat.le_succ _)) (fun _ h => h)
def ok183 (y : S183) : Prop := (Lit.int .i64 y.f0).wf = true ∧ (Lit.int .i64 y.f1).wf = true ∧ ok63 y.f2
theorem o183 (n : Nat) : Opens Try.prog n 183 k183 ok183 :=
  Opens.imp (Opens.mono (opens_iso (fun (x : (Int) × (Int) × (S63)) => (⟨x.1, x.2.1, x.2.2⟩ : S183)) (fun _ => rfl) (opens_struct Try.underlying183 (by kernel_rfl) (opens_field rfl (by kernel_rfl) (opens_int n Try.underlying3) (opens_field rfl (by kernel_rfl) (opens_int n Try.underlying3) (opens_last rfl (by kernel_rfl) (o63 n)))))) (Nat.le_succ _)) (fun _ h => h)
def ok185 (y : S185) : Prop := (Lit.int .i64 y.f0).wf = true ∧ ok183 y.f1
theorem o185 (n : Nat) : Opens Try.prog n 185 k185 ok185 :=
  Opens.imp (Opens.mono (opens_iso (fun (x : (Int) × (S183)) => (⟨x.1, x.2⟩ : S185)) (fun _ => rfl) (opens_struct Try.underlying185 (by kernel_rfl) (opens_field rfl (by kernel_rfl) (opens_int n Try.underlying3) (opens_last rfl (by kernel_rfl) (o183 n))))) (Nat.le_succ _)) (fun _ h => h)
theorem par0 (n : Nat) : Opens Try.prog n 32 (Kd.pair (Kd.int .i64) (Kd.pair (Kd.int .i64) (Kd.slice 185 k185))) (fun x => ((Lit.int .i64 x.1).wf = true ∧ ((Lit.int .i64 x.2.1).wf = true ∧ (x.2.2.length * 48 ≤ 140737488351232 ∧ ∀ z5_ ∈ x.2.2, ok185 z5_)))) :=
  Opens.imp (Opens.mono (opens_struct Try.underlying32 (by kernel_rfl) (opens_field rfl (by kernel_rfl) (opens_int n Try.underlying3) (opens_field rfl (by kernel_rfl) (opens_int n Try.underlying3) (opens_last rfl (by kernel_rfl) (Opens.mono (opens_slice (B := 48) Try.underlying30 (by kernel_rfl) (by kernel_rfl) (o185 n)) (Nat.le_succ _)))))) (Nat.le_succ _)) (fun _ h => h)

/-- The one pure statement that is left of the law. -/
def Pure : Prop := ∀ (a0_0 : Int) (a0_1 : Int) (l0_2 : List (S185)) (a1 : Int), (Lit.int .i64 a0_0).wf = true → (Lit.int .i64 a0_1).wf = true → (l0_2.length * 48 ≤ 140737488351232 ∧ ∀ z4_ ∈ l0_2, ok185 z4_) → (Lit.int .i64 a1).wf = true → ∃ k, laws_FnExactLogCut.f k a0_0 a0_1 l0_2 a1 = some true

end Go.Proofs.Ytphlmbhjeoljoaa.OpnFnExactLogCut
