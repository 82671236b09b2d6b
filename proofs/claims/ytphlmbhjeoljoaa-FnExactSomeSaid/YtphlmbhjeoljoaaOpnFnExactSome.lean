/- The arguments of the law FnExactSome, as values of the printed kinds, and the pure statement that is left of it. A text of this session. -/
import Derived.Test.YtphlmbhjeoljoaaPFnExactSomex9
import Derived.Test.YtphlmbhjeoljoaaPFnExactSomewOpen
namespace Go.Proofs.Ytphlmbhjeoljoaa.OpnFnExactSome
open Go.RowKit Go.Proofs.Ytphlmbhjeoljoaa.PFnExactSome Go.Proofs.YtphlmbhjeoljoaaW.PrintWords Go.Proofs.YtphlmbhjeoljoaaOpen

def ok162 (y : S162) : Prop := (Lit.int .i64 y.f0).wf = true ∧ (Lit.int .i64 y.f1).wf = true
theorem o162 (n : Nat) : Opens Try.prog n 162 k162 ok162 :=
  Opens.imp (Opens.mono (opens_iso (fun (x : (Int) × (Int)) => (⟨x.1, x.2⟩ : S162)) (fun _ => rfl) (opens_struct Try.underlying162 (by kernel_rfl) (opens_field rfl (by kernel_rfl) (opens_int n Try.underlying3) (opens_last rfl (by kernel_rfl) (opens_int n Try.underlying3))))) (Nat.le_succ _)) (fun _ h => h)
def ok164 (y : S164) : Prop := (Lit.int .i64 y.f0).wf = true ∧ y.f1.size ≤ 140737488351232 ∧ ok162 y.f2
theorem o164 (n : Nat) : Opens Try.prog n 164 k164 ok164 :=
  Opens.imp (Opens.mono (opens_iso (fun (x : (Int) × (ByteArray) × (S162)) => (⟨x.1, x.2.1, x.2.2⟩ : S164)) (fun _ => rfl) (opens_struct Try.underlying164 (by kernel_rfl) (opens_field rfl (by kernel_rfl) (opens_int n Try.underlying3) (opens_field rfl (by kernel_rfl) (opens_string n Try.underlying9) (opens_last rfl (by kernel_rfl) (o162 n)))))) (Nat.le_succ _)) (fun _ h => h)
theorem par0 (n : Nat) : Opens Try.prog n 89 (Kd.pair (Kd.slice 9 Kd.string) (Kd.slice 162 k162)) (fun x => ((x.1.length * 16 ≤ 140737488351232 ∧ ∀ z3_ ∈ x.1, z3_.size ≤ 140737488351232) ∧ (x.2.length * 16 ≤ 140737488351232 ∧ ∀ z3_ ∈ x.2, ok162 z3_))) :=
  Opens.imp (Opens.mono (opens_struct Try.underlying89 (by kernel_rfl) (opens_field rfl (by kernel_rfl) (Opens.mono (opens_slice (B := 16) Try.underlying86 (by kernel_rfl) (by kernel_rfl) (opens_string n Try.underlying9)) (Nat.le_succ _)) (opens_last rfl (by kernel_rfl) (Opens.mono (opens_slice (B := 16) Try.underlying87 (by kernel_rfl) (by kernel_rfl) (o162 n)) (Nat.le_succ _))))) (Nat.le_succ _)) (fun _ h => h)
theorem par1 (n : Nat) : Opens Try.prog n 90 (Kd.slice 164 k164) (fun xs => (xs.length * 40 ≤ 140737488351232 ∧ ∀ z2_ ∈ xs, ok164 z2_)) :=
  Opens.imp (Opens.mono (opens_slice (B := 40) Try.underlying90 (by kernel_rfl) (by kernel_rfl) (o164 n)) (Nat.le_succ _)) (fun _ h => h)
theorem par2 (n : Nat) : Opens Try.prog n 105 (Kd.slice 4 Kd.bool) (fun xs => (xs.length * 1 ≤ 140737488351232 ∧ ∀ z2_ ∈ xs, True)) :=
  Opens.imp (Opens.mono (opens_slice (B := 1) Try.underlying105 (by kernel_rfl) (by kernel_rfl) (opens_bool n Try.underlying4)) (Nat.le_succ _)) (fun _ h => h)

/-- The one pure statement that is left of the law. -/
def Pure : Prop := ∀ (l0_0 : List (ByteArray)) (l0_1 : List (S162)) (l1 : List (S164)) (l2 : List (Bool)), (l0_0.length * 16 ≤ 140737488351232 ∧ ∀ z4_ ∈ l0_0, z4_.size ≤ 140737488351232) → (l0_1.length * 16 ≤ 140737488351232 ∧ ∀ z4_ ∈ l0_1, ok162 z4_) → (l1.length * 40 ≤ 140737488351232 ∧ ∀ z2_ ∈ l1, ok164 z2_) → (l2.length * 1 ≤ 140737488351232 ∧ ∀ z2_ ∈ l2, True) → ∃ k, laws_FnExactSome.f k l0_0 l0_1 l1 l2 = some true

end Go.Proofs.Ytphlmbhjeoljoaa.OpnFnExactSome
