/- The arguments of the law FnExactEntriesFrom, as values of the printed kinds, and the pure statement that is left of it. A text of this session. -/
import Derived.Test.YtomeiaphaimjoaaPFnExactEntriesFromx3
import Derived.Test.YtomeiaphaimjoaaOpen
namespace Go.Proofs.Ytomeiaphaimjoaa.OpnFnExactEntriesFrom
open Go.RowKit Go.Proofs.Ytomeiaphaimjoaa.PFnExactEntriesFrom Go.Proofs.YtomeiaphaimjoaaW.PrintWords Go.Proofs.YtomeiaphaimjoaaOpen

def ok26 (y : S26) : Prop := (Lit.int .i64 y.f0).wf = true ∧ (Lit.int .i64 y.f1).wf = true ∧ (Lit.int .i64 y.f2).wf = true
theorem o26 (n : Nat) : Opens Try.prog n 26 k26 ok26 :=
  Opens.imp (Opens.mono (opens_iso (fun (x : (Int) × (Int) × (Int)) => (⟨x.1, x.2.1, x.2.2⟩ : S26)) (fun _ => rfl) (opens_struct Try.underlying26 (by kernel_rfl) (opens_field rfl (by kernel_rfl) (opens_int n Try.underlying3) (opens_field rfl (by kernel_rfl) (opens_int n Try.underlying3) (opens_last rfl (by kernel_rfl) (opens_int n Try.underlying3)))))) (Nat.le_succ _)) (fun _ h => h)
def ok98 (y : S98) : Prop := (Lit.int .i64 y.f0).wf = true ∧ (Lit.int .i64 y.f1).wf = true ∧ ok26 y.f2
theorem o98 (n : Nat) : Opens Try.prog n 98 k98 ok98 :=
  Opens.imp (Opens.mono (opens_iso (fun (x : (Int) × (Int) × (S26)) => (⟨x.1, x.2.1, x.2.2⟩ : S98)) (fun _ => rfl) (opens_struct Try.underlying98 (by kernel_rfl) (opens_field rfl (by kernel_rfl) (opens_int n Try.underlying3) (opens_field rfl (by kernel_rfl) (opens_int n Try.underlying3) (opens_last rfl (by kernel_rfl) (o26 n)))))) (Nat.le_succ _)) (fun _ h => h)
def ok100 (y : S100) : Prop := (Lit.int .i64 y.f0).wf = true ∧ ok98 y.f1
theorem o100 (n : Nat) : Opens Try.prog n 100 k100 ok100 :=
  Opens.imp (Opens.mono (opens_iso (fun (x : (Int) × (S98)) => (⟨x.1, x.2⟩ : S100)) (fun _ => rfl) (opens_struct Try.underlying100 (by kernel_rfl) (opens_field rfl (by kernel_rfl) (opens_int n Try.underlying3) (opens_last rfl (by kernel_rfl) (o98 n))))) (Nat.le_succ _)) (fun _ h => h)
theorem par0 (n : Nat) : Opens Try.prog n 51 (Kd.pair (Kd.int .i64) (Kd.pair (Kd.int .i64) (Kd.slice 100 k100))) (fun x => ((Lit.int .i64 x.1).wf = true ∧ ((Lit.int .i64 x.2.1).wf = true ∧ (x.2.2.length * 48 ≤ 140737488351232 ∧ ∀ z5_ ∈ x.2.2, ok100 z5_)))) :=
  Opens.imp (Opens.mono (opens_struct Try.underlying51 (by kernel_rfl) (opens_field rfl (by kernel_rfl) (opens_int n Try.underlying3) (opens_field rfl (by kernel_rfl) (opens_int n Try.underlying3) (opens_last rfl (by kernel_rfl) (Opens.mono (opens_slice (B := 48) Try.underlying49 (by kernel_rfl) (by kernel_rfl) (o100 n)) (Nat.le_succ _)))))) (Nat.le_succ _)) (fun _ h => h)

/-- The one pure statement that is left of the law. -/
def Pure : Prop := ∀ (a0_0 : Int) (a0_1 : Int) (l0_2 : List (S100)) (a1 : Int), (Lit.int .i64 a0_0).wf = true → (Lit.int .i64 a0_1).wf = true → (l0_2.length * 48 ≤ 140737488351232 ∧ ∀ z4_ ∈ l0_2, ok100 z4_) → (Lit.int .i64 a1).wf = true → ∃ k, laws_FnExactEntriesFrom.f k a0_0 a0_1 l0_2 a1 = some true

end Go.Proofs.Ytomeiaphaimjoaa.OpnFnExactEntriesFrom
