/- The arguments of the law FnExactMsgOk, as values of the printed kinds, and the pure statement that is left of it. A text of this session. -/
import Derived.Test.YtomeiaphaimjoaaPFnExactMsgOkx1
import Derived.Test.YtomeiaphaimjoaaOpen
namespace Go.Proofs.Ytomeiaphaimjoaa.OpnFnExactMsgOk
open Go.RowKit Go.Proofs.Ytomeiaphaimjoaa.PFnExactMsgOk Go.Proofs.YtomeiaphaimjoaaW.PrintWords Go.Proofs.YtomeiaphaimjoaaOpen

theorem par0 (n : Nat) : Opens Try.prog n 26 (Kd.pair (Kd.int .i64) (Kd.pair (Kd.int .i64) (Kd.int .i64))) (fun x => ((Lit.int .i64 x.1).wf = true ∧ ((Lit.int .i64 x.2.1).wf = true ∧ (Lit.int .i64 x.2.2).wf = true))) :=
  Opens.imp (Opens.mono (opens_struct Try.underlying26 (by kernel_rfl) (opens_field rfl (by kernel_rfl) (opens_int n Try.underlying3) (opens_field rfl (by kernel_rfl) (opens_int n Try.underlying3) (opens_last rfl (by kernel_rfl) (opens_int n Try.underlying3))))) (Nat.le_succ _)) (fun _ h => h)

/-- The one pure statement that is left of the law. -/
def Pure : Prop := ∀ (a0_0 : Int) (a0_1 : Int) (a0_2 : Int), (Lit.int .i64 a0_0).wf = true → (Lit.int .i64 a0_1).wf = true → (Lit.int .i64 a0_2).wf = true → ∃ k, laws_FnExactMsgOk.f k a0_0 a0_1 a0_2 = some true

end Go.Proofs.Ytomeiaphaimjoaa.OpnFnExactMsgOk
