-- Written by a program of this session, which goes by the kit's print. Not trusted: Lean checks it.
import Derived.Test.YtphlmbhjeoljoaaPFnLogCutx0
namespace Go.Proofs.Ytphlmbhjeoljoaa.PFnLogCut
open Go.RowKit Go.Proofs.YtphlmbhjeoljoaaW.PrintWords Go.Proofs.YtphlmbhjeoljoaaW.PrintLast Go.Proofs.YtphlmbhjeoljoaaW.PrintMore
attribute [local go_sem] max2_int min2_int max_two min_two max_three min_three max_four min_four   -- for this text's walks alone
set_option linter.unusedVariables false
set_option linter.unusedSimpArgs false

theorem eqA67 (d : Nat) (w : World) (x0 y0 : Int) (x1 y1 : Int) (x2 y2 : Int) :
  (Op.equalIn (d + 2) 67 (.agg #[.int .i64 x0, .int .i64 x1, .int .i64 x2]) (.agg #[.int .i64 y0, .int .i64 y1, .int .i64 y2])).run Try.prog w = .ok (x0 == y0 && (x1 == y1 && (x2 == y2))) w := by
 refine eqA_of Try.underlying67 (by kernel_rfl) ?_
 refine eqf_cons (by rfl) z146_ z146_ (by go_simp) ?_
 refine eqf_cons (by rfl) z146_ z146_ (by go_simp) ?_
 exact eqf_last (by rfl) z146_ z146_ (by go_simp)
theorem eqA127 (d : Nat) (w : World) (x0 y0 : Int) (x1 y1 : Int) (x2 y2 : Int) (x3 y3 : Int) (x4 y4 : Int) :
  (Op.equalIn (d + 3) 127 (.agg #[.int .i64 x0, .int .i64 x1, .int .i64 x2, .int .i64 x3, .int .i64 x4]) (.agg #[.int .i64 y0, .int .i64 y1, .int .i64 y2, .int .i64 y3, .int .i64 y4])).run Try.prog w = .ok (x0 == y0 && (x1 == y1 && ((x2 == y2 && (x3 == y3 && (x4 == y4)))))) w := by
 refine eqA_of Try.underlying127 (by kernel_rfl) ?_
 refine eqf_cons (by rfl) z146_ z146_ (by go_simp) ?_
 refine eqf_cons (by rfl) z146_ z146_ (by go_simp) ?_
 exact eqf_last (by rfl) (by go_simp) (by go_simp) (eqA67 (d + 0) w _ _ _ _ _ _)
theorem eqA129 (d : Nat) (w : World) (x0 y0 : Int) (x1 y1 : Int) (x2 y2 : Int) (x3 y3 : Int) (x4 y4 : Int) (x5 y5 : Int) :
  (Op.equalIn (d + 4) 129 (.agg #[.int .i64 x0, .int .i64 x1, .int .i64 x2, .int .i64 x3, .int .i64 x4, .int .i64 x5]) (.agg #[.int .i64 y0, .int .i64 y1, .int .i64 y2, .int .i64 y3, .int .i64 y4, .int .i64 y5])).run Try.prog w = .ok (x0 == y0 && ((x1 == y1 && (x2 == y2 && ((x3 == y3 && (x4 == y4 && (x5 == y5)))))))) w := by
 refine eqA_of Try.underlying129 (by kernel_rfl) ?_
 refine eqf_cons (by rfl) z146_ z146_ (by go_simp) ?_
 exact eqf_last (by rfl) (by go_simp) (by go_simp) (eqA127 (d + 0) w _ _ _ _ _ _ _ _ _ _)
end Go.Proofs.Ytphlmbhjeoljoaa.PFnLogCut
