/- Most of the program and Most of the reference answer the same at every number: no conditions. -/
import Derived.Test.YtomeiaphaimjoaaPFnExactMostx1
namespace Go.Proofs.Ytomeiaphaimjoaa.Pure
open Go.RowKit Go.Proofs.Ytomeiaphaimjoaa.PFnExactMost Go.Proofs.YtomeiaphaimjoaaW.PrintWords Go.Proofs.YtomeiaphaimjoaaW.PrintLast

theorem FnExactMost : laws_FnExactMost.Pure := by
  intro a0 _
  simp [laws_FnExactMost.f, spec_Most.f, impl_Most.f]

end Go.Proofs.Ytomeiaphaimjoaa.Pure
