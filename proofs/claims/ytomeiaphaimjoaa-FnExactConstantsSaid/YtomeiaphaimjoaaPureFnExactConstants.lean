/- The program's constants are those of the document: the law FnExactConstants is true, without conditions. -/
import Derived.Test.YtomeiaphaimjoaaPFnExactConstantsx1
namespace Go.Proofs.Ytomeiaphaimjoaa.Pure
open Go.RowKit Go.Proofs.Ytomeiaphaimjoaa.PFnExactConstants Go.Proofs.YtomeiaphaimjoaaW.PrintWords Go.Proofs.YtomeiaphaimjoaaW.PrintLast

theorem FnExactConstants : laws_FnExactConstants.Pure := rfl

end Go.Proofs.Ytomeiaphaimjoaa.Pure
