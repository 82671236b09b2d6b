-- Written by a program of this session, which goes by the kit's print. Not trusted: Lean checks it.
import Derived.Test.YtomeiaphaimjoaaPFnNumBytesx0
import Derived.Test.YtomeiaphaimjoaaPFnNumBytesx1
import Derived.Test.YtomeiaphaimjoaaPFnNumBytesx2
import Derived.Test.YtomeiaphaimjoaaPFnNumBytesx3
import Derived.Test.YtomeiaphaimjoaaPFnNumBytesx4
import Derived.Test.YtomeiaphaimjoaaPFnNumBytesx5
namespace Go.Proofs.Ytomeiaphaimjoaa.PFnNumBytes
open Go.RowKit Go.Proofs.YtomeiaphaimjoaaW.PrintWords Go.Proofs.YtomeiaphaimjoaaW.PrintLast Go.Proofs.YtomeiaphaimjoaaW.PrintMore
attribute [local go_sem] max2_int min2_int max_two min_two max_three min_three max_four min_four   -- for this text's walks alone
set_option linter.unusedVariables false
set_option linter.unusedSimpArgs false

end Go.Proofs.Ytomeiaphaimjoaa.PFnNumBytes
