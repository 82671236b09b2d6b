-- Written by a program of this session, which goes by the kit's print. Not trusted: Lean checks it.
import Derived.Test.YtfnndcpaldkkoaaPFnExactKidOfx0
import Derived.Test.YtfnndcpaldkkoaaPFnExactKidOfx1
import Derived.Test.YtfnndcpaldkkoaaPFnExactKidOfx2
import Derived.Test.YtfnndcpaldkkoaaPFnExactKidOfx3
import Derived.Test.YtfnndcpaldkkoaaPFnExactKidOfx4
import Derived.Test.YtfnndcpaldkkoaaPFnExactKidOfx5
import Derived.Test.YtfnndcpaldkkoaaPFnExactKidOfx6
import Derived.Test.YtfnndcpaldkkoaaPFnExactKidOfx7
import Derived.Test.YtfnndcpaldkkoaaPFnExactKidOfx8
import Derived.Test.YtfnndcpaldkkoaaPFnExactKidOfx9
import Derived.Test.YtfnndcpaldkkoaaPFnExactKidOfx10
import Derived.Test.YtfnndcpaldkkoaaPFnExactKidOfx11
namespace Go.Proofs.Ytfnndcpaldkkoaa.PFnExactKidOf
open Go.RowKit Go.Proofs.YtfnndcpaldkkoaaW.PrintWords Go.Proofs.YtfnndcpaldkkoaaW.PrintLast Go.Proofs.YtfnndcpaldkkoaaW.PrintMore
attribute [local go_sem] max2_int min2_int max_two min_two max_three min_three max_four min_four   -- for this text's walks alone
set_option linter.unusedVariables false
set_option linter.unusedSimpArgs false

end Go.Proofs.Ytfnndcpaldkkoaa.PFnExactKidOf
