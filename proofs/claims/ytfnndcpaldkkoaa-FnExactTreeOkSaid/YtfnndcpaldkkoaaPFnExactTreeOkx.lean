-- Written by a program of this session, which goes by the kit's print. Not trusted: Lean checks it.
import Derived.Test.YtfnndcpaldkkoaaPFnExactTreeOkx0
import Derived.Test.YtfnndcpaldkkoaaPFnExactTreeOkx1
import Derived.Test.YtfnndcpaldkkoaaPFnExactTreeOkx2
import Derived.Test.YtfnndcpaldkkoaaPFnExactTreeOkx3
import Derived.Test.YtfnndcpaldkkoaaPFnExactTreeOkx4
import Derived.Test.YtfnndcpaldkkoaaPFnExactTreeOkx5
import Derived.Test.YtfnndcpaldkkoaaPFnExactTreeOkx6
import Derived.Test.YtfnndcpaldkkoaaPFnExactTreeOkx7
import Derived.Test.YtfnndcpaldkkoaaPFnExactTreeOkx8
import Derived.Test.YtfnndcpaldkkoaaPFnExactTreeOkx9
import Derived.Test.YtfnndcpaldkkoaaPFnExactTreeOkx10
import Derived.Test.YtfnndcpaldkkoaaPFnExactTreeOkx11
namespace Go.Proofs.Ytfnndcpaldkkoaa.PFnExactTreeOk
open Go.RowKit Go.Proofs.YtfnndcpaldkkoaaW.PrintWords Go.Proofs.YtfnndcpaldkkoaaW.PrintLast Go.Proofs.YtfnndcpaldkkoaaW.PrintMore
attribute [local go_sem] max2_int min2_int max_two min_two max_three min_three max_four min_four   -- for this text's walks alone
set_option linter.unusedVariables false
set_option linter.unusedSimpArgs false

end Go.Proofs.Ytfnndcpaldkkoaa.PFnExactTreeOk
