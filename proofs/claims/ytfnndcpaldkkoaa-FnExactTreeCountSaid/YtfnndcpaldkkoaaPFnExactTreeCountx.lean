-- Written by a program of this session, which goes by the kit's print. Not trusted: Lean checks it.
import Derived.Test.YtfnndcpaldkkoaaPFnExactTreeCountx0
import Derived.Test.YtfnndcpaldkkoaaPFnExactTreeCountx1
import Derived.Test.YtfnndcpaldkkoaaPFnExactTreeCountx2
import Derived.Test.YtfnndcpaldkkoaaPFnExactTreeCountx3
import Derived.Test.YtfnndcpaldkkoaaPFnExactTreeCountx4
import Derived.Test.YtfnndcpaldkkoaaPFnExactTreeCountx5
import Derived.Test.YtfnndcpaldkkoaaPFnExactTreeCountx6
import Derived.Test.YtfnndcpaldkkoaaPFnExactTreeCountx7
import Derived.Test.YtfnndcpaldkkoaaPFnExactTreeCountx8
import Derived.Test.YtfnndcpaldkkoaaPFnExactTreeCountx9
import Derived.Test.YtfnndcpaldkkoaaPFnExactTreeCountx10
import Derived.Test.YtfnndcpaldkkoaaPFnExactTreeCountx11
import Derived.Test.YtfnndcpaldkkoaaPFnExactTreeCountx12
namespace Go.Proofs.Ytfnndcpaldkkoaa.PFnExactTreeCount
open Go.RowKit Go.Proofs.YtfnndcpaldkkoaaW.PrintWords Go.Proofs.YtfnndcpaldkkoaaW.PrintLast Go.Proofs.YtfnndcpaldkkoaaW.PrintMore
attribute [local go_sem] max2_int min2_int max_two min_two max_three min_three max_four min_four   -- for this text's walks alone
set_option linter.unusedVariables false
set_option linter.unusedSimpArgs false

end Go.Proofs.Ytfnndcpaldkkoaa.PFnExactTreeCount
