-- Written by a program of this session, which goes by the kit's print. Not trusted: Lean checks it.
import Derived.Test.YtfnndcpaldkkoaaPFnExactTreeDepthx0
import Derived.Test.YtfnndcpaldkkoaaPFnExactTreeDepthx1
import Derived.Test.YtfnndcpaldkkoaaPFnExactTreeDepthx2
import Derived.Test.YtfnndcpaldkkoaaPFnExactTreeDepthx3
import Derived.Test.YtfnndcpaldkkoaaPFnExactTreeDepthx4
import Derived.Test.YtfnndcpaldkkoaaPFnExactTreeDepthx5
import Derived.Test.YtfnndcpaldkkoaaPFnExactTreeDepthx6
import Derived.Test.YtfnndcpaldkkoaaPFnExactTreeDepthx7
import Derived.Test.YtfnndcpaldkkoaaPFnExactTreeDepthx8
import Derived.Test.YtfnndcpaldkkoaaPFnExactTreeDepthx9
import Derived.Test.YtfnndcpaldkkoaaPFnExactTreeDepthx10
import Derived.Test.YtfnndcpaldkkoaaPFnExactTreeDepthx11
import Derived.Test.YtfnndcpaldkkoaaPFnExactTreeDepthx12
namespace Go.Proofs.Ytfnndcpaldkkoaa.PFnExactTreeDepth
open Go.RowKit Go.Proofs.YtfnndcpaldkkoaaW.PrintWords Go.Proofs.YtfnndcpaldkkoaaW.PrintLast Go.Proofs.YtfnndcpaldkkoaaW.PrintMore
attribute [local go_sem] max2_int min2_int max_two min_two max_three min_three max_four min_four   -- for this text's walks alone
set_option linter.unusedVariables false
set_option linter.unusedSimpArgs false

end Go.Proofs.Ytfnndcpaldkkoaa.PFnExactTreeDepth
