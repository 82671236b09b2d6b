-- Written by a program of this session, which goes by the kit's print. Not trusted: Lean checks it.
import Derived.Test.YtfnndcpaldkkoaaPFnExactTreeMapx0
import Derived.Test.YtfnndcpaldkkoaaPFnExactTreeMapx1
import Derived.Test.YtfnndcpaldkkoaaPFnExactTreeMapx2
import Derived.Test.YtfnndcpaldkkoaaPFnExactTreeMapx3
import Derived.Test.YtfnndcpaldkkoaaPFnExactTreeMapx4
import Derived.Test.YtfnndcpaldkkoaaPFnExactTreeMapx5
import Derived.Test.YtfnndcpaldkkoaaPFnExactTreeMapx6
import Derived.Test.YtfnndcpaldkkoaaPFnExactTreeMapx7
import Derived.Test.YtfnndcpaldkkoaaPFnExactTreeMapx8
import Derived.Test.YtfnndcpaldkkoaaPFnExactTreeMapx9
import Derived.Test.YtfnndcpaldkkoaaPFnExactTreeMapx10
import Derived.Test.YtfnndcpaldkkoaaPFnExactTreeMapx11
import Derived.Test.YtfnndcpaldkkoaaPFnExactTreeMapx12
import Derived.Test.YtfnndcpaldkkoaaPFnExactTreeMapx13
import Derived.Test.YtfnndcpaldkkoaaPFnExactTreeMapx14
import Derived.Test.YtfnndcpaldkkoaaPFnExactTreeMapx15
import Derived.Test.YtfnndcpaldkkoaaPFnExactTreeMapx16
import Derived.Test.YtfnndcpaldkkoaaPFnExactTreeMapx17
namespace Go.Proofs.Ytfnndcpaldkkoaa.PFnExactTreeMap
open Go.RowKit Go.Proofs.YtfnndcpaldkkoaaW.PrintWords Go.Proofs.YtfnndcpaldkkoaaW.PrintLast Go.Proofs.YtfnndcpaldkkoaaW.PrintMore
attribute [local go_sem] max2_int min2_int max_two min_two max_three min_three max_four min_four   -- for this text's walks alone
set_option linter.unusedVariables false
set_option linter.unusedSimpArgs false

end Go.Proofs.Ytfnndcpaldkkoaa.PFnExactTreeMap
