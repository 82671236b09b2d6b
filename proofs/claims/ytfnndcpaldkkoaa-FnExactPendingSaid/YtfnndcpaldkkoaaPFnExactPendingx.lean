-- Written by a program of this session, which goes by the kit's print. Not trusted: Lean checks it.
import Derived.Test.YtfnndcpaldkkoaaPFnExactPendingx0
import Derived.Test.YtfnndcpaldkkoaaPFnExactPendingx1
import Derived.Test.YtfnndcpaldkkoaaPFnExactPendingx2
import Derived.Test.YtfnndcpaldkkoaaPFnExactPendingx3
import Derived.Test.YtfnndcpaldkkoaaPFnExactPendingx4
import Derived.Test.YtfnndcpaldkkoaaPFnExactPendingx5
import Derived.Test.YtfnndcpaldkkoaaPFnExactPendingx6
import Derived.Test.YtfnndcpaldkkoaaPFnExactPendingx7
import Derived.Test.YtfnndcpaldkkoaaPFnExactPendingx8
import Derived.Test.YtfnndcpaldkkoaaPFnExactPendingx9
import Derived.Test.YtfnndcpaldkkoaaPFnExactPendingx10
import Derived.Test.YtfnndcpaldkkoaaPFnExactPendingx11
import Derived.Test.YtfnndcpaldkkoaaPFnExactPendingx12
import Derived.Test.YtfnndcpaldkkoaaPFnExactPendingx13
import Derived.Test.YtfnndcpaldkkoaaPFnExactPendingx14
import Derived.Test.YtfnndcpaldkkoaaPFnExactPendingx15
namespace Go.Proofs.Ytfnndcpaldkkoaa.PFnExactPending
open Go.RowKit Go.Proofs.YtfnndcpaldkkoaaW.PrintWords Go.Proofs.YtfnndcpaldkkoaaW.PrintLast Go.Proofs.YtfnndcpaldkkoaaW.PrintMore
attribute [local go_sem] max2_int min2_int max_two min_two max_three min_three max_four min_four   -- for this text's walks alone
set_option linter.unusedVariables false
set_option linter.unusedSimpArgs false

end Go.Proofs.Ytfnndcpaldkkoaa.PFnExactPending
