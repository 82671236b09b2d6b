-- Written by a program of this session, which goes by the kit's print. Not trusted: Lean checks it.
import Derived.Test.YtfnndcpaldkkoaaPFnExactTreeGetx0
import Derived.Test.YtfnndcpaldkkoaaPFnExactTreeGetx1
import Derived.Test.YtfnndcpaldkkoaaPFnExactTreeGetx2
import Derived.Test.YtfnndcpaldkkoaaPFnExactTreeGetx3
import Derived.Test.YtfnndcpaldkkoaaPFnExactTreeGetx4
import Derived.Test.YtfnndcpaldkkoaaPFnExactTreeGetx5
import Derived.Test.YtfnndcpaldkkoaaPFnExactTreeGetx6
import Derived.Test.YtfnndcpaldkkoaaPFnExactTreeGetx7
import Derived.Test.YtfnndcpaldkkoaaPFnExactTreeGetx8
import Derived.Test.YtfnndcpaldkkoaaPFnExactTreeGetx9
import Derived.Test.YtfnndcpaldkkoaaPFnExactTreeGetx10
import Derived.Test.YtfnndcpaldkkoaaPFnExactTreeGetx11
import Derived.Test.YtfnndcpaldkkoaaPFnExactTreeGetx12
import Derived.Test.YtfnndcpaldkkoaaPFnExactTreeGetx13
import Derived.Test.YtfnndcpaldkkoaaPFnExactTreeGetx14
import Derived.Test.YtfnndcpaldkkoaaPFnExactTreeGetx15
import Derived.Test.YtfnndcpaldkkoaaPFnExactTreeGetx16
import Derived.Test.YtfnndcpaldkkoaaPFnExactTreeGetx17
namespace Go.Proofs.Ytfnndcpaldkkoaa.PFnExactTreeGet
open Go.RowKit Go.Proofs.YtfnndcpaldkkoaaW.PrintWords Go.Proofs.YtfnndcpaldkkoaaW.PrintLast Go.Proofs.YtfnndcpaldkkoaaW.PrintMore
attribute [local go_sem] max2_int min2_int max_two min_two max_three min_three max_four min_four   -- for this text's walks alone
set_option linter.unusedVariables false
set_option linter.unusedSimpArgs false

end Go.Proofs.Ytfnndcpaldkkoaa.PFnExactTreeGet
