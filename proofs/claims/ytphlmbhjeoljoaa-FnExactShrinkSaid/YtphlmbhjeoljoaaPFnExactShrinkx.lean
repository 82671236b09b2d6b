-- Written by a program of this session, which goes by the kit's print. Not trusted: Lean checks it.
import Derived.Test.YtphlmbhjeoljoaaPFnExactShrinkx0
import Derived.Test.YtphlmbhjeoljoaaPFnExactShrinkx1
import Derived.Test.YtphlmbhjeoljoaaPFnExactShrinkx2
import Derived.Test.YtphlmbhjeoljoaaPFnExactShrinkx3
import Derived.Test.YtphlmbhjeoljoaaPFnExactShrinkx4
import Derived.Test.YtphlmbhjeoljoaaPFnExactShrinkx5
import Derived.Test.YtphlmbhjeoljoaaPFnExactShrinkx6
import Derived.Test.YtphlmbhjeoljoaaPFnExactShrinkx7
namespace Go.Proofs.Ytphlmbhjeoljoaa.PFnExactShrink
open Go.RowKit Go.Proofs.YtphlmbhjeoljoaaW.PrintWords Go.Proofs.YtphlmbhjeoljoaaW.PrintLast Go.Proofs.YtphlmbhjeoljoaaW.PrintMore
attribute [local go_sem] max2_int min2_int max_two min_two max_three min_three max_four min_four   -- for this text's walks alone
set_option linter.unusedVariables false
set_option linter.unusedSimpArgs false

end Go.Proofs.Ytphlmbhjeoljoaa.PFnExactShrink
