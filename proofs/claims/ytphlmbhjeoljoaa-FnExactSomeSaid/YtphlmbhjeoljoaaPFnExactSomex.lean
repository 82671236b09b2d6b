-- Written by a program of this session, which goes by the kit's print. Not trusted: Lean checks it.
import Derived.Test.YtphlmbhjeoljoaaPFnExactSomex0
import Derived.Test.YtphlmbhjeoljoaaPFnExactSomex1
import Derived.Test.YtphlmbhjeoljoaaPFnExactSomex2
import Derived.Test.YtphlmbhjeoljoaaPFnExactSomex3
import Derived.Test.YtphlmbhjeoljoaaPFnExactSomex4
import Derived.Test.YtphlmbhjeoljoaaPFnExactSomex5
import Derived.Test.YtphlmbhjeoljoaaPFnExactSomex6
import Derived.Test.YtphlmbhjeoljoaaPFnExactSomex7
import Derived.Test.YtphlmbhjeoljoaaPFnExactSomex8
import Derived.Test.YtphlmbhjeoljoaaPFnExactSomex9
namespace Go.Proofs.Ytphlmbhjeoljoaa.PFnExactSome
open Go.RowKit Go.Proofs.YtphlmbhjeoljoaaW.PrintWords Go.Proofs.YtphlmbhjeoljoaaW.PrintLast Go.Proofs.YtphlmbhjeoljoaaW.PrintMore
attribute [local go_sem] max2_int min2_int max_two min_two max_three min_three max_four min_four   -- for this text's walks alone
set_option linter.unusedVariables false
set_option linter.unusedSimpArgs false

end Go.Proofs.Ytphlmbhjeoljoaa.PFnExactSome
