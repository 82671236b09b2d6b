-- Written by a program of this session, which goes by the kit's print. Not trusted: Lean checks it.
import Derived.Test.YtphlmbhjeoljoaaPFnExactDox0
import Derived.Test.YtphlmbhjeoljoaaPFnExactDox1
import Derived.Test.YtphlmbhjeoljoaaPFnExactDox2
import Derived.Test.YtphlmbhjeoljoaaPFnExactDox3
import Derived.Test.YtphlmbhjeoljoaaPFnExactDox4
import Derived.Test.YtphlmbhjeoljoaaPFnExactDox5
import Derived.Test.YtphlmbhjeoljoaaPFnExactDox6
import Derived.Test.YtphlmbhjeoljoaaPFnExactDox7
import Derived.Test.YtphlmbhjeoljoaaPFnExactDox8
namespace Go.Proofs.Ytphlmbhjeoljoaa.PFnExactDo
open Go.RowKit Go.Proofs.YtphlmbhjeoljoaaW.PrintWords Go.Proofs.YtphlmbhjeoljoaaW.PrintLast Go.Proofs.YtphlmbhjeoljoaaW.PrintMore
attribute [local go_sem] max2_int min2_int max_two min_two max_three min_three max_four min_four   -- for this text's walks alone
set_option linter.unusedVariables false
set_option linter.unusedSimpArgs false

end Go.Proofs.Ytphlmbhjeoljoaa.PFnExactDo
