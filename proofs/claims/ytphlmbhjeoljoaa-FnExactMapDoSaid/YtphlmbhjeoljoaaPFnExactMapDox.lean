-- Written by a program of this session, which goes by the kit's print. Not trusted: Lean checks it.
import Derived.Test.YtphlmbhjeoljoaaPFnExactMapDox0
import Derived.Test.YtphlmbhjeoljoaaPFnExactMapDox1
import Derived.Test.YtphlmbhjeoljoaaPFnExactMapDox2
import Derived.Test.YtphlmbhjeoljoaaPFnExactMapDox3
import Derived.Test.YtphlmbhjeoljoaaPFnExactMapDox4
import Derived.Test.YtphlmbhjeoljoaaPFnExactMapDox5
import Derived.Test.YtphlmbhjeoljoaaPFnExactMapDox6
import Derived.Test.YtphlmbhjeoljoaaPFnExactMapDox7
import Derived.Test.YtphlmbhjeoljoaaPFnExactMapDox8
namespace Go.Proofs.Ytphlmbhjeoljoaa.PFnExactMapDo
open Go.RowKit Go.Proofs.YtphlmbhjeoljoaaW.PrintWords Go.Proofs.YtphlmbhjeoljoaaW.PrintLast Go.Proofs.YtphlmbhjeoljoaaW.PrintMore
attribute [local go_sem] max2_int min2_int max_two min_two max_three min_three max_four min_four   -- for this text's walks alone
set_option linter.unusedVariables false
set_option linter.unusedSimpArgs false

end Go.Proofs.Ytphlmbhjeoljoaa.PFnExactMapDo
