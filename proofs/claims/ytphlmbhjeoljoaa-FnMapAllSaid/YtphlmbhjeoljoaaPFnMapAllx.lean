-- Written by a program of this session, which goes by the kit's print. Not trusted: Lean checks it.
import Derived.Test.YtphlmbhjeoljoaaPFnMapAllx0
import Derived.Test.YtphlmbhjeoljoaaPFnMapAllx1
import Derived.Test.YtphlmbhjeoljoaaPFnMapAllx2
import Derived.Test.YtphlmbhjeoljoaaPFnMapAllx3
import Derived.Test.YtphlmbhjeoljoaaPFnMapAllx4
import Derived.Test.YtphlmbhjeoljoaaPFnMapAllx5
import Derived.Test.YtphlmbhjeoljoaaPFnMapAllx6
import Derived.Test.YtphlmbhjeoljoaaPFnMapAllx7
import Derived.Test.YtphlmbhjeoljoaaPFnMapAllx8
import Derived.Test.YtphlmbhjeoljoaaPFnMapAllx9
import Derived.Test.YtphlmbhjeoljoaaPFnMapAllx10
namespace Go.Proofs.Ytphlmbhjeoljoaa.PFnMapAll
open Go.RowKit Go.Proofs.YtphlmbhjeoljoaaW.PrintWords Go.Proofs.YtphlmbhjeoljoaaW.PrintLast Go.Proofs.YtphlmbhjeoljoaaW.PrintMore
attribute [local go_sem] max2_int min2_int max_two min_two max_three min_three max_four min_four   -- for this text's walks alone
set_option linter.unusedVariables false
set_option linter.unusedSimpArgs false

end Go.Proofs.Ytphlmbhjeoljoaa.PFnMapAll
