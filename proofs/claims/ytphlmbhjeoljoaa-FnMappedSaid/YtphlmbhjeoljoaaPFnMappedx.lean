-- Written by a program of this session, which goes by the kit's print. Not trusted: Lean checks it.
import Derived.Test.YtphlmbhjeoljoaaPFnMappedx0
import Derived.Test.YtphlmbhjeoljoaaPFnMappedx1
import Derived.Test.YtphlmbhjeoljoaaPFnMappedx2
import Derived.Test.YtphlmbhjeoljoaaPFnMappedx3
import Derived.Test.YtphlmbhjeoljoaaPFnMappedx4
import Derived.Test.YtphlmbhjeoljoaaPFnMappedx5
import Derived.Test.YtphlmbhjeoljoaaPFnMappedx6
import Derived.Test.YtphlmbhjeoljoaaPFnMappedx7
import Derived.Test.YtphlmbhjeoljoaaPFnMappedx8
import Derived.Test.YtphlmbhjeoljoaaPFnMappedx9
import Derived.Test.YtphlmbhjeoljoaaPFnMappedx10
namespace Go.Proofs.Ytphlmbhjeoljoaa.PFnMapped
open Go.RowKit Go.Proofs.YtphlmbhjeoljoaaW.PrintWords Go.Proofs.YtphlmbhjeoljoaaW.PrintLast Go.Proofs.YtphlmbhjeoljoaaW.PrintMore
attribute [local go_sem] max2_int min2_int max_two min_two max_three min_three max_four min_four   -- for this text's walks alone
set_option linter.unusedVariables false
set_option linter.unusedSimpArgs false

end Go.Proofs.Ytphlmbhjeoljoaa.PFnMapped
