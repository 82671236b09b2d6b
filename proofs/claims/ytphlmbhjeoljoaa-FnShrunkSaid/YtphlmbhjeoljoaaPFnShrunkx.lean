-- Written by a program of this session, which goes by the kit's print. Not trusted: Lean checks it.
import Derived.Test.YtphlmbhjeoljoaaPFnShrunkx0
import Derived.Test.YtphlmbhjeoljoaaPFnShrunkx1
import Derived.Test.YtphlmbhjeoljoaaPFnShrunkx2
import Derived.Test.YtphlmbhjeoljoaaPFnShrunkx3
import Derived.Test.YtphlmbhjeoljoaaPFnShrunkx4
import Derived.Test.YtphlmbhjeoljoaaPFnShrunkx5
import Derived.Test.YtphlmbhjeoljoaaPFnShrunkx6
import Derived.Test.YtphlmbhjeoljoaaPFnShrunkx7
import Derived.Test.YtphlmbhjeoljoaaPFnShrunkx8
import Derived.Test.YtphlmbhjeoljoaaPFnShrunkx9
import Derived.Test.YtphlmbhjeoljoaaPFnShrunkx10
import Derived.Test.YtphlmbhjeoljoaaPFnShrunkx11
import Derived.Test.YtphlmbhjeoljoaaPFnShrunkx12
namespace Go.Proofs.Ytphlmbhjeoljoaa.PFnShrunk
open Go.RowKit Go.Proofs.YtphlmbhjeoljoaaW.PrintWords Go.Proofs.YtphlmbhjeoljoaaW.PrintLast Go.Proofs.YtphlmbhjeoljoaaW.PrintMore
attribute [local go_sem] max2_int min2_int max_two min_two max_three min_three max_four min_four   -- for this text's walks alone
set_option linter.unusedVariables false
set_option linter.unusedSimpArgs false

end Go.Proofs.Ytphlmbhjeoljoaa.PFnShrunk
