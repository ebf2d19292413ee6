/- The Lean functions that this claim's Go functions compute, and that the machine's calls return them; laid by a program of this session (xprint.py), partly typed by hand. -/
import Derived.Test.YtpdjiiikfjjfjaaXHx0
import Derived.Test.YtpdjiiikfjjfjaaXHx1
import Derived.Test.YtpdjiiikfjjfjaaXHx2
import Derived.Test.YtpdjiiikfjjfjaaXHx3
import Derived.Test.YtpdjiiikfjjfjaaXHx4
import Derived.Test.YtpdjiiikfjjfjaaXHx5
import Derived.Test.YtpdjiiikfjjfjaaXHx6
import Derived.Test.YtpdjiiikfjjfjaaXHx7
import Derived.Test.YtpdjiiikfjjfjaaXHx8
import Derived.Test.YtpdjiiikfjjfjaaXHx9
import Derived.Test.YtpdjiiikfjjfjaaXHx10
import Derived.Test.YtpdjiiikfjjfjaaXHx11
namespace Go.Proofs.Ytpdjiiikfjjfjaa.XH
open Go.RowKit Go.Proofs.YtpdjiiikfjjfjaaW.PrintWords Go.Proofs.YtpdjiiikfjjfjaaW.PrintLast Go.Proofs.YtpdjiiikfjjfjaaW.PrintMore
attribute [local go_sem] max2_int min2_int max_two min_two max_three min_three max_four min_four   -- for this text's walks alone
set_option linter.unusedVariables false
set_option linter.unusedSimpArgs false

end Go.Proofs.Ytpdjiiikfjjfjaa.XH
