/- The Lean functions that this claim's Go functions compute, and that the machine's calls return them; laid by a program of this session (xprint.py), partly typed by hand. -/
import Derived.Test.YtpdjiiikfjjfjaaXVx0
import Derived.Test.YtpdjiiikfjjfjaaXVx1
import Derived.Test.YtpdjiiikfjjfjaaXVx2
import Derived.Test.YtpdjiiikfjjfjaaXVx3
import Derived.Test.YtpdjiiikfjjfjaaXVx4
import Derived.Test.YtpdjiiikfjjfjaaXVx5
import Derived.Test.YtpdjiiikfjjfjaaXVx6
import Derived.Test.YtpdjiiikfjjfjaaXVx7
import Derived.Test.YtpdjiiikfjjfjaaXVx8
import Derived.Test.YtpdjiiikfjjfjaaXVx9
import Derived.Test.YtpdjiiikfjjfjaaXVx10
import Derived.Test.YtpdjiiikfjjfjaaXVx11
namespace Go.Proofs.Ytpdjiiikfjjfjaa.XV
open Go.RowKit Go.Proofs.YtpdjiiikfjjfjaaW.PrintWords Go.Proofs.YtpdjiiikfjjfjaaW.PrintLast Go.Proofs.YtpdjiiikfjjfjaaW.PrintMore
attribute [local go_sem] max2_int min2_int max_two min_two max_three min_three max_four min_four   -- for this text's walks alone
set_option linter.unusedVariables false
set_option linter.unusedSimpArgs false

end Go.Proofs.Ytpdjiiikfjjfjaa.XV
