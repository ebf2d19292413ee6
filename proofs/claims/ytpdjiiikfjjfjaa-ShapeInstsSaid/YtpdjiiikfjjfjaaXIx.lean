/- The Lean functions that this claim's Go functions compute, and that the machine's calls return them; laid by a program of this session (xprint.py), partly typed by hand. -/
import Derived.Test.YtpdjiiikfjjfjaaXIx0
import Derived.Test.YtpdjiiikfjjfjaaXIx1
import Derived.Test.YtpdjiiikfjjfjaaXIx2
import Derived.Test.YtpdjiiikfjjfjaaXIx3
import Derived.Test.YtpdjiiikfjjfjaaXIx4
import Derived.Test.YtpdjiiikfjjfjaaXIx5
import Derived.Test.YtpdjiiikfjjfjaaXIx6
import Derived.Test.YtpdjiiikfjjfjaaXIx7
import Derived.Test.YtpdjiiikfjjfjaaXIx8
import Derived.Test.YtpdjiiikfjjfjaaXIx9
namespace Go.Proofs.Ytpdjiiikfjjfjaa.XI
open Go.RowKit Go.Proofs.YtpdjiiikfjjfjaaW.PrintWords Go.Proofs.YtpdjiiikfjjfjaaW.PrintLast Go.Proofs.YtpdjiiikfjjfjaaW.PrintMore
attribute [local go_sem] max2_int min2_int max_two min_two max_three min_three max_four min_four   -- for this text's walks alone
set_option linter.unusedVariables false
set_option linter.unusedSimpArgs false

end Go.Proofs.Ytpdjiiikfjjfjaa.XI
