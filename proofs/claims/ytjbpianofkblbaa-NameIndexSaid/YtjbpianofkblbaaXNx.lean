/- The Lean functions that this claim's Go functions compute, and that the machine's calls return them; laid by a program of this session (xprint.py), partly typed by hand. -/
import Derived.Test.YtjbpianofkblbaaXNx0
import Derived.Test.YtjbpianofkblbaaXNx1
import Derived.Test.YtjbpianofkblbaaXNx2
import Derived.Test.YtjbpianofkblbaaXNx3
import Derived.Test.YtjbpianofkblbaaXNx4
import Derived.Test.YtjbpianofkblbaaXNx5
import Derived.Test.YtjbpianofkblbaaXNx6
import Derived.Test.YtjbpianofkblbaaXNx7
import Derived.Test.YtjbpianofkblbaaXNx8
import Derived.Test.YtjbpianofkblbaaXNx9
import Derived.Test.YtjbpianofkblbaaXNx10
import Derived.Test.YtjbpianofkblbaaXNx11
namespace Go.Proofs.Ytjbpianofkblbaa.XN
open Go.RowKit Go.Proofs.YtjbpianofkblbaaW.PrintWords Go.Proofs.YtjbpianofkblbaaW.PrintLast Go.Proofs.YtjbpianofkblbaaW.PrintMore
attribute [local go_sem] max2_int min2_int max_two min_two max_three min_three max_four min_four   -- for this text's walks alone
set_option linter.unusedVariables false
set_option linter.unusedSimpArgs false

end Go.Proofs.Ytjbpianofkblbaa.XN
