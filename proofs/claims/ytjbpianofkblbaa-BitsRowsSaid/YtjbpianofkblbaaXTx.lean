/- The Lean functions that this claim's Go functions compute, and that the machine's calls return them; laid by a program of this session (xprint.py), partly typed by hand. -/
import Derived.Test.YtjbpianofkblbaaXTx0
import Derived.Test.YtjbpianofkblbaaXTx1
import Derived.Test.YtjbpianofkblbaaXTx2
import Derived.Test.YtjbpianofkblbaaXTx3
import Derived.Test.YtjbpianofkblbaaXTx4
import Derived.Test.YtjbpianofkblbaaXTx5
import Derived.Test.YtjbpianofkblbaaXTx6
import Derived.Test.YtjbpianofkblbaaXTx7
namespace Go.Proofs.Ytjbpianofkblbaa.XT
open Go.RowKit Go.Proofs.YtjbpianofkblbaaW.PrintWords Go.Proofs.YtjbpianofkblbaaW.PrintLast Go.Proofs.YtjbpianofkblbaaW.PrintMore
attribute [local go_sem] max2_int min2_int max_two min_two max_three min_three max_four min_four   -- for this text's walks alone
set_option linter.unusedVariables false
set_option linter.unusedSimpArgs false

end Go.Proofs.Ytjbpianofkblbaa.XT
