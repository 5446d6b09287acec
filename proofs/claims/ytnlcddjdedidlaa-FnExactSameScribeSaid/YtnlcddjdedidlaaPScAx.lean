-- Written by drv.py (a program of this session) over the kit's print.py. Not trusted: Lean checks it.
import Derived.Test.YtnlcddjdedidlaaPScAx0
import Derived.Test.YtnlcddjdedidlaaPScAx1
import Derived.Test.YtnlcddjdedidlaaPScAx2
import Derived.Test.YtnlcddjdedidlaaPScAx3
import Derived.Test.YtnlcddjdedidlaaPScAx4
import Derived.Test.YtnlcddjdedidlaaPScAx5
import Derived.Test.YtnlcddjdedidlaaPScAx6
import Derived.Test.YtnlcddjdedidlaaPScAx7
import Derived.Test.YtnlcddjdedidlaaPScAx8
import Derived.Test.YtnlcddjdedidlaaPScAx9
import Derived.Test.YtnlcddjdedidlaaPScAx10
import Derived.Test.YtnlcddjdedidlaaPScAx11
namespace Go.Proofs.Ytnlcddjdedidlaa.PScA
open Go.RowKit Go.Proofs.YtnlcddjdedidlaaW.PrintWords Go.Proofs.YtnlcddjdedidlaaW.PrintLast Go.Proofs.YtnlcddjdedidlaaW.PrintMore Go.Proofs.Ytnlcddjdedidlaa.Sc
attribute [local go_sem] max2_int min2_int max_two min_two max_three min_three max_four min_four   -- for this text's walks alone
set_option linter.unusedVariables false
set_option linter.unusedSimpArgs false

end Go.Proofs.Ytnlcddjdedidlaa.PScA
