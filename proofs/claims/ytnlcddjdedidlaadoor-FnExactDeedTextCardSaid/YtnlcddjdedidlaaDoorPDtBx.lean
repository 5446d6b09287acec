-- Written by drv.py (a program of this session) over the kit's print.py. Not trusted: Lean checks it.
import Derived.Test.YtnlcddjdedidlaaDoorPDtBx0
import Derived.Test.YtnlcddjdedidlaaDoorPDtBx1
namespace Go.Proofs.YtnlcddjdedidlaaDoor.PDtB
open Go.RowKit Go.Proofs.YtnlcddjdedidlaaDoorW.PrintWords Go.Proofs.YtnlcddjdedidlaaDoorW.PrintLast Go.Proofs.YtnlcddjdedidlaaDoorW.PrintMore Go.Proofs.YtnlcddjdedidlaaDoor.Deed Go.Proofs.YtnlcddjdedidlaaDoor.Txt Go.Proofs.YtnlcddjdedidlaaDoor.PDtA
attribute [local go_sem] max2_int min2_int max_two min_two max_three min_three max_four min_four   -- for this text's walks alone
set_option linter.unusedVariables false
set_option linter.unusedSimpArgs false

end Go.Proofs.YtnlcddjdedidlaaDoor.PDtB
