-- Written by drv.py (a program of this session) over the kit's print.py. Not trusted: Lean checks it.
import Derived.Test.YtjclfbcofclopaaDoorPTtBx0
import Derived.Test.YtjclfbcofclopaaDoorPTtBx1
namespace Go.Proofs.YtjclfbcofclopaaDoor.PTtB
open Go.RowKit Go.Proofs.YtjclfbcofclopaaDoorW.PrintWords Go.Proofs.YtjclfbcofclopaaDoorW.PrintLast Go.Proofs.YtjclfbcofclopaaDoorW.PrintMore Go.Proofs.YtjclfbcofclopaaDoor.TTx Go.Proofs.YtjclfbcofclopaaDoor.Txt Go.Proofs.YtjclfbcofclopaaDoor.PTtA
attribute [local go_sem] max2_int min2_int max_two min_two max_three min_three max_four min_four   -- for this text's walks alone
set_option linter.unusedVariables false
set_option linter.unusedSimpArgs false

end Go.Proofs.YtjclfbcofclopaaDoor.PTtB
