-- Written by drv.py (a program of this session) over the kit's print.py. Not trusted: Lean checks it.
import Derived.Test.YtjclfbcofclopaaDoorPTtAx0
import Derived.Test.YtjclfbcofclopaaDoorPTtAx1
import Derived.Test.YtjclfbcofclopaaDoorPTtAx2
import Derived.Test.YtjclfbcofclopaaDoorPTtAx3
import Derived.Test.YtjclfbcofclopaaDoorPTtAx4
import Derived.Test.YtjclfbcofclopaaDoorPTtAx5
namespace Go.Proofs.YtjclfbcofclopaaDoor.PTtA
open Go.RowKit Go.Proofs.YtjclfbcofclopaaDoorW.PrintWords Go.Proofs.YtjclfbcofclopaaDoorW.PrintLast Go.Proofs.YtjclfbcofclopaaDoorW.PrintMore
attribute [local go_sem] max2_int min2_int max_two min_two max_three min_three max_four min_four   -- for this text's walks alone
set_option linter.unusedVariables false
set_option linter.unusedSimpArgs false

end Go.Proofs.YtjclfbcofclopaaDoor.PTtA
