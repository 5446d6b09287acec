-- Written by drv.py (a program of this session) over the kit's print.py. Not trusted: Lean checks it.
import Derived.Test.YtjclfbcofclopaaDoorPScAx0
import Derived.Test.YtjclfbcofclopaaDoorPScAx1
import Derived.Test.YtjclfbcofclopaaDoorPScAx2
import Derived.Test.YtjclfbcofclopaaDoorPScAx3
import Derived.Test.YtjclfbcofclopaaDoorPScAx4
import Derived.Test.YtjclfbcofclopaaDoorPScAx5
import Derived.Test.YtjclfbcofclopaaDoorPScAx6
import Derived.Test.YtjclfbcofclopaaDoorPScAx7
import Derived.Test.YtjclfbcofclopaaDoorPScAx8
namespace Go.Proofs.YtjclfbcofclopaaDoor.PScA
open Go.RowKit Go.Proofs.YtjclfbcofclopaaDoorW.PrintWords Go.Proofs.YtjclfbcofclopaaDoorW.PrintLast Go.Proofs.YtjclfbcofclopaaDoorW.PrintMore Go.Proofs.YtjclfbcofclopaaDoor.Sc Go.Proofs.YtjclfbcofclopaaDoor.Wd
attribute [local go_sem] max2_int min2_int max_two min_two max_three min_three max_four min_four   -- for this text's walks alone
set_option linter.unusedVariables false
set_option linter.unusedSimpArgs false

end Go.Proofs.YtjclfbcofclopaaDoor.PScA
