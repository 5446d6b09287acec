-- Written by drv.py (a program of this session) over the kit's print.py. Not trusted: Lean checks it.
import Derived.Test.YtjclfbcofclopaaDoorProg
import Derived.Below
import Derived.Deep.Draws
import Derived.Deep.AppendLies
import Derived.Maps.AppendAt
import Derived.OwnWalk
import Derived.Laws.BytesArg
import Derived.Laws.MakeOwn
import Derived.Laws.OwnMore
import Derived.Deep.OwnRows
import Derived.Tactics
import Derived.Lib.ConvBytes
import Derived.Laws.Slices
import Derived.WalkKit
import Derived.KernelRfl
import Derived.RowKit3
import Derived.Deep.LoopGhost
import Derived.Deep.QuietTactic
import Derived.BigQuiet
import Derived.WideLaws
import Derived.Deep.DeepCutAuto
import Derived.Deep.CutBlock
import Derived.Deep.RegionHeld3
import Derived.Laws.Rows
import Derived.Lib.AppendStr
import Derived.ArgAppend
import Derived.Laws.IdiomCopy
import Derived.OrdersHeld
import Derived.Laws.BitsLemmas
import Derived.RowKit
import Derived.ChangeKeysEq
import Derived.Test.YtjclfbcofclopaaDoorTTextFn
import Derived.Test.YtjclfbcofclopaaDoorWWords
import Derived.Test.YtjclfbcofclopaaDoorWLast
import Derived.Test.YtjclfbcofclopaaDoorWTab
import Derived.Test.YtjclfbcofclopaaDoorWFour
import Derived.Test.YtjclfbcofclopaaDoorWQPut
import Derived.Test.YtjclfbcofclopaaDoorWApart
import Derived.Test.YtjclfbcofclopaaDoorWArr
import Derived.Test.YtjclfbcofclopaaDoorWZeros
import Derived.Test.YtjclfbcofclopaaDoorWFoot
import Derived.Test.YtjclfbcofclopaaDoorWKept
import Derived.Test.YtjclfbcofclopaaDoorWShare
import Derived.Test.YtjclfbcofclopaaDoorWN
import Derived.Test.YtjclfbcofclopaaDoorWFootNe
import Derived.Test.YtjclfbcofclopaaDoorWAt
import Derived.Test.YtjclfbcofclopaaDoorWEqStruct
import Derived.Test.YtjclfbcofclopaaDoorWRepsOne
import Derived.Test.YtjclfbcofclopaaDoorWInv
import Derived.Test.YtjclfbcofclopaaDoorWInvWords
import Derived.Test.YtjclfbcofclopaaDoorWGuard
import Derived.Test.YtjclfbcofclopaaDoorWNEv
import Derived.Test.YtjclfbcofclopaaDoorWMore
namespace Go.Proofs.YtjclfbcofclopaaDoor.PTtB
open Go.RowKit Go.Proofs.YtjclfbcofclopaaDoorW.PrintWords Go.Proofs.YtjclfbcofclopaaDoorW.PrintLast Go.Proofs.YtjclfbcofclopaaDoorW.PrintMore Go.Proofs.YtjclfbcofclopaaDoor.TTx Go.Proofs.YtjclfbcofclopaaDoor.Txt Go.Proofs.YtjclfbcofclopaaDoor.PTtA
attribute [local go_sem] max2_int min2_int max_two min_two max_three min_three max_four min_four   -- for this text's walks alone
set_option linter.unusedVariables false
set_option linter.unusedSimpArgs false



def errW : Option Int → Value
  | none => .nilIface
  | some c => .iface 0 (.int .i64 c)
theorem errW_none : errW none = .nilIface := rfl
theorem errW_some (c : Int) : errW (some c) = .iface 0 (.int .i64 c) := rfl

-- the values' own types

end Go.Proofs.YtjclfbcofclopaaDoor.PTtB
