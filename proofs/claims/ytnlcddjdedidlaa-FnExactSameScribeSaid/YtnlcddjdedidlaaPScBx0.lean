-- Written by drv.py (a program of this session) over the kit's print.py. Not trusted: Lean checks it.
import Derived.Test.YtnlcddjdedidlaaProg
import Derived.Below
import Derived.Deep.Draws
import Derived.Deep.AppendLies
import Derived.Maps.AppendAt
import Derived.OwnWalk
import Derived.Laws.BytesArg
import Derived.Laws.MakeOwn
import Derived.Laws.OwnMore
import Derived.Deep.OwnRows
import Derived.Tactics
import Derived.Lib.ConvBytes
import Derived.Laws.Slices
import Derived.WalkKit
import Derived.KernelRfl
import Derived.RowKit3
import Derived.Deep.LoopGhost
import Derived.Deep.QuietTactic
import Derived.BigQuiet
import Derived.WideLaws
import Derived.Deep.DeepCutAuto
import Derived.Deep.CutBlock
import Derived.Deep.RegionHeld3
import Derived.Laws.Rows
import Derived.Lib.AppendStr
import Derived.ArgAppend
import Derived.Laws.IdiomCopy
import Derived.OrdersHeld
import Derived.Laws.BitsLemmas
import Derived.RowKit
import Derived.ChangeKeysEq
import Derived.Test.YtnlcddjdedidlaaSc2
import Derived.Test.YtnlcddjdedidlaaWWords
import Derived.Test.YtnlcddjdedidlaaWLast
import Derived.Test.YtnlcddjdedidlaaWTab
import Derived.Test.YtnlcddjdedidlaaWFour
import Derived.Test.YtnlcddjdedidlaaWQPut
import Derived.Test.YtnlcddjdedidlaaWApart
import Derived.Test.YtnlcddjdedidlaaWArr
import Derived.Test.YtnlcddjdedidlaaWZeros
import Derived.Test.YtnlcddjdedidlaaWFoot
import Derived.Test.YtnlcddjdedidlaaWKept
import Derived.Test.YtnlcddjdedidlaaWShare
import Derived.Test.YtnlcddjdedidlaaWN
import Derived.Test.YtnlcddjdedidlaaWFootNe
import Derived.Test.YtnlcddjdedidlaaWAt
import Derived.Test.YtnlcddjdedidlaaWEqStruct
import Derived.Test.YtnlcddjdedidlaaWRepsOne
import Derived.Test.YtnlcddjdedidlaaWInv
import Derived.Test.YtnlcddjdedidlaaWInvWords
import Derived.Test.YtnlcddjdedidlaaWGuard
import Derived.Test.YtnlcddjdedidlaaWNEv
import Derived.Test.YtnlcddjdedidlaaWMore
namespace Go.Proofs.Ytnlcddjdedidlaa.PScB
open Go.RowKit Go.Proofs.YtnlcddjdedidlaaW.PrintWords Go.Proofs.YtnlcddjdedidlaaW.PrintLast Go.Proofs.YtnlcddjdedidlaaW.PrintMore Go.Proofs.Ytnlcddjdedidlaa.Sc Go.Proofs.Ytnlcddjdedidlaa.PScA
attribute [local go_sem] max2_int min2_int max_two min_two max_three min_three max_four min_four   -- for this text's walks alone
set_option linter.unusedVariables false
set_option linter.unusedSimpArgs false



def errW : Option Int → Value
  | none => .nilIface
  | some c => .iface 0 (.int .i64 c)
theorem errW_none : errW none = .nilIface := rfl
theorem errW_some (c : Int) : errW (some c) = .iface 0 (.int .i64 c) := rfl

-- the values' own types

end Go.Proofs.Ytnlcddjdedidlaa.PScB
