-- Written by drv.py (a program of this session) over the kit's print.py. Not trusted: Lean checks it.
import Derived.Test.YtnlcddjdedidlaaDoorProg
import Derived.Below
import Derived.Deep.Draws
import Derived.Deep.AppendLies
import Derived.Maps.AppendAt
import Derived.OwnWalk
import Derived.Laws.BytesArg
import Derived.Laws.MakeOwn
import Derived.Laws.OwnMore
import Derived.Deep.OwnRows
import Derived.Tactics
import Derived.Lib.ConvBytes
import Derived.Laws.Slices
import Derived.WalkKit
import Derived.KernelRfl
import Derived.RowKit3
import Derived.Deep.LoopGhost
import Derived.Deep.QuietTactic
import Derived.BigQuiet
import Derived.WideLaws
import Derived.Deep.DeepCutAuto
import Derived.Deep.CutBlock
import Derived.Deep.RegionHeld3
import Derived.Laws.Rows
import Derived.Lib.AppendStr
import Derived.ArgAppend
import Derived.Laws.IdiomCopy
import Derived.OrdersHeld
import Derived.Laws.BitsLemmas
import Derived.RowKit
import Derived.ChangeKeysEq
import Derived.Test.YtnlcddjdedidlaaDoorText
import Derived.Test.YtnlcddjdedidlaaDoorWWords
import Derived.Test.YtnlcddjdedidlaaDoorWLast
import Derived.Test.YtnlcddjdedidlaaDoorWTab
import Derived.Test.YtnlcddjdedidlaaDoorWFour
import Derived.Test.YtnlcddjdedidlaaDoorWQPut
import Derived.Test.YtnlcddjdedidlaaDoorWApart
import Derived.Test.YtnlcddjdedidlaaDoorWArr
import Derived.Test.YtnlcddjdedidlaaDoorWZeros
import Derived.Test.YtnlcddjdedidlaaDoorWFoot
import Derived.Test.YtnlcddjdedidlaaDoorWKept
import Derived.Test.YtnlcddjdedidlaaDoorWShare
import Derived.Test.YtnlcddjdedidlaaDoorWN
import Derived.Test.YtnlcddjdedidlaaDoorWFootNe
import Derived.Test.YtnlcddjdedidlaaDoorWAt
import Derived.Test.YtnlcddjdedidlaaDoorWEqStruct
import Derived.Test.YtnlcddjdedidlaaDoorWRepsOne
import Derived.Test.YtnlcddjdedidlaaDoorWInv
import Derived.Test.YtnlcddjdedidlaaDoorWInvWords
import Derived.Test.YtnlcddjdedidlaaDoorWGuard
import Derived.Test.YtnlcddjdedidlaaDoorWNEv
import Derived.Test.YtnlcddjdedidlaaDoorWMore
namespace Go.Proofs.YtnlcddjdedidlaaDoor.PDtA
open Go.RowKit Go.Proofs.YtnlcddjdedidlaaDoorW.PrintWords Go.Proofs.YtnlcddjdedidlaaDoorW.PrintLast Go.Proofs.YtnlcddjdedidlaaDoorW.PrintMore Go.Proofs.YtnlcddjdedidlaaDoor.Txt
attribute [local go_sem] max2_int min2_int max_two min_two max_three min_three max_four min_four   -- for this text's walks alone
set_option linter.unusedVariables false
set_option linter.unusedSimpArgs false



def errW : Option Int → Value
  | none => .nilIface
  | some c => .iface 0 (.int .i64 c)
theorem errW_none : errW none = .nilIface := rfl
theorem errW_some (c : Int) : errW (some c) = .iface 0 (.int .i64 c) := rfl

theorem info5 : (Tryd.prog.info? 5).map (fun i => (i.zero, i.size, i.bytes)) = some (some (.int .u8 0), 1, 1) := by kernel_rfl
-- the values' own types

end Go.Proofs.YtnlcddjdedidlaaDoor.PDtA
