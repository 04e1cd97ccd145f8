-- Written for this claim by wip/xprint.py of this repository (by way of the kit's print); Lean checks every line.
import Derived.Test.YtbjgkecnclpdaaaDoorProg
import Derived.Below
import Derived.Deep.Draws
import Derived.Deep.AppendLies
import Derived.Maps.AppendAt
import Derived.OwnWalk
import Derived.Laws.BytesArg
import Derived.Laws.MakeOwn
import Derived.Laws.OwnMore
import Derived.Deep.OwnRows
import Derived.Tactics
import Derived.Lib.ConvBytes
import Derived.Laws.Slices
import Derived.WalkKit
import Derived.KernelRfl
import Derived.RowKit3
import Derived.Deep.LoopGhost
import Derived.Deep.QuietTactic
import Derived.BigQuiet
import Derived.WideLaws
import Derived.Deep.DeepCutAuto
import Derived.Deep.CutBlock
import Derived.Deep.RegionHeld3
import Derived.Laws.Rows
import Derived.Lib.AppendStr
import Derived.ArgAppend
import Derived.Laws.IdiomCopy
import Derived.OrdersHeld
import Derived.Laws.BitsLemmas
import Derived.RowKit
import Derived.Test.YtbjgkecnclpdaaaDoorShelf
import Derived.Lib.SmallJoins
import Derived.Lib.AppendIntMem
import Derived.Shelf.Abstract
import Derived.WalkSpells
import Derived.Lib.SlBy
import Derived.Deep.Slices
import Derived.ChangeArms
import Derived.Test.YtbjgkecnclpdaaaDoorTold
import Derived.Test.YtbjgkecnclpdaaaDoorShr
import Derived.Test.YtbjgkecnclpdaaaDoorWWords
import Derived.Test.YtbjgkecnclpdaaaDoorWLast
import Derived.Test.YtbjgkecnclpdaaaDoorWTab
import Derived.Test.YtbjgkecnclpdaaaDoorWFour
import Derived.Test.YtbjgkecnclpdaaaDoorWQPut
import Derived.Test.YtbjgkecnclpdaaaDoorWApart
import Derived.Test.YtbjgkecnclpdaaaDoorWArr
import Derived.Test.YtbjgkecnclpdaaaDoorWZeros
import Derived.Test.YtbjgkecnclpdaaaDoorWFoot
import Derived.Test.YtbjgkecnclpdaaaDoorWKept
import Derived.Test.YtbjgkecnclpdaaaDoorWShare
import Derived.Test.YtbjgkecnclpdaaaDoorWN
import Derived.Test.YtbjgkecnclpdaaaDoorWFootNe
import Derived.Test.YtbjgkecnclpdaaaDoorWAt
import Derived.Test.YtbjgkecnclpdaaaDoorWEqStruct
import Derived.Test.YtbjgkecnclpdaaaDoorWRepsOne
import Derived.Test.YtbjgkecnclpdaaaDoorWInv
import Derived.Test.YtbjgkecnclpdaaaDoorWInvWords
import Derived.Test.YtbjgkecnclpdaaaDoorWGuard
import Derived.Test.YtbjgkecnclpdaaaDoorWNEv
import Derived.Test.YtbjgkecnclpdaaaDoorWMore
namespace Go.Proofs.YtbjgkecnclpdaaaDoor.Q
open Go.RowKit Go.Proofs.YtbjgkecnclpdaaaDoorW.PrintWords Go.Proofs.YtbjgkecnclpdaaaDoorW.PrintLast Go.Proofs.YtbjgkecnclpdaaaDoorW.PrintMore
attribute [local go_sem] max2_int min2_int max_two min_two max_three min_three max_four min_four   -- for this text's walks alone
set_option linter.unusedVariables false
set_option linter.unusedSimpArgs false



def errW : Option Int → Value
  | none => .nilIface
  | some c => .iface 0 (.int .i64 c)
theorem errW_none : errW none = .nilIface := rfl
theorem errW_some (c : Int) : errW (some c) = .iface 0 (.int .i64 c) := rfl

theorem info5 : (Tryd.prog.info? 5).map (fun i => (i.zero, i.size, i.bytes)) = some (some (.int .u8 0), 1, 1) := by kernel_rfl
-- the values' own types

end Go.Proofs.YtbjgkecnclpdaaaDoor.Q
