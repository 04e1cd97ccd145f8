-- Written for this claim by wip/xprint.py of this repository (by way of the kit's print); Lean checks every line.
import Derived.Test.YtdpadngefhhagaaDoorProg
import Derived.Below
import Derived.Deep.Draws
import Derived.Deep.AppendLies
import Derived.Maps.AppendAt
import Derived.OwnWalk
import Derived.Laws.BytesArg
import Derived.Laws.MakeOwn
import Derived.Laws.OwnMore
import Derived.Deep.OwnRows
import Derived.Tactics
import Derived.Lib.ConvBytes
import Derived.Laws.Slices
import Derived.WalkKit
import Derived.KernelRfl
import Derived.RowKit3
import Derived.Deep.LoopGhost
import Derived.Deep.QuietTactic
import Derived.BigQuiet
import Derived.WideLaws
import Derived.Deep.DeepCutAuto
import Derived.Deep.CutBlock
import Derived.Deep.RegionHeld3
import Derived.Laws.Rows
import Derived.Lib.AppendStr
import Derived.ArgAppend
import Derived.Laws.IdiomCopy
import Derived.OrdersHeld
import Derived.Laws.BitsLemmas
import Derived.RowKit
import Derived.Test.YtdpadngefhhagaaDoorShelf
import Derived.Shelf.Abstract
import Derived.WalkSpells
import Derived.Lib.SlBy
import Derived.Deep.Slices
import Derived.ChangeArms
import Derived.Test.YtdpadngefhhagaaDoorTold
import Derived.Test.YtdpadngefhhagaaDoorShr
import Derived.Test.YtdpadngefhhagaaDoorWWords
import Derived.Test.YtdpadngefhhagaaDoorWLast
import Derived.Test.YtdpadngefhhagaaDoorWTab
import Derived.Test.YtdpadngefhhagaaDoorWFour
import Derived.Test.YtdpadngefhhagaaDoorWQPut
import Derived.Test.YtdpadngefhhagaaDoorWApart
import Derived.Test.YtdpadngefhhagaaDoorWArr
import Derived.Test.YtdpadngefhhagaaDoorWZeros
import Derived.Test.YtdpadngefhhagaaDoorWFoot
import Derived.Test.YtdpadngefhhagaaDoorWKept
import Derived.Test.YtdpadngefhhagaaDoorWShare
import Derived.Test.YtdpadngefhhagaaDoorWN
import Derived.Test.YtdpadngefhhagaaDoorWFootNe
import Derived.Test.YtdpadngefhhagaaDoorWAt
import Derived.Test.YtdpadngefhhagaaDoorWEqStruct
import Derived.Test.YtdpadngefhhagaaDoorWRepsOne
import Derived.Test.YtdpadngefhhagaaDoorWInv
import Derived.Test.YtdpadngefhhagaaDoorWInvWords
import Derived.Test.YtdpadngefhhagaaDoorWGuard
import Derived.Test.YtdpadngefhhagaaDoorWNEv
import Derived.Test.YtdpadngefhhagaaDoorWMore
namespace Go.Proofs.YtdpadngefhhagaaDoor.Q
open Go.RowKit Go.Proofs.YtdpadngefhhagaaDoorW.PrintWords Go.Proofs.YtdpadngefhhagaaDoorW.PrintLast Go.Proofs.YtdpadngefhhagaaDoorW.PrintMore
attribute [local go_sem] max2_int min2_int max_two min_two max_three min_three max_four min_four   -- for this text's walks alone
set_option linter.unusedVariables false
set_option linter.unusedSimpArgs false



def errW : Option Int → Value
  | none => .nilIface
  | some c => .iface 0 (.int .i64 c)
theorem errW_none : errW none = .nilIface := rfl
theorem errW_some (c : Int) : errW (some c) = .iface 0 (.int .i64 c) := rfl

theorem info5 : (Tryd.prog.info? 5).map (fun i => (i.zero, i.size, i.bytes)) = some (some (.int .u8 0), 1, 1) := by kernel_rfl
-- the values' own types

end Go.Proofs.YtdpadngefhhagaaDoor.Q
