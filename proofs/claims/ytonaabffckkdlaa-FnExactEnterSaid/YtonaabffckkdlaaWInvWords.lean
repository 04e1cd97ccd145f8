-- PRINTED BY print.sh 35421559b90ae4d0a3588c463048766b98c2df88dd9212a6774a882060cdf62d: not written by this session
-- (shortened by wip/narrowW.py) --n
import Derived.Test.YtonaabffckkdlaaWInv
import Derived.Test.YtonaabffckkdlaaWFootNe
namespace Go.Proofs.YtonaabffckkdlaaW.PrintWords
open Go.RowKit
end Go.Proofs.YtonaabffckkdlaaW.PrintWords
namespace Go.Proofs.YtonaabffckkdlaaW.PrintLast
section
variable {ops : Array Oper} {a : Act} {o og : Oper} {g : Nat} {t : Tmp} {u : Bool}
end
end Go.Proofs.YtonaabffckkdlaaW.PrintLast
