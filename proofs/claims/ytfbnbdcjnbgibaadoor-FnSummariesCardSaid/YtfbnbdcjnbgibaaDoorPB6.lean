/- Acts: what one act does to a bakery, and what many do; lists of numbers compared. -/
import Derived.Test.YtfbnbdcjnbgibaaDoorPA1
import Derived.Test.YtfbnbdcjnbgibaaDoorPB3
namespace Go.Proofs.YtfbnbdcjnbgibaaDoorX
open Go
set_option linter.unusedVariables false
end Go.Proofs.YtfbnbdcjnbgibaaDoorX
