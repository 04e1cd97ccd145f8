/- Acts: what one act does to a bakery, and what many do; lists of numbers compared. -/
import Derived.Test.YtlenacakmmikiaaDoorPA1
import Derived.Test.YtlenacakmmikiaaDoorPB3
namespace Go.Proofs.YtlenacakmmikiaaDoorX
open Go
set_option linter.unusedVariables false
end Go.Proofs.YtlenacakmmikiaaDoorX
