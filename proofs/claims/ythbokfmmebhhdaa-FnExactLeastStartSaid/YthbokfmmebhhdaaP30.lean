-- Written for this claim by wip/xprint.py of this repository (by way of the kit's print); Lean checks every line.
import Derived.Test.YthbokfmmebhhdaaP0
import Derived.Test.YthbokfmmebhhdaaP11
import Derived.Test.YthbokfmmebhhdaaP21
namespace Go.Proofs.Ythbokfmmebhhdaa.P
open Go.RowKit Go.Proofs.YthbokfmmebhhdaaW.PrintWords Go.Proofs.YthbokfmmebhhdaaW.PrintLast Go.Proofs.YthbokfmmebhhdaaW.PrintMore
attribute [local go_sem] max2_int min2_int max_two min_two max_three min_three max_four min_four   -- for this text's walks alone
set_option linter.unusedVariables false
set_option linter.unusedSimpArgs false

/-- What is left to prove of laws_FnExactLeastStart: over numbers and lists alone. -/
def laws_FnExactLeastStart.Pure : Prop := ∀ (l0 : List (S25)), (Told.OkL ok_T25) l0 → ∃ k, laws_FnExactLeastStart.f k l0 = some true

end Go.Proofs.Ythbokfmmebhhdaa.P
