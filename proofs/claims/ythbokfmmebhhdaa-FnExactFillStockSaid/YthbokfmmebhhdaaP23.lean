-- Written for this claim by wip/xprint.py of this repository (by way of the kit's print); Lean checks every line.
import Derived.Test.YthbokfmmebhhdaaP0
import Derived.Test.YthbokfmmebhhdaaP22
import Derived.Test.YthbokfmmebhhdaaP28
namespace Go.Proofs.Ythbokfmmebhhdaa.P
open Go.RowKit Go.Proofs.YthbokfmmebhhdaaW.PrintWords Go.Proofs.YthbokfmmebhhdaaW.PrintLast Go.Proofs.YthbokfmmebhhdaaW.PrintMore
attribute [local go_sem] max2_int min2_int max_two min_two max_three min_three max_four min_four   -- for this text's walks alone
set_option linter.unusedVariables false
set_option linter.unusedSimpArgs false

/-- What is left to prove of laws_FnExactFillStock: over numbers and lists alone. -/
def laws_FnExactFillStock.Pure : Prop := ∀ (l0_0 : List Int) (a1 : Int) (a2 : Int), ok_T39 (⟨l0_0⟩ : S39) → Told.I64 a1 → Told.I64 a2 → ∃ k, laws_FnExactFillStock.f k l0_0 a1 a2 = some true

end Go.Proofs.Ythbokfmmebhhdaa.P
