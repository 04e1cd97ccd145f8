-- Written for this claim by wip/xprint.py of this repository (by way of the kit's print); Lean checks every line.
import Derived.Test.YtnlioefgpgamdaaQ0
import Derived.Test.YtnlioefgpgamdaaQ17
import Derived.Test.YtnlioefgpgamdaaQ40
namespace Go.Proofs.Ytnlioefgpgamdaa.Q
open Go.RowKit Go.Proofs.YtnlioefgpgamdaaW.PrintWords Go.Proofs.YtnlioefgpgamdaaW.PrintLast Go.Proofs.YtnlioefgpgamdaaW.PrintMore
attribute [local go_sem] max2_int min2_int max_two min_two max_three min_three max_four min_four   -- for this text's walks alone
set_option linter.unusedVariables false
set_option linter.unusedSimpArgs false

/-- What is left to prove of laws_FnExactTakeFor: over numbers and lists alone. -/
def laws_FnExactTakeFor.Pure : Prop := ∀ (l0_0 : List Int) (a1_0 : Int) (a1_1 : Int) (a1_2 : Int) (a2 : Int), ok_T49 (⟨l0_0⟩ : S49) → ok_T51 (⟨a1_0, a1_1, a1_2⟩ : S51) → Told.I64 a2 → ∃ k, laws_FnExactTakeFor.f k l0_0 a1_0 a1_1 a1_2 a2 = some true

end Go.Proofs.Ytnlioefgpgamdaa.Q
