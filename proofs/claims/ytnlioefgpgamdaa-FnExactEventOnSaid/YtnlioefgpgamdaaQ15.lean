-- Written for this claim by wip/xprint.py of this repository (by way of the kit's print); Lean checks every line.
import Derived.Test.YtnlioefgpgamdaaQ0
import Derived.Test.YtnlioefgpgamdaaQ13
import Derived.Test.YtnlioefgpgamdaaQ14
namespace Go.Proofs.Ytnlioefgpgamdaa.Q
open Go.RowKit Go.Proofs.YtnlioefgpgamdaaW.PrintWords Go.Proofs.YtnlioefgpgamdaaW.PrintLast Go.Proofs.YtnlioefgpgamdaaW.PrintMore
attribute [local go_sem] max2_int min2_int max_two min_two max_three min_three max_four min_four   -- for this text's walks alone
set_option linter.unusedVariables false
set_option linter.unusedSimpArgs false

/-- What is left to prove of laws_FnExactEventOn: over numbers and lists alone. -/
def laws_FnExactEventOn.Pure : Prop := ∀ (a0_0 : Int) (a0_1 : Int) (a0_2 : Int) (a1_0 : Int) (a1_1 : Int), ok_T37 (⟨a0_0, a0_1, a0_2⟩ : S37) → ok_T39 (⟨a1_0, a1_1⟩ : S39) → ∃ k, laws_FnExactEventOn.f k a0_0 a0_1 a0_2 a1_0 a1_1 = some true

end Go.Proofs.Ytnlioefgpgamdaa.Q
