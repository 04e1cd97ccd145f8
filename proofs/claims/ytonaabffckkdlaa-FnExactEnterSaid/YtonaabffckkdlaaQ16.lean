-- Written for this claim by wip/xprint.py of this repository (by way of the kit's print); Lean checks every line.
import Derived.Test.YtonaabffckkdlaaQ0
import Derived.Test.YtonaabffckkdlaaQ15
import Derived.Test.YtonaabffckkdlaaQ39
namespace Go.Proofs.Ytonaabffckkdlaa.Q
open Go.RowKit Go.Proofs.YtonaabffckkdlaaW.PrintWords Go.Proofs.YtonaabffckkdlaaW.PrintLast Go.Proofs.YtonaabffckkdlaaW.PrintMore
attribute [local go_sem] max2_int min2_int max_two min_two max_three min_three max_four min_four   -- for this text's walks alone
set_option linter.unusedVariables false
set_option linter.unusedSimpArgs false

/-- What is left to prove of laws_FnExactEnter: over numbers and lists alone. -/
def laws_FnExactEnter.Pure : Prop := ∀ (l0_0 : List (S39)) (a0_1 : Int) (a0_2 : Int) (a0_3 : Int) (a0_4 : Int) (a0_5 : Int) (a0_6 : Int) (a1_0 : Int) (a1_1 : Int), ok_T26 (⟨l0_0, (⟨a0_1, a0_2, a0_3⟩ : S24), a0_4, a0_5, a0_6⟩ : S26) → ok_T39 (⟨a1_0, a1_1⟩ : S39) → ∃ k, laws_FnExactEnter.f k l0_0 a0_1 a0_2 a0_3 a0_4 a0_5 a0_6 a1_0 a1_1 = some true

end Go.Proofs.Ytonaabffckkdlaa.Q
