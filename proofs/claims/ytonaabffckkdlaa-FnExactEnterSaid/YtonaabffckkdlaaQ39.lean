-- Written for this claim by wip/xprint.py of this repository (by way of the kit's print); Lean checks every line.
import Derived.Test.YtonaabffckkdlaaQ0
namespace Go.Proofs.Ytonaabffckkdlaa.Q
open Go.RowKit Go.Proofs.YtonaabffckkdlaaW.PrintWords Go.Proofs.YtonaabffckkdlaaW.PrintLast Go.Proofs.YtonaabffckkdlaaW.PrintMore
attribute [local go_sem] max2_int min2_int max_two min_two max_three min_three max_four min_four   -- for this text's walks alone
set_option linter.unusedVariables false
set_option linter.unusedSimpArgs false

-- what is known of a value that came in
def ok_T39 (x : S39) : Prop := Told.I64 x.f0 ∧ Told.I64 x.f1

-- what is known of a value that came in
def ok_T24 (x : S24) : Prop := Told.I64 x.f0 ∧ Told.I64 x.f1 ∧ Told.I64 x.f2

-- what is known of a value that came in
def ok_T26 (x : S26) : Prop := (Told.OkL ok_T39) x.f0 ∧ ok_T24 x.f1 ∧ Told.I64 x.f2 ∧ Told.I64 x.f3 ∧ Told.I64 x.f4

end Go.Proofs.Ytonaabffckkdlaa.Q
