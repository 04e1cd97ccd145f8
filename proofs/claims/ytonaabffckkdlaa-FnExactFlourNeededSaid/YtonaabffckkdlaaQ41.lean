-- Written for this claim by wip/xprint.py of this repository (by way of the kit's print); Lean checks every line.
import Derived.Test.YtonaabffckkdlaaQ0
import Derived.Test.YtonaabffckkdlaaQ40
namespace Go.Proofs.Ytonaabffckkdlaa.Q
open Go.RowKit Go.Proofs.YtonaabffckkdlaaW.PrintWords Go.Proofs.YtonaabffckkdlaaW.PrintLast Go.Proofs.YtonaabffckkdlaaW.PrintMore
attribute [local go_sem] max2_int min2_int max_two min_two max_three min_three max_four min_four   -- for this text's walks alone
set_option linter.unusedVariables false
set_option linter.unusedSimpArgs false

-- what is known of a value that came in
def ok_T46 (x : S46) : Prop := (Told.OkL Told.I64) x.f0

-- what is known of a value that came in
def ok_T48 (x : S48) : Prop := Told.I64 x.f0 ∧ Told.I64 x.f1 ∧ Told.I64 x.f2

-- what is known of a value that came in
def ok_T50 (x : S50) : Prop := Told.I64 x.f0 ∧ Told.I64 x.f1

-- what is known of a value that came in
def ok_T52 (x : S52) : Prop := ok_T46 x.f0 ∧ ok_T48 x.f1 ∧ ok_T50 x.f2 ∧ ok_T26 x.f3 ∧ Told.I64 x.f4

end Go.Proofs.Ytonaabffckkdlaa.Q
