/-
  No cell of these rows narrows 'for every input' (looked for: loops, veiled, ifaces, maps, wideKeys, modest, calm, conditions, laid).
  DERIVED. THE GIVEN ROWS OF THIS SEAT. 12 by the template 'for every input the law returns true; each argument reads behind the call as it read before'; 0 by the template 'total and deterministic' (their statements: YthbokfmmebhhdaaTotals.lean).
  GIVEN WITH THE SEED: the statements are not yours to turn. If you find one false, say at which input.
  Laid BY PROGRAM, IN A SANDBOX (cutbox-rows.mjs): the forced cells as the released guide's own fill.sh prints them over the translation f3791775e9a0ea46… (all of the seat's roots in one cut). By AI agents, Wed Nov 11 2026. No macro, syntax, notation, axiom, sorry.
-/
import Derived.Test.YthbokfmmebhhdaaChecked
import GoSem.Claim
import GoSem.ClaimJoined
import GoSem.ClaimMapViews
import Derived.JoinedTies
import Derived.KernelRfl
namespace Go.Proofs.Ythbokfmmebhhdaa
/- THE CELL 'sum', in the pinned program and in every row, IS THE sha256 OF THE DUMP (.gsa) THAT YthbokfmmebhhdaaProg.lean LOADS. Nothing in Lean hashes anything: it is a label: what it is worth is what the hold of that sum in a sandbox is worth. -/
noncomputable def Try.pinned : Pinned := { name := "ythbokfmmebhhdaa", sum := "f3791775e9a0ea4679a2fac1c3f3bd3b53fc9a2e5e2f0ed9c42575668c9dc886", checked := Try.checked }
namespace Rows
def none {H : Type} : Left H := { results := [], args := [] }

/-- 'laws.FnExactMinutesTo': WHATEVER THE INPUT: true; the input reads as it did. -/
def fnExactMinutesToSpec : ChangeSpec := { name := "fnExactMinutesTo", fn := fun _ => fun
  | [d1, d2] => { results := [.lit (.bool true)], args := [d1, d2] }
  | _ => none }
def fnExactMinutesToRow : OpenClaim := { program := "ythbokfmmebhhdaa", sum := "f3791775e9a0ea4679a2fac1c3f3bd3b53fc9a2e5e2f0ed9c42575668c9dc886", func := "loop.example/g03310/laws.FnExactMinutesTo", spec := "fnExactMinutesTo", apart := false }
def FnExactMinutesToSaid : Prop := fnExactMinutesToRow.holds Try.pinned (OpenSpec.ofChange fnExactMinutesToSpec)

/-- ITS FALSE NEIGHBOUR: 'it returns false'. Refute it at one input. -/
def fnExactMinutesToWrong : ChangeSpec := { name := "fnExactMinutesTo", fn := fun _ => fun
  | [d1, d2] => { results := [.lit (.bool false)], args := [d1, d2] }
  | _ => none }
def FnExactMinutesToWrongFalsely : Prop := fnExactMinutesToRow.holds Try.pinned (OpenSpec.ofChange fnExactMinutesToWrong)

/-- 'laws.FnExactSlipOk': WHATEVER THE INPUT: true; the input reads as it did. -/
def fnExactSlipOkSpec : ChangeSpec := { name := "fnExactSlipOk", fn := fun _ => fun
  | [d] => { results := [.lit (.bool true)], args := [d] }
  | _ => none }
def fnExactSlipOkRow : OpenClaim := { program := "ythbokfmmebhhdaa", sum := "f3791775e9a0ea4679a2fac1c3f3bd3b53fc9a2e5e2f0ed9c42575668c9dc886", func := "loop.example/g03310/laws.FnExactSlipOk", spec := "fnExactSlipOk", unfollowed := true, recurses := true, apart := false }
def FnExactSlipOkSaid : Prop := fnExactSlipOkRow.holds Try.pinned (OpenSpec.ofChange fnExactSlipOkSpec)

/-- ITS FALSE NEIGHBOUR: 'it returns false'. Refute it at one input. -/
def fnExactSlipOkWrong : ChangeSpec := { name := "fnExactSlipOk", fn := fun _ => fun
  | [d] => { results := [.lit (.bool false)], args := [d] }
  | _ => none }
def FnExactSlipOkWrongFalsely : Prop := fnExactSlipOkRow.holds Try.pinned (OpenSpec.ofChange fnExactSlipOkWrong)

/-- 'laws.FnExactActOk': WHATEVER THE INPUT: true; the input reads as it did. -/
def fnExactActOkSpec : ChangeSpec := { name := "fnExactActOk", fn := fun _ => fun
  | [d] => { results := [.lit (.bool true)], args := [d] }
  | _ => none }
def fnExactActOkRow : OpenClaim := { program := "ythbokfmmebhhdaa", sum := "f3791775e9a0ea4679a2fac1c3f3bd3b53fc9a2e5e2f0ed9c42575668c9dc886", func := "loop.example/g03310/laws.FnExactActOk", spec := "fnExactActOk", apart := false }
def FnExactActOkSaid : Prop := fnExactActOkRow.holds Try.pinned (OpenSpec.ofChange fnExactActOkSpec)

/-- ITS FALSE NEIGHBOUR: 'it returns false'. Refute it at one input. -/
def fnExactActOkWrong : ChangeSpec := { name := "fnExactActOk", fn := fun _ => fun
  | [d] => { results := [.lit (.bool false)], args := [d] }
  | _ => none }
def FnExactActOkWrongFalsely : Prop := fnExactActOkRow.holds Try.pinned (OpenSpec.ofChange fnExactActOkWrong)

/-- 'laws.FnExactIsBetween': WHATEVER THE INPUT: true; the input reads as it did. -/
def fnExactIsBetweenSpec : ChangeSpec := { name := "fnExactIsBetween", fn := fun _ => fun
  | [d1, d2, d3] => { results := [.lit (.bool true)], args := [d1, d2, d3] }
  | _ => none }
def fnExactIsBetweenRow : OpenClaim := { program := "ythbokfmmebhhdaa", sum := "f3791775e9a0ea4679a2fac1c3f3bd3b53fc9a2e5e2f0ed9c42575668c9dc886", func := "loop.example/g03310/laws.FnExactIsBetween", spec := "fnExactIsBetween", unfollowed := true, recurses := true, apart := false }
def FnExactIsBetweenSaid : Prop := fnExactIsBetweenRow.holds Try.pinned (OpenSpec.ofChange fnExactIsBetweenSpec)

/-- ITS FALSE NEIGHBOUR: 'it returns false'. Refute it at one input. -/
def fnExactIsBetweenWrong : ChangeSpec := { name := "fnExactIsBetween", fn := fun _ => fun
  | [d1, d2, d3] => { results := [.lit (.bool false)], args := [d1, d2, d3] }
  | _ => none }
def FnExactIsBetweenWrongFalsely : Prop := fnExactIsBetweenRow.holds Try.pinned (OpenSpec.ofChange fnExactIsBetweenWrong)

/-- 'laws.FnExactStoreOk': WHATEVER THE INPUT: true; the input reads as it did. -/
def fnExactStoreOkSpec : ChangeSpec := { name := "fnExactStoreOk", fn := fun _ => fun
  | [d] => { results := [.lit (.bool true)], args := [d] }
  | _ => none }
def fnExactStoreOkRow : OpenClaim := { program := "ythbokfmmebhhdaa", sum := "f3791775e9a0ea4679a2fac1c3f3bd3b53fc9a2e5e2f0ed9c42575668c9dc886", func := "loop.example/g03310/laws.FnExactStoreOk", spec := "fnExactStoreOk", unfollowed := true, recurses := true, apart := false }
def FnExactStoreOkSaid : Prop := fnExactStoreOkRow.holds Try.pinned (OpenSpec.ofChange fnExactStoreOkSpec)

/-- ITS FALSE NEIGHBOUR: 'it returns false'. Refute it at one input. -/
def fnExactStoreOkWrong : ChangeSpec := { name := "fnExactStoreOk", fn := fun _ => fun
  | [d] => { results := [.lit (.bool false)], args := [d] }
  | _ => none }
def FnExactStoreOkWrongFalsely : Prop := fnExactStoreOkRow.holds Try.pinned (OpenSpec.ofChange fnExactStoreOkWrong)

/-- 'laws.FnExactTillAfter': WHATEVER THE INPUT: true; the input reads as it did. -/
def fnExactTillAfterSpec : ChangeSpec := { name := "fnExactTillAfter", fn := fun _ => fun
  | [d1, d2] => { results := [.lit (.bool true)], args := [d1, d2] }
  | _ => none }
def fnExactTillAfterRow : OpenClaim := { program := "ythbokfmmebhhdaa", sum := "f3791775e9a0ea4679a2fac1c3f3bd3b53fc9a2e5e2f0ed9c42575668c9dc886", func := "loop.example/g03310/laws.FnExactTillAfter", spec := "fnExactTillAfter", unfollowed := true, recurses := true, apart := false }
def FnExactTillAfterSaid : Prop := fnExactTillAfterRow.holds Try.pinned (OpenSpec.ofChange fnExactTillAfterSpec)

/-- ITS FALSE NEIGHBOUR: 'it returns false'. Refute it at one input. -/
def fnExactTillAfterWrong : ChangeSpec := { name := "fnExactTillAfter", fn := fun _ => fun
  | [d1, d2] => { results := [.lit (.bool false)], args := [d1, d2] }
  | _ => none }
def FnExactTillAfterWrongFalsely : Prop := fnExactTillAfterRow.holds Try.pinned (OpenSpec.ofChange fnExactTillAfterWrong)

/-- 'laws.FnExactLowestTill': WHATEVER THE INPUT: true; the input reads as it did. -/
def fnExactLowestTillSpec : ChangeSpec := { name := "fnExactLowestTill", fn := fun _ => fun
  | [d1, d2] => { results := [.lit (.bool true)], args := [d1, d2] }
  | _ => none }
def fnExactLowestTillRow : OpenClaim := { program := "ythbokfmmebhhdaa", sum := "f3791775e9a0ea4679a2fac1c3f3bd3b53fc9a2e5e2f0ed9c42575668c9dc886", func := "loop.example/g03310/laws.FnExactLowestTill", spec := "fnExactLowestTill", unfollowed := true, recurses := true, apart := false }
def FnExactLowestTillSaid : Prop := fnExactLowestTillRow.holds Try.pinned (OpenSpec.ofChange fnExactLowestTillSpec)

/-- ITS FALSE NEIGHBOUR: 'it returns false'. Refute it at one input. -/
def fnExactLowestTillWrong : ChangeSpec := { name := "fnExactLowestTill", fn := fun _ => fun
  | [d1, d2] => { results := [.lit (.bool false)], args := [d1, d2] }
  | _ => none }
def FnExactLowestTillWrongFalsely : Prop := fnExactLowestTillRow.holds Try.pinned (OpenSpec.ofChange fnExactLowestTillWrong)

/-- 'laws.FnExactMissingMoney': WHATEVER THE INPUT: true; the input reads as it did. -/
def fnExactMissingMoneySpec : ChangeSpec := { name := "fnExactMissingMoney", fn := fun _ => fun
  | [d1, d2, d3] => { results := [.lit (.bool true)], args := [d1, d2, d3] }
  | _ => none }
def fnExactMissingMoneyRow : OpenClaim := { program := "ythbokfmmebhhdaa", sum := "f3791775e9a0ea4679a2fac1c3f3bd3b53fc9a2e5e2f0ed9c42575668c9dc886", func := "loop.example/g03310/laws.FnExactMissingMoney", spec := "fnExactMissingMoney", unfollowed := true, recurses := true, apart := false }
def FnExactMissingMoneySaid : Prop := fnExactMissingMoneyRow.holds Try.pinned (OpenSpec.ofChange fnExactMissingMoneySpec)

/-- ITS FALSE NEIGHBOUR: 'it returns false'. Refute it at one input. -/
def fnExactMissingMoneyWrong : ChangeSpec := { name := "fnExactMissingMoney", fn := fun _ => fun
  | [d1, d2, d3] => { results := [.lit (.bool false)], args := [d1, d2, d3] }
  | _ => none }
def FnExactMissingMoneyWrongFalsely : Prop := fnExactMissingMoneyRow.holds Try.pinned (OpenSpec.ofChange fnExactMissingMoneyWrong)

/-- 'laws.FnExactLeastStart': WHATEVER THE INPUT: true; the input reads as it did. -/
def fnExactLeastStartSpec : ChangeSpec := { name := "fnExactLeastStart", fn := fun _ => fun
  | [d] => { results := [.lit (.bool true)], args := [d] }
  | _ => none }
def fnExactLeastStartRow : OpenClaim := { program := "ythbokfmmebhhdaa", sum := "f3791775e9a0ea4679a2fac1c3f3bd3b53fc9a2e5e2f0ed9c42575668c9dc886", func := "loop.example/g03310/laws.FnExactLeastStart", spec := "fnExactLeastStart", unfollowed := true, recurses := true, apart := false }
def FnExactLeastStartSaid : Prop := fnExactLeastStartRow.holds Try.pinned (OpenSpec.ofChange fnExactLeastStartSpec)

/-- ITS FALSE NEIGHBOUR: 'it returns false'. Refute it at one input. -/
def fnExactLeastStartWrong : ChangeSpec := { name := "fnExactLeastStart", fn := fun _ => fun
  | [d] => { results := [.lit (.bool false)], args := [d] }
  | _ => none }
def FnExactLeastStartWrongFalsely : Prop := fnExactLeastStartRow.holds Try.pinned (OpenSpec.ofChange fnExactLeastStartWrong)

/-- 'laws.FnExactFillStock': WHATEVER THE INPUT: true; the input reads as it did. -/
def fnExactFillStockSpec : ChangeSpec := { name := "fnExactFillStock", fn := fun _ => fun
  | [d1, d2, d3] => { results := [.lit (.bool true)], args := [d1, d2, d3] }
  | _ => none }
def fnExactFillStockRow : OpenClaim := { program := "ythbokfmmebhhdaa", sum := "f3791775e9a0ea4679a2fac1c3f3bd3b53fc9a2e5e2f0ed9c42575668c9dc886", func := "loop.example/g03310/laws.FnExactFillStock", spec := "fnExactFillStock", unfollowed := true, recurses := true, apart := false }
def FnExactFillStockSaid : Prop := fnExactFillStockRow.holds Try.pinned (OpenSpec.ofChange fnExactFillStockSpec)

/-- ITS FALSE NEIGHBOUR: 'it returns false'. Refute it at one input. -/
def fnExactFillStockWrong : ChangeSpec := { name := "fnExactFillStock", fn := fun _ => fun
  | [d1, d2, d3] => { results := [.lit (.bool false)], args := [d1, d2, d3] }
  | _ => none }
def FnExactFillStockWrongFalsely : Prop := fnExactFillStockRow.holds Try.pinned (OpenSpec.ofChange fnExactFillStockWrong)

/-- 'laws.FnExactWrongSlips': WHATEVER THE INPUT: true; the input reads as it did. -/
def fnExactWrongSlipsSpec : ChangeSpec := { name := "fnExactWrongSlips", fn := fun _ => fun
  | [d] => { results := [.lit (.bool true)], args := [d] }
  | _ => none }
def fnExactWrongSlipsRow : OpenClaim := { program := "ythbokfmmebhhdaa", sum := "f3791775e9a0ea4679a2fac1c3f3bd3b53fc9a2e5e2f0ed9c42575668c9dc886", func := "loop.example/g03310/laws.FnExactWrongSlips", spec := "fnExactWrongSlips", unfollowed := true, recurses := true, apart := false }
def FnExactWrongSlipsSaid : Prop := fnExactWrongSlipsRow.holds Try.pinned (OpenSpec.ofChange fnExactWrongSlipsSpec)

/-- ITS FALSE NEIGHBOUR: 'it returns false'. Refute it at one input. -/
def fnExactWrongSlipsWrong : ChangeSpec := { name := "fnExactWrongSlips", fn := fun _ => fun
  | [d] => { results := [.lit (.bool false)], args := [d] }
  | _ => none }
def FnExactWrongSlipsWrongFalsely : Prop := fnExactWrongSlipsRow.holds Try.pinned (OpenSpec.ofChange fnExactWrongSlipsWrong)

/-- 'laws.FnExactFirstMissing': WHATEVER THE INPUT: true; the input reads as it did. -/
def fnExactFirstMissingSpec : ChangeSpec := { name := "fnExactFirstMissing", fn := fun _ => fun
  | [d1, d2, d3] => { results := [.lit (.bool true)], args := [d1, d2, d3] }
  | _ => none }
def fnExactFirstMissingRow : OpenClaim := { program := "ythbokfmmebhhdaa", sum := "f3791775e9a0ea4679a2fac1c3f3bd3b53fc9a2e5e2f0ed9c42575668c9dc886", func := "loop.example/g03310/laws.FnExactFirstMissing", spec := "fnExactFirstMissing", unfollowed := true, recurses := true, apart := false }
def FnExactFirstMissingSaid : Prop := fnExactFirstMissingRow.holds Try.pinned (OpenSpec.ofChange fnExactFirstMissingSpec)

/-- ITS FALSE NEIGHBOUR: 'it returns false'. Refute it at one input. -/
def fnExactFirstMissingWrong : ChangeSpec := { name := "fnExactFirstMissing", fn := fun _ => fun
  | [d1, d2, d3] => { results := [.lit (.bool false)], args := [d1, d2, d3] }
  | _ => none }
def FnExactFirstMissingWrongFalsely : Prop := fnExactFirstMissingRow.holds Try.pinned (OpenSpec.ofChange fnExactFirstMissingWrong)

/- THE SECOND FORM. 'bulk': how many values and letters a reading holds, each counted each time it is reached (what is shared counts as often as it is met; a slice's spare places count too). A statement '..UptoSaid' is the law's where the arguments, and the package variables that the reading takes, are together of bulk at most 1048576: NARROWER than '..Said'. Prove '..Said' where nothing that the law and all that it calls make is longer than what came in: it says more and counts as full. Else prove '..UptoSaid'. A law counts once. -/
mutual
def uptoBulk {H : Type} : DataW H → Nat
  | .lit (.string bytes) => bytes.length + 1
  | .lit _ => 1
  | .nil => 1
  | .ptr d => uptoBulk d + 1
  | .slice elems spare => uptoBulkAll elems + uptoBulkAll spare + 1
  | .agg parts => uptoBulkAll parts + 1
  | .iface _ d => uptoBulk d + 1
  | .map entries => uptoBulkEntries entries + 1
  | .held _ => 1
def uptoBulkAll {H : Type} : List (DataW H) → Nat
  | [] => 0
  | d :: r => uptoBulk d + uptoBulkAll r
def uptoBulkEntries {H : Type} : List (Lit × DataW H) → Nat
  | [] => 0
  | x :: r => uptoBulkEntry x + uptoBulkEntries r
def uptoBulkEntry {H : Type} : Lit × DataW H → Nat
  | (.string bytes, d) => bytes.length + uptoBulk d + 1
  | (_, d) => uptoBulk d + 1
 end
def uptoSmall : (H : Type) → List (DataW H) → Bool := fun _ ds => decide (uptoBulkAll ds ≤ 1048576)
def OpenSpec.upto (s : _root_.Go.ChangeSpec) : _root_.Go.OpenSpec := { _root_.Go.OpenSpec.ofChange s with cond := some uptoSmall }

/-- 'laws.FnExactMinutesTo', WHERE WHAT IT READS IS OF BULK AT MOST 1048576: true; the input reads as it did. -/
def fnExactMinutesToUptoRow : OpenClaim := { program := "ythbokfmmebhhdaa", sum := "f3791775e9a0ea4679a2fac1c3f3bd3b53fc9a2e5e2f0ed9c42575668c9dc886", func := "loop.example/g03310/laws.FnExactMinutesTo", spec := "fnExactMinutesTo", apart := false, narrowed := true }
def FnExactMinutesToUptoSaid : Prop := fnExactMinutesToUptoRow.holds Try.pinned (OpenSpec.upto fnExactMinutesToSpec)

/-- 'laws.FnExactSlipOk', WHERE WHAT IT READS IS OF BULK AT MOST 1048576: true; the input reads as it did. -/
def fnExactSlipOkUptoRow : OpenClaim := { program := "ythbokfmmebhhdaa", sum := "f3791775e9a0ea4679a2fac1c3f3bd3b53fc9a2e5e2f0ed9c42575668c9dc886", func := "loop.example/g03310/laws.FnExactSlipOk", spec := "fnExactSlipOk", unfollowed := true, recurses := true, apart := false, narrowed := true }
def FnExactSlipOkUptoSaid : Prop := fnExactSlipOkUptoRow.holds Try.pinned (OpenSpec.upto fnExactSlipOkSpec)

/-- 'laws.FnExactActOk', WHERE WHAT IT READS IS OF BULK AT MOST 1048576: true; the input reads as it did. -/
def fnExactActOkUptoRow : OpenClaim := { program := "ythbokfmmebhhdaa", sum := "f3791775e9a0ea4679a2fac1c3f3bd3b53fc9a2e5e2f0ed9c42575668c9dc886", func := "loop.example/g03310/laws.FnExactActOk", spec := "fnExactActOk", apart := false, narrowed := true }
def FnExactActOkUptoSaid : Prop := fnExactActOkUptoRow.holds Try.pinned (OpenSpec.upto fnExactActOkSpec)

/-- 'laws.FnExactIsBetween', WHERE WHAT IT READS IS OF BULK AT MOST 1048576: true; the input reads as it did. -/
def fnExactIsBetweenUptoRow : OpenClaim := { program := "ythbokfmmebhhdaa", sum := "f3791775e9a0ea4679a2fac1c3f3bd3b53fc9a2e5e2f0ed9c42575668c9dc886", func := "loop.example/g03310/laws.FnExactIsBetween", spec := "fnExactIsBetween", unfollowed := true, recurses := true, apart := false, narrowed := true }
def FnExactIsBetweenUptoSaid : Prop := fnExactIsBetweenUptoRow.holds Try.pinned (OpenSpec.upto fnExactIsBetweenSpec)

/-- 'laws.FnExactStoreOk', WHERE WHAT IT READS IS OF BULK AT MOST 1048576: true; the input reads as it did. -/
def fnExactStoreOkUptoRow : OpenClaim := { program := "ythbokfmmebhhdaa", sum := "f3791775e9a0ea4679a2fac1c3f3bd3b53fc9a2e5e2f0ed9c42575668c9dc886", func := "loop.example/g03310/laws.FnExactStoreOk", spec := "fnExactStoreOk", unfollowed := true, recurses := true, apart := false, narrowed := true }
def FnExactStoreOkUptoSaid : Prop := fnExactStoreOkUptoRow.holds Try.pinned (OpenSpec.upto fnExactStoreOkSpec)

/-- 'laws.FnExactTillAfter', WHERE WHAT IT READS IS OF BULK AT MOST 1048576: true; the input reads as it did. -/
def fnExactTillAfterUptoRow : OpenClaim := { program := "ythbokfmmebhhdaa", sum := "f3791775e9a0ea4679a2fac1c3f3bd3b53fc9a2e5e2f0ed9c42575668c9dc886", func := "loop.example/g03310/laws.FnExactTillAfter", spec := "fnExactTillAfter", unfollowed := true, recurses := true, apart := false, narrowed := true }
def FnExactTillAfterUptoSaid : Prop := fnExactTillAfterUptoRow.holds Try.pinned (OpenSpec.upto fnExactTillAfterSpec)

/-- 'laws.FnExactLowestTill', WHERE WHAT IT READS IS OF BULK AT MOST 1048576: true; the input reads as it did. -/
def fnExactLowestTillUptoRow : OpenClaim := { program := "ythbokfmmebhhdaa", sum := "f3791775e9a0ea4679a2fac1c3f3bd3b53fc9a2e5e2f0ed9c42575668c9dc886", func := "loop.example/g03310/laws.FnExactLowestTill", spec := "fnExactLowestTill", unfollowed := true, recurses := true, apart := false, narrowed := true }
def FnExactLowestTillUptoSaid : Prop := fnExactLowestTillUptoRow.holds Try.pinned (OpenSpec.upto fnExactLowestTillSpec)

/-- 'laws.FnExactMissingMoney', WHERE WHAT IT READS IS OF BULK AT MOST 1048576: true; the input reads as it did. -/
def fnExactMissingMoneyUptoRow : OpenClaim := { program := "ythbokfmmebhhdaa", sum := "f3791775e9a0ea4679a2fac1c3f3bd3b53fc9a2e5e2f0ed9c42575668c9dc886", func := "loop.example/g03310/laws.FnExactMissingMoney", spec := "fnExactMissingMoney", unfollowed := true, recurses := true, apart := false, narrowed := true }
def FnExactMissingMoneyUptoSaid : Prop := fnExactMissingMoneyUptoRow.holds Try.pinned (OpenSpec.upto fnExactMissingMoneySpec)

/-- 'laws.FnExactLeastStart', WHERE WHAT IT READS IS OF BULK AT MOST 1048576: true; the input reads as it did. -/
def fnExactLeastStartUptoRow : OpenClaim := { program := "ythbokfmmebhhdaa", sum := "f3791775e9a0ea4679a2fac1c3f3bd3b53fc9a2e5e2f0ed9c42575668c9dc886", func := "loop.example/g03310/laws.FnExactLeastStart", spec := "fnExactLeastStart", unfollowed := true, recurses := true, apart := false, narrowed := true }
def FnExactLeastStartUptoSaid : Prop := fnExactLeastStartUptoRow.holds Try.pinned (OpenSpec.upto fnExactLeastStartSpec)

/-- 'laws.FnExactFillStock', WHERE WHAT IT READS IS OF BULK AT MOST 1048576: true; the input reads as it did. -/
def fnExactFillStockUptoRow : OpenClaim := { program := "ythbokfmmebhhdaa", sum := "f3791775e9a0ea4679a2fac1c3f3bd3b53fc9a2e5e2f0ed9c42575668c9dc886", func := "loop.example/g03310/laws.FnExactFillStock", spec := "fnExactFillStock", unfollowed := true, recurses := true, apart := false, narrowed := true }
def FnExactFillStockUptoSaid : Prop := fnExactFillStockUptoRow.holds Try.pinned (OpenSpec.upto fnExactFillStockSpec)

/-- 'laws.FnExactWrongSlips', WHERE WHAT IT READS IS OF BULK AT MOST 1048576: true; the input reads as it did. -/
def fnExactWrongSlipsUptoRow : OpenClaim := { program := "ythbokfmmebhhdaa", sum := "f3791775e9a0ea4679a2fac1c3f3bd3b53fc9a2e5e2f0ed9c42575668c9dc886", func := "loop.example/g03310/laws.FnExactWrongSlips", spec := "fnExactWrongSlips", unfollowed := true, recurses := true, apart := false, narrowed := true }
def FnExactWrongSlipsUptoSaid : Prop := fnExactWrongSlipsUptoRow.holds Try.pinned (OpenSpec.upto fnExactWrongSlipsSpec)

/-- 'laws.FnExactFirstMissing', WHERE WHAT IT READS IS OF BULK AT MOST 1048576: true; the input reads as it did. -/
def fnExactFirstMissingUptoRow : OpenClaim := { program := "ythbokfmmebhhdaa", sum := "f3791775e9a0ea4679a2fac1c3f3bd3b53fc9a2e5e2f0ed9c42575668c9dc886", func := "loop.example/g03310/laws.FnExactFirstMissing", spec := "fnExactFirstMissing", unfollowed := true, recurses := true, apart := false, narrowed := true }
def FnExactFirstMissingUptoSaid : Prop := fnExactFirstMissingUptoRow.holds Try.pinned (OpenSpec.upto fnExactFirstMissingSpec)

end Rows
end Go.Proofs.Ythbokfmmebhhdaa
