/-
  No cell of these rows narrows 'for every input' (looked for: loops, veiled, ifaces, maps, wideKeys, modest, calm, conditions, laid).
  DERIVED. THE GIVEN ROWS OF THIS SEAT. 12 by the template 'for every input the law returns true; each argument reads behind the call as it read before'; 0 by the template 'total and deterministic' (their statements: YtnlioefgpgamdaaTotals.lean).
  GIVEN WITH THE SEED: the statements are not yours to turn. If you find one false, say at which input.
  Laid BY PROGRAM, IN A SANDBOX (cutbox-rows.mjs): the forced cells as the released guide's own fill.sh prints them over the translation c9394d27de626bd6… (all of the seat's roots in one cut). By AI agents, Wed Nov 11 2026. No macro, syntax, notation, axiom, sorry.
-/
import Derived.Test.YtnlioefgpgamdaaChecked
import GoSem.Claim
import GoSem.ClaimJoined
import GoSem.ClaimMapViews
import Derived.JoinedTies
import Derived.KernelRfl
namespace Go.Proofs.Ytnlioefgpgamdaa
/- THE CELL 'sum', in the pinned program and in every row, IS THE sha256 OF THE DUMP (.gsa) THAT YtnlioefgpgamdaaProg.lean LOADS. Nothing in Lean hashes anything: it is a label: what it is worth is what the hold of that sum in a sandbox is worth. -/
noncomputable def Try.pinned : Pinned := { name := "ytnlioefgpgamdaa", sum := "c9394d27de626bd6ad0e46edf8f85425f92b37d11fa7037f28bd17cd7f2ac5ee", checked := Try.checked }
namespace Rows
def none {H : Type} : Left H := { results := [], args := [] }

/-- 'laws.FnTills': WHATEVER THE INPUT: true; the input reads as it did. -/
def fnTillsSpec : ChangeSpec := { name := "fnTills", fn := fun _ => fun
  | [d] => { results := [.lit (.bool true)], args := [d] }
  | _ => none }
def fnTillsRow : OpenClaim := { program := "ytnlioefgpgamdaa", sum := "c9394d27de626bd6ad0e46edf8f85425f92b37d11fa7037f28bd17cd7f2ac5ee", func := "loop.example/g03310/laws.FnTills", spec := "fnTills", unfollowed := true, recurses := true, apart := false }
def FnTillsSaid : Prop := fnTillsRow.holds Try.pinned (OpenSpec.ofChange fnTillsSpec)

/-- ITS FALSE NEIGHBOUR: 'it returns false'. Refute it at one input. -/
def fnTillsWrong : ChangeSpec := { name := "fnTills", fn := fun _ => fun
  | [d] => { results := [.lit (.bool false)], args := [d] }
  | _ => none }
def FnTillsWrongFalsely : Prop := fnTillsRow.holds Try.pinned (OpenSpec.ofChange fnTillsWrong)

/-- 'laws.FnExactEventOn': WHATEVER THE INPUT: true; the input reads as it did. -/
def fnExactEventOnSpec : ChangeSpec := { name := "fnExactEventOn", fn := fun _ => fun
  | [d1, d2] => { results := [.lit (.bool true)], args := [d1, d2] }
  | _ => none }
def fnExactEventOnRow : OpenClaim := { program := "ytnlioefgpgamdaa", sum := "c9394d27de626bd6ad0e46edf8f85425f92b37d11fa7037f28bd17cd7f2ac5ee", func := "loop.example/g03310/laws.FnExactEventOn", spec := "fnExactEventOn", unfollowed := true, recurses := true, apart := false }
def FnExactEventOnSaid : Prop := fnExactEventOnRow.holds Try.pinned (OpenSpec.ofChange fnExactEventOnSpec)

/-- ITS FALSE NEIGHBOUR: 'it returns false'. Refute it at one input. -/
def fnExactEventOnWrong : ChangeSpec := { name := "fnExactEventOn", fn := fun _ => fun
  | [d1, d2] => { results := [.lit (.bool false)], args := [d1, d2] }
  | _ => none }
def FnExactEventOnWrongFalsely : Prop := fnExactEventOnRow.holds Try.pinned (OpenSpec.ofChange fnExactEventOnWrong)

/-- 'laws.FnExactMostFlour': WHATEVER THE INPUT: true; the input reads as it did. -/
def fnExactMostFlourSpec : ChangeSpec := { name := "fnExactMostFlour", fn := fun _ => fun
  | [d1, d2] => { results := [.lit (.bool true)], args := [d1, d2] }
  | _ => none }
def fnExactMostFlourRow : OpenClaim := { program := "ytnlioefgpgamdaa", sum := "c9394d27de626bd6ad0e46edf8f85425f92b37d11fa7037f28bd17cd7f2ac5ee", func := "loop.example/g03310/laws.FnExactMostFlour", spec := "fnExactMostFlour", unfollowed := true, recurses := true, apart := false }
def FnExactMostFlourSaid : Prop := fnExactMostFlourRow.holds Try.pinned (OpenSpec.ofChange fnExactMostFlourSpec)

/-- ITS FALSE NEIGHBOUR: 'it returns false'. Refute it at one input. -/
def fnExactMostFlourWrong : ChangeSpec := { name := "fnExactMostFlour", fn := fun _ => fun
  | [d1, d2] => { results := [.lit (.bool false)], args := [d1, d2] }
  | _ => none }
def FnExactMostFlourWrongFalsely : Prop := fnExactMostFlourRow.holds Try.pinned (OpenSpec.ofChange fnExactMostFlourWrong)

/-- 'laws.FnExactWinnerByPoints': WHATEVER THE INPUT: true; the input reads as it did. -/
def fnExactWinnerByPointsSpec : ChangeSpec := { name := "fnExactWinnerByPoints", fn := fun _ => fun
  | [d1, d2] => { results := [.lit (.bool true)], args := [d1, d2] }
  | _ => none }
def fnExactWinnerByPointsRow : OpenClaim := { program := "ytnlioefgpgamdaa", sum := "c9394d27de626bd6ad0e46edf8f85425f92b37d11fa7037f28bd17cd7f2ac5ee", func := "loop.example/g03310/laws.FnExactWinnerByPoints", spec := "fnExactWinnerByPoints", unfollowed := true, recurses := true, apart := false }
def FnExactWinnerByPointsSaid : Prop := fnExactWinnerByPointsRow.holds Try.pinned (OpenSpec.ofChange fnExactWinnerByPointsSpec)

/-- ITS FALSE NEIGHBOUR: 'it returns false'. Refute it at one input. -/
def fnExactWinnerByPointsWrong : ChangeSpec := { name := "fnExactWinnerByPoints", fn := fun _ => fun
  | [d1, d2] => { results := [.lit (.bool false)], args := [d1, d2] }
  | _ => none }
def FnExactWinnerByPointsWrongFalsely : Prop := fnExactWinnerByPointsRow.holds Try.pinned (OpenSpec.ofChange fnExactWinnerByPointsWrong)

/-- 'laws.FnStocks': WHATEVER THE INPUT: true; the input reads as it did. -/
def fnStocksSpec : ChangeSpec := { name := "fnStocks", fn := fun _ => fun
  | [d] => { results := [.lit (.bool true)], args := [d] }
  | _ => none }
def fnStocksRow : OpenClaim := { program := "ytnlioefgpgamdaa", sum := "c9394d27de626bd6ad0e46edf8f85425f92b37d11fa7037f28bd17cd7f2ac5ee", func := "loop.example/g03310/laws.FnStocks", spec := "fnStocks", unfollowed := true, recurses := true, apart := false }
def FnStocksSaid : Prop := fnStocksRow.holds Try.pinned (OpenSpec.ofChange fnStocksSpec)

/-- ITS FALSE NEIGHBOUR: 'it returns false'. Refute it at one input. -/
def fnStocksWrong : ChangeSpec := { name := "fnStocks", fn := fun _ => fun
  | [d] => { results := [.lit (.bool false)], args := [d] }
  | _ => none }
def FnStocksWrongFalsely : Prop := fnStocksRow.holds Try.pinned (OpenSpec.ofChange fnStocksWrong)

/-- 'laws.FnExactHasCircle': WHATEVER THE INPUT: true; the input reads as it did. -/
def fnExactHasCircleSpec : ChangeSpec := { name := "fnExactHasCircle", fn := fun _ => fun
  | [d1, d2] => { results := [.lit (.bool true)], args := [d1, d2] }
  | _ => none }
def fnExactHasCircleRow : OpenClaim := { program := "ytnlioefgpgamdaa", sum := "c9394d27de626bd6ad0e46edf8f85425f92b37d11fa7037f28bd17cd7f2ac5ee", func := "loop.example/g03310/laws.FnExactHasCircle", spec := "fnExactHasCircle", unfollowed := true, recurses := true, apart := false }
def FnExactHasCircleSaid : Prop := fnExactHasCircleRow.holds Try.pinned (OpenSpec.ofChange fnExactHasCircleSpec)

/-- ITS FALSE NEIGHBOUR: 'it returns false'. Refute it at one input. -/
def fnExactHasCircleWrong : ChangeSpec := { name := "fnExactHasCircle", fn := fun _ => fun
  | [d1, d2] => { results := [.lit (.bool false)], args := [d1, d2] }
  | _ => none }
def FnExactHasCircleWrongFalsely : Prop := fnExactHasCircleRow.holds Try.pinned (OpenSpec.ofChange fnExactHasCircleWrong)

/-- 'laws.FnExactBeatsAll': WHATEVER THE INPUT: true; the input reads as it did. -/
def fnExactBeatsAllSpec : ChangeSpec := { name := "fnExactBeatsAll", fn := fun _ => fun
  | [d1, d2] => { results := [.lit (.bool true)], args := [d1, d2] }
  | _ => none }
def fnExactBeatsAllRow : OpenClaim := { program := "ytnlioefgpgamdaa", sum := "c9394d27de626bd6ad0e46edf8f85425f92b37d11fa7037f28bd17cd7f2ac5ee", func := "loop.example/g03310/laws.FnExactBeatsAll", spec := "fnExactBeatsAll", unfollowed := true, recurses := true, apart := false }
def FnExactBeatsAllSaid : Prop := fnExactBeatsAllRow.holds Try.pinned (OpenSpec.ofChange fnExactBeatsAllSpec)

/-- ITS FALSE NEIGHBOUR: 'it returns false'. Refute it at one input. -/
def fnExactBeatsAllWrong : ChangeSpec := { name := "fnExactBeatsAll", fn := fun _ => fun
  | [d1, d2] => { results := [.lit (.bool false)], args := [d1, d2] }
  | _ => none }
def FnExactBeatsAllWrongFalsely : Prop := fnExactBeatsAllRow.holds Try.pinned (OpenSpec.ofChange fnExactBeatsAllWrong)

/-- 'laws.FnExactTakeFor': WHATEVER THE INPUT: true; the input reads as it did. -/
def fnExactTakeForSpec : ChangeSpec := { name := "fnExactTakeFor", fn := fun _ => fun
  | [d1, d2, d3] => { results := [.lit (.bool true)], args := [d1, d2, d3] }
  | _ => none }
def fnExactTakeForRow : OpenClaim := { program := "ytnlioefgpgamdaa", sum := "c9394d27de626bd6ad0e46edf8f85425f92b37d11fa7037f28bd17cd7f2ac5ee", func := "loop.example/g03310/laws.FnExactTakeFor", spec := "fnExactTakeFor", unfollowed := true, recurses := true, apart := false }
def FnExactTakeForSaid : Prop := fnExactTakeForRow.holds Try.pinned (OpenSpec.ofChange fnExactTakeForSpec)

/-- ITS FALSE NEIGHBOUR: 'it returns false'. Refute it at one input. -/
def fnExactTakeForWrong : ChangeSpec := { name := "fnExactTakeFor", fn := fun _ => fun
  | [d1, d2, d3] => { results := [.lit (.bool false)], args := [d1, d2, d3] }
  | _ => none }
def FnExactTakeForWrongFalsely : Prop := fnExactTakeForRow.holds Try.pinned (OpenSpec.ofChange fnExactTakeForWrong)

/-- 'laws.FnExactMustBuy': WHATEVER THE INPUT: true; the input reads as it did. -/
def fnExactMustBuySpec : ChangeSpec := { name := "fnExactMustBuy", fn := fun _ => fun
  | [d1, d2, d3] => { results := [.lit (.bool true)], args := [d1, d2, d3] }
  | _ => none }
def fnExactMustBuyRow : OpenClaim := { program := "ytnlioefgpgamdaa", sum := "c9394d27de626bd6ad0e46edf8f85425f92b37d11fa7037f28bd17cd7f2ac5ee", func := "loop.example/g03310/laws.FnExactMustBuy", spec := "fnExactMustBuy", unfollowed := true, recurses := true, apart := false }
def FnExactMustBuySaid : Prop := fnExactMustBuyRow.holds Try.pinned (OpenSpec.ofChange fnExactMustBuySpec)

/-- ITS FALSE NEIGHBOUR: 'it returns false'. Refute it at one input. -/
def fnExactMustBuyWrong : ChangeSpec := { name := "fnExactMustBuy", fn := fun _ => fun
  | [d1, d2, d3] => { results := [.lit (.bool false)], args := [d1, d2, d3] }
  | _ => none }
def FnExactMustBuyWrongFalsely : Prop := fnExactMustBuyRow.holds Try.pinned (OpenSpec.ofChange fnExactMustBuyWrong)

/-- 'laws.FnExactBookOk': WHATEVER THE INPUT: true; the input reads as it did. -/
def fnExactBookOkSpec : ChangeSpec := { name := "fnExactBookOk", fn := fun _ => fun
  | [d] => { results := [.lit (.bool true)], args := [d] }
  | _ => none }
def fnExactBookOkRow : OpenClaim := { program := "ytnlioefgpgamdaa", sum := "c9394d27de626bd6ad0e46edf8f85425f92b37d11fa7037f28bd17cd7f2ac5ee", func := "loop.example/g03310/laws.FnExactBookOk", spec := "fnExactBookOk", unfollowed := true, recurses := true, apart := false }
def FnExactBookOkSaid : Prop := fnExactBookOkRow.holds Try.pinned (OpenSpec.ofChange fnExactBookOkSpec)

/-- ITS FALSE NEIGHBOUR: 'it returns false'. Refute it at one input. -/
def fnExactBookOkWrong : ChangeSpec := { name := "fnExactBookOk", fn := fun _ => fun
  | [d] => { results := [.lit (.bool false)], args := [d] }
  | _ => none }
def FnExactBookOkWrongFalsely : Prop := fnExactBookOkRow.holds Try.pinned (OpenSpec.ofChange fnExactBookOkWrong)

/-- 'laws.FnBooks': WHATEVER THE INPUT: true; the input reads as it did. -/
def fnBooksSpec : ChangeSpec := { name := "fnBooks", fn := fun _ => fun
  | [d] => { results := [.lit (.bool true)], args := [d] }
  | _ => none }
def fnBooksRow : OpenClaim := { program := "ytnlioefgpgamdaa", sum := "c9394d27de626bd6ad0e46edf8f85425f92b37d11fa7037f28bd17cd7f2ac5ee", func := "loop.example/g03310/laws.FnBooks", spec := "fnBooks", unfollowed := true, recurses := true, apart := false }
def FnBooksSaid : Prop := fnBooksRow.holds Try.pinned (OpenSpec.ofChange fnBooksSpec)

/-- ITS FALSE NEIGHBOUR: 'it returns false'. Refute it at one input. -/
def fnBooksWrong : ChangeSpec := { name := "fnBooks", fn := fun _ => fun
  | [d] => { results := [.lit (.bool false)], args := [d] }
  | _ => none }
def FnBooksWrongFalsely : Prop := fnBooksRow.holds Try.pinned (OpenSpec.ofChange fnBooksWrong)

/-- 'laws.FnExactDaysIn': WHATEVER THE INPUT: true; the input reads as it did. -/
def fnExactDaysInSpec : ChangeSpec := { name := "fnExactDaysIn", fn := fun _ => fun
  | [d] => { results := [.lit (.bool true)], args := [d] }
  | _ => none }
def fnExactDaysInRow : OpenClaim := { program := "ytnlioefgpgamdaa", sum := "c9394d27de626bd6ad0e46edf8f85425f92b37d11fa7037f28bd17cd7f2ac5ee", func := "loop.example/g03310/laws.FnExactDaysIn", spec := "fnExactDaysIn", unfollowed := true, recurses := true, apart := false }
def FnExactDaysInSaid : Prop := fnExactDaysInRow.holds Try.pinned (OpenSpec.ofChange fnExactDaysInSpec)

/-- ITS FALSE NEIGHBOUR: 'it returns false'. Refute it at one input. -/
def fnExactDaysInWrong : ChangeSpec := { name := "fnExactDaysIn", fn := fun _ => fun
  | [d] => { results := [.lit (.bool false)], args := [d] }
  | _ => none }
def FnExactDaysInWrongFalsely : Prop := fnExactDaysInRow.holds Try.pinned (OpenSpec.ofChange fnExactDaysInWrong)

/- THE SECOND FORM. 'bulk': how many values and letters a reading holds, each counted each time it is reached (what is shared counts as often as it is met; a slice's spare places count too). A statement '..UptoSaid' is the law's where the arguments, and the package variables that the reading takes, are together of bulk at most 1048576: NARROWER than '..Said'. Prove '..Said' where nothing that the law and all that it calls make is longer than what came in: it says more and counts as full. Else prove '..UptoSaid'. A law counts once. -/
mutual
def uptoBulk {H : Type} : DataW H → Nat
  | .lit (.string bytes) => bytes.length + 1
  | .lit _ => 1
  | .nil => 1
  | .ptr d => uptoBulk d + 1
  | .slice elems spare => uptoBulkAll elems + uptoBulkAll spare + 1
  | .agg parts => uptoBulkAll parts + 1
  | .iface _ d => uptoBulk d + 1
  | .map entries => uptoBulkEntries entries + 1
  | .held _ => 1
def uptoBulkAll {H : Type} : List (DataW H) → Nat
  | [] => 0
  | d :: r => uptoBulk d + uptoBulkAll r
def uptoBulkEntries {H : Type} : List (Lit × DataW H) → Nat
  | [] => 0
  | x :: r => uptoBulkEntry x + uptoBulkEntries r
def uptoBulkEntry {H : Type} : Lit × DataW H → Nat
  | (.string bytes, d) => bytes.length + uptoBulk d + 1
  | (_, d) => uptoBulk d + 1
 end
def uptoSmall : (H : Type) → List (DataW H) → Bool := fun _ ds => decide (uptoBulkAll ds ≤ 1048576)
def OpenSpec.upto (s : _root_.Go.ChangeSpec) : _root_.Go.OpenSpec := { _root_.Go.OpenSpec.ofChange s with cond := some uptoSmall }

/-- 'laws.FnTills', WHERE WHAT IT READS IS OF BULK AT MOST 1048576: true; the input reads as it did. -/
def fnTillsUptoRow : OpenClaim := { program := "ytnlioefgpgamdaa", sum := "c9394d27de626bd6ad0e46edf8f85425f92b37d11fa7037f28bd17cd7f2ac5ee", func := "loop.example/g03310/laws.FnTills", spec := "fnTills", unfollowed := true, recurses := true, apart := false, narrowed := true }
def FnTillsUptoSaid : Prop := fnTillsUptoRow.holds Try.pinned (OpenSpec.upto fnTillsSpec)

/-- 'laws.FnExactEventOn', WHERE WHAT IT READS IS OF BULK AT MOST 1048576: true; the input reads as it did. -/
def fnExactEventOnUptoRow : OpenClaim := { program := "ytnlioefgpgamdaa", sum := "c9394d27de626bd6ad0e46edf8f85425f92b37d11fa7037f28bd17cd7f2ac5ee", func := "loop.example/g03310/laws.FnExactEventOn", spec := "fnExactEventOn", unfollowed := true, recurses := true, apart := false, narrowed := true }
def FnExactEventOnUptoSaid : Prop := fnExactEventOnUptoRow.holds Try.pinned (OpenSpec.upto fnExactEventOnSpec)

/-- 'laws.FnExactMostFlour', WHERE WHAT IT READS IS OF BULK AT MOST 1048576: true; the input reads as it did. -/
def fnExactMostFlourUptoRow : OpenClaim := { program := "ytnlioefgpgamdaa", sum := "c9394d27de626bd6ad0e46edf8f85425f92b37d11fa7037f28bd17cd7f2ac5ee", func := "loop.example/g03310/laws.FnExactMostFlour", spec := "fnExactMostFlour", unfollowed := true, recurses := true, apart := false, narrowed := true }
def FnExactMostFlourUptoSaid : Prop := fnExactMostFlourUptoRow.holds Try.pinned (OpenSpec.upto fnExactMostFlourSpec)

/-- 'laws.FnExactWinnerByPoints', WHERE WHAT IT READS IS OF BULK AT MOST 1048576: true; the input reads as it did. -/
def fnExactWinnerByPointsUptoRow : OpenClaim := { program := "ytnlioefgpgamdaa", sum := "c9394d27de626bd6ad0e46edf8f85425f92b37d11fa7037f28bd17cd7f2ac5ee", func := "loop.example/g03310/laws.FnExactWinnerByPoints", spec := "fnExactWinnerByPoints", unfollowed := true, recurses := true, apart := false, narrowed := true }
def FnExactWinnerByPointsUptoSaid : Prop := fnExactWinnerByPointsUptoRow.holds Try.pinned (OpenSpec.upto fnExactWinnerByPointsSpec)

/-- 'laws.FnStocks', WHERE WHAT IT READS IS OF BULK AT MOST 1048576: true; the input reads as it did. -/
def fnStocksUptoRow : OpenClaim := { program := "ytnlioefgpgamdaa", sum := "c9394d27de626bd6ad0e46edf8f85425f92b37d11fa7037f28bd17cd7f2ac5ee", func := "loop.example/g03310/laws.FnStocks", spec := "fnStocks", unfollowed := true, recurses := true, apart := false, narrowed := true }
def FnStocksUptoSaid : Prop := fnStocksUptoRow.holds Try.pinned (OpenSpec.upto fnStocksSpec)

/-- 'laws.FnExactHasCircle', WHERE WHAT IT READS IS OF BULK AT MOST 1048576: true; the input reads as it did. -/
def fnExactHasCircleUptoRow : OpenClaim := { program := "ytnlioefgpgamdaa", sum := "c9394d27de626bd6ad0e46edf8f85425f92b37d11fa7037f28bd17cd7f2ac5ee", func := "loop.example/g03310/laws.FnExactHasCircle", spec := "fnExactHasCircle", unfollowed := true, recurses := true, apart := false, narrowed := true }
def FnExactHasCircleUptoSaid : Prop := fnExactHasCircleUptoRow.holds Try.pinned (OpenSpec.upto fnExactHasCircleSpec)

/-- 'laws.FnExactBeatsAll', WHERE WHAT IT READS IS OF BULK AT MOST 1048576: true; the input reads as it did. -/
def fnExactBeatsAllUptoRow : OpenClaim := { program := "ytnlioefgpgamdaa", sum := "c9394d27de626bd6ad0e46edf8f85425f92b37d11fa7037f28bd17cd7f2ac5ee", func := "loop.example/g03310/laws.FnExactBeatsAll", spec := "fnExactBeatsAll", unfollowed := true, recurses := true, apart := false, narrowed := true }
def FnExactBeatsAllUptoSaid : Prop := fnExactBeatsAllUptoRow.holds Try.pinned (OpenSpec.upto fnExactBeatsAllSpec)

/-- 'laws.FnExactTakeFor', WHERE WHAT IT READS IS OF BULK AT MOST 1048576: true; the input reads as it did. -/
def fnExactTakeForUptoRow : OpenClaim := { program := "ytnlioefgpgamdaa", sum := "c9394d27de626bd6ad0e46edf8f85425f92b37d11fa7037f28bd17cd7f2ac5ee", func := "loop.example/g03310/laws.FnExactTakeFor", spec := "fnExactTakeFor", unfollowed := true, recurses := true, apart := false, narrowed := true }
def FnExactTakeForUptoSaid : Prop := fnExactTakeForUptoRow.holds Try.pinned (OpenSpec.upto fnExactTakeForSpec)

/-- 'laws.FnExactMustBuy', WHERE WHAT IT READS IS OF BULK AT MOST 1048576: true; the input reads as it did. -/
def fnExactMustBuyUptoRow : OpenClaim := { program := "ytnlioefgpgamdaa", sum := "c9394d27de626bd6ad0e46edf8f85425f92b37d11fa7037f28bd17cd7f2ac5ee", func := "loop.example/g03310/laws.FnExactMustBuy", spec := "fnExactMustBuy", unfollowed := true, recurses := true, apart := false, narrowed := true }
def FnExactMustBuyUptoSaid : Prop := fnExactMustBuyUptoRow.holds Try.pinned (OpenSpec.upto fnExactMustBuySpec)

/-- 'laws.FnExactBookOk', WHERE WHAT IT READS IS OF BULK AT MOST 1048576: true; the input reads as it did. -/
def fnExactBookOkUptoRow : OpenClaim := { program := "ytnlioefgpgamdaa", sum := "c9394d27de626bd6ad0e46edf8f85425f92b37d11fa7037f28bd17cd7f2ac5ee", func := "loop.example/g03310/laws.FnExactBookOk", spec := "fnExactBookOk", unfollowed := true, recurses := true, apart := false, narrowed := true }
def FnExactBookOkUptoSaid : Prop := fnExactBookOkUptoRow.holds Try.pinned (OpenSpec.upto fnExactBookOkSpec)

/-- 'laws.FnBooks', WHERE WHAT IT READS IS OF BULK AT MOST 1048576: true; the input reads as it did. -/
def fnBooksUptoRow : OpenClaim := { program := "ytnlioefgpgamdaa", sum := "c9394d27de626bd6ad0e46edf8f85425f92b37d11fa7037f28bd17cd7f2ac5ee", func := "loop.example/g03310/laws.FnBooks", spec := "fnBooks", unfollowed := true, recurses := true, apart := false, narrowed := true }
def FnBooksUptoSaid : Prop := fnBooksUptoRow.holds Try.pinned (OpenSpec.upto fnBooksSpec)

/-- 'laws.FnExactDaysIn', WHERE WHAT IT READS IS OF BULK AT MOST 1048576: true; the input reads as it did. -/
def fnExactDaysInUptoRow : OpenClaim := { program := "ytnlioefgpgamdaa", sum := "c9394d27de626bd6ad0e46edf8f85425f92b37d11fa7037f28bd17cd7f2ac5ee", func := "loop.example/g03310/laws.FnExactDaysIn", spec := "fnExactDaysIn", unfollowed := true, recurses := true, apart := false, narrowed := true }
def FnExactDaysInUptoSaid : Prop := fnExactDaysInUptoRow.holds Try.pinned (OpenSpec.upto fnExactDaysInSpec)

end Rows
end Go.Proofs.Ytnlioefgpgamdaa
