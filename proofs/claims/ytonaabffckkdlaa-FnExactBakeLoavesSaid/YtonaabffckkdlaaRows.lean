/-
  No cell of these rows narrows 'for every input' (looked for: loops, veiled, ifaces, maps, wideKeys, modest, calm, conditions, laid).
  DERIVED. THE GIVEN ROWS OF THIS SEAT. 10 by the template 'for every input the law returns true; each argument reads behind the call as it read before'; 0 by the template 'total and deterministic' (their statements: YtonaabffckkdlaaTotals.lean).
  GIVEN WITH THE SEED: the statements are not yours to turn. If you find one false, say at which input.
  Laid BY PROGRAM, IN A SANDBOX (cutbox-rows.mjs): the forced cells as the released guide's own fill.sh prints them over the translation 87420e2b51b413b4… (all of the seat's roots in one cut). By AI agents, Wed Nov 11 2026. No macro, syntax, notation, axiom, sorry.
-/
import Derived.Test.YtonaabffckkdlaaChecked
import GoSem.Claim
import GoSem.ClaimJoined
import GoSem.ClaimMapViews
import Derived.JoinedTies
import Derived.KernelRfl
namespace Go.Proofs.Ytonaabffckkdlaa
/- THE CELL 'sum', in the pinned program and in every row, IS THE sha256 OF THE DUMP (.gsa) THAT YtonaabffckkdlaaProg.lean LOADS. Nothing in Lean hashes anything: it is a label: what it is worth is what the hold of that sum in a sandbox is worth. -/
noncomputable def Try.pinned : Pinned := { name := "ytonaabffckkdlaa", sum := "87420e2b51b413b48fa83e3f6fa4adb67174427a3ac9ff93b3a93ff2ec439ed6", checked := Try.checked }
namespace Rows
def none {H : Type} : Left H := { results := [], args := [] }

/-- 'laws.FnExactStrike': WHATEVER THE INPUT: true; the input reads as it did. -/
def fnExactStrikeSpec : ChangeSpec := { name := "fnExactStrike", fn := fun _ => fun
  | [d] => { results := [.lit (.bool true)], args := [d] }
  | _ => none }
def fnExactStrikeRow : OpenClaim := { program := "ytonaabffckkdlaa", sum := "87420e2b51b413b48fa83e3f6fa4adb67174427a3ac9ff93b3a93ff2ec439ed6", func := "loop.example/g03310/laws.FnExactStrike", spec := "fnExactStrike", unfollowed := true, recurses := true, apart := false }
def FnExactStrikeSaid : Prop := fnExactStrikeRow.holds Try.pinned (OpenSpec.ofChange fnExactStrikeSpec)

/-- ITS FALSE NEIGHBOUR: 'it returns false'. Refute it at one input. -/
def fnExactStrikeWrong : ChangeSpec := { name := "fnExactStrike", fn := fun _ => fun
  | [d] => { results := [.lit (.bool false)], args := [d] }
  | _ => none }
def FnExactStrikeWrongFalsely : Prop := fnExactStrikeRow.holds Try.pinned (OpenSpec.ofChange fnExactStrikeWrong)

/-- 'laws.FnExactEnter': WHATEVER THE INPUT: true; the input reads as it did. -/
def fnExactEnterSpec : ChangeSpec := { name := "fnExactEnter", fn := fun _ => fun
  | [d1, d2] => { results := [.lit (.bool true)], args := [d1, d2] }
  | _ => none }
def fnExactEnterRow : OpenClaim := { program := "ytonaabffckkdlaa", sum := "87420e2b51b413b48fa83e3f6fa4adb67174427a3ac9ff93b3a93ff2ec439ed6", func := "loop.example/g03310/laws.FnExactEnter", spec := "fnExactEnter", unfollowed := true, recurses := true, apart := false }
def FnExactEnterSaid : Prop := fnExactEnterRow.holds Try.pinned (OpenSpec.ofChange fnExactEnterSpec)

/-- ITS FALSE NEIGHBOUR: 'it returns false'. Refute it at one input. -/
def fnExactEnterWrong : ChangeSpec := { name := "fnExactEnter", fn := fun _ => fun
  | [d1, d2] => { results := [.lit (.bool false)], args := [d1, d2] }
  | _ => none }
def FnExactEnterWrongFalsely : Prop := fnExactEnterRow.holds Try.pinned (OpenSpec.ofChange fnExactEnterWrong)

/-- 'laws.FnExactBakeryOk': WHATEVER THE INPUT: true; the input reads as it did. -/
def fnExactBakeryOkSpec : ChangeSpec := { name := "fnExactBakeryOk", fn := fun _ => fun
  | [d] => { results := [.lit (.bool true)], args := [d] }
  | _ => none }
def fnExactBakeryOkRow : OpenClaim := { program := "ytonaabffckkdlaa", sum := "87420e2b51b413b48fa83e3f6fa4adb67174427a3ac9ff93b3a93ff2ec439ed6", func := "loop.example/g03310/laws.FnExactBakeryOk", spec := "fnExactBakeryOk", unfollowed := true, recurses := true, apart := false }
def FnExactBakeryOkSaid : Prop := fnExactBakeryOkRow.holds Try.pinned (OpenSpec.ofChange fnExactBakeryOkSpec)

/-- ITS FALSE NEIGHBOUR: 'it returns false'. Refute it at one input. -/
def fnExactBakeryOkWrong : ChangeSpec := { name := "fnExactBakeryOk", fn := fun _ => fun
  | [d] => { results := [.lit (.bool false)], args := [d] }
  | _ => none }
def FnExactBakeryOkWrongFalsely : Prop := fnExactBakeryOkRow.holds Try.pinned (OpenSpec.ofChange fnExactBakeryOkWrong)

/-- 'laws.FnExactSampleBakery': WHATEVER THE INPUT: true; the input reads as it did. -/
def fnExactSampleBakerySpec : ChangeSpec := { name := "fnExactSampleBakery", fn := fun _ => fun
  | [] => { results := [.lit (.bool true)], args := [] }
  | _ => none }
def fnExactSampleBakeryRow : OpenClaim := { program := "ytonaabffckkdlaa", sum := "87420e2b51b413b48fa83e3f6fa4adb67174427a3ac9ff93b3a93ff2ec439ed6", func := "loop.example/g03310/laws.FnExactSampleBakery", spec := "fnExactSampleBakery", unfollowed := true, recurses := true, apart := false }
def FnExactSampleBakerySaid : Prop := fnExactSampleBakeryRow.holds Try.pinned (OpenSpec.ofChange fnExactSampleBakerySpec)

/-- ITS FALSE NEIGHBOUR: 'it returns false'. Refute it at one input. -/
def fnExactSampleBakeryWrong : ChangeSpec := { name := "fnExactSampleBakery", fn := fun _ => fun
  | [] => { results := [.lit (.bool false)], args := [] }
  | _ => none }
def FnExactSampleBakeryWrongFalsely : Prop := fnExactSampleBakeryRow.holds Try.pinned (OpenSpec.ofChange fnExactSampleBakeryWrong)

/-- 'laws.FnExactOpenBakery': WHATEVER THE INPUT: true; the input reads as it did. -/
def fnExactOpenBakerySpec : ChangeSpec := { name := "fnExactOpenBakery", fn := fun _ => fun
  | [d1, d2, d3, d4] => { results := [.lit (.bool true)], args := [d1, d2, d3, d4] }
  | _ => none }
def fnExactOpenBakeryRow : OpenClaim := { program := "ytonaabffckkdlaa", sum := "87420e2b51b413b48fa83e3f6fa4adb67174427a3ac9ff93b3a93ff2ec439ed6", func := "loop.example/g03310/laws.FnExactOpenBakery", spec := "fnExactOpenBakery", unfollowed := true, recurses := true, apart := false }
def FnExactOpenBakerySaid : Prop := fnExactOpenBakeryRow.holds Try.pinned (OpenSpec.ofChange fnExactOpenBakerySpec)

/-- ITS FALSE NEIGHBOUR: 'it returns false'. Refute it at one input. -/
def fnExactOpenBakeryWrong : ChangeSpec := { name := "fnExactOpenBakery", fn := fun _ => fun
  | [d1, d2, d3, d4] => { results := [.lit (.bool false)], args := [d1, d2, d3, d4] }
  | _ => none }
def FnExactOpenBakeryWrongFalsely : Prop := fnExactOpenBakeryRow.holds Try.pinned (OpenSpec.ofChange fnExactOpenBakeryWrong)

/-- 'laws.FnExactFlourNeeded': WHATEVER THE INPUT: true; the input reads as it did. -/
def fnExactFlourNeededSpec : ChangeSpec := { name := "fnExactFlourNeeded", fn := fun _ => fun
  | [d1, d2] => { results := [.lit (.bool true)], args := [d1, d2] }
  | _ => none }
def fnExactFlourNeededRow : OpenClaim := { program := "ytonaabffckkdlaa", sum := "87420e2b51b413b48fa83e3f6fa4adb67174427a3ac9ff93b3a93ff2ec439ed6", func := "loop.example/g03310/laws.FnExactFlourNeeded", spec := "fnExactFlourNeeded", unfollowed := true, recurses := true, apart := false }
def FnExactFlourNeededSaid : Prop := fnExactFlourNeededRow.holds Try.pinned (OpenSpec.ofChange fnExactFlourNeededSpec)

/-- ITS FALSE NEIGHBOUR: 'it returns false'. Refute it at one input. -/
def fnExactFlourNeededWrong : ChangeSpec := { name := "fnExactFlourNeeded", fn := fun _ => fun
  | [d1, d2] => { results := [.lit (.bool false)], args := [d1, d2] }
  | _ => none }
def FnExactFlourNeededWrongFalsely : Prop := fnExactFlourNeededRow.holds Try.pinned (OpenSpec.ofChange fnExactFlourNeededWrong)

/-- 'laws.FnExactNightOver': WHATEVER THE INPUT: true; the input reads as it did. -/
def fnExactNightOverSpec : ChangeSpec := { name := "fnExactNightOver", fn := fun _ => fun
  | [d] => { results := [.lit (.bool true)], args := [d] }
  | _ => none }
def fnExactNightOverRow : OpenClaim := { program := "ytonaabffckkdlaa", sum := "87420e2b51b413b48fa83e3f6fa4adb67174427a3ac9ff93b3a93ff2ec439ed6", func := "loop.example/g03310/laws.FnExactNightOver", spec := "fnExactNightOver", unfollowed := true, recurses := true, apart := false }
def FnExactNightOverSaid : Prop := fnExactNightOverRow.holds Try.pinned (OpenSpec.ofChange fnExactNightOverSpec)

/-- ITS FALSE NEIGHBOUR: 'it returns false'. Refute it at one input. -/
def fnExactNightOverWrong : ChangeSpec := { name := "fnExactNightOver", fn := fun _ => fun
  | [d] => { results := [.lit (.bool false)], args := [d] }
  | _ => none }
def FnExactNightOverWrongFalsely : Prop := fnExactNightOverRow.holds Try.pinned (OpenSpec.ofChange fnExactNightOverWrong)

/-- 'laws.FnExactBuyStock': WHATEVER THE INPUT: true; the input reads as it did. -/
def fnExactBuyStockSpec : ChangeSpec := { name := "fnExactBuyStock", fn := fun _ => fun
  | [d1, d2, d3] => { results := [.lit (.bool true)], args := [d1, d2, d3] }
  | _ => none }
def fnExactBuyStockRow : OpenClaim := { program := "ytonaabffckkdlaa", sum := "87420e2b51b413b48fa83e3f6fa4adb67174427a3ac9ff93b3a93ff2ec439ed6", func := "loop.example/g03310/laws.FnExactBuyStock", spec := "fnExactBuyStock", unfollowed := true, recurses := true, apart := false }
def FnExactBuyStockSaid : Prop := fnExactBuyStockRow.holds Try.pinned (OpenSpec.ofChange fnExactBuyStockSpec)

/-- ITS FALSE NEIGHBOUR: 'it returns false'. Refute it at one input. -/
def fnExactBuyStockWrong : ChangeSpec := { name := "fnExactBuyStock", fn := fun _ => fun
  | [d1, d2, d3] => { results := [.lit (.bool false)], args := [d1, d2, d3] }
  | _ => none }
def FnExactBuyStockWrongFalsely : Prop := fnExactBuyStockRow.holds Try.pinned (OpenSpec.ofChange fnExactBuyStockWrong)

/-- 'laws.FnExactSellLoaves': WHATEVER THE INPUT: true; the input reads as it did. -/
def fnExactSellLoavesSpec : ChangeSpec := { name := "fnExactSellLoaves", fn := fun _ => fun
  | [d1, d2, d3] => { results := [.lit (.bool true)], args := [d1, d2, d3] }
  | _ => none }
def fnExactSellLoavesRow : OpenClaim := { program := "ytonaabffckkdlaa", sum := "87420e2b51b413b48fa83e3f6fa4adb67174427a3ac9ff93b3a93ff2ec439ed6", func := "loop.example/g03310/laws.FnExactSellLoaves", spec := "fnExactSellLoaves", unfollowed := true, recurses := true, apart := false }
def FnExactSellLoavesSaid : Prop := fnExactSellLoavesRow.holds Try.pinned (OpenSpec.ofChange fnExactSellLoavesSpec)

/-- ITS FALSE NEIGHBOUR: 'it returns false'. Refute it at one input. -/
def fnExactSellLoavesWrong : ChangeSpec := { name := "fnExactSellLoaves", fn := fun _ => fun
  | [d1, d2, d3] => { results := [.lit (.bool false)], args := [d1, d2, d3] }
  | _ => none }
def FnExactSellLoavesWrongFalsely : Prop := fnExactSellLoavesRow.holds Try.pinned (OpenSpec.ofChange fnExactSellLoavesWrong)

/-- 'laws.FnExactBakeLoaves': WHATEVER THE INPUT: true; the input reads as it did. -/
def fnExactBakeLoavesSpec : ChangeSpec := { name := "fnExactBakeLoaves", fn := fun _ => fun
  | [d1, d2] => { results := [.lit (.bool true)], args := [d1, d2] }
  | _ => none }
def fnExactBakeLoavesRow : OpenClaim := { program := "ytonaabffckkdlaa", sum := "87420e2b51b413b48fa83e3f6fa4adb67174427a3ac9ff93b3a93ff2ec439ed6", func := "loop.example/g03310/laws.FnExactBakeLoaves", spec := "fnExactBakeLoaves", unfollowed := true, recurses := true, apart := false }
def FnExactBakeLoavesSaid : Prop := fnExactBakeLoavesRow.holds Try.pinned (OpenSpec.ofChange fnExactBakeLoavesSpec)

/-- ITS FALSE NEIGHBOUR: 'it returns false'. Refute it at one input. -/
def fnExactBakeLoavesWrong : ChangeSpec := { name := "fnExactBakeLoaves", fn := fun _ => fun
  | [d1, d2] => { results := [.lit (.bool false)], args := [d1, d2] }
  | _ => none }
def FnExactBakeLoavesWrongFalsely : Prop := fnExactBakeLoavesRow.holds Try.pinned (OpenSpec.ofChange fnExactBakeLoavesWrong)

/- THE SECOND FORM. 'bulk': how many values and letters a reading holds, each counted each time it is reached (what is shared counts as often as it is met; a slice's spare places count too). A statement '..UptoSaid' is the law's where the arguments, and the package variables that the reading takes, are together of bulk at most 1048576: NARROWER than '..Said'. Prove '..Said' where nothing that the law and all that it calls make is longer than what came in: it says more and counts as full. Else prove '..UptoSaid'. A law counts once. -/
mutual
def uptoBulk {H : Type} : DataW H → Nat
  | .lit (.string bytes) => bytes.length + 1
  | .lit _ => 1
  | .nil => 1
  | .ptr d => uptoBulk d + 1
  | .slice elems spare => uptoBulkAll elems + uptoBulkAll spare + 1
  | .agg parts => uptoBulkAll parts + 1
  | .iface _ d => uptoBulk d + 1
  | .map entries => uptoBulkEntries entries + 1
  | .held _ => 1
def uptoBulkAll {H : Type} : List (DataW H) → Nat
  | [] => 0
  | d :: r => uptoBulk d + uptoBulkAll r
def uptoBulkEntries {H : Type} : List (Lit × DataW H) → Nat
  | [] => 0
  | x :: r => uptoBulkEntry x + uptoBulkEntries r
def uptoBulkEntry {H : Type} : Lit × DataW H → Nat
  | (.string bytes, d) => bytes.length + uptoBulk d + 1
  | (_, d) => uptoBulk d + 1
 end
def uptoSmall : (H : Type) → List (DataW H) → Bool := fun _ ds => decide (uptoBulkAll ds ≤ 1048576)
def OpenSpec.upto (s : _root_.Go.ChangeSpec) : _root_.Go.OpenSpec := { _root_.Go.OpenSpec.ofChange s with cond := some uptoSmall }

/-- 'laws.FnExactStrike', WHERE WHAT IT READS IS OF BULK AT MOST 1048576: true; the input reads as it did. -/
def fnExactStrikeUptoRow : OpenClaim := { program := "ytonaabffckkdlaa", sum := "87420e2b51b413b48fa83e3f6fa4adb67174427a3ac9ff93b3a93ff2ec439ed6", func := "loop.example/g03310/laws.FnExactStrike", spec := "fnExactStrike", unfollowed := true, recurses := true, apart := false, narrowed := true }
def FnExactStrikeUptoSaid : Prop := fnExactStrikeUptoRow.holds Try.pinned (OpenSpec.upto fnExactStrikeSpec)

/-- 'laws.FnExactEnter', WHERE WHAT IT READS IS OF BULK AT MOST 1048576: true; the input reads as it did. -/
def fnExactEnterUptoRow : OpenClaim := { program := "ytonaabffckkdlaa", sum := "87420e2b51b413b48fa83e3f6fa4adb67174427a3ac9ff93b3a93ff2ec439ed6", func := "loop.example/g03310/laws.FnExactEnter", spec := "fnExactEnter", unfollowed := true, recurses := true, apart := false, narrowed := true }
def FnExactEnterUptoSaid : Prop := fnExactEnterUptoRow.holds Try.pinned (OpenSpec.upto fnExactEnterSpec)

/-- 'laws.FnExactBakeryOk', WHERE WHAT IT READS IS OF BULK AT MOST 1048576: true; the input reads as it did. -/
def fnExactBakeryOkUptoRow : OpenClaim := { program := "ytonaabffckkdlaa", sum := "87420e2b51b413b48fa83e3f6fa4adb67174427a3ac9ff93b3a93ff2ec439ed6", func := "loop.example/g03310/laws.FnExactBakeryOk", spec := "fnExactBakeryOk", unfollowed := true, recurses := true, apart := false, narrowed := true }
def FnExactBakeryOkUptoSaid : Prop := fnExactBakeryOkUptoRow.holds Try.pinned (OpenSpec.upto fnExactBakeryOkSpec)

/-- 'laws.FnExactSampleBakery', WHERE WHAT IT READS IS OF BULK AT MOST 1048576: true; the input reads as it did. -/
def fnExactSampleBakeryUptoRow : OpenClaim := { program := "ytonaabffckkdlaa", sum := "87420e2b51b413b48fa83e3f6fa4adb67174427a3ac9ff93b3a93ff2ec439ed6", func := "loop.example/g03310/laws.FnExactSampleBakery", spec := "fnExactSampleBakery", unfollowed := true, recurses := true, apart := false, narrowed := true }
def FnExactSampleBakeryUptoSaid : Prop := fnExactSampleBakeryUptoRow.holds Try.pinned (OpenSpec.upto fnExactSampleBakerySpec)

/-- 'laws.FnExactOpenBakery', WHERE WHAT IT READS IS OF BULK AT MOST 1048576: true; the input reads as it did. -/
def fnExactOpenBakeryUptoRow : OpenClaim := { program := "ytonaabffckkdlaa", sum := "87420e2b51b413b48fa83e3f6fa4adb67174427a3ac9ff93b3a93ff2ec439ed6", func := "loop.example/g03310/laws.FnExactOpenBakery", spec := "fnExactOpenBakery", unfollowed := true, recurses := true, apart := false, narrowed := true }
def FnExactOpenBakeryUptoSaid : Prop := fnExactOpenBakeryUptoRow.holds Try.pinned (OpenSpec.upto fnExactOpenBakerySpec)

/-- 'laws.FnExactFlourNeeded', WHERE WHAT IT READS IS OF BULK AT MOST 1048576: true; the input reads as it did. -/
def fnExactFlourNeededUptoRow : OpenClaim := { program := "ytonaabffckkdlaa", sum := "87420e2b51b413b48fa83e3f6fa4adb67174427a3ac9ff93b3a93ff2ec439ed6", func := "loop.example/g03310/laws.FnExactFlourNeeded", spec := "fnExactFlourNeeded", unfollowed := true, recurses := true, apart := false, narrowed := true }
def FnExactFlourNeededUptoSaid : Prop := fnExactFlourNeededUptoRow.holds Try.pinned (OpenSpec.upto fnExactFlourNeededSpec)

/-- 'laws.FnExactNightOver', WHERE WHAT IT READS IS OF BULK AT MOST 1048576: true; the input reads as it did. -/
def fnExactNightOverUptoRow : OpenClaim := { program := "ytonaabffckkdlaa", sum := "87420e2b51b413b48fa83e3f6fa4adb67174427a3ac9ff93b3a93ff2ec439ed6", func := "loop.example/g03310/laws.FnExactNightOver", spec := "fnExactNightOver", unfollowed := true, recurses := true, apart := false, narrowed := true }
def FnExactNightOverUptoSaid : Prop := fnExactNightOverUptoRow.holds Try.pinned (OpenSpec.upto fnExactNightOverSpec)

/-- 'laws.FnExactBuyStock', WHERE WHAT IT READS IS OF BULK AT MOST 1048576: true; the input reads as it did. -/
def fnExactBuyStockUptoRow : OpenClaim := { program := "ytonaabffckkdlaa", sum := "87420e2b51b413b48fa83e3f6fa4adb67174427a3ac9ff93b3a93ff2ec439ed6", func := "loop.example/g03310/laws.FnExactBuyStock", spec := "fnExactBuyStock", unfollowed := true, recurses := true, apart := false, narrowed := true }
def FnExactBuyStockUptoSaid : Prop := fnExactBuyStockUptoRow.holds Try.pinned (OpenSpec.upto fnExactBuyStockSpec)

/-- 'laws.FnExactSellLoaves', WHERE WHAT IT READS IS OF BULK AT MOST 1048576: true; the input reads as it did. -/
def fnExactSellLoavesUptoRow : OpenClaim := { program := "ytonaabffckkdlaa", sum := "87420e2b51b413b48fa83e3f6fa4adb67174427a3ac9ff93b3a93ff2ec439ed6", func := "loop.example/g03310/laws.FnExactSellLoaves", spec := "fnExactSellLoaves", unfollowed := true, recurses := true, apart := false, narrowed := true }
def FnExactSellLoavesUptoSaid : Prop := fnExactSellLoavesUptoRow.holds Try.pinned (OpenSpec.upto fnExactSellLoavesSpec)

/-- 'laws.FnExactBakeLoaves', WHERE WHAT IT READS IS OF BULK AT MOST 1048576: true; the input reads as it did. -/
def fnExactBakeLoavesUptoRow : OpenClaim := { program := "ytonaabffckkdlaa", sum := "87420e2b51b413b48fa83e3f6fa4adb67174427a3ac9ff93b3a93ff2ec439ed6", func := "loop.example/g03310/laws.FnExactBakeLoaves", spec := "fnExactBakeLoaves", unfollowed := true, recurses := true, apart := false, narrowed := true }
def FnExactBakeLoavesUptoSaid : Prop := fnExactBakeLoavesUptoRow.holds Try.pinned (OpenSpec.upto fnExactBakeLoavesSpec)

end Rows
end Go.Proofs.Ytonaabffckkdlaa
