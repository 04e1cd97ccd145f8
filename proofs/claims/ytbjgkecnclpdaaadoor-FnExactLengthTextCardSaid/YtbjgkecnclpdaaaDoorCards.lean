/-
  DERIVED. GIVEN WITH THE SEED: THE CARDS: each row of YtbjgkecnclpdaaaDoorRows.lean that lists a variable, with what it lists TIED to the program's text (the seventh form; the later family's looks); each row that meets fmt, with fmt's text TOLD by the authors' own Lean function (tested against real Go, not proved from fmt's source: count such statements apart). THE CARD IS WHAT COUNTS. Prove the row's statement (the work); the ties are given (YtbjgkecnclpdaaaDoorTie.lean); close each card by the builder's one call (the guide's Derived/Test/ToyasCard.lean, 'card_holds'). Laid BY PROGRAM, IN A SANDBOX (cutbox-door.mjs). By AI agents, Wed Nov 11 2026. No macro, syntax, notation, axiom, sorry.
-/
import Derived.Test.YtbjgkecnclpdaaaDoorRows
import GoSem.ClaimSeven
namespace Go.Proofs.YtbjgkecnclpdaaaDoor
namespace Rows

/-- THE TIED CARD OF 'laws.FnExactLengthText'. -/
def fnExactLengthTextCard : Claim7 := { stood := { row := fnExactLengthTextRow, standIns := [], harness := (true, "e7649f6f2e2b609c7d1ab2e533b66cdfe029b8b0e602c9e5b418c0bee70214c4"), looks := false }, kinds := [], alts := [], laidByText := true, laidKinds := [.data, .data, .data], laidTests := true, laidLooks := .later }
def FnExactLengthTextCardSaid : Prop := Claim7.holds Tryd.pinned (.plain (OpenSpec.ofChange fnExactLengthTextSpec)) fnExactLengthTextCard

/-- THE SECOND FORM's CARD OF 'laws.FnExactLengthText'. -/
def fnExactLengthTextUptoCard : Claim7 := { stood := { row := fnExactLengthTextUptoRow, standIns := [], harness := (true, "e7649f6f2e2b609c7d1ab2e533b66cdfe029b8b0e602c9e5b418c0bee70214c4"), looks := false }, kinds := [], alts := [], laidByText := true, laidKinds := [.data, .data, .data], laidTests := true, laidLooks := .later }
def FnExactLengthTextUptoCardSaid : Prop := Claim7.holds Tryd.pinned (.plain (OpenSpec.upto fnExactLengthTextSpec)) fnExactLengthTextUptoCard
end Rows
end Go.Proofs.YtbjgkecnclpdaaaDoor
