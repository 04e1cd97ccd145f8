/-
  DERIVED. GIVEN WITH THE SEED: THE CARDS: each row of YtldpjfacoaplhaaDoorRows.lean that lists a variable, with what it lists TIED to the program's text (the seventh form; the later family's looks); each row that meets fmt, with fmt's text TOLD by the authors' own Lean function (tested against real Go, not proved from fmt's source: count such statements apart). THE CARD IS WHAT COUNTS. Prove the row's statement (the work); the ties are given (YtldpjfacoaplhaaDoorTie.lean); close each card by the builder's one call (the guide's Derived/Test/ToyasCard.lean, 'card_holds'). Laid BY PROGRAM, IN A SANDBOX (cutbox-door.mjs). By AI agents, Wed Nov 11 2026. No macro, syntax, notation, axiom, sorry.
-/
import Derived.Test.YtldpjfacoaplhaaDoorRows
import GoSem.ClaimSeven
namespace Go.Proofs.YtldpjfacoaplhaaDoor
namespace Rows

/-- THE TIED CARD OF 'laws.FnExactReadTime'. -/
def fnExactReadTimeCard : Claim7 := { stood := { row := fnExactReadTimeRow, standIns := [], harness := (true, "e465113b1dd15f4ef1ccccb356fdbcca63b14f618c4a75b5eaff6fa291c436c1"), looks := true }, kinds := [], alts := [], laidByText := true, laidKinds := [.data, .data, .data, .sentinel, .sentinel], laidTests := true, laidLooks := .later }
def FnExactReadTimeCardSaid : Prop := Claim7.holds Tryd.pinned (.plain (OpenSpec.ofChange fnExactReadTimeSpec)) fnExactReadTimeCard

/-- THE TIED CARD OF 'laws.FnExactReadLength'. -/
def fnExactReadLengthCard : Claim7 := { stood := { row := fnExactReadLengthRow, standIns := [], harness := (true, "e465113b1dd15f4ef1ccccb356fdbcca63b14f618c4a75b5eaff6fa291c436c1"), looks := true }, kinds := [], alts := [], laidByText := true, laidKinds := [.data, .data, .data, .data, .sentinel, .sentinel, .pinned], laidTests := true, laidLooks := .later }
def FnExactReadLengthCardSaid : Prop := Claim7.holds Tryd.pinned (.plain (OpenSpec.ofChange fnExactReadLengthSpec)) fnExactReadLengthCard

/-- THE TIED CARD OF 'laws.FnClocks'. -/
def fnClocksCard : Claim7 := { stood := { row := fnClocksRow, standIns := [], harness := (true, "e465113b1dd15f4ef1ccccb356fdbcca63b14f618c4a75b5eaff6fa291c436c1"), looks := true }, kinds := [], alts := [], laidByText := true, laidKinds := [.data, .data, .data, .data, .sentinel, .sentinel, .pinned], laidTests := true, laidLooks := .later }
def FnClocksCardSaid : Prop := Claim7.holds Tryd.pinned (.plain (OpenSpec.ofChange fnClocksSpec)) fnClocksCard

/-- THE TIED CARD OF 'laws.FnExactParseAct'. -/
def fnExactParseActCard : Claim7 := { stood := { row := fnExactParseActRow, standIns := [], harness := (true, "e465113b1dd15f4ef1ccccb356fdbcca63b14f618c4a75b5eaff6fa291c436c1"), looks := true }, kinds := [], alts := [], laidByText := true, laidKinds := [.data, .data, .data, .sentinel, .sentinel], laidTests := true, laidLooks := .later }
def FnExactParseActCardSaid : Prop := Claim7.holds Tryd.pinned (.plain (OpenSpec.ofChange fnExactParseActSpec)) fnExactParseActCard

/-- THE SECOND FORM's CARD OF 'laws.FnExactReadTime'. -/
def fnExactReadTimeUptoCard : Claim7 := { stood := { row := fnExactReadTimeUptoRow, standIns := [], harness := (true, "e465113b1dd15f4ef1ccccb356fdbcca63b14f618c4a75b5eaff6fa291c436c1"), looks := true }, kinds := [], alts := [], laidByText := true, laidKinds := [.data, .data, .data, .sentinel, .sentinel], laidTests := true, laidLooks := .later }
def FnExactReadTimeUptoCardSaid : Prop := Claim7.holds Tryd.pinned (.plain (OpenSpec.upto fnExactReadTimeSpec)) fnExactReadTimeUptoCard

/-- THE SECOND FORM's CARD OF 'laws.FnExactReadLength'. -/
def fnExactReadLengthUptoCard : Claim7 := { stood := { row := fnExactReadLengthUptoRow, standIns := [], harness := (true, "e465113b1dd15f4ef1ccccb356fdbcca63b14f618c4a75b5eaff6fa291c436c1"), looks := true }, kinds := [], alts := [], laidByText := true, laidKinds := [.data, .data, .data, .data, .sentinel, .sentinel, .pinned], laidTests := true, laidLooks := .later }
def FnExactReadLengthUptoCardSaid : Prop := Claim7.holds Tryd.pinned (.plain (OpenSpec.upto fnExactReadLengthSpec)) fnExactReadLengthUptoCard

/-- THE SECOND FORM's CARD OF 'laws.FnClocks'. -/
def fnClocksUptoCard : Claim7 := { stood := { row := fnClocksUptoRow, standIns := [], harness := (true, "e465113b1dd15f4ef1ccccb356fdbcca63b14f618c4a75b5eaff6fa291c436c1"), looks := true }, kinds := [], alts := [], laidByText := true, laidKinds := [.data, .data, .data, .data, .sentinel, .sentinel, .pinned], laidTests := true, laidLooks := .later }
def FnClocksUptoCardSaid : Prop := Claim7.holds Tryd.pinned (.plain (OpenSpec.upto fnClocksSpec)) fnClocksUptoCard

/-- THE SECOND FORM's CARD OF 'laws.FnExactParseAct'. -/
def fnExactParseActUptoCard : Claim7 := { stood := { row := fnExactParseActUptoRow, standIns := [], harness := (true, "e465113b1dd15f4ef1ccccb356fdbcca63b14f618c4a75b5eaff6fa291c436c1"), looks := true }, kinds := [], alts := [], laidByText := true, laidKinds := [.data, .data, .data, .sentinel, .sentinel], laidTests := true, laidLooks := .later }
def FnExactParseActUptoCardSaid : Prop := Claim7.holds Tryd.pinned (.plain (OpenSpec.upto fnExactParseActSpec)) fnExactParseActUptoCard
end Rows
end Go.Proofs.YtldpjfacoaplhaaDoor
