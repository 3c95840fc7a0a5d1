/-
  DERIVED. GIVEN WITH THE SEED: THE CARDS: each row of YtfgbimcjcplegaaDoorRows.lean that lists a variable, with what it lists TIED to the program's text (the seventh form; the later family's looks); each row that meets fmt, with fmt's text TOLD by the authors' own Lean function (tested against real Go, not proved from fmt's source: count such statements apart). THE CARD IS WHAT COUNTS. Prove the row's statement (the work); the ties are given (YtfgbimcjcplegaaDoorTie.lean); close each card by the builder's one call (the guide's Derived/Test/ToyasCard.lean, 'card_holds'). Laid BY PROGRAM, IN A SANDBOX (cutbox-door.mjs). By AI agents, Wed Nov 11 2026. No macro, syntax, notation, axiom, sorry.
-/
import Derived.Test.YtfgbimcjcplegaaDoorRows
import GoSem.ClaimSeven
namespace Go.Proofs.YtfgbimcjcplegaaDoor
namespace Rows

/-- THE TIED CARD OF 'outlawlaw21.RecordNames'. -/
def recordNamesCard : Claim7 := { stood := { row := recordNamesRow, standIns := [], harness := (true, "e41968a52f0dcbfd5b85950314631506e55b8b4755ef54e4b0cce5842d3cd38d"), looks := true }, kinds := [], alts := [], laidByText := true, laidKinds := [.data, .data, .data], laidTests := true, laidLooks := .later }
def RecordNamesCardSaid : Prop := Claim7.holds Tryd.pinned (.plain (OpenSpec.ofChange recordNamesSpec)) recordNamesCard

/-- THE TIED CARD OF 'outlawlaw21.RecordCalls'. -/
def recordCallsCard : Claim7 := { stood := { row := recordCallsRow, standIns := [], harness := (true, "e41968a52f0dcbfd5b85950314631506e55b8b4755ef54e4b0cce5842d3cd38d"), looks := true }, kinds := [], alts := [], laidByText := true, laidKinds := [.data, .data, .data], laidTests := true, laidLooks := .later }
def RecordCallsCardSaid : Prop := Claim7.holds Tryd.pinned (.plain (OpenSpec.ofChange recordCallsSpec)) recordCallsCard

/-- THE SECOND FORM's CARD OF 'outlawlaw21.RecordNames'. -/
def recordNamesUptoCard : Claim7 := { stood := { row := recordNamesUptoRow, standIns := [], harness := (true, "e41968a52f0dcbfd5b85950314631506e55b8b4755ef54e4b0cce5842d3cd38d"), looks := true }, kinds := [], alts := [], laidByText := true, laidKinds := [.data, .data, .data], laidTests := true, laidLooks := .later }
def RecordNamesUptoCardSaid : Prop := Claim7.holds Tryd.pinned (.plain (OpenSpec.upto recordNamesSpec)) recordNamesUptoCard

/-- THE SECOND FORM's CARD OF 'outlawlaw21.RecordCalls'. -/
def recordCallsUptoCard : Claim7 := { stood := { row := recordCallsUptoRow, standIns := [], harness := (true, "e41968a52f0dcbfd5b85950314631506e55b8b4755ef54e4b0cce5842d3cd38d"), looks := true }, kinds := [], alts := [], laidByText := true, laidKinds := [.data, .data, .data], laidTests := true, laidLooks := .later }
def RecordCallsUptoCardSaid : Prop := Claim7.holds Tryd.pinned (.plain (OpenSpec.upto recordCallsSpec)) recordCallsUptoCard
end Rows
end Go.Proofs.YtfgbimcjcplegaaDoor
