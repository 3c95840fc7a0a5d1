/-
  DERIVED. GIVEN WITH THE SEED: THE CARDS: each row of YtfmenojhojmedaaDoorRows.lean that lists a variable, with what it lists TIED to the program's text (the seventh form; the later family's looks); each row that meets fmt, with fmt's text TOLD by the authors' own Lean function (tested against real Go, not proved from fmt's source: count such statements apart). THE CARD IS WHAT COUNTS. Prove the row's statement (the work); the ties are given (YtfmenojhojmedaaDoorTie.lean); close each card by the builder's one call (the guide's Derived/Test/ToyasCard.lean, 'card_holds'). Laid BY PROGRAM, IN A SANDBOX (cutbox-door.mjs). By AI agents, Wed Nov 11 2026. No macro, syntax, notation, axiom, sorry.
-/
import Derived.Test.YtfmenojhojmedaaDoorRows
import GoSem.ClaimSeven
namespace Go.Proofs.YtfmenojhojmedaaDoor
namespace Rows

/-- THE TIED CARD OF 'outlawlaw01.ScanBack'. -/
def scanBackCard : Claim7 := { stood := { row := scanBackRow, standIns := [], harness := (true, "128ed6ea1053aba225661ef0bdcb0751bb2c8afd61a8a4eae4138fccd5e0d758"), looks := false }, kinds := [], alts := [], laidByText := true, laidKinds := [.data, .pinned], laidTests := true, laidLooks := .later }
def ScanBackCardSaid : Prop := Claim7.holds Tryd.pinned (.plain (OpenSpec.ofChange scanBackSpec)) scanBackCard

/-- THE TIED CARD OF 'outlawlaw01.ScanFronts'. -/
def scanFrontsCard : Claim7 := { stood := { row := scanFrontsRow, standIns := [], harness := (true, "128ed6ea1053aba225661ef0bdcb0751bb2c8afd61a8a4eae4138fccd5e0d758"), looks := false }, kinds := [], alts := [], laidByText := true, laidKinds := [.data, .pinned], laidTests := true, laidLooks := .later }
def ScanFrontsCardSaid : Prop := Claim7.holds Tryd.pinned (.plain (OpenSpec.ofChange scanFrontsSpec)) scanFrontsCard

/-- THE TIED CARD OF 'outlawlaw01.ScanEscapes'. -/
def scanEscapesCard : Claim7 := { stood := { row := scanEscapesRow, standIns := [], harness := (true, "128ed6ea1053aba225661ef0bdcb0751bb2c8afd61a8a4eae4138fccd5e0d758"), looks := false }, kinds := [], alts := [], laidByText := true, laidKinds := [.data, .pinned], laidTests := true, laidLooks := .later }
def ScanEscapesCardSaid : Prop := Claim7.holds Tryd.pinned (.plain (OpenSpec.ofChange scanEscapesSpec)) scanEscapesCard

/-- THE TIED CARD OF 'outlawlaw01.ScanNumbers'. -/
def scanNumbersCard : Claim7 := { stood := { row := scanNumbersRow, standIns := [], harness := (true, "128ed6ea1053aba225661ef0bdcb0751bb2c8afd61a8a4eae4138fccd5e0d758"), looks := false }, kinds := [], alts := [], laidByText := true, laidKinds := [.data, .data, .data, .data, .pinned], laidTests := true, laidLooks := .later }
def ScanNumbersCardSaid : Prop := Claim7.holds Tryd.pinned (.plain (OpenSpec.ofChange scanNumbersSpec)) scanNumbersCard

/-- THE TIED CARD OF 'outlawlaw01.ScanNames'. -/
def scanNamesCard : Claim7 := { stood := { row := scanNamesRow, standIns := [], harness := (true, "128ed6ea1053aba225661ef0bdcb0751bb2c8afd61a8a4eae4138fccd5e0d758"), looks := false }, kinds := [], alts := [], laidByText := true, laidKinds := [.data, .pinned], laidTests := true, laidLooks := .later }
def ScanNamesCardSaid : Prop := Claim7.holds Tryd.pinned (.plain (OpenSpec.ofChange scanNamesSpec)) scanNamesCard

/-- THE TIED CARD OF 'outlawlaw01.ScanCalls'. -/
def scanCallsCard : Claim7 := { stood := { row := scanCallsRow, standIns := [], harness := (true, "128ed6ea1053aba225661ef0bdcb0751bb2c8afd61a8a4eae4138fccd5e0d758"), looks := false }, kinds := [], alts := [], laidByText := true, laidKinds := [.data, .data, .data, .data, .pinned], laidTests := true, laidLooks := .later }
def ScanCallsCardSaid : Prop := Claim7.holds Tryd.pinned (.plain (OpenSpec.ofChange scanCallsSpec)) scanCallsCard

/-- THE SECOND FORM's CARD OF 'outlawlaw01.ScanBack'. -/
def scanBackUptoCard : Claim7 := { stood := { row := scanBackUptoRow, standIns := [], harness := (true, "128ed6ea1053aba225661ef0bdcb0751bb2c8afd61a8a4eae4138fccd5e0d758"), looks := false }, kinds := [], alts := [], laidByText := true, laidKinds := [.data, .pinned], laidTests := true, laidLooks := .later }
def ScanBackUptoCardSaid : Prop := Claim7.holds Tryd.pinned (.plain (OpenSpec.upto scanBackSpec)) scanBackUptoCard

/-- THE SECOND FORM's CARD OF 'outlawlaw01.ScanFronts'. -/
def scanFrontsUptoCard : Claim7 := { stood := { row := scanFrontsUptoRow, standIns := [], harness := (true, "128ed6ea1053aba225661ef0bdcb0751bb2c8afd61a8a4eae4138fccd5e0d758"), looks := false }, kinds := [], alts := [], laidByText := true, laidKinds := [.data, .pinned], laidTests := true, laidLooks := .later }
def ScanFrontsUptoCardSaid : Prop := Claim7.holds Tryd.pinned (.plain (OpenSpec.upto scanFrontsSpec)) scanFrontsUptoCard

/-- THE SECOND FORM's CARD OF 'outlawlaw01.ScanEscapes'. -/
def scanEscapesUptoCard : Claim7 := { stood := { row := scanEscapesUptoRow, standIns := [], harness := (true, "128ed6ea1053aba225661ef0bdcb0751bb2c8afd61a8a4eae4138fccd5e0d758"), looks := false }, kinds := [], alts := [], laidByText := true, laidKinds := [.data, .pinned], laidTests := true, laidLooks := .later }
def ScanEscapesUptoCardSaid : Prop := Claim7.holds Tryd.pinned (.plain (OpenSpec.upto scanEscapesSpec)) scanEscapesUptoCard

/-- THE SECOND FORM's CARD OF 'outlawlaw01.ScanNumbers'. -/
def scanNumbersUptoCard : Claim7 := { stood := { row := scanNumbersUptoRow, standIns := [], harness := (true, "128ed6ea1053aba225661ef0bdcb0751bb2c8afd61a8a4eae4138fccd5e0d758"), looks := false }, kinds := [], alts := [], laidByText := true, laidKinds := [.data, .data, .data, .data, .pinned], laidTests := true, laidLooks := .later }
def ScanNumbersUptoCardSaid : Prop := Claim7.holds Tryd.pinned (.plain (OpenSpec.upto scanNumbersSpec)) scanNumbersUptoCard

/-- THE SECOND FORM's CARD OF 'outlawlaw01.ScanNames'. -/
def scanNamesUptoCard : Claim7 := { stood := { row := scanNamesUptoRow, standIns := [], harness := (true, "128ed6ea1053aba225661ef0bdcb0751bb2c8afd61a8a4eae4138fccd5e0d758"), looks := false }, kinds := [], alts := [], laidByText := true, laidKinds := [.data, .pinned], laidTests := true, laidLooks := .later }
def ScanNamesUptoCardSaid : Prop := Claim7.holds Tryd.pinned (.plain (OpenSpec.upto scanNamesSpec)) scanNamesUptoCard

/-- THE SECOND FORM's CARD OF 'outlawlaw01.ScanCalls'. -/
def scanCallsUptoCard : Claim7 := { stood := { row := scanCallsUptoRow, standIns := [], harness := (true, "128ed6ea1053aba225661ef0bdcb0751bb2c8afd61a8a4eae4138fccd5e0d758"), looks := false }, kinds := [], alts := [], laidByText := true, laidKinds := [.data, .data, .data, .data, .pinned], laidTests := true, laidLooks := .later }
def ScanCallsUptoCardSaid : Prop := Claim7.holds Tryd.pinned (.plain (OpenSpec.upto scanCallsSpec)) scanCallsUptoCard
end Rows
end Go.Proofs.YtfmenojhojmedaaDoor
