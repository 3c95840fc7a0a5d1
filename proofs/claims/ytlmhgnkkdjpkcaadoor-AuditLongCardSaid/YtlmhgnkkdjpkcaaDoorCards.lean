/-
  DERIVED. GIVEN WITH THE SEED: THE CARDS: each row of YtlmhgnkkdjpkcaaDoorRows.lean that lists a variable, with what it lists TIED to the program's text (the seventh form; the later family's looks); each row that meets fmt, with fmt's text TOLD by the authors' own Lean function (tested against real Go, not proved from fmt's source: count such statements apart). THE CARD IS WHAT COUNTS. Prove the row's statement (the work); the ties are given (YtlmhgnkkdjpkcaaDoorTie.lean); close each card by the builder's one call (the guide's Derived/Test/ToyasCard.lean, 'card_holds'). Laid BY PROGRAM, IN A SANDBOX (cutbox-door.mjs). By AI agents, Wed Nov 11 2026. No macro, syntax, notation, axiom, sorry.
-/
import Derived.Test.YtlmhgnkkdjpkcaaDoorRows
import GoSem.ClaimSeven
namespace Go.Proofs.YtlmhgnkkdjpkcaaDoor
namespace Rows

/-- THE TIED CARD OF 'outlawlaw23.AuditTexts'. -/
def auditTextsCard : Claim7 := { stood := { row := auditTextsRow, standIns := [], harness := (true, "e3162da28eda62f382e01e9f627202ab06ef1480730f265d4f05089e44b4c136"), looks := false }, kinds := [], alts := [], laidByText := true, laidKinds := [.data, .data, .data], laidTests := true, laidLooks := .later }
def AuditTextsCardSaid : Prop := Claim7.holds Tryd.pinned (.plain (OpenSpec.ofChange auditTextsSpec)) auditTextsCard

/-- THE TIED CARD OF 'outlawlaw23.AuditNames'. -/
def auditNamesCard : Claim7 := { stood := { row := auditNamesRow, standIns := [], harness := (true, "e3162da28eda62f382e01e9f627202ab06ef1480730f265d4f05089e44b4c136"), looks := false }, kinds := [], alts := [], laidByText := true, laidKinds := [.data, .data, .data], laidTests := true, laidLooks := .later }
def AuditNamesCardSaid : Prop := Claim7.holds Tryd.pinned (.plain (OpenSpec.ofChange auditNamesSpec)) auditNamesCard

/-- THE TIED CARD OF 'outlawlaw23.AuditCalls'. -/
def auditCallsCard : Claim7 := { stood := { row := auditCallsRow, standIns := [], harness := (true, "e3162da28eda62f382e01e9f627202ab06ef1480730f265d4f05089e44b4c136"), looks := false }, kinds := [], alts := [], laidByText := true, laidKinds := [.data, .data, .data], laidTests := true, laidLooks := .later }
def AuditCallsCardSaid : Prop := Claim7.holds Tryd.pinned (.plain (OpenSpec.ofChange auditCallsSpec)) auditCallsCard

/-- THE TIED CARD OF 'outlawlaw23.AuditLong'. -/
def auditLongCard : Claim7 := { stood := { row := auditLongRow, standIns := [], harness := (true, "e3162da28eda62f382e01e9f627202ab06ef1480730f265d4f05089e44b4c136"), looks := false }, kinds := [], alts := [], laidByText := true, laidKinds := [.data, .data, .data], laidTests := true, laidLooks := .later }
def AuditLongCardSaid : Prop := Claim7.holds Tryd.pinned (.plain (OpenSpec.ofChange auditLongSpec)) auditLongCard

/-- THE SECOND FORM's CARD OF 'outlawlaw23.AuditTexts'. -/
def auditTextsUptoCard : Claim7 := { stood := { row := auditTextsUptoRow, standIns := [], harness := (true, "e3162da28eda62f382e01e9f627202ab06ef1480730f265d4f05089e44b4c136"), looks := false }, kinds := [], alts := [], laidByText := true, laidKinds := [.data, .data, .data], laidTests := true, laidLooks := .later }
def AuditTextsUptoCardSaid : Prop := Claim7.holds Tryd.pinned (.plain (OpenSpec.upto auditTextsSpec)) auditTextsUptoCard

/-- THE SECOND FORM's CARD OF 'outlawlaw23.AuditNames'. -/
def auditNamesUptoCard : Claim7 := { stood := { row := auditNamesUptoRow, standIns := [], harness := (true, "e3162da28eda62f382e01e9f627202ab06ef1480730f265d4f05089e44b4c136"), looks := false }, kinds := [], alts := [], laidByText := true, laidKinds := [.data, .data, .data], laidTests := true, laidLooks := .later }
def AuditNamesUptoCardSaid : Prop := Claim7.holds Tryd.pinned (.plain (OpenSpec.upto auditNamesSpec)) auditNamesUptoCard

/-- THE SECOND FORM's CARD OF 'outlawlaw23.AuditCalls'. -/
def auditCallsUptoCard : Claim7 := { stood := { row := auditCallsUptoRow, standIns := [], harness := (true, "e3162da28eda62f382e01e9f627202ab06ef1480730f265d4f05089e44b4c136"), looks := false }, kinds := [], alts := [], laidByText := true, laidKinds := [.data, .data, .data], laidTests := true, laidLooks := .later }
def AuditCallsUptoCardSaid : Prop := Claim7.holds Tryd.pinned (.plain (OpenSpec.upto auditCallsSpec)) auditCallsUptoCard

/-- THE SECOND FORM's CARD OF 'outlawlaw23.AuditLong'. -/
def auditLongUptoCard : Claim7 := { stood := { row := auditLongUptoRow, standIns := [], harness := (true, "e3162da28eda62f382e01e9f627202ab06ef1480730f265d4f05089e44b4c136"), looks := false }, kinds := [], alts := [], laidByText := true, laidKinds := [.data, .data, .data], laidTests := true, laidLooks := .later }
def AuditLongUptoCardSaid : Prop := Claim7.holds Tryd.pinned (.plain (OpenSpec.upto auditLongSpec)) auditLongUptoCard
end Rows
end Go.Proofs.YtlmhgnkkdjpkcaaDoor
