/-
  DERIVED. GIVEN WITH THE SEED: THE CARDS: each row of YtijajimooldhiaaDoorRows.lean that lists a variable, with what it lists TIED to the program's text (the seventh form; the later family's looks); each row that meets fmt, with fmt's text TOLD by the authors' own Lean function (tested against real Go, not proved from fmt's source: count such statements apart). THE CARD IS WHAT COUNTS. Prove the row's statement (the work); the ties are given (YtijajimooldhiaaDoorTie.lean); close each card by the builder's one call (the guide's Derived/Test/ToyasCard.lean, 'card_holds'). Laid BY PROGRAM, IN A SANDBOX (cutbox-door.mjs). By AI agents, Wed Nov 11 2026. No macro, syntax, notation, axiom, sorry.
-/
import Derived.Test.YtijajimooldhiaaDoorRows
import GoSem.ClaimSeven
namespace Go.Proofs.YtijajimooldhiaaDoor
namespace Rows

/-- THE TIED CARD OF 'portlaw1.TicketValues'. -/
def ticketValuesCard : Claim7 := { stood := { row := ticketValuesRow, standIns := [], harness := (true, "f99902b981d4b023f30140dd9b6765f138c9197ac1f2d35875f75899b0775f9f"), looks := true }, kinds := [], alts := [], laidByText := true, laidKinds := [.data, .data, .data], laidTests := true, laidLooks := .later }
def TicketValuesCardSaid : Prop := Claim7.holds Tryd.pinned (.plain (OpenSpec.ofChange ticketValuesSpec)) ticketValuesCard

/-- THE TIED CARD OF 'portlaw1.TicketLogs'. -/
def ticketLogsCard : Claim7 := { stood := { row := ticketLogsRow, standIns := [], harness := (true, "f99902b981d4b023f30140dd9b6765f138c9197ac1f2d35875f75899b0775f9f"), looks := true }, kinds := [], alts := [], laidByText := true, laidKinds := [.data, .data, .data, .widerDeep], laidTests := true, laidLooks := .later }
def TicketLogsCardSaid : Prop := Claim7.holds Tryd.pinned (.plain (OpenSpec.ofChange ticketLogsSpec)) ticketLogsCard

/-- THE TIED CARD OF 'portlaw1.RuleChecks'. -/
def ruleChecksCard : Claim7 := { stood := { row := ruleChecksRow, standIns := [], harness := (true, "f99902b981d4b023f30140dd9b6765f138c9197ac1f2d35875f75899b0775f9f"), looks := true }, kinds := [], alts := [], laidByText := true, laidKinds := [.data, .data, .data, .data, .widerDeep, .widerDeep, .widerDeep], laidTests := true, laidLooks := .later }
def RuleChecksCardSaid : Prop := Claim7.holds Tryd.pinned (.plain (OpenSpec.ofChange ruleChecksSpec)) ruleChecksCard

/-- THE TIED CARD OF 'portlaw1.RuleTriggers'. -/
def ruleTriggersCard : Claim7 := { stood := { row := ruleTriggersRow, standIns := [], harness := (true, "f99902b981d4b023f30140dd9b6765f138c9197ac1f2d35875f75899b0775f9f"), looks := true }, kinds := [], alts := [], laidByText := true, laidKinds := [.data, .data, .data, .data, .widerDeep, .widerDeep, .widerDeep, .widerDeep], laidTests := true, laidLooks := .later }
def RuleTriggersCardSaid : Prop := Claim7.holds Tryd.pinned (.plain (OpenSpec.ofChange ruleTriggersSpec)) ruleTriggersCard

/-- THE TIED CARD OF 'portlaw1.RuleHolds'. -/
def ruleHoldsCard : Claim7 := { stood := { row := ruleHoldsRow, standIns := [], harness := (true, "f99902b981d4b023f30140dd9b6765f138c9197ac1f2d35875f75899b0775f9f"), looks := true }, kinds := [], alts := [], laidByText := true, laidKinds := [.data], laidTests := true, laidLooks := .later }
def RuleHoldsCardSaid : Prop := Claim7.holds Tryd.pinned (.plain (OpenSpec.ofChange ruleHoldsSpec)) ruleHoldsCard

/-- THE TIED CARD OF 'portlaw1.TicketFormReads'. -/
def ticketFormReadsCard : Claim7 := { stood := { row := ticketFormReadsRow, standIns := [], harness := (true, "f99902b981d4b023f30140dd9b6765f138c9197ac1f2d35875f75899b0775f9f"), looks := true }, kinds := [], alts := [], laidByText := true, laidKinds := [.data, .data, .data, .data, .sentinel, .sentinel, .widerDeep, .pinned], laidTests := true, laidLooks := .later }
def TicketFormReadsCardSaid : Prop := Claim7.holds Tryd.pinned (.plain (OpenSpec.ofChange ticketFormReadsSpec)) ticketFormReadsCard

/-- THE TIED CARD OF 'portlaw1.TicketValueReads'. -/
def ticketValueReadsCard : Claim7 := { stood := { row := ticketValueReadsRow, standIns := [], harness := (true, "f99902b981d4b023f30140dd9b6765f138c9197ac1f2d35875f75899b0775f9f"), looks := true }, kinds := [], alts := [], laidByText := true, laidKinds := [.data, .data, .data, .data, .sentinel, .sentinel, .pinned], laidTests := true, laidLooks := .later }
def TicketValueReadsCardSaid : Prop := Claim7.holds Tryd.pinned (.plain (OpenSpec.ofChange ticketValueReadsSpec)) ticketValueReadsCard

/-- THE SECOND FORM's CARD OF 'portlaw1.TicketValues'. -/
def ticketValuesUptoCard : Claim7 := { stood := { row := ticketValuesUptoRow, standIns := [], harness := (true, "f99902b981d4b023f30140dd9b6765f138c9197ac1f2d35875f75899b0775f9f"), looks := true }, kinds := [], alts := [], laidByText := true, laidKinds := [.data, .data, .data], laidTests := true, laidLooks := .later }
def TicketValuesUptoCardSaid : Prop := Claim7.holds Tryd.pinned (.plain (OpenSpec.upto ticketValuesSpec)) ticketValuesUptoCard

/-- THE SECOND FORM's CARD OF 'portlaw1.TicketLogs'. -/
def ticketLogsUptoCard : Claim7 := { stood := { row := ticketLogsUptoRow, standIns := [], harness := (true, "f99902b981d4b023f30140dd9b6765f138c9197ac1f2d35875f75899b0775f9f"), looks := true }, kinds := [], alts := [], laidByText := true, laidKinds := [.data, .data, .data, .widerDeep], laidTests := true, laidLooks := .later }
def TicketLogsUptoCardSaid : Prop := Claim7.holds Tryd.pinned (.plain (OpenSpec.upto ticketLogsSpec)) ticketLogsUptoCard

/-- THE SECOND FORM's CARD OF 'portlaw1.RuleChecks'. -/
def ruleChecksUptoCard : Claim7 := { stood := { row := ruleChecksUptoRow, standIns := [], harness := (true, "f99902b981d4b023f30140dd9b6765f138c9197ac1f2d35875f75899b0775f9f"), looks := true }, kinds := [], alts := [], laidByText := true, laidKinds := [.data, .data, .data, .data, .widerDeep, .widerDeep, .widerDeep], laidTests := true, laidLooks := .later }
def RuleChecksUptoCardSaid : Prop := Claim7.holds Tryd.pinned (.plain (OpenSpec.upto ruleChecksSpec)) ruleChecksUptoCard

/-- THE SECOND FORM's CARD OF 'portlaw1.RuleTriggers'. -/
def ruleTriggersUptoCard : Claim7 := { stood := { row := ruleTriggersUptoRow, standIns := [], harness := (true, "f99902b981d4b023f30140dd9b6765f138c9197ac1f2d35875f75899b0775f9f"), looks := true }, kinds := [], alts := [], laidByText := true, laidKinds := [.data, .data, .data, .data, .widerDeep, .widerDeep, .widerDeep, .widerDeep], laidTests := true, laidLooks := .later }
def RuleTriggersUptoCardSaid : Prop := Claim7.holds Tryd.pinned (.plain (OpenSpec.upto ruleTriggersSpec)) ruleTriggersUptoCard

/-- THE SECOND FORM's CARD OF 'portlaw1.RuleHolds'. -/
def ruleHoldsUptoCard : Claim7 := { stood := { row := ruleHoldsUptoRow, standIns := [], harness := (true, "f99902b981d4b023f30140dd9b6765f138c9197ac1f2d35875f75899b0775f9f"), looks := true }, kinds := [], alts := [], laidByText := true, laidKinds := [.data], laidTests := true, laidLooks := .later }
def RuleHoldsUptoCardSaid : Prop := Claim7.holds Tryd.pinned (.plain (OpenSpec.upto ruleHoldsSpec)) ruleHoldsUptoCard

/-- THE SECOND FORM's CARD OF 'portlaw1.TicketFormReads'. -/
def ticketFormReadsUptoCard : Claim7 := { stood := { row := ticketFormReadsUptoRow, standIns := [], harness := (true, "f99902b981d4b023f30140dd9b6765f138c9197ac1f2d35875f75899b0775f9f"), looks := true }, kinds := [], alts := [], laidByText := true, laidKinds := [.data, .data, .data, .data, .sentinel, .sentinel, .widerDeep, .pinned], laidTests := true, laidLooks := .later }
def TicketFormReadsUptoCardSaid : Prop := Claim7.holds Tryd.pinned (.plain (OpenSpec.upto ticketFormReadsSpec)) ticketFormReadsUptoCard

/-- THE SECOND FORM's CARD OF 'portlaw1.TicketValueReads'. -/
def ticketValueReadsUptoCard : Claim7 := { stood := { row := ticketValueReadsUptoRow, standIns := [], harness := (true, "f99902b981d4b023f30140dd9b6765f138c9197ac1f2d35875f75899b0775f9f"), looks := true }, kinds := [], alts := [], laidByText := true, laidKinds := [.data, .data, .data, .data, .sentinel, .sentinel, .pinned], laidTests := true, laidLooks := .later }
def TicketValueReadsUptoCardSaid : Prop := Claim7.holds Tryd.pinned (.plain (OpenSpec.upto ticketValueReadsSpec)) ticketValueReadsUptoCard
end Rows
end Go.Proofs.YtijajimooldhiaaDoor
