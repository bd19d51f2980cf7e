/-
  DERIVED. GIVEN WITH THE SEED: THE CARDS: each row of YtcljkhhjondhcaaDoorRows.lean that lists a variable, with what it lists TIED to the program's text (the seventh form; the later family's looks); each row that meets fmt, with fmt's text TOLD by the authors' own Lean function (tested against real Go, not proved from fmt's source: count such statements apart). THE CARD IS WHAT COUNTS. Prove the row's statement (the work); the ties are given (YtcljkhhjondhcaaDoorTie.lean); close each card by the builder's one call (the guide's Derived/Test/ToyasCard.lean, 'card_holds'). Laid BY PROGRAM, IN A SANDBOX (cutbox-door.mjs). By AI agents, Wed Nov 11 2026. No macro, syntax, notation, axiom, sorry.
-/
import Derived.Test.YtcljkhhjondhcaaDoorRows
import GoSem.ClaimSeven
namespace Go.Proofs.YtcljkhhjondhcaaDoor
namespace Rows

/-- THE TIED CARD OF 'portlaw1.MailTokens'. -/
def mailTokensCard : Claim7 := { stood := { row := mailTokensRow, standIns := [], harness := (true, "b5a2cbc08ac89df47bb371964cf260e2a4e087a020cadb1962358223afc8b6bb"), looks := false }, kinds := [], alts := [], laidByText := true, laidKinds := [.data, .data, .data], laidTests := true, laidLooks := .later }
def MailTokensCardSaid : Prop := Claim7.holds Tryd.pinned (.plain (OpenSpec.ofChange mailTokensSpec)) mailTokensCard

/-- THE TIED CARD OF 'portkeep1.MailSteady'. -/
def mailSteadyCard : Claim7 := { stood := { row := mailSteadyRow, standIns := [], harness := (true, "b5a2cbc08ac89df47bb371964cf260e2a4e087a020cadb1962358223afc8b6bb"), looks := false }, kinds := [], alts := [], laidByText := true, laidKinds := [.data, .pinned], laidTests := true, laidLooks := .later }
def MailSteadyCardSaid : Prop := Claim7.holds Tryd.pinned (.plain (OpenSpec.ofChange mailSteadySpec)) mailSteadyCard

/-- THE TIED CARD OF 'portlaw1.MailKinds'. -/
def mailKindsCard : Claim7 := { stood := { row := mailKindsRow, standIns := [], harness := (true, "b5a2cbc08ac89df47bb371964cf260e2a4e087a020cadb1962358223afc8b6bb"), looks := false }, kinds := [], alts := [], laidByText := true, laidKinds := [.data, .pinned], laidTests := true, laidLooks := .later }
def MailKindsCardSaid : Prop := Claim7.holds Tryd.pinned (.plain (OpenSpec.ofChange mailKindsSpec)) mailKindsCard

/-- THE TIED CARD OF 'portlaw1.MailAddresses'. -/
def mailAddressesCard : Claim7 := { stood := { row := mailAddressesRow, standIns := [], harness := (true, "b5a2cbc08ac89df47bb371964cf260e2a4e087a020cadb1962358223afc8b6bb"), looks := false }, kinds := [], alts := [], laidByText := true, laidKinds := [.data, .pinned], laidTests := true, laidLooks := .later }
def MailAddressesCardSaid : Prop := Claim7.holds Tryd.pinned (.plain (OpenSpec.ofChange mailAddressesSpec)) mailAddressesCard

/-- THE TIED CARD OF 'portkeep1.MailWrapped'. -/
def mailWrappedCard : Claim7 := { stood := { row := mailWrappedRow, standIns := [], harness := (true, "b5a2cbc08ac89df47bb371964cf260e2a4e087a020cadb1962358223afc8b6bb"), looks := false }, kinds := [], alts := [], laidByText := true, laidKinds := [.data, .pinned], laidTests := true, laidLooks := .later }
def MailWrappedCardSaid : Prop := Claim7.holds Tryd.pinned (.plain (OpenSpec.ofChange mailWrappedSpec)) mailWrappedCard

/-- THE TIED CARD OF 'portlaw1.MailMasks'. -/
def mailMasksCard : Claim7 := { stood := { row := mailMasksRow, standIns := [], harness := (true, "b5a2cbc08ac89df47bb371964cf260e2a4e087a020cadb1962358223afc8b6bb"), looks := false }, kinds := [], alts := [], laidByText := true, laidKinds := [.data, .pinned], laidTests := true, laidLooks := .later }
def MailMasksCardSaid : Prop := Claim7.holds Tryd.pinned (.plain (OpenSpec.ofChange mailMasksSpec)) mailMasksCard

/-- THE TIED CARD OF 'portkeep1.MailQuoted'. -/
def mailQuotedCard : Claim7 := { stood := { row := mailQuotedRow, standIns := [], harness := (true, "b5a2cbc08ac89df47bb371964cf260e2a4e087a020cadb1962358223afc8b6bb"), looks := false }, kinds := [], alts := [], laidByText := true, laidKinds := [.data, .pinned], laidTests := true, laidLooks := .later }
def MailQuotedCardSaid : Prop := Claim7.holds Tryd.pinned (.plain (OpenSpec.ofChange mailQuotedSpec)) mailQuotedCard

/-- THE TIED CARD OF 'portkeep1.MailTold'. -/
def mailToldCard : Claim7 := { stood := { row := mailToldRow, standIns := [], harness := (true, "b5a2cbc08ac89df47bb371964cf260e2a4e087a020cadb1962358223afc8b6bb"), looks := false }, kinds := [], alts := [], laidByText := true, laidKinds := [.data, .data, .data, .data, .pinned], laidTests := true, laidLooks := .later }
def MailToldCardSaid : Prop := Claim7.holds Tryd.pinned (.plain (OpenSpec.ofChange mailToldSpec)) mailToldCard

/-- THE TIED CARD OF 'portlaw1.MailChecks'. -/
def mailChecksCard : Claim7 := { stood := { row := mailChecksRow, standIns := [], harness := (true, "b5a2cbc08ac89df47bb371964cf260e2a4e087a020cadb1962358223afc8b6bb"), looks := false }, kinds := [], alts := [], laidByText := true, laidKinds := [.data, .data, .data, .data, .pinned], laidTests := true, laidLooks := .later }
def MailChecksCardSaid : Prop := Claim7.holds Tryd.pinned (.plain (OpenSpec.ofChange mailChecksSpec)) mailChecksCard

/-- THE TIED CARD OF 'portkeep1.TopThreads'. -/
def topThreadsCard : Claim7 := { stood := { row := topThreadsRow, standIns := [], harness := (true, "b5a2cbc08ac89df47bb371964cf260e2a4e087a020cadb1962358223afc8b6bb"), looks := false }, kinds := [], alts := [], laidByText := true, laidKinds := [.data, .data, .data, .data, .pinned], laidTests := true, laidLooks := .later }
def TopThreadsCardSaid : Prop := Claim7.holds Tryd.pinned (.plain (OpenSpec.ofChange topThreadsSpec)) topThreadsCard

/-- THE SECOND FORM's CARD OF 'portlaw1.MailTokens'. -/
def mailTokensUptoCard : Claim7 := { stood := { row := mailTokensUptoRow, standIns := [], harness := (true, "b5a2cbc08ac89df47bb371964cf260e2a4e087a020cadb1962358223afc8b6bb"), looks := false }, kinds := [], alts := [], laidByText := true, laidKinds := [.data, .data, .data], laidTests := true, laidLooks := .later }
def MailTokensUptoCardSaid : Prop := Claim7.holds Tryd.pinned (.plain (OpenSpec.upto mailTokensSpec)) mailTokensUptoCard

/-- THE SECOND FORM's CARD OF 'portkeep1.MailSteady'. -/
def mailSteadyUptoCard : Claim7 := { stood := { row := mailSteadyUptoRow, standIns := [], harness := (true, "b5a2cbc08ac89df47bb371964cf260e2a4e087a020cadb1962358223afc8b6bb"), looks := false }, kinds := [], alts := [], laidByText := true, laidKinds := [.data, .pinned], laidTests := true, laidLooks := .later }
def MailSteadyUptoCardSaid : Prop := Claim7.holds Tryd.pinned (.plain (OpenSpec.upto mailSteadySpec)) mailSteadyUptoCard

/-- THE SECOND FORM's CARD OF 'portlaw1.MailKinds'. -/
def mailKindsUptoCard : Claim7 := { stood := { row := mailKindsUptoRow, standIns := [], harness := (true, "b5a2cbc08ac89df47bb371964cf260e2a4e087a020cadb1962358223afc8b6bb"), looks := false }, kinds := [], alts := [], laidByText := true, laidKinds := [.data, .pinned], laidTests := true, laidLooks := .later }
def MailKindsUptoCardSaid : Prop := Claim7.holds Tryd.pinned (.plain (OpenSpec.upto mailKindsSpec)) mailKindsUptoCard

/-- THE SECOND FORM's CARD OF 'portlaw1.MailAddresses'. -/
def mailAddressesUptoCard : Claim7 := { stood := { row := mailAddressesUptoRow, standIns := [], harness := (true, "b5a2cbc08ac89df47bb371964cf260e2a4e087a020cadb1962358223afc8b6bb"), looks := false }, kinds := [], alts := [], laidByText := true, laidKinds := [.data, .pinned], laidTests := true, laidLooks := .later }
def MailAddressesUptoCardSaid : Prop := Claim7.holds Tryd.pinned (.plain (OpenSpec.upto mailAddressesSpec)) mailAddressesUptoCard

/-- THE SECOND FORM's CARD OF 'portkeep1.MailWrapped'. -/
def mailWrappedUptoCard : Claim7 := { stood := { row := mailWrappedUptoRow, standIns := [], harness := (true, "b5a2cbc08ac89df47bb371964cf260e2a4e087a020cadb1962358223afc8b6bb"), looks := false }, kinds := [], alts := [], laidByText := true, laidKinds := [.data, .pinned], laidTests := true, laidLooks := .later }
def MailWrappedUptoCardSaid : Prop := Claim7.holds Tryd.pinned (.plain (OpenSpec.upto mailWrappedSpec)) mailWrappedUptoCard

/-- THE SECOND FORM's CARD OF 'portlaw1.MailMasks'. -/
def mailMasksUptoCard : Claim7 := { stood := { row := mailMasksUptoRow, standIns := [], harness := (true, "b5a2cbc08ac89df47bb371964cf260e2a4e087a020cadb1962358223afc8b6bb"), looks := false }, kinds := [], alts := [], laidByText := true, laidKinds := [.data, .pinned], laidTests := true, laidLooks := .later }
def MailMasksUptoCardSaid : Prop := Claim7.holds Tryd.pinned (.plain (OpenSpec.upto mailMasksSpec)) mailMasksUptoCard

/-- THE SECOND FORM's CARD OF 'portkeep1.MailQuoted'. -/
def mailQuotedUptoCard : Claim7 := { stood := { row := mailQuotedUptoRow, standIns := [], harness := (true, "b5a2cbc08ac89df47bb371964cf260e2a4e087a020cadb1962358223afc8b6bb"), looks := false }, kinds := [], alts := [], laidByText := true, laidKinds := [.data, .pinned], laidTests := true, laidLooks := .later }
def MailQuotedUptoCardSaid : Prop := Claim7.holds Tryd.pinned (.plain (OpenSpec.upto mailQuotedSpec)) mailQuotedUptoCard

/-- THE SECOND FORM's CARD OF 'portkeep1.MailTold'. -/
def mailToldUptoCard : Claim7 := { stood := { row := mailToldUptoRow, standIns := [], harness := (true, "b5a2cbc08ac89df47bb371964cf260e2a4e087a020cadb1962358223afc8b6bb"), looks := false }, kinds := [], alts := [], laidByText := true, laidKinds := [.data, .data, .data, .data, .pinned], laidTests := true, laidLooks := .later }
def MailToldUptoCardSaid : Prop := Claim7.holds Tryd.pinned (.plain (OpenSpec.upto mailToldSpec)) mailToldUptoCard

/-- THE SECOND FORM's CARD OF 'portlaw1.MailChecks'. -/
def mailChecksUptoCard : Claim7 := { stood := { row := mailChecksUptoRow, standIns := [], harness := (true, "b5a2cbc08ac89df47bb371964cf260e2a4e087a020cadb1962358223afc8b6bb"), looks := false }, kinds := [], alts := [], laidByText := true, laidKinds := [.data, .data, .data, .data, .pinned], laidTests := true, laidLooks := .later }
def MailChecksUptoCardSaid : Prop := Claim7.holds Tryd.pinned (.plain (OpenSpec.upto mailChecksSpec)) mailChecksUptoCard

/-- THE SECOND FORM's CARD OF 'portkeep1.TopThreads'. -/
def topThreadsUptoCard : Claim7 := { stood := { row := topThreadsUptoRow, standIns := [], harness := (true, "b5a2cbc08ac89df47bb371964cf260e2a4e087a020cadb1962358223afc8b6bb"), looks := false }, kinds := [], alts := [], laidByText := true, laidKinds := [.data, .data, .data, .data, .pinned], laidTests := true, laidLooks := .later }
def TopThreadsUptoCardSaid : Prop := Claim7.holds Tryd.pinned (.plain (OpenSpec.upto topThreadsSpec)) topThreadsUptoCard
end Rows
end Go.Proofs.YtcljkhhjondhcaaDoor
