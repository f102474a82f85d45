/-
  DERIVED. GIVEN WITH THE SEED: THE CARDS: each row of YtpcmamoomaddoaaGreatDoorRows.lean that lists a variable, with what it lists TIED to the program's text (the seventh form; the later family's looks); each row that meets fmt, with fmt's text TOLD by the authors' own Lean function (tested against real Go, not proved from fmt's source: count such statements apart). THE CARD IS WHAT COUNTS. Prove the row's statement (the work); the ties are given (YtpcmamoomaddoaaGreatDoorTie.lean); close each card by the builder's one call (the guide's Derived/Test/ToyasCard.lean, 'card_holds'). Laid BY PROGRAM, IN A SANDBOX (cutbox-door.mjs). By AI agents, Wed Nov 11 2026. No macro, syntax, notation, axiom, sorry.
-/
import Derived.Test.YtpcmamoomaddoaaGreatDoorRows
import GoSem.ClaimSeven
namespace Go.Proofs.YtpcmamoomaddoaaGreatDoor
namespace Rows

/-- THE TIED CARD OF 'cloaklaw10.InquiryAccounts'. -/
def inquiryAccountsCard : Claim7 := { stood := { row := inquiryAccountsRow, standIns := [], harness := (true, "388ccfb2f290051cfbb0e774737db2b28161bf4bd2a609ad9b0f376e9a4e37aa"), looks := true }, kinds := [], alts := [], laidByText := true, laidKinds := [.data, .widerDeep], laidTests := true, laidLooks := .later }
def InquiryAccountsCardSaid : Prop := Claim7.holds Tryz.pinned (.plain (OpenSpec.ofChange inquiryAccountsSpec)) inquiryAccountsCard

/-- THE TIED CARD OF 'cloaklaw10.InquiryCounts'. -/
def inquiryCountsCard : Claim7 := { stood := { row := inquiryCountsRow, standIns := [], harness := (true, "388ccfb2f290051cfbb0e774737db2b28161bf4bd2a609ad9b0f376e9a4e37aa"), looks := true }, kinds := [], alts := [], laidByText := true, laidKinds := [.data, .widerDeep], laidTests := true, laidLooks := .later }
def InquiryCountsCardSaid : Prop := Claim7.holds Tryz.pinned (.plain (OpenSpec.ofChange inquiryCountsSpec)) inquiryCountsCard

/-- THE TIED CARD OF 'cloaklaw10.InquiryMore'. -/
def inquiryMoreCard : Claim7 := { stood := { row := inquiryMoreRow, standIns := [], harness := (true, "388ccfb2f290051cfbb0e774737db2b28161bf4bd2a609ad9b0f376e9a4e37aa"), looks := true }, kinds := [], alts := [], laidByText := true, laidKinds := [.data, .widerDeep], laidTests := true, laidLooks := .later }
def InquiryMoreCardSaid : Prop := Claim7.holds Tryz.pinned (.plain (OpenSpec.ofChange inquiryMoreSpec)) inquiryMoreCard

/-- THE TIED CARD OF 'cloaklaw10.InquiryOpened'. -/
def inquiryOpenedCard : Claim7 := { stood := { row := inquiryOpenedRow, standIns := [], harness := (true, "388ccfb2f290051cfbb0e774737db2b28161bf4bd2a609ad9b0f376e9a4e37aa"), looks := true }, kinds := [], alts := [], laidByText := true, laidKinds := [.data, .widerDeep], laidTests := true, laidLooks := .later }
def InquiryOpenedCardSaid : Prop := Claim7.holds Tryz.pinned (.plain (OpenSpec.ofChange inquiryOpenedSpec)) inquiryOpenedCard

/-- THE SECOND FORM's CARD OF 'cloaklaw10.InquiryAccounts'. -/
def inquiryAccountsUptoCard : Claim7 := { stood := { row := inquiryAccountsUptoRow, standIns := [], harness := (true, "388ccfb2f290051cfbb0e774737db2b28161bf4bd2a609ad9b0f376e9a4e37aa"), looks := true }, kinds := [], alts := [], laidByText := true, laidKinds := [.data, .widerDeep], laidTests := true, laidLooks := .later }
def InquiryAccountsUptoCardSaid : Prop := Claim7.holds Tryz.pinned (.plain (OpenSpec.upto inquiryAccountsSpec)) inquiryAccountsUptoCard

/-- THE SECOND FORM's CARD OF 'cloaklaw10.InquiryCounts'. -/
def inquiryCountsUptoCard : Claim7 := { stood := { row := inquiryCountsUptoRow, standIns := [], harness := (true, "388ccfb2f290051cfbb0e774737db2b28161bf4bd2a609ad9b0f376e9a4e37aa"), looks := true }, kinds := [], alts := [], laidByText := true, laidKinds := [.data, .widerDeep], laidTests := true, laidLooks := .later }
def InquiryCountsUptoCardSaid : Prop := Claim7.holds Tryz.pinned (.plain (OpenSpec.upto inquiryCountsSpec)) inquiryCountsUptoCard

/-- THE SECOND FORM's CARD OF 'cloaklaw10.InquiryMore'. -/
def inquiryMoreUptoCard : Claim7 := { stood := { row := inquiryMoreUptoRow, standIns := [], harness := (true, "388ccfb2f290051cfbb0e774737db2b28161bf4bd2a609ad9b0f376e9a4e37aa"), looks := true }, kinds := [], alts := [], laidByText := true, laidKinds := [.data, .widerDeep], laidTests := true, laidLooks := .later }
def InquiryMoreUptoCardSaid : Prop := Claim7.holds Tryz.pinned (.plain (OpenSpec.upto inquiryMoreSpec)) inquiryMoreUptoCard

/-- THE SECOND FORM's CARD OF 'cloaklaw10.InquiryOpened'. -/
def inquiryOpenedUptoCard : Claim7 := { stood := { row := inquiryOpenedUptoRow, standIns := [], harness := (true, "388ccfb2f290051cfbb0e774737db2b28161bf4bd2a609ad9b0f376e9a4e37aa"), looks := true }, kinds := [], alts := [], laidByText := true, laidKinds := [.data, .widerDeep], laidTests := true, laidLooks := .later }
def InquiryOpenedUptoCardSaid : Prop := Claim7.holds Tryz.pinned (.plain (OpenSpec.upto inquiryOpenedSpec)) inquiryOpenedUptoCard
end Rows
end Go.Proofs.YtpcmamoomaddoaaGreatDoor
