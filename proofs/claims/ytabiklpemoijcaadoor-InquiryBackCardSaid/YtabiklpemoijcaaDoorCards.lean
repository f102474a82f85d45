/-
  DERIVED. GIVEN WITH THE SEED: THE CARDS: each row of YtabiklpemoijcaaDoorRows.lean that lists a variable, with what it lists TIED to the program's text (the seventh form; the later family's looks); each row that meets fmt, with fmt's text TOLD by the authors' own Lean function (tested against real Go, not proved from fmt's source: count such statements apart). THE CARD IS WHAT COUNTS. Prove the row's statement (the work); the ties are given (YtabiklpemoijcaaDoorTie.lean); close each card by the builder's one call (the guide's Derived/Test/ToyasCard.lean, 'card_holds'). Laid BY PROGRAM, IN A SANDBOX (cutbox-door.mjs). By AI agents, Wed Nov 11 2026. No macro, syntax, notation, axiom, sorry.
-/
import Derived.Test.YtabiklpemoijcaaDoorRows
import GoSem.ClaimSeven
namespace Go.Proofs.YtabiklpemoijcaaDoor
namespace Rows

/-- THE TIED CARD OF 'cloaklaw06.ShowForks'. -/
def showForksCard : Claim7 := { stood := { row := showForksRow, standIns := [], harness := (true, "eeccf68ddf7184f0f4b3baed0ab0eb063145ec41ffebbb6fe112b9e18002e6bf"), looks := true }, kinds := [], alts := [], laidByText := true, laidKinds := [.data], laidTests := true, laidLooks := .later }
def ShowForksCardSaid : Prop := Claim7.holds Tryd.pinned (.plain (OpenSpec.ofChange showForksSpec)) showForksCard

/-- THE TIED CARD OF 'cloaklaw06.ShowRevokes'. -/
def showRevokesCard : Claim7 := { stood := { row := showRevokesRow, standIns := [], harness := (true, "eeccf68ddf7184f0f4b3baed0ab0eb063145ec41ffebbb6fe112b9e18002e6bf"), looks := true }, kinds := [], alts := [], laidByText := true, laidKinds := [.data], laidTests := true, laidLooks := .later }
def ShowRevokesCardSaid : Prop := Claim7.holds Tryd.pinned (.plain (OpenSpec.ofChange showRevokesSpec)) showRevokesCard

/-- THE TIED CARD OF 'cloaklaw06.ShowEscrow'. -/
def showEscrowCard : Claim7 := { stood := { row := showEscrowRow, standIns := [], harness := (true, "eeccf68ddf7184f0f4b3baed0ab0eb063145ec41ffebbb6fe112b9e18002e6bf"), looks := true }, kinds := [], alts := [], laidByText := true, laidKinds := [.data], laidTests := true, laidLooks := .later }
def ShowEscrowCardSaid : Prop := Claim7.holds Tryd.pinned (.plain (OpenSpec.ofChange showEscrowSpec)) showEscrowCard

/-- THE TIED CARD OF 'cloaklaw10.InquirySeats'. -/
def inquirySeatsCard : Claim7 := { stood := { row := inquirySeatsRow, standIns := [], harness := (true, "eeccf68ddf7184f0f4b3baed0ab0eb063145ec41ffebbb6fe112b9e18002e6bf"), looks := true }, kinds := [], alts := [], laidByText := true, laidKinds := [.data, .data, .data, .sentinel, .sentinel], laidTests := true, laidLooks := .later }
def InquirySeatsCardSaid : Prop := Claim7.holds Tryd.pinned (.plain (OpenSpec.ofChange inquirySeatsSpec)) inquirySeatsCard

/-- THE TIED CARD OF 'cloaklaw10.InquiryBack'. -/
def inquiryBackCard : Claim7 := { stood := { row := inquiryBackRow, standIns := [], harness := (true, "eeccf68ddf7184f0f4b3baed0ab0eb063145ec41ffebbb6fe112b9e18002e6bf"), looks := true }, kinds := [], alts := [], laidByText := true, laidKinds := [.data, .data, .data, .sentinel, .sentinel], laidTests := true, laidLooks := .later }
def InquiryBackCardSaid : Prop := Claim7.holds Tryd.pinned (.plain (OpenSpec.ofChange inquiryBackSpec)) inquiryBackCard

/-- THE SECOND FORM's CARD OF 'cloaklaw06.ShowForks'. -/
def showForksUptoCard : Claim7 := { stood := { row := showForksUptoRow, standIns := [], harness := (true, "eeccf68ddf7184f0f4b3baed0ab0eb063145ec41ffebbb6fe112b9e18002e6bf"), looks := true }, kinds := [], alts := [], laidByText := true, laidKinds := [.data], laidTests := true, laidLooks := .later }
def ShowForksUptoCardSaid : Prop := Claim7.holds Tryd.pinned (.plain (OpenSpec.upto showForksSpec)) showForksUptoCard

/-- THE SECOND FORM's CARD OF 'cloaklaw06.ShowRevokes'. -/
def showRevokesUptoCard : Claim7 := { stood := { row := showRevokesUptoRow, standIns := [], harness := (true, "eeccf68ddf7184f0f4b3baed0ab0eb063145ec41ffebbb6fe112b9e18002e6bf"), looks := true }, kinds := [], alts := [], laidByText := true, laidKinds := [.data], laidTests := true, laidLooks := .later }
def ShowRevokesUptoCardSaid : Prop := Claim7.holds Tryd.pinned (.plain (OpenSpec.upto showRevokesSpec)) showRevokesUptoCard

/-- THE SECOND FORM's CARD OF 'cloaklaw06.ShowEscrow'. -/
def showEscrowUptoCard : Claim7 := { stood := { row := showEscrowUptoRow, standIns := [], harness := (true, "eeccf68ddf7184f0f4b3baed0ab0eb063145ec41ffebbb6fe112b9e18002e6bf"), looks := true }, kinds := [], alts := [], laidByText := true, laidKinds := [.data], laidTests := true, laidLooks := .later }
def ShowEscrowUptoCardSaid : Prop := Claim7.holds Tryd.pinned (.plain (OpenSpec.upto showEscrowSpec)) showEscrowUptoCard

/-- THE SECOND FORM's CARD OF 'cloaklaw10.InquirySeats'. -/
def inquirySeatsUptoCard : Claim7 := { stood := { row := inquirySeatsUptoRow, standIns := [], harness := (true, "eeccf68ddf7184f0f4b3baed0ab0eb063145ec41ffebbb6fe112b9e18002e6bf"), looks := true }, kinds := [], alts := [], laidByText := true, laidKinds := [.data, .data, .data, .sentinel, .sentinel], laidTests := true, laidLooks := .later }
def InquirySeatsUptoCardSaid : Prop := Claim7.holds Tryd.pinned (.plain (OpenSpec.upto inquirySeatsSpec)) inquirySeatsUptoCard

/-- THE SECOND FORM's CARD OF 'cloaklaw10.InquiryBack'. -/
def inquiryBackUptoCard : Claim7 := { stood := { row := inquiryBackUptoRow, standIns := [], harness := (true, "eeccf68ddf7184f0f4b3baed0ab0eb063145ec41ffebbb6fe112b9e18002e6bf"), looks := true }, kinds := [], alts := [], laidByText := true, laidKinds := [.data, .data, .data, .sentinel, .sentinel], laidTests := true, laidLooks := .later }
def InquiryBackUptoCardSaid : Prop := Claim7.holds Tryd.pinned (.plain (OpenSpec.upto inquiryBackSpec)) inquiryBackUptoCard
end Rows
end Go.Proofs.YtabiklpemoijcaaDoor
