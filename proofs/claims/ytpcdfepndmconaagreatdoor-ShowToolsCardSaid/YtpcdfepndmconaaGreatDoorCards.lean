/-
  DERIVED. GIVEN WITH THE SEED: THE CARDS: each row of YtpcdfepndmconaaGreatDoorRows.lean that lists a variable, with what it lists TIED to the program's text (the seventh form; the later family's looks); each row that meets fmt, with fmt's text TOLD by the authors' own Lean function (tested against real Go, not proved from fmt's source: count such statements apart). THE CARD IS WHAT COUNTS. Prove the row's statement (the work); the ties are given (YtpcdfepndmconaaGreatDoorTie.lean); close each card by the builder's one call (the guide's Derived/Test/ToyasCard.lean, 'card_holds'). Laid BY PROGRAM, IN A SANDBOX (cutbox-door.mjs). By AI agents, Wed Nov 11 2026. No macro, syntax, notation, axiom, sorry.
-/
import Derived.Test.YtpcdfepndmconaaGreatDoorRows
import GoSem.ClaimSeven
namespace Go.Proofs.YtpcdfepndmconaaGreatDoor
namespace Rows

/-- THE TIED CARD OF 'cloaklaw10.InquiryForms'. -/
def inquiryFormsCard : Claim7 := { stood := { row := inquiryFormsRow, standIns := [], harness := (true, "3070c4e11a001fddbe315f4568a5920462530345e8883f6cf7bd4c84a5a915db"), looks := true }, kinds := [], alts := [], laidByText := true, laidKinds := [.data, .data, .data, .sentinel, .sentinel], laidTests := true, laidLooks := .later }
def InquiryFormsCardSaid : Prop := Claim7.holds Tryz.pinned (.plain (OpenSpec.ofChange inquiryFormsSpec)) inquiryFormsCard

/-- THE TIED CARD OF 'cloaklaw06.ShowTools'. -/
def showToolsCard : Claim7 := { stood := { row := showToolsRow, standIns := [], harness := (true, "3070c4e11a001fddbe315f4568a5920462530345e8883f6cf7bd4c84a5a915db"), looks := true }, kinds := [], alts := [], laidByText := true, laidKinds := [.data, .data, .data, .sentinel, .sentinel], laidTests := true, laidLooks := .later }
def ShowToolsCardSaid : Prop := Claim7.holds Tryz.pinned (.plain (OpenSpec.ofChange showToolsSpec)) showToolsCard

/-- THE SECOND FORM's CARD OF 'cloaklaw10.InquiryForms'. -/
def inquiryFormsUptoCard : Claim7 := { stood := { row := inquiryFormsUptoRow, standIns := [], harness := (true, "3070c4e11a001fddbe315f4568a5920462530345e8883f6cf7bd4c84a5a915db"), looks := true }, kinds := [], alts := [], laidByText := true, laidKinds := [.data, .data, .data, .sentinel, .sentinel], laidTests := true, laidLooks := .later }
def InquiryFormsUptoCardSaid : Prop := Claim7.holds Tryz.pinned (.plain (OpenSpec.upto inquiryFormsSpec)) inquiryFormsUptoCard

/-- THE SECOND FORM's CARD OF 'cloaklaw06.ShowTools'. -/
def showToolsUptoCard : Claim7 := { stood := { row := showToolsUptoRow, standIns := [], harness := (true, "3070c4e11a001fddbe315f4568a5920462530345e8883f6cf7bd4c84a5a915db"), looks := true }, kinds := [], alts := [], laidByText := true, laidKinds := [.data, .data, .data, .sentinel, .sentinel], laidTests := true, laidLooks := .later }
def ShowToolsUptoCardSaid : Prop := Claim7.holds Tryz.pinned (.plain (OpenSpec.upto showToolsSpec)) showToolsUptoCard
end Rows
end Go.Proofs.YtpcdfepndmconaaGreatDoor
