/-
  DERIVED. GIVEN WITH THE SEED: THE CARDS: each row of YtcidfldeiklcjaaGreatDoorRows.lean that lists a variable, with what it lists TIED to the program's text (the seventh form; the later family's looks); each row that meets fmt, with fmt's text TOLD by the authors' own Lean function (tested against real Go, not proved from fmt's source: count such statements apart). THE CARD IS WHAT COUNTS. Prove the row's statement (the work); the ties are given (YtcidfldeiklcjaaGreatDoorTie.lean); close each card by the builder's one call (the guide's Derived/Test/ToyasCard.lean, 'card_holds'). Laid BY PROGRAM, IN A SANDBOX (cutbox-door.mjs). By AI agents, Wed Nov 11 2026. No macro, syntax, notation, axiom, sorry.
-/
import Derived.Test.YtcidfldeiklcjaaGreatDoorRows
import GoSem.ClaimSeven
namespace Go.Proofs.YtcidfldeiklcjaaGreatDoor
namespace Rows

/-- THE TIED CARD OF 'cloaklaw08.GateTimes'. -/
def gateTimesCard : Claim7 := { stood := { row := gateTimesRow, standIns := [], harness := (true, "3e3cf3d6ce7adf90768eadf896c9555cc45f0b1b3b15efeef0c59c764ae73d49"), looks := true }, kinds := [], alts := [], laidByText := true, laidKinds := [.data, .data, .data, .sentinel, .sentinel], laidTests := true, laidLooks := .later }
def GateTimesCardSaid : Prop := Claim7.holds Tryz.pinned (.plain (OpenSpec.ofChange gateTimesSpec)) gateTimesCard

/-- THE TIED CARD OF 'cloaklaw08.GateBounds'. -/
def gateBoundsCard : Claim7 := { stood := { row := gateBoundsRow, standIns := [], harness := (true, "3e3cf3d6ce7adf90768eadf896c9555cc45f0b1b3b15efeef0c59c764ae73d49"), looks := true }, kinds := [], alts := [], laidByText := true, laidKinds := [.data, .data, .data, .sentinel, .sentinel], laidTests := true, laidLooks := .later }
def GateBoundsCardSaid : Prop := Claim7.holds Tryz.pinned (.plain (OpenSpec.ofChange gateBoundsSpec)) gateBoundsCard

/-- THE TIED CARD OF 'cloaklaw08.GateCycles'. -/
def gateCyclesCard : Claim7 := { stood := { row := gateCyclesRow, standIns := [], harness := (true, "3e3cf3d6ce7adf90768eadf896c9555cc45f0b1b3b15efeef0c59c764ae73d49"), looks := true }, kinds := [], alts := [], laidByText := true, laidKinds := [.data, .data, .data, .sentinel, .sentinel], laidTests := true, laidLooks := .later }
def GateCyclesCardSaid : Prop := Claim7.holds Tryz.pinned (.plain (OpenSpec.ofChange gateCyclesSpec)) gateCyclesCard

/-- THE SECOND FORM's CARD OF 'cloaklaw08.GateTimes'. -/
def gateTimesUptoCard : Claim7 := { stood := { row := gateTimesUptoRow, standIns := [], harness := (true, "3e3cf3d6ce7adf90768eadf896c9555cc45f0b1b3b15efeef0c59c764ae73d49"), looks := true }, kinds := [], alts := [], laidByText := true, laidKinds := [.data, .data, .data, .sentinel, .sentinel], laidTests := true, laidLooks := .later }
def GateTimesUptoCardSaid : Prop := Claim7.holds Tryz.pinned (.plain (OpenSpec.upto gateTimesSpec)) gateTimesUptoCard

/-- THE SECOND FORM's CARD OF 'cloaklaw08.GateBounds'. -/
def gateBoundsUptoCard : Claim7 := { stood := { row := gateBoundsUptoRow, standIns := [], harness := (true, "3e3cf3d6ce7adf90768eadf896c9555cc45f0b1b3b15efeef0c59c764ae73d49"), looks := true }, kinds := [], alts := [], laidByText := true, laidKinds := [.data, .data, .data, .sentinel, .sentinel], laidTests := true, laidLooks := .later }
def GateBoundsUptoCardSaid : Prop := Claim7.holds Tryz.pinned (.plain (OpenSpec.upto gateBoundsSpec)) gateBoundsUptoCard

/-- THE SECOND FORM's CARD OF 'cloaklaw08.GateCycles'. -/
def gateCyclesUptoCard : Claim7 := { stood := { row := gateCyclesUptoRow, standIns := [], harness := (true, "3e3cf3d6ce7adf90768eadf896c9555cc45f0b1b3b15efeef0c59c764ae73d49"), looks := true }, kinds := [], alts := [], laidByText := true, laidKinds := [.data, .data, .data, .sentinel, .sentinel], laidTests := true, laidLooks := .later }
def GateCyclesUptoCardSaid : Prop := Claim7.holds Tryz.pinned (.plain (OpenSpec.upto gateCyclesSpec)) gateCyclesUptoCard
end Rows
end Go.Proofs.YtcidfldeiklcjaaGreatDoor
