/-
  DERIVED. GIVEN WITH THE SEED: THE CARDS: each row of YtmalkppcahogjaaGreatDoorRows.lean that lists a variable, with what it lists TIED to the program's text (the seventh form; the later family's looks); each row that meets fmt, with fmt's text TOLD by the authors' own Lean function (tested against real Go, not proved from fmt's source: count such statements apart). THE CARD IS WHAT COUNTS. Prove the row's statement (the work); the ties are given (YtmalkppcahogjaaGreatDoorTie.lean); close each card by the builder's one call (the guide's Derived/Test/ToyasCard.lean, 'card_holds'). Laid BY PROGRAM, IN A SANDBOX (cutbox-door.mjs). By AI agents, Wed Nov 11 2026. No macro, syntax, notation, axiom, sorry.
-/
import Derived.Test.YtmalkppcahogjaaGreatDoorRows
import GoSem.ClaimSeven
namespace Go.Proofs.YtmalkppcahogjaaGreatDoor
namespace Rows

/-- THE TIED CARD OF 'springhouselaw.EngineDoes'. -/
def engineDoesCard : Claim7 := { stood := { row := engineDoesRow, standIns := [], harness := (true, "fc8ff46b6b56cf16ce582fca0c8d0b28f9454fa808c7070bd2d4b9da33a2f7c4"), looks := true }, kinds := [], alts := [], laidByText := true, laidKinds := [.data, .data, .data, .sentinel, .sentinel], laidTests := true, laidLooks := .later }
def EngineDoesCardSaid : Prop := Claim7.holds Tryz.pinned (.plain (OpenSpec.ofChange engineDoesSpec)) engineDoesCard

/-- THE TIED CARD OF 'springhouselaw.ColdTells'. -/
def coldTellsCard : Claim7 := { stood := { row := coldTellsRow, standIns := [], harness := (true, "fc8ff46b6b56cf16ce582fca0c8d0b28f9454fa808c7070bd2d4b9da33a2f7c4"), looks := true }, kinds := [], alts := [], laidByText := true, laidKinds := [.data, .data, .data, .sentinel, .sentinel], laidTests := true, laidLooks := .later }
def ColdTellsCardSaid : Prop := Claim7.holds Tryz.pinned (.plain (OpenSpec.ofChange coldTellsSpec)) coldTellsCard

/-- THE TIED CARD OF 'springhouselaw.ColdUnseen'. -/
def coldUnseenCard : Claim7 := { stood := { row := coldUnseenRow, standIns := [], harness := (true, "fc8ff46b6b56cf16ce582fca0c8d0b28f9454fa808c7070bd2d4b9da33a2f7c4"), looks := true }, kinds := [], alts := [], laidByText := true, laidKinds := [.data, .data, .data, .sentinel, .sentinel], laidTests := true, laidLooks := .later }
def ColdUnseenCardSaid : Prop := Claim7.holds Tryz.pinned (.plain (OpenSpec.ofChange coldUnseenSpec)) coldUnseenCard

/-- THE TIED CARD OF 'springhouselaw.ColdDoes'. -/
def coldDoesCard : Claim7 := { stood := { row := coldDoesRow, standIns := [], harness := (true, "fc8ff46b6b56cf16ce582fca0c8d0b28f9454fa808c7070bd2d4b9da33a2f7c4"), looks := true }, kinds := [], alts := [], laidByText := true, laidKinds := [.data, .data, .data, .sentinel, .sentinel], laidTests := true, laidLooks := .later }
def ColdDoesCardSaid : Prop := Claim7.holds Tryz.pinned (.plain (OpenSpec.ofChange coldDoesSpec)) coldDoesCard

/-- THE TIED CARD OF 'springhouselaw.ColdGathers'. -/
def coldGathersCard : Claim7 := { stood := { row := coldGathersRow, standIns := [], harness := (true, "fc8ff46b6b56cf16ce582fca0c8d0b28f9454fa808c7070bd2d4b9da33a2f7c4"), looks := true }, kinds := [], alts := [], laidByText := true, laidKinds := [.data, .data, .data, .sentinel, .sentinel], laidTests := true, laidLooks := .later }
def ColdGathersCardSaid : Prop := Claim7.holds Tryz.pinned (.plain (OpenSpec.ofChange coldGathersSpec)) coldGathersCard

/-- THE TIED CARD OF 'springhouselaw.ColdSame'. -/
def coldSameCard : Claim7 := { stood := { row := coldSameRow, standIns := [], harness := (true, "fc8ff46b6b56cf16ce582fca0c8d0b28f9454fa808c7070bd2d4b9da33a2f7c4"), looks := true }, kinds := [], alts := [], laidByText := true, laidKinds := [.data, .data, .data, .sentinel, .sentinel], laidTests := true, laidLooks := .later }
def ColdSameCardSaid : Prop := Claim7.holds Tryz.pinned (.plain (OpenSpec.ofChange coldSameSpec)) coldSameCard

/-- THE TIED CARD OF 'springhouselaw.EngineReads'. -/
def engineReadsCard : Claim7 := { stood := { row := engineReadsRow, standIns := [], harness := (true, "fc8ff46b6b56cf16ce582fca0c8d0b28f9454fa808c7070bd2d4b9da33a2f7c4"), looks := true }, kinds := [], alts := [], laidByText := true, laidKinds := [.data, .data, .data, .sentinel, .sentinel], laidTests := true, laidLooks := .later }
def EngineReadsCardSaid : Prop := Claim7.holds Tryz.pinned (.plain (OpenSpec.ofChange engineReadsSpec)) engineReadsCard

/-- THE SECOND FORM's CARD OF 'springhouselaw.EngineDoes'. -/
def engineDoesUptoCard : Claim7 := { stood := { row := engineDoesUptoRow, standIns := [], harness := (true, "fc8ff46b6b56cf16ce582fca0c8d0b28f9454fa808c7070bd2d4b9da33a2f7c4"), looks := true }, kinds := [], alts := [], laidByText := true, laidKinds := [.data, .data, .data, .sentinel, .sentinel], laidTests := true, laidLooks := .later }
def EngineDoesUptoCardSaid : Prop := Claim7.holds Tryz.pinned (.plain (OpenSpec.upto engineDoesSpec)) engineDoesUptoCard

/-- THE SECOND FORM's CARD OF 'springhouselaw.ColdTells'. -/
def coldTellsUptoCard : Claim7 := { stood := { row := coldTellsUptoRow, standIns := [], harness := (true, "fc8ff46b6b56cf16ce582fca0c8d0b28f9454fa808c7070bd2d4b9da33a2f7c4"), looks := true }, kinds := [], alts := [], laidByText := true, laidKinds := [.data, .data, .data, .sentinel, .sentinel], laidTests := true, laidLooks := .later }
def ColdTellsUptoCardSaid : Prop := Claim7.holds Tryz.pinned (.plain (OpenSpec.upto coldTellsSpec)) coldTellsUptoCard

/-- THE SECOND FORM's CARD OF 'springhouselaw.ColdUnseen'. -/
def coldUnseenUptoCard : Claim7 := { stood := { row := coldUnseenUptoRow, standIns := [], harness := (true, "fc8ff46b6b56cf16ce582fca0c8d0b28f9454fa808c7070bd2d4b9da33a2f7c4"), looks := true }, kinds := [], alts := [], laidByText := true, laidKinds := [.data, .data, .data, .sentinel, .sentinel], laidTests := true, laidLooks := .later }
def ColdUnseenUptoCardSaid : Prop := Claim7.holds Tryz.pinned (.plain (OpenSpec.upto coldUnseenSpec)) coldUnseenUptoCard

/-- THE SECOND FORM's CARD OF 'springhouselaw.ColdDoes'. -/
def coldDoesUptoCard : Claim7 := { stood := { row := coldDoesUptoRow, standIns := [], harness := (true, "fc8ff46b6b56cf16ce582fca0c8d0b28f9454fa808c7070bd2d4b9da33a2f7c4"), looks := true }, kinds := [], alts := [], laidByText := true, laidKinds := [.data, .data, .data, .sentinel, .sentinel], laidTests := true, laidLooks := .later }
def ColdDoesUptoCardSaid : Prop := Claim7.holds Tryz.pinned (.plain (OpenSpec.upto coldDoesSpec)) coldDoesUptoCard

/-- THE SECOND FORM's CARD OF 'springhouselaw.ColdGathers'. -/
def coldGathersUptoCard : Claim7 := { stood := { row := coldGathersUptoRow, standIns := [], harness := (true, "fc8ff46b6b56cf16ce582fca0c8d0b28f9454fa808c7070bd2d4b9da33a2f7c4"), looks := true }, kinds := [], alts := [], laidByText := true, laidKinds := [.data, .data, .data, .sentinel, .sentinel], laidTests := true, laidLooks := .later }
def ColdGathersUptoCardSaid : Prop := Claim7.holds Tryz.pinned (.plain (OpenSpec.upto coldGathersSpec)) coldGathersUptoCard

/-- THE SECOND FORM's CARD OF 'springhouselaw.ColdSame'. -/
def coldSameUptoCard : Claim7 := { stood := { row := coldSameUptoRow, standIns := [], harness := (true, "fc8ff46b6b56cf16ce582fca0c8d0b28f9454fa808c7070bd2d4b9da33a2f7c4"), looks := true }, kinds := [], alts := [], laidByText := true, laidKinds := [.data, .data, .data, .sentinel, .sentinel], laidTests := true, laidLooks := .later }
def ColdSameUptoCardSaid : Prop := Claim7.holds Tryz.pinned (.plain (OpenSpec.upto coldSameSpec)) coldSameUptoCard

/-- THE SECOND FORM's CARD OF 'springhouselaw.EngineReads'. -/
def engineReadsUptoCard : Claim7 := { stood := { row := engineReadsUptoRow, standIns := [], harness := (true, "fc8ff46b6b56cf16ce582fca0c8d0b28f9454fa808c7070bd2d4b9da33a2f7c4"), looks := true }, kinds := [], alts := [], laidByText := true, laidKinds := [.data, .data, .data, .sentinel, .sentinel], laidTests := true, laidLooks := .later }
def EngineReadsUptoCardSaid : Prop := Claim7.holds Tryz.pinned (.plain (OpenSpec.upto engineReadsSpec)) engineReadsUptoCard
end Rows
end Go.Proofs.YtmalkppcahogjaaGreatDoor
