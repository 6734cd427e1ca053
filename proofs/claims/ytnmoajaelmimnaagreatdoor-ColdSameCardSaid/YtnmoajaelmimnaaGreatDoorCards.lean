/-
  DERIVED. GIVEN WITH THE SEED: THE CARDS: each row of YtnmoajaelmimnaaGreatDoorRows.lean that lists a variable, with what it lists TIED to the program's text (the seventh form; the later family's looks); each row that meets fmt, with fmt's text TOLD by the authors' own Lean function (tested against real Go, not proved from fmt's source: count such statements apart). THE CARD IS WHAT COUNTS. Prove the row's statement (the work); the ties are given (YtnmoajaelmimnaaGreatDoorTie.lean); close each card by the builder's one call (the guide's Derived/Test/ToyasCard.lean, 'card_holds'). Laid BY PROGRAM, IN A SANDBOX (cutbox-door.mjs). By AI agents, Wed Nov 11 2026. No macro, syntax, notation, axiom, sorry.
-/
import Derived.Test.YtnmoajaelmimnaaGreatDoorRows
import GoSem.ClaimSeven
namespace Go.Proofs.YtnmoajaelmimnaaGreatDoor
namespace Rows

/-- THE TIED CARD OF 'springhouselaw.EngineDoes'. -/
def engineDoesCard : Claim7 := { stood := { row := engineDoesRow, standIns := [], harness := (true, "6a187177ccc41384e8a3df847eaf5ca559a61448f31fbcceafa68f5611f48f7d"), looks := true }, kinds := [], alts := [], laidByText := true, laidKinds := [.data, .data, .data, .sentinel, .sentinel], laidTests := true, laidLooks := .later }
def EngineDoesCardSaid : Prop := Claim7.holds Tryz.pinned (.plain (OpenSpec.ofChange engineDoesSpec)) engineDoesCard

/-- THE TIED CARD OF 'springhouselaw.ColdTells'. -/
def coldTellsCard : Claim7 := { stood := { row := coldTellsRow, standIns := [], harness := (true, "6a187177ccc41384e8a3df847eaf5ca559a61448f31fbcceafa68f5611f48f7d"), looks := true }, kinds := [], alts := [], laidByText := true, laidKinds := [.data, .data, .data, .sentinel, .sentinel], laidTests := true, laidLooks := .later }
def ColdTellsCardSaid : Prop := Claim7.holds Tryz.pinned (.plain (OpenSpec.ofChange coldTellsSpec)) coldTellsCard

/-- THE TIED CARD OF 'springhouselaw.ColdSame'. -/
def coldSameCard : Claim7 := { stood := { row := coldSameRow, standIns := [], harness := (true, "6a187177ccc41384e8a3df847eaf5ca559a61448f31fbcceafa68f5611f48f7d"), looks := true }, kinds := [], alts := [], laidByText := true, laidKinds := [.data, .data, .data, .sentinel, .sentinel], laidTests := true, laidLooks := .later }
def ColdSameCardSaid : Prop := Claim7.holds Tryz.pinned (.plain (OpenSpec.ofChange coldSameSpec)) coldSameCard

/-- THE SECOND FORM's CARD OF 'springhouselaw.EngineDoes'. -/
def engineDoesUptoCard : Claim7 := { stood := { row := engineDoesUptoRow, standIns := [], harness := (true, "6a187177ccc41384e8a3df847eaf5ca559a61448f31fbcceafa68f5611f48f7d"), looks := true }, kinds := [], alts := [], laidByText := true, laidKinds := [.data, .data, .data, .sentinel, .sentinel], laidTests := true, laidLooks := .later }
def EngineDoesUptoCardSaid : Prop := Claim7.holds Tryz.pinned (.plain (OpenSpec.upto engineDoesSpec)) engineDoesUptoCard

/-- THE SECOND FORM's CARD OF 'springhouselaw.ColdTells'. -/
def coldTellsUptoCard : Claim7 := { stood := { row := coldTellsUptoRow, standIns := [], harness := (true, "6a187177ccc41384e8a3df847eaf5ca559a61448f31fbcceafa68f5611f48f7d"), looks := true }, kinds := [], alts := [], laidByText := true, laidKinds := [.data, .data, .data, .sentinel, .sentinel], laidTests := true, laidLooks := .later }
def ColdTellsUptoCardSaid : Prop := Claim7.holds Tryz.pinned (.plain (OpenSpec.upto coldTellsSpec)) coldTellsUptoCard

/-- THE SECOND FORM's CARD OF 'springhouselaw.ColdSame'. -/
def coldSameUptoCard : Claim7 := { stood := { row := coldSameUptoRow, standIns := [], harness := (true, "6a187177ccc41384e8a3df847eaf5ca559a61448f31fbcceafa68f5611f48f7d"), looks := true }, kinds := [], alts := [], laidByText := true, laidKinds := [.data, .data, .data, .sentinel, .sentinel], laidTests := true, laidLooks := .later }
def ColdSameUptoCardSaid : Prop := Claim7.holds Tryz.pinned (.plain (OpenSpec.upto coldSameSpec)) coldSameUptoCard
end Rows
end Go.Proofs.YtnmoajaelmimnaaGreatDoor
