/-
  DERIVED. GIVEN WITH THE SEED: THE CARDS: each row of YtmkhmejempcimaaGreatDoorRows.lean that lists a variable, with what it lists TIED to the program's text (the seventh form; the later family's looks); each row that meets fmt, with fmt's text TOLD by the authors' own Lean function (tested against real Go, not proved from fmt's source: count such statements apart). THE CARD IS WHAT COUNTS. Prove the row's statement (the work); the ties are given (YtmkhmejempcimaaGreatDoorTie.lean); close each card by the builder's one call (the guide's Derived/Test/ToyasCard.lean, 'card_holds'). Laid BY PROGRAM, IN A SANDBOX (cutbox-door.mjs). By AI agents, Wed Nov 11 2026. No macro, syntax, notation, axiom, sorry.
-/
import Derived.Test.YtmkhmejempcimaaGreatDoorRows
import GoSem.ClaimSeven
namespace Go.Proofs.YtmkhmejempcimaaGreatDoor
namespace Rows

/-- THE TIED CARD OF 'springhouselaw.ColdUnseen'. -/
def coldUnseenCard : Claim7 := { stood := { row := coldUnseenRow, standIns := [], harness := (true, "2f949e261dc98569e0f1e3a4f23819346fde86233a73e758797fa789c2750dc8"), looks := true }, kinds := [], alts := [], laidByText := true, laidKinds := [.data, .data, .data, .sentinel, .sentinel], laidTests := true, laidLooks := .later }
def ColdUnseenCardSaid : Prop := Claim7.holds Tryz.pinned (.plain (OpenSpec.ofChange coldUnseenSpec)) coldUnseenCard

/-- THE TIED CARD OF 'springhouselaw.ColdGathers'. -/
def coldGathersCard : Claim7 := { stood := { row := coldGathersRow, standIns := [], harness := (true, "2f949e261dc98569e0f1e3a4f23819346fde86233a73e758797fa789c2750dc8"), looks := true }, kinds := [], alts := [], laidByText := true, laidKinds := [.data, .data, .data, .sentinel, .sentinel], laidTests := true, laidLooks := .later }
def ColdGathersCardSaid : Prop := Claim7.holds Tryz.pinned (.plain (OpenSpec.ofChange coldGathersSpec)) coldGathersCard

/-- THE TIED CARD OF 'springhouselaw.ColdSame'. -/
def coldSameCard : Claim7 := { stood := { row := coldSameRow, standIns := [], harness := (true, "2f949e261dc98569e0f1e3a4f23819346fde86233a73e758797fa789c2750dc8"), looks := true }, kinds := [], alts := [], laidByText := true, laidKinds := [.data, .data, .data, .sentinel, .sentinel], laidTests := true, laidLooks := .later }
def ColdSameCardSaid : Prop := Claim7.holds Tryz.pinned (.plain (OpenSpec.ofChange coldSameSpec)) coldSameCard

/-- THE SECOND FORM's CARD OF 'springhouselaw.ColdUnseen'. -/
def coldUnseenUptoCard : Claim7 := { stood := { row := coldUnseenUptoRow, standIns := [], harness := (true, "2f949e261dc98569e0f1e3a4f23819346fde86233a73e758797fa789c2750dc8"), looks := true }, kinds := [], alts := [], laidByText := true, laidKinds := [.data, .data, .data, .sentinel, .sentinel], laidTests := true, laidLooks := .later }
def ColdUnseenUptoCardSaid : Prop := Claim7.holds Tryz.pinned (.plain (OpenSpec.upto coldUnseenSpec)) coldUnseenUptoCard

/-- THE SECOND FORM's CARD OF 'springhouselaw.ColdGathers'. -/
def coldGathersUptoCard : Claim7 := { stood := { row := coldGathersUptoRow, standIns := [], harness := (true, "2f949e261dc98569e0f1e3a4f23819346fde86233a73e758797fa789c2750dc8"), looks := true }, kinds := [], alts := [], laidByText := true, laidKinds := [.data, .data, .data, .sentinel, .sentinel], laidTests := true, laidLooks := .later }
def ColdGathersUptoCardSaid : Prop := Claim7.holds Tryz.pinned (.plain (OpenSpec.upto coldGathersSpec)) coldGathersUptoCard

/-- THE SECOND FORM's CARD OF 'springhouselaw.ColdSame'. -/
def coldSameUptoCard : Claim7 := { stood := { row := coldSameUptoRow, standIns := [], harness := (true, "2f949e261dc98569e0f1e3a4f23819346fde86233a73e758797fa789c2750dc8"), looks := true }, kinds := [], alts := [], laidByText := true, laidKinds := [.data, .data, .data, .sentinel, .sentinel], laidTests := true, laidLooks := .later }
def ColdSameUptoCardSaid : Prop := Claim7.holds Tryz.pinned (.plain (OpenSpec.upto coldSameSpec)) coldSameUptoCard
end Rows
end Go.Proofs.YtmkhmejempcimaaGreatDoor
