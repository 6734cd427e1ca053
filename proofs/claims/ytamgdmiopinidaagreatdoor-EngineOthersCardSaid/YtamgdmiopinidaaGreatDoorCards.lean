/-
  DERIVED. GIVEN WITH THE SEED: THE CARDS: each row of YtamgdmiopinidaaGreatDoorRows.lean that lists a variable, with what it lists TIED to the program's text (the seventh form; the later family's looks); each row that meets fmt, with fmt's text TOLD by the authors' own Lean function (tested against real Go, not proved from fmt's source: count such statements apart). THE CARD IS WHAT COUNTS. Prove the row's statement (the work); the ties are given (YtamgdmiopinidaaGreatDoorTie.lean); close each card by the builder's one call (the guide's Derived/Test/ToyasCard.lean, 'card_holds'). Laid BY PROGRAM, IN A SANDBOX (cutbox-door.mjs). By AI agents, Wed Nov 11 2026. No macro, syntax, notation, axiom, sorry.
-/
import Derived.Test.YtamgdmiopinidaaGreatDoorRows
import GoSem.ClaimSeven
namespace Go.Proofs.YtamgdmiopinidaaGreatDoor
namespace Rows

/-- THE TIED CARD OF 'springhouselaw.EngineDoes'. -/
def engineDoesCard : Claim7 := { stood := { row := engineDoesRow, standIns := [], harness := (true, "cb69f1a5002f64140ec79a6779e23704a337498fc08751fb782c044384080797"), looks := true }, kinds := [], alts := [], laidByText := true, laidKinds := [.data, .data, .data, .sentinel, .sentinel], laidTests := true, laidLooks := .later }
def EngineDoesCardSaid : Prop := Claim7.holds Tryz.pinned (.plain (OpenSpec.ofChange engineDoesSpec)) engineDoesCard

/-- THE TIED CARD OF 'springhouselaw.EngineOthers'. -/
def engineOthersCard : Claim7 := { stood := { row := engineOthersRow, standIns := [], harness := (true, "cb69f1a5002f64140ec79a6779e23704a337498fc08751fb782c044384080797"), looks := true }, kinds := [], alts := [], laidByText := true, laidKinds := [.data, .data, .data, .sentinel, .sentinel], laidTests := true, laidLooks := .later }
def EngineOthersCardSaid : Prop := Claim7.holds Tryz.pinned (.plain (OpenSpec.ofChange engineOthersSpec)) engineOthersCard

/-- THE TIED CARD OF 'springhouselaw.EngineTwice'. -/
def engineTwiceCard : Claim7 := { stood := { row := engineTwiceRow, standIns := [], harness := (true, "cb69f1a5002f64140ec79a6779e23704a337498fc08751fb782c044384080797"), looks := true }, kinds := [], alts := [], laidByText := true, laidKinds := [.data, .data, .data, .sentinel, .sentinel], laidTests := true, laidLooks := .later }
def EngineTwiceCardSaid : Prop := Claim7.holds Tryz.pinned (.plain (OpenSpec.ofChange engineTwiceSpec)) engineTwiceCard

/-- THE TIED CARD OF 'springhouselaw.EngineGone'. -/
def engineGoneCard : Claim7 := { stood := { row := engineGoneRow, standIns := [], harness := (true, "cb69f1a5002f64140ec79a6779e23704a337498fc08751fb782c044384080797"), looks := true }, kinds := [], alts := [], laidByText := true, laidKinds := [.data, .data, .data, .sentinel, .sentinel], laidTests := true, laidLooks := .later }
def EngineGoneCardSaid : Prop := Claim7.holds Tryz.pinned (.plain (OpenSpec.ofChange engineGoneSpec)) engineGoneCard

/-- THE TIED CARD OF 'springhouselaw.EngineReads'. -/
def engineReadsCard : Claim7 := { stood := { row := engineReadsRow, standIns := [], harness := (true, "cb69f1a5002f64140ec79a6779e23704a337498fc08751fb782c044384080797"), looks := true }, kinds := [], alts := [], laidByText := true, laidKinds := [.data, .data, .data, .sentinel, .sentinel], laidTests := true, laidLooks := .later }
def EngineReadsCardSaid : Prop := Claim7.holds Tryz.pinned (.plain (OpenSpec.ofChange engineReadsSpec)) engineReadsCard

/-- THE SECOND FORM's CARD OF 'springhouselaw.EngineDoes'. -/
def engineDoesUptoCard : Claim7 := { stood := { row := engineDoesUptoRow, standIns := [], harness := (true, "cb69f1a5002f64140ec79a6779e23704a337498fc08751fb782c044384080797"), looks := true }, kinds := [], alts := [], laidByText := true, laidKinds := [.data, .data, .data, .sentinel, .sentinel], laidTests := true, laidLooks := .later }
def EngineDoesUptoCardSaid : Prop := Claim7.holds Tryz.pinned (.plain (OpenSpec.upto engineDoesSpec)) engineDoesUptoCard

/-- THE SECOND FORM's CARD OF 'springhouselaw.EngineOthers'. -/
def engineOthersUptoCard : Claim7 := { stood := { row := engineOthersUptoRow, standIns := [], harness := (true, "cb69f1a5002f64140ec79a6779e23704a337498fc08751fb782c044384080797"), looks := true }, kinds := [], alts := [], laidByText := true, laidKinds := [.data, .data, .data, .sentinel, .sentinel], laidTests := true, laidLooks := .later }
def EngineOthersUptoCardSaid : Prop := Claim7.holds Tryz.pinned (.plain (OpenSpec.upto engineOthersSpec)) engineOthersUptoCard

/-- THE SECOND FORM's CARD OF 'springhouselaw.EngineTwice'. -/
def engineTwiceUptoCard : Claim7 := { stood := { row := engineTwiceUptoRow, standIns := [], harness := (true, "cb69f1a5002f64140ec79a6779e23704a337498fc08751fb782c044384080797"), looks := true }, kinds := [], alts := [], laidByText := true, laidKinds := [.data, .data, .data, .sentinel, .sentinel], laidTests := true, laidLooks := .later }
def EngineTwiceUptoCardSaid : Prop := Claim7.holds Tryz.pinned (.plain (OpenSpec.upto engineTwiceSpec)) engineTwiceUptoCard

/-- THE SECOND FORM's CARD OF 'springhouselaw.EngineGone'. -/
def engineGoneUptoCard : Claim7 := { stood := { row := engineGoneUptoRow, standIns := [], harness := (true, "cb69f1a5002f64140ec79a6779e23704a337498fc08751fb782c044384080797"), looks := true }, kinds := [], alts := [], laidByText := true, laidKinds := [.data, .data, .data, .sentinel, .sentinel], laidTests := true, laidLooks := .later }
def EngineGoneUptoCardSaid : Prop := Claim7.holds Tryz.pinned (.plain (OpenSpec.upto engineGoneSpec)) engineGoneUptoCard

/-- THE SECOND FORM's CARD OF 'springhouselaw.EngineReads'. -/
def engineReadsUptoCard : Claim7 := { stood := { row := engineReadsUptoRow, standIns := [], harness := (true, "cb69f1a5002f64140ec79a6779e23704a337498fc08751fb782c044384080797"), looks := true }, kinds := [], alts := [], laidByText := true, laidKinds := [.data, .data, .data, .sentinel, .sentinel], laidTests := true, laidLooks := .later }
def EngineReadsUptoCardSaid : Prop := Claim7.holds Tryz.pinned (.plain (OpenSpec.upto engineReadsSpec)) engineReadsUptoCard
end Rows
end Go.Proofs.YtamgdmiopinidaaGreatDoor
