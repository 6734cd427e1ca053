/-
  DERIVED. GIVEN WITH THE SEED: THE CARDS: each row of YtmlmiboihjibiaaDoorRows.lean that lists a variable, with what it lists TIED to the program's text (the seventh form; the later family's looks); each row that meets fmt, with fmt's text TOLD by the authors' own Lean function (tested against real Go, not proved from fmt's source: count such statements apart). THE CARD IS WHAT COUNTS. Prove the row's statement (the work); the ties are given (YtmlmiboihjibiaaDoorTie.lean); close each card by the builder's one call (the guide's Derived/Test/ToyasCard.lean, 'card_holds'). Laid BY PROGRAM, IN A SANDBOX (cutbox-door.mjs). By AI agents, Wed Nov 11 2026. No macro, syntax, notation, axiom, sorry.
-/
import Derived.Test.YtmlmiboihjibiaaDoorRows
import GoSem.ClaimSeven
namespace Go.Proofs.YtmlmiboihjibiaaDoor
namespace Rows

/-- THE TIED CARD OF 'springhouselaw.TextSum'. -/
def textSumCard : Claim7 := { stood := { row := textSumRow, standIns := [], harness := (true, "f4815a2d89ba4a63ae8f13579dec1be1bf8c9278e32e69648e2086083cb4030b"), looks := true }, kinds := [], alts := [], laidByText := true, laidKinds := [.data, .data, .data, .sentinel, .sentinel], laidTests := true, laidLooks := .later }
def TextSumCardSaid : Prop := Claim7.holds Tryd.pinned (.plain (OpenSpec.ofChange textSumSpec)) textSumCard

/-- THE TIED CARD OF 'springhouselaw.TextTells'. -/
def textTellsCard : Claim7 := { stood := { row := textTellsRow, standIns := [], harness := (true, "f4815a2d89ba4a63ae8f13579dec1be1bf8c9278e32e69648e2086083cb4030b"), looks := true }, kinds := [], alts := [], laidByText := true, laidKinds := [.data, .data, .data, .sentinel, .sentinel], laidTests := true, laidLooks := .later }
def TextTellsCardSaid : Prop := Claim7.holds Tryd.pinned (.plain (OpenSpec.ofChange textTellsSpec)) textTellsCard

/-- THE TIED CARD OF 'springhouselaw.TextBehind'. -/
def textBehindCard : Claim7 := { stood := { row := textBehindRow, standIns := [], harness := (true, "f4815a2d89ba4a63ae8f13579dec1be1bf8c9278e32e69648e2086083cb4030b"), looks := true }, kinds := [], alts := [], laidByText := true, laidKinds := [.data, .data, .data, .sentinel, .sentinel], laidTests := true, laidLooks := .later }
def TextBehindCardSaid : Prop := Claim7.holds Tryd.pinned (.plain (OpenSpec.ofChange textBehindSpec)) textBehindCard

/-- THE SECOND FORM's CARD OF 'springhouselaw.TextSum'. -/
def textSumUptoCard : Claim7 := { stood := { row := textSumUptoRow, standIns := [], harness := (true, "f4815a2d89ba4a63ae8f13579dec1be1bf8c9278e32e69648e2086083cb4030b"), looks := true }, kinds := [], alts := [], laidByText := true, laidKinds := [.data, .data, .data, .sentinel, .sentinel], laidTests := true, laidLooks := .later }
def TextSumUptoCardSaid : Prop := Claim7.holds Tryd.pinned (.plain (OpenSpec.upto textSumSpec)) textSumUptoCard

/-- THE SECOND FORM's CARD OF 'springhouselaw.TextTells'. -/
def textTellsUptoCard : Claim7 := { stood := { row := textTellsUptoRow, standIns := [], harness := (true, "f4815a2d89ba4a63ae8f13579dec1be1bf8c9278e32e69648e2086083cb4030b"), looks := true }, kinds := [], alts := [], laidByText := true, laidKinds := [.data, .data, .data, .sentinel, .sentinel], laidTests := true, laidLooks := .later }
def TextTellsUptoCardSaid : Prop := Claim7.holds Tryd.pinned (.plain (OpenSpec.upto textTellsSpec)) textTellsUptoCard

/-- THE SECOND FORM's CARD OF 'springhouselaw.TextBehind'. -/
def textBehindUptoCard : Claim7 := { stood := { row := textBehindUptoRow, standIns := [], harness := (true, "f4815a2d89ba4a63ae8f13579dec1be1bf8c9278e32e69648e2086083cb4030b"), looks := true }, kinds := [], alts := [], laidByText := true, laidKinds := [.data, .data, .data, .sentinel, .sentinel], laidTests := true, laidLooks := .later }
def TextBehindUptoCardSaid : Prop := Claim7.holds Tryd.pinned (.plain (OpenSpec.upto textBehindSpec)) textBehindUptoCard
end Rows
end Go.Proofs.YtmlmiboihjibiaaDoor
