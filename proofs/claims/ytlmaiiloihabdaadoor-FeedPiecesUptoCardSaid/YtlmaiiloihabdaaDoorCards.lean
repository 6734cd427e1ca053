/-
  DERIVED. GIVEN WITH THE SEED: THE CARDS: each row of YtlmaiiloihabdaaDoorRows.lean that lists a variable, with what it lists TIED to the program's text (the seventh form; the later family's looks); each row that meets fmt, with fmt's text TOLD by the authors' own Lean function (tested against real Go, not proved from fmt's source: count such statements apart). THE CARD IS WHAT COUNTS. Prove the row's statement (the work); the ties are given (YtlmaiiloihabdaaDoorTie.lean); close each card by the builder's one call (the guide's Derived/Test/ToyasCard.lean, 'card_holds'). Laid BY PROGRAM, IN A SANDBOX (cutbox-door.mjs). By AI agents, Wed Nov 11 2026. No macro, syntax, notation, axiom, sorry.
-/
import Derived.Test.YtlmaiiloihabdaaDoorRows
import GoSem.ClaimSeven
namespace Go.Proofs.YtlmaiiloihabdaaDoor
namespace Rows

/-- THE TIED CARD OF 'springhouselaw.FeedTells'. -/
def feedTellsCard : Claim7 := { stood := { row := feedTellsRow, standIns := [], harness := (true, "6a26b7d18b705202555b6d6a65050c8b87aaca20945c28095d2cf0dff702c764"), looks := true }, kinds := [], alts := [], laidByText := true, laidKinds := [.data, .data, .data], laidTests := true, laidLooks := .later }
def FeedTellsCardSaid : Prop := Claim7.holds Tryd.pinned (.plain (OpenSpec.ofChange feedTellsSpec)) feedTellsCard

/-- THE TIED CARD OF 'springhouselaw.FeedPieces'. -/
def feedPiecesCard : Claim7 := { stood := { row := feedPiecesRow, standIns := [], harness := (true, "6a26b7d18b705202555b6d6a65050c8b87aaca20945c28095d2cf0dff702c764"), looks := true }, kinds := [], alts := [], laidByText := true, laidKinds := [.data, .data, .data], laidTests := true, laidLooks := .later }
def FeedPiecesCardSaid : Prop := Claim7.holds Tryd.pinned (.plain (OpenSpec.ofChange feedPiecesSpec)) feedPiecesCard

/-- THE TIED CARD OF 'springhouselaw.FeedMany'. -/
def feedManyCard : Claim7 := { stood := { row := feedManyRow, standIns := [], harness := (true, "6a26b7d18b705202555b6d6a65050c8b87aaca20945c28095d2cf0dff702c764"), looks := true }, kinds := [], alts := [], laidByText := true, laidKinds := [.data, .data, .data], laidTests := true, laidLooks := .later }
def FeedManyCardSaid : Prop := Claim7.holds Tryd.pinned (.plain (OpenSpec.ofChange feedManySpec)) feedManyCard

/-- THE TIED CARD OF 'springhouselaw.ReplyTells'. -/
def replyTellsCard : Claim7 := { stood := { row := replyTellsRow, standIns := [], harness := (true, "6a26b7d18b705202555b6d6a65050c8b87aaca20945c28095d2cf0dff702c764"), looks := true }, kinds := [], alts := [], laidByText := true, laidKinds := [.data, .data, .data, .sentinel, .sentinel], laidTests := true, laidLooks := .later }
def ReplyTellsCardSaid : Prop := Claim7.holds Tryd.pinned (.plain (OpenSpec.ofChange replyTellsSpec)) replyTellsCard

/-- THE TIED CARD OF 'springhouselaw.ReplyBack'. -/
def replyBackCard : Claim7 := { stood := { row := replyBackRow, standIns := [], harness := (true, "6a26b7d18b705202555b6d6a65050c8b87aaca20945c28095d2cf0dff702c764"), looks := true }, kinds := [], alts := [], laidByText := true, laidKinds := [.data, .data, .data, .sentinel, .sentinel], laidTests := true, laidLooks := .later }
def ReplyBackCardSaid : Prop := Claim7.holds Tryd.pinned (.plain (OpenSpec.ofChange replyBackSpec)) replyBackCard

/-- THE SECOND FORM's CARD OF 'springhouselaw.FeedTells'. -/
def feedTellsUptoCard : Claim7 := { stood := { row := feedTellsUptoRow, standIns := [], harness := (true, "6a26b7d18b705202555b6d6a65050c8b87aaca20945c28095d2cf0dff702c764"), looks := true }, kinds := [], alts := [], laidByText := true, laidKinds := [.data, .data, .data], laidTests := true, laidLooks := .later }
def FeedTellsUptoCardSaid : Prop := Claim7.holds Tryd.pinned (.plain (OpenSpec.upto feedTellsSpec)) feedTellsUptoCard

/-- THE SECOND FORM's CARD OF 'springhouselaw.FeedPieces'. -/
def feedPiecesUptoCard : Claim7 := { stood := { row := feedPiecesUptoRow, standIns := [], harness := (true, "6a26b7d18b705202555b6d6a65050c8b87aaca20945c28095d2cf0dff702c764"), looks := true }, kinds := [], alts := [], laidByText := true, laidKinds := [.data, .data, .data], laidTests := true, laidLooks := .later }
def FeedPiecesUptoCardSaid : Prop := Claim7.holds Tryd.pinned (.plain (OpenSpec.upto feedPiecesSpec)) feedPiecesUptoCard

/-- THE SECOND FORM's CARD OF 'springhouselaw.FeedMany'. -/
def feedManyUptoCard : Claim7 := { stood := { row := feedManyUptoRow, standIns := [], harness := (true, "6a26b7d18b705202555b6d6a65050c8b87aaca20945c28095d2cf0dff702c764"), looks := true }, kinds := [], alts := [], laidByText := true, laidKinds := [.data, .data, .data], laidTests := true, laidLooks := .later }
def FeedManyUptoCardSaid : Prop := Claim7.holds Tryd.pinned (.plain (OpenSpec.upto feedManySpec)) feedManyUptoCard

/-- THE SECOND FORM's CARD OF 'springhouselaw.ReplyTells'. -/
def replyTellsUptoCard : Claim7 := { stood := { row := replyTellsUptoRow, standIns := [], harness := (true, "6a26b7d18b705202555b6d6a65050c8b87aaca20945c28095d2cf0dff702c764"), looks := true }, kinds := [], alts := [], laidByText := true, laidKinds := [.data, .data, .data, .sentinel, .sentinel], laidTests := true, laidLooks := .later }
def ReplyTellsUptoCardSaid : Prop := Claim7.holds Tryd.pinned (.plain (OpenSpec.upto replyTellsSpec)) replyTellsUptoCard

/-- THE SECOND FORM's CARD OF 'springhouselaw.ReplyBack'. -/
def replyBackUptoCard : Claim7 := { stood := { row := replyBackUptoRow, standIns := [], harness := (true, "6a26b7d18b705202555b6d6a65050c8b87aaca20945c28095d2cf0dff702c764"), looks := true }, kinds := [], alts := [], laidByText := true, laidKinds := [.data, .data, .data, .sentinel, .sentinel], laidTests := true, laidLooks := .later }
def ReplyBackUptoCardSaid : Prop := Claim7.holds Tryd.pinned (.plain (OpenSpec.upto replyBackSpec)) replyBackUptoCard
end Rows
end Go.Proofs.YtlmaiiloihabdaaDoor
