/-
  No cell of these rows narrows 'for every input' (looked for: loops, veiled, ifaces, maps, wideKeys, modest, calm, conditions, laid).
  DERIVED. THE GIVEN ROWS OF THIS SEAT. 8 by the template 'for every input the law returns true; each argument reads behind the call as it read before'; 0 by the template 'total and deterministic' (their statements: YtmlmiboihjibiaaTotals.lean).
  GIVEN WITH THE SEED: the statements are not yours to turn. If you find one false, say at which input.
  Laid BY PROGRAM, IN A SANDBOX (cutbox-rows.mjs): the forced cells as the released guide's own fill.sh prints them over the translation e0551b9280385c4e… (all of the seat's roots in one cut). By AI agents, Wed Nov 11 2026. No macro, syntax, notation, axiom, sorry.
-/
import Derived.Test.YtmlmiboihjibiaaChecked
import GoSem.Claim
import GoSem.ClaimJoined
import GoSem.ClaimMapViews
import Derived.JoinedTies
import Derived.KernelRfl
namespace Go.Proofs.Ytmlmiboihjibiaa
/- THE CELL 'sum', in the pinned program and in every row, IS THE sha256 OF THE DUMP (.gsa) THAT YtmlmiboihjibiaaProg.lean LOADS. Nothing in Lean hashes anything: it is a label: what it is worth is what the hold of that sum in a sandbox is worth. -/
noncomputable def Try.pinned : Pinned := { name := "ytmlmiboihjibiaa", sum := "e0551b9280385c4e2880119d67abbdfc019a4736a0f22db57320a238b5462a6f", checked := Try.checked }
namespace Rows
def none {H : Type} : Left H := { results := [], args := [] }

/-- 'springhouselaw.ScoreTells': WHATEVER THE INPUT: true; the input reads as it did. -/
def scoreTellsSpec : ChangeSpec := { name := "scoreTells", fn := fun _ => fun
  | [d1, d2, d3, d4, d5, d6] => { results := [.lit (.bool true)], args := [d1, d2, d3, d4, d5, d6] }
  | _ => none }
def scoreTellsRow : OpenClaim := { program := "ytmlmiboihjibiaa", sum := "e0551b9280385c4e2880119d67abbdfc019a4736a0f22db57320a238b5462a6f", func := "springhouse/springhouselaw.ScoreTells", spec := "scoreTells", inPlace := ["internal/bytealg.abigen_runtime_cmpstring", "slices.overlaps[springhouse/api.Score]"], unfollowed := true, recurses := true, apart := false }
def ScoreTellsSaid : Prop := scoreTellsRow.holds Try.pinned (OpenSpec.ofChange scoreTellsSpec)

/-- ITS FALSE NEIGHBOUR: 'it returns false'. Refute it at one input. -/
def scoreTellsWrong : ChangeSpec := { name := "scoreTells", fn := fun _ => fun
  | [d1, d2, d3, d4, d5, d6] => { results := [.lit (.bool false)], args := [d1, d2, d3, d4, d5, d6] }
  | _ => none }
def ScoreTellsWrongFalsely : Prop := scoreTellsRow.holds Try.pinned (OpenSpec.ofChange scoreTellsWrong)

/-- 'springhouselaw.ScorePlaces': WHATEVER THE INPUT: true; the input reads as it did. -/
def scorePlacesSpec : ChangeSpec := { name := "scorePlaces", fn := fun _ => fun
  | [d1, d2, d3, d4] => { results := [.lit (.bool true)], args := [d1, d2, d3, d4] }
  | _ => none }
def scorePlacesRow : OpenClaim := { program := "ytmlmiboihjibiaa", sum := "e0551b9280385c4e2880119d67abbdfc019a4736a0f22db57320a238b5462a6f", func := "springhouse/springhouselaw.ScorePlaces", spec := "scorePlaces", inPlace := ["internal/bytealg.abigen_runtime_cmpstring", "slices.overlaps[springhouse/api.Score]"], unfollowed := true, recurses := true, apart := false }
def ScorePlacesSaid : Prop := scorePlacesRow.holds Try.pinned (OpenSpec.ofChange scorePlacesSpec)

/-- ITS FALSE NEIGHBOUR: 'it returns false'. Refute it at one input. -/
def scorePlacesWrong : ChangeSpec := { name := "scorePlaces", fn := fun _ => fun
  | [d1, d2, d3, d4] => { results := [.lit (.bool false)], args := [d1, d2, d3, d4] }
  | _ => none }
def ScorePlacesWrongFalsely : Prop := scorePlacesRow.holds Try.pinned (OpenSpec.ofChange scorePlacesWrong)

/-- 'springhouselaw.SpaceTells': WHATEVER THE INPUT: true; the input reads as it did. -/
def spaceTellsSpec : ChangeSpec := { name := "spaceTells", fn := fun _ => fun
  | [d1, d2, d3, d4, d5, d6] => { results := [.lit (.bool true)], args := [d1, d2, d3, d4, d5, d6] }
  | _ => none }
def spaceTellsRow : OpenClaim := { program := "ytmlmiboihjibiaa", sum := "e0551b9280385c4e2880119d67abbdfc019a4736a0f22db57320a238b5462a6f", func := "springhouse/springhouselaw.SpaceTells", spec := "spaceTells", inPlace := ["internal/bytealg.abigen_runtime_cmpstring", "slices.overlaps[springhouse/api.Entry]"], unfollowed := true, recurses := true, apart := false }
def SpaceTellsSaid : Prop := spaceTellsRow.holds Try.pinned (OpenSpec.ofChange spaceTellsSpec)

/-- ITS FALSE NEIGHBOUR: 'it returns false'. Refute it at one input. -/
def spaceTellsWrong : ChangeSpec := { name := "spaceTells", fn := fun _ => fun
  | [d1, d2, d3, d4, d5, d6] => { results := [.lit (.bool false)], args := [d1, d2, d3, d4, d5, d6] }
  | _ => none }
def SpaceTellsWrongFalsely : Prop := spaceTellsRow.holds Try.pinned (OpenSpec.ofChange spaceTellsWrong)

/-- 'springhouselaw.SpaceSwept': WHATEVER THE INPUT: true; the input reads as it did. -/
def spaceSweptSpec : ChangeSpec := { name := "spaceSwept", fn := fun _ => fun
  | [d1, d2, d3, d4, d5] => { results := [.lit (.bool true)], args := [d1, d2, d3, d4, d5] }
  | _ => none }
def spaceSweptRow : OpenClaim := { program := "ytmlmiboihjibiaa", sum := "e0551b9280385c4e2880119d67abbdfc019a4736a0f22db57320a238b5462a6f", func := "springhouse/springhouselaw.SpaceSwept", spec := "spaceSwept", inPlace := ["internal/bytealg.abigen_runtime_cmpstring", "slices.overlaps[springhouse/api.Entry]"], unfollowed := true, recurses := true, apart := false }
def SpaceSweptSaid : Prop := spaceSweptRow.holds Try.pinned (OpenSpec.ofChange spaceSweptSpec)

/-- ITS FALSE NEIGHBOUR: 'it returns false'. Refute it at one input. -/
def spaceSweptWrong : ChangeSpec := { name := "spaceSwept", fn := fun _ => fun
  | [d1, d2, d3, d4, d5] => { results := [.lit (.bool false)], args := [d1, d2, d3, d4, d5] }
  | _ => none }
def SpaceSweptWrongFalsely : Prop := spaceSweptRow.holds Try.pinned (OpenSpec.ofChange spaceSweptWrong)

/-- 'springhouselaw.SpaceLast': WHATEVER THE INPUT: true; the input reads as it did. -/
def spaceLastSpec : ChangeSpec := { name := "spaceLast", fn := fun _ => fun
  | [d1, d2, d3, d4, d5, d6] => { results := [.lit (.bool true)], args := [d1, d2, d3, d4, d5, d6] }
  | _ => none }
def spaceLastRow : OpenClaim := { program := "ytmlmiboihjibiaa", sum := "e0551b9280385c4e2880119d67abbdfc019a4736a0f22db57320a238b5462a6f", func := "springhouse/springhouselaw.SpaceLast", spec := "spaceLast", inPlace := ["internal/bytealg.abigen_runtime_cmpstring", "slices.overlaps[springhouse/api.Entry]"], unfollowed := true, recurses := true, apart := false }
def SpaceLastSaid : Prop := spaceLastRow.holds Try.pinned (OpenSpec.ofChange spaceLastSpec)

/-- ITS FALSE NEIGHBOUR: 'it returns false'. Refute it at one input. -/
def spaceLastWrong : ChangeSpec := { name := "spaceLast", fn := fun _ => fun
  | [d1, d2, d3, d4, d5, d6] => { results := [.lit (.bool false)], args := [d1, d2, d3, d4, d5, d6] }
  | _ => none }
def SpaceLastWrongFalsely : Prop := spaceLastRow.holds Try.pinned (OpenSpec.ofChange spaceLastWrong)

/-- 'springhouselaw.SetTells': WHATEVER THE INPUT: true; the input reads as it did. -/
def setTellsSpec : ChangeSpec := { name := "setTells", fn := fun _ => fun
  | [d1, d2, d3, d4] => { results := [.lit (.bool true)], args := [d1, d2, d3, d4] }
  | _ => none }
def setTellsRow : OpenClaim := { program := "ytmlmiboihjibiaa", sum := "e0551b9280385c4e2880119d67abbdfc019a4736a0f22db57320a238b5462a6f", func := "springhouse/springhouselaw.SetTells", spec := "setTells", inPlace := ["internal/bytealg.abigen_runtime_cmpstring"], unfollowed := true, recurses := true, apart := false }
def SetTellsSaid : Prop := setTellsRow.holds Try.pinned (OpenSpec.ofChange setTellsSpec)

/-- ITS FALSE NEIGHBOUR: 'it returns false'. Refute it at one input. -/
def setTellsWrong : ChangeSpec := { name := "setTells", fn := fun _ => fun
  | [d1, d2, d3, d4] => { results := [.lit (.bool false)], args := [d1, d2, d3, d4] }
  | _ => none }
def SetTellsWrongFalsely : Prop := setTellsRow.holds Try.pinned (OpenSpec.ofChange setTellsWrong)

/-- 'springhouselaw.SetParts': WHATEVER THE INPUT: true; the input reads as it did. -/
def setPartsSpec : ChangeSpec := { name := "setParts", fn := fun _ => fun
  | [d1, d2] => { results := [.lit (.bool true)], args := [d1, d2] }
  | _ => none }
def setPartsRow : OpenClaim := { program := "ytmlmiboihjibiaa", sum := "e0551b9280385c4e2880119d67abbdfc019a4736a0f22db57320a238b5462a6f", func := "springhouse/springhouselaw.SetParts", spec := "setParts", inPlace := ["internal/bytealg.abigen_runtime_cmpstring"], unfollowed := true, recurses := true, apart := false }
def SetPartsSaid : Prop := setPartsRow.holds Try.pinned (OpenSpec.ofChange setPartsSpec)

/-- ITS FALSE NEIGHBOUR: 'it returns false'. Refute it at one input. -/
def setPartsWrong : ChangeSpec := { name := "setParts", fn := fun _ => fun
  | [d1, d2] => { results := [.lit (.bool false)], args := [d1, d2] }
  | _ => none }
def SetPartsWrongFalsely : Prop := setPartsRow.holds Try.pinned (OpenSpec.ofChange setPartsWrong)

/-- 'springhouselaw.SetCounts': WHATEVER THE INPUT: true; the input reads as it did. -/
def setCountsSpec : ChangeSpec := { name := "setCounts", fn := fun _ => fun
  | [d1, d2] => { results := [.lit (.bool true)], args := [d1, d2] }
  | _ => none }
def setCountsRow : OpenClaim := { program := "ytmlmiboihjibiaa", sum := "e0551b9280385c4e2880119d67abbdfc019a4736a0f22db57320a238b5462a6f", func := "springhouse/springhouselaw.SetCounts", spec := "setCounts", inPlace := ["internal/bytealg.abigen_runtime_cmpstring"], unfollowed := true, recurses := true, apart := false }
def SetCountsSaid : Prop := setCountsRow.holds Try.pinned (OpenSpec.ofChange setCountsSpec)

/-- ITS FALSE NEIGHBOUR: 'it returns false'. Refute it at one input. -/
def setCountsWrong : ChangeSpec := { name := "setCounts", fn := fun _ => fun
  | [d1, d2] => { results := [.lit (.bool false)], args := [d1, d2] }
  | _ => none }
def SetCountsWrongFalsely : Prop := setCountsRow.holds Try.pinned (OpenSpec.ofChange setCountsWrong)

/- THE SECOND FORM. 'bulk': how many values and letters a reading holds, each counted each time it is reached (what is shared counts as often as it is met; a slice's spare places count too). A statement '..UptoSaid' is the law's where the arguments, and the package variables that the reading takes, are together of bulk at most 1048576: NARROWER than '..Said'. Prove '..Said' where nothing that the law and all that it calls make is longer than what came in: it says more and counts as full. Else prove '..UptoSaid'. A law counts once. -/
mutual
def uptoBulk {H : Type} : DataW H → Nat
  | .lit (.string bytes) => bytes.length + 1
  | .lit _ => 1
  | .nil => 1
  | .ptr d => uptoBulk d + 1
  | .slice elems spare => uptoBulkAll elems + uptoBulkAll spare + 1
  | .agg parts => uptoBulkAll parts + 1
  | .iface _ d => uptoBulk d + 1
  | .map entries => uptoBulkEntries entries + 1
  | .held _ => 1
def uptoBulkAll {H : Type} : List (DataW H) → Nat
  | [] => 0
  | d :: r => uptoBulk d + uptoBulkAll r
def uptoBulkEntries {H : Type} : List (Lit × DataW H) → Nat
  | [] => 0
  | x :: r => uptoBulkEntry x + uptoBulkEntries r
def uptoBulkEntry {H : Type} : Lit × DataW H → Nat
  | (.string bytes, d) => bytes.length + uptoBulk d + 1
  | (_, d) => uptoBulk d + 1
 end
def uptoSmall : (H : Type) → List (DataW H) → Bool := fun _ ds => decide (uptoBulkAll ds ≤ 1048576)
def OpenSpec.upto (s : _root_.Go.ChangeSpec) : _root_.Go.OpenSpec := { _root_.Go.OpenSpec.ofChange s with cond := some uptoSmall }

/-- 'springhouselaw.ScoreTells', WHERE WHAT IT READS IS OF BULK AT MOST 1048576: true; the input reads as it did. -/
def scoreTellsUptoRow : OpenClaim := { program := "ytmlmiboihjibiaa", sum := "e0551b9280385c4e2880119d67abbdfc019a4736a0f22db57320a238b5462a6f", func := "springhouse/springhouselaw.ScoreTells", spec := "scoreTells", inPlace := ["internal/bytealg.abigen_runtime_cmpstring", "slices.overlaps[springhouse/api.Score]"], unfollowed := true, recurses := true, apart := false, narrowed := true }
def ScoreTellsUptoSaid : Prop := scoreTellsUptoRow.holds Try.pinned (OpenSpec.upto scoreTellsSpec)

/-- 'springhouselaw.ScorePlaces', WHERE WHAT IT READS IS OF BULK AT MOST 1048576: true; the input reads as it did. -/
def scorePlacesUptoRow : OpenClaim := { program := "ytmlmiboihjibiaa", sum := "e0551b9280385c4e2880119d67abbdfc019a4736a0f22db57320a238b5462a6f", func := "springhouse/springhouselaw.ScorePlaces", spec := "scorePlaces", inPlace := ["internal/bytealg.abigen_runtime_cmpstring", "slices.overlaps[springhouse/api.Score]"], unfollowed := true, recurses := true, apart := false, narrowed := true }
def ScorePlacesUptoSaid : Prop := scorePlacesUptoRow.holds Try.pinned (OpenSpec.upto scorePlacesSpec)

/-- 'springhouselaw.SpaceTells', WHERE WHAT IT READS IS OF BULK AT MOST 1048576: true; the input reads as it did. -/
def spaceTellsUptoRow : OpenClaim := { program := "ytmlmiboihjibiaa", sum := "e0551b9280385c4e2880119d67abbdfc019a4736a0f22db57320a238b5462a6f", func := "springhouse/springhouselaw.SpaceTells", spec := "spaceTells", inPlace := ["internal/bytealg.abigen_runtime_cmpstring", "slices.overlaps[springhouse/api.Entry]"], unfollowed := true, recurses := true, apart := false, narrowed := true }
def SpaceTellsUptoSaid : Prop := spaceTellsUptoRow.holds Try.pinned (OpenSpec.upto spaceTellsSpec)

/-- 'springhouselaw.SpaceSwept', WHERE WHAT IT READS IS OF BULK AT MOST 1048576: true; the input reads as it did. -/
def spaceSweptUptoRow : OpenClaim := { program := "ytmlmiboihjibiaa", sum := "e0551b9280385c4e2880119d67abbdfc019a4736a0f22db57320a238b5462a6f", func := "springhouse/springhouselaw.SpaceSwept", spec := "spaceSwept", inPlace := ["internal/bytealg.abigen_runtime_cmpstring", "slices.overlaps[springhouse/api.Entry]"], unfollowed := true, recurses := true, apart := false, narrowed := true }
def SpaceSweptUptoSaid : Prop := spaceSweptUptoRow.holds Try.pinned (OpenSpec.upto spaceSweptSpec)

/-- 'springhouselaw.SpaceLast', WHERE WHAT IT READS IS OF BULK AT MOST 1048576: true; the input reads as it did. -/
def spaceLastUptoRow : OpenClaim := { program := "ytmlmiboihjibiaa", sum := "e0551b9280385c4e2880119d67abbdfc019a4736a0f22db57320a238b5462a6f", func := "springhouse/springhouselaw.SpaceLast", spec := "spaceLast", inPlace := ["internal/bytealg.abigen_runtime_cmpstring", "slices.overlaps[springhouse/api.Entry]"], unfollowed := true, recurses := true, apart := false, narrowed := true }
def SpaceLastUptoSaid : Prop := spaceLastUptoRow.holds Try.pinned (OpenSpec.upto spaceLastSpec)

/-- 'springhouselaw.SetTells', WHERE WHAT IT READS IS OF BULK AT MOST 1048576: true; the input reads as it did. -/
def setTellsUptoRow : OpenClaim := { program := "ytmlmiboihjibiaa", sum := "e0551b9280385c4e2880119d67abbdfc019a4736a0f22db57320a238b5462a6f", func := "springhouse/springhouselaw.SetTells", spec := "setTells", inPlace := ["internal/bytealg.abigen_runtime_cmpstring"], unfollowed := true, recurses := true, apart := false, narrowed := true }
def SetTellsUptoSaid : Prop := setTellsUptoRow.holds Try.pinned (OpenSpec.upto setTellsSpec)

/-- 'springhouselaw.SetParts', WHERE WHAT IT READS IS OF BULK AT MOST 1048576: true; the input reads as it did. -/
def setPartsUptoRow : OpenClaim := { program := "ytmlmiboihjibiaa", sum := "e0551b9280385c4e2880119d67abbdfc019a4736a0f22db57320a238b5462a6f", func := "springhouse/springhouselaw.SetParts", spec := "setParts", inPlace := ["internal/bytealg.abigen_runtime_cmpstring"], unfollowed := true, recurses := true, apart := false, narrowed := true }
def SetPartsUptoSaid : Prop := setPartsUptoRow.holds Try.pinned (OpenSpec.upto setPartsSpec)

/-- 'springhouselaw.SetCounts', WHERE WHAT IT READS IS OF BULK AT MOST 1048576: true; the input reads as it did. -/
def setCountsUptoRow : OpenClaim := { program := "ytmlmiboihjibiaa", sum := "e0551b9280385c4e2880119d67abbdfc019a4736a0f22db57320a238b5462a6f", func := "springhouse/springhouselaw.SetCounts", spec := "setCounts", inPlace := ["internal/bytealg.abigen_runtime_cmpstring"], unfollowed := true, recurses := true, apart := false, narrowed := true }
def SetCountsUptoSaid : Prop := setCountsUptoRow.holds Try.pinned (OpenSpec.upto setCountsSpec)

end Rows
end Go.Proofs.Ytmlmiboihjibiaa
