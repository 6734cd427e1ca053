/-
  No cell of these rows narrows 'for every input' (looked for: loops, veiled, ifaces, maps, wideKeys, modest, calm, conditions, laid).
  DERIVED. THE GIVEN ROWS OF THIS SEAT. 9 by the template 'for every input the law returns true; each argument reads behind the call as it read before'; 0 by the template 'total and deterministic' (their statements: YtfkfdmonnebmmaaTotals.lean).
  GIVEN WITH THE SEED: the statements are not yours to turn. If you find one false, say at which input.
  Laid BY PROGRAM, IN A SANDBOX (cutbox-rows.mjs): the forced cells as the released guide's own fill.sh prints them over the translation fc40aef8e33d9d9a… (all of the seat's roots in one cut). By AI agents, Wed Nov 11 2026. No macro, syntax, notation, axiom, sorry.
-/
import Derived.Test.YtfkfdmonnebmmaaChecked
import GoSem.Claim
import GoSem.ClaimJoined
import GoSem.ClaimMapViews
import Derived.JoinedTies
import Derived.KernelRfl
namespace Go.Proofs.Ytfkfdmonnebmmaa
/- THE CELL 'sum', in the pinned program and in every row, IS THE sha256 OF THE DUMP (.gsa) THAT YtfkfdmonnebmmaaProg.lean LOADS. Nothing in Lean hashes anything: it is a label: what it is worth is what the hold of that sum in a sandbox is worth. -/
noncomputable def Try.pinned : Pinned := { name := "ytfkfdmonnebmmaa", sum := "fc40aef8e33d9d9a17a2a8e55d6569362ca888aa9aa195ff6220961c0882e7a1", checked := Try.checked }
namespace Rows
def none {H : Type} : Left H := { results := [], args := [] }

/-- 'springhouselaw.GlobMatches': WHATEVER THE INPUT: true; the input reads as it did. -/
def globMatchesSpec : ChangeSpec := { name := "globMatches", fn := fun _ => fun
  | [d1, d2] => { results := [.lit (.bool true)], args := [d1, d2] }
  | _ => none }
def globMatchesRow : OpenClaim := { program := "ytfkfdmonnebmmaa", sum := "fc40aef8e33d9d9a17a2a8e55d6569362ca888aa9aa195ff6220961c0882e7a1", func := "springhouse/springhouselaw.GlobMatches", spec := "globMatches", unfollowed := true, recurses := true, apart := false }
def GlobMatchesSaid : Prop := globMatchesRow.holds Try.pinned (OpenSpec.ofChange globMatchesSpec)

/-- ITS FALSE NEIGHBOUR: 'it returns false'. Refute it at one input. -/
def globMatchesWrong : ChangeSpec := { name := "globMatches", fn := fun _ => fun
  | [d1, d2] => { results := [.lit (.bool false)], args := [d1, d2] }
  | _ => none }
def GlobMatchesWrongFalsely : Prop := globMatchesRow.holds Try.pinned (OpenSpec.ofChange globMatchesWrong)

/-- 'springhouselaw.GlobPlain': WHATEVER THE INPUT: true; the input reads as it did. -/
def globPlainSpec : ChangeSpec := { name := "globPlain", fn := fun _ => fun
  | [d1, d2] => { results := [.lit (.bool true)], args := [d1, d2] }
  | _ => none }
def globPlainRow : OpenClaim := { program := "ytfkfdmonnebmmaa", sum := "fc40aef8e33d9d9a17a2a8e55d6569362ca888aa9aa195ff6220961c0882e7a1", func := "springhouse/springhouselaw.GlobPlain", spec := "globPlain", unfollowed := true, recurses := true, apart := false }
def GlobPlainSaid : Prop := globPlainRow.holds Try.pinned (OpenSpec.ofChange globPlainSpec)

/-- ITS FALSE NEIGHBOUR: 'it returns false'. Refute it at one input. -/
def globPlainWrong : ChangeSpec := { name := "globPlain", fn := fun _ => fun
  | [d1, d2] => { results := [.lit (.bool false)], args := [d1, d2] }
  | _ => none }
def GlobPlainWrongFalsely : Prop := globPlainRow.holds Try.pinned (OpenSpec.ofChange globPlainWrong)

/-- 'springhouselaw.GlobStar': WHATEVER THE INPUT: true; the input reads as it did. -/
def globStarSpec : ChangeSpec := { name := "globStar", fn := fun _ => fun
  | [d1, d2, d3] => { results := [.lit (.bool true)], args := [d1, d2, d3] }
  | _ => none }
def globStarRow : OpenClaim := { program := "ytfkfdmonnebmmaa", sum := "fc40aef8e33d9d9a17a2a8e55d6569362ca888aa9aa195ff6220961c0882e7a1", func := "springhouse/springhouselaw.GlobStar", spec := "globStar", unfollowed := true, recurses := true, apart := false }
def GlobStarSaid : Prop := globStarRow.holds Try.pinned (OpenSpec.ofChange globStarSpec)

/-- ITS FALSE NEIGHBOUR: 'it returns false'. Refute it at one input. -/
def globStarWrong : ChangeSpec := { name := "globStar", fn := fun _ => fun
  | [d1, d2, d3] => { results := [.lit (.bool false)], args := [d1, d2, d3] }
  | _ => none }
def GlobStarWrongFalsely : Prop := globStarRow.holds Try.pinned (OpenSpec.ofChange globStarWrong)

/-- 'springhouselaw.ItemTells': WHATEVER THE INPUT: true; the input reads as it did. -/
def itemTellsSpec : ChangeSpec := { name := "itemTells", fn := fun _ => fun
  | [d1, d2] => { results := [.lit (.bool true)], args := [d1, d2] }
  | _ => none }
def itemTellsRow : OpenClaim := { program := "ytfkfdmonnebmmaa", sum := "fc40aef8e33d9d9a17a2a8e55d6569362ca888aa9aa195ff6220961c0882e7a1", func := "springhouse/springhouselaw.ItemTells", spec := "itemTells", inPlace := ["internal/bytealg.abigen_runtime_cmpstring", "internal/abi.NoEscape"], unfollowed := true, recurses := true, apart := false }
def ItemTellsSaid : Prop := itemTellsRow.holds Try.pinned (OpenSpec.ofChange itemTellsSpec)

/-- ITS FALSE NEIGHBOUR: 'it returns false'. Refute it at one input. -/
def itemTellsWrong : ChangeSpec := { name := "itemTells", fn := fun _ => fun
  | [d1, d2] => { results := [.lit (.bool false)], args := [d1, d2] }
  | _ => none }
def ItemTellsWrongFalsely : Prop := itemTellsRow.holds Try.pinned (OpenSpec.ofChange itemTellsWrong)

/-- 'springhouselaw.ItemBack': WHATEVER THE INPUT: true; the input reads as it did. -/
def itemBackSpec : ChangeSpec := { name := "itemBack", fn := fun _ => fun
  | [d1, d2] => { results := [.lit (.bool true)], args := [d1, d2] }
  | _ => none }
def itemBackRow : OpenClaim := { program := "ytfkfdmonnebmmaa", sum := "fc40aef8e33d9d9a17a2a8e55d6569362ca888aa9aa195ff6220961c0882e7a1", func := "springhouse/springhouselaw.ItemBack", spec := "itemBack", inPlace := ["internal/bytealg.abigen_runtime_cmpstring", "internal/abi.NoEscape"], unfollowed := true, recurses := true, apart := false }
def ItemBackSaid : Prop := itemBackRow.holds Try.pinned (OpenSpec.ofChange itemBackSpec)

/-- ITS FALSE NEIGHBOUR: 'it returns false'. Refute it at one input. -/
def itemBackWrong : ChangeSpec := { name := "itemBack", fn := fun _ => fun
  | [d1, d2] => { results := [.lit (.bool false)], args := [d1, d2] }
  | _ => none }
def ItemBackWrongFalsely : Prop := itemBackRow.holds Try.pinned (OpenSpec.ofChange itemBackWrong)

/-- 'springhouselaw.ListTells': WHATEVER THE INPUT: true; the input reads as it did. -/
def listTellsSpec : ChangeSpec := { name := "listTells", fn := fun _ => fun
  | [d1, d2, d3, d4, d5, d6] => { results := [.lit (.bool true)], args := [d1, d2, d3, d4, d5, d6] }
  | _ => none }
def listTellsRow : OpenClaim := { program := "ytfkfdmonnebmmaa", sum := "fc40aef8e33d9d9a17a2a8e55d6569362ca888aa9aa195ff6220961c0882e7a1", func := "springhouse/springhouselaw.ListTells", spec := "listTells", inPlace := ["internal/bytealg.abigen_runtime_cmpstring"], unfollowed := true, recurses := true, apart := false }
def ListTellsSaid : Prop := listTellsRow.holds Try.pinned (OpenSpec.ofChange listTellsSpec)

/-- ITS FALSE NEIGHBOUR: 'it returns false'. Refute it at one input. -/
def listTellsWrong : ChangeSpec := { name := "listTells", fn := fun _ => fun
  | [d1, d2, d3, d4, d5, d6] => { results := [.lit (.bool false)], args := [d1, d2, d3, d4, d5, d6] }
  | _ => none }
def ListTellsWrongFalsely : Prop := listTellsRow.holds Try.pinned (OpenSpec.ofChange listTellsWrong)

/-- 'springhouselaw.ListEnds': WHATEVER THE INPUT: true; the input reads as it did. -/
def listEndsSpec : ChangeSpec := { name := "listEnds", fn := fun _ => fun
  | [d1, d2, d3] => { results := [.lit (.bool true)], args := [d1, d2, d3] }
  | _ => none }
def listEndsRow : OpenClaim := { program := "ytfkfdmonnebmmaa", sum := "fc40aef8e33d9d9a17a2a8e55d6569362ca888aa9aa195ff6220961c0882e7a1", func := "springhouse/springhouselaw.ListEnds", spec := "listEnds", inPlace := ["internal/bytealg.abigen_runtime_cmpstring"], unfollowed := true, recurses := true, apart := false }
def ListEndsSaid : Prop := listEndsRow.holds Try.pinned (OpenSpec.ofChange listEndsSpec)

/-- ITS FALSE NEIGHBOUR: 'it returns false'. Refute it at one input. -/
def listEndsWrong : ChangeSpec := { name := "listEnds", fn := fun _ => fun
  | [d1, d2, d3] => { results := [.lit (.bool false)], args := [d1, d2, d3] }
  | _ => none }
def ListEndsWrongFalsely : Prop := listEndsRow.holds Try.pinned (OpenSpec.ofChange listEndsWrong)

/-- 'springhouselaw.HashTells': WHATEVER THE INPUT: true; the input reads as it did. -/
def hashTellsSpec : ChangeSpec := { name := "hashTells", fn := fun _ => fun
  | [d1, d2, d3, d4] => { results := [.lit (.bool true)], args := [d1, d2, d3, d4] }
  | _ => none }
def hashTellsRow : OpenClaim := { program := "ytfkfdmonnebmmaa", sum := "fc40aef8e33d9d9a17a2a8e55d6569362ca888aa9aa195ff6220961c0882e7a1", func := "springhouse/springhouselaw.HashTells", spec := "hashTells", inPlace := ["internal/bytealg.abigen_runtime_cmpstring", "slices.overlaps[springhouse/api.Pair]"], unfollowed := true, recurses := true, apart := false }
def HashTellsSaid : Prop := hashTellsRow.holds Try.pinned (OpenSpec.ofChange hashTellsSpec)

/-- ITS FALSE NEIGHBOUR: 'it returns false'. Refute it at one input. -/
def hashTellsWrong : ChangeSpec := { name := "hashTells", fn := fun _ => fun
  | [d1, d2, d3, d4] => { results := [.lit (.bool false)], args := [d1, d2, d3, d4] }
  | _ => none }
def HashTellsWrongFalsely : Prop := hashTellsRow.holds Try.pinned (OpenSpec.ofChange hashTellsWrong)

/-- 'springhouselaw.HashLast': WHATEVER THE INPUT: true; the input reads as it did. -/
def hashLastSpec : ChangeSpec := { name := "hashLast", fn := fun _ => fun
  | [d1, d2, d3] => { results := [.lit (.bool true)], args := [d1, d2, d3] }
  | _ => none }
def hashLastRow : OpenClaim := { program := "ytfkfdmonnebmmaa", sum := "fc40aef8e33d9d9a17a2a8e55d6569362ca888aa9aa195ff6220961c0882e7a1", func := "springhouse/springhouselaw.HashLast", spec := "hashLast", inPlace := ["internal/bytealg.abigen_runtime_cmpstring", "slices.overlaps[springhouse/api.Pair]"], unfollowed := true, recurses := true, apart := false }
def HashLastSaid : Prop := hashLastRow.holds Try.pinned (OpenSpec.ofChange hashLastSpec)

/-- ITS FALSE NEIGHBOUR: 'it returns false'. Refute it at one input. -/
def hashLastWrong : ChangeSpec := { name := "hashLast", fn := fun _ => fun
  | [d1, d2, d3] => { results := [.lit (.bool false)], args := [d1, d2, d3] }
  | _ => none }
def HashLastWrongFalsely : Prop := hashLastRow.holds Try.pinned (OpenSpec.ofChange hashLastWrong)

/- THE SECOND FORM. 'bulk': how many values and letters a reading holds, each counted each time it is reached (what is shared counts as often as it is met; a slice's spare places count too). A statement '..UptoSaid' is the law's where the arguments, and the package variables that the reading takes, are together of bulk at most 1048576: NARROWER than '..Said'. Prove '..Said' where nothing that the law and all that it calls make is longer than what came in: it says more and counts as full. Else prove '..UptoSaid'. A law counts once. -/
mutual
def uptoBulk {H : Type} : DataW H → Nat
  | .lit (.string bytes) => bytes.length + 1
  | .lit _ => 1
  | .nil => 1
  | .ptr d => uptoBulk d + 1
  | .slice elems spare => uptoBulkAll elems + uptoBulkAll spare + 1
  | .agg parts => uptoBulkAll parts + 1
  | .iface _ d => uptoBulk d + 1
  | .map entries => uptoBulkEntries entries + 1
  | .held _ => 1
def uptoBulkAll {H : Type} : List (DataW H) → Nat
  | [] => 0
  | d :: r => uptoBulk d + uptoBulkAll r
def uptoBulkEntries {H : Type} : List (Lit × DataW H) → Nat
  | [] => 0
  | x :: r => uptoBulkEntry x + uptoBulkEntries r
def uptoBulkEntry {H : Type} : Lit × DataW H → Nat
  | (.string bytes, d) => bytes.length + uptoBulk d + 1
  | (_, d) => uptoBulk d + 1
 end
def uptoSmall : (H : Type) → List (DataW H) → Bool := fun _ ds => decide (uptoBulkAll ds ≤ 1048576)
def OpenSpec.upto (s : _root_.Go.ChangeSpec) : _root_.Go.OpenSpec := { _root_.Go.OpenSpec.ofChange s with cond := some uptoSmall }

/-- 'springhouselaw.GlobMatches', WHERE WHAT IT READS IS OF BULK AT MOST 1048576: true; the input reads as it did. -/
def globMatchesUptoRow : OpenClaim := { program := "ytfkfdmonnebmmaa", sum := "fc40aef8e33d9d9a17a2a8e55d6569362ca888aa9aa195ff6220961c0882e7a1", func := "springhouse/springhouselaw.GlobMatches", spec := "globMatches", unfollowed := true, recurses := true, apart := false, narrowed := true }
def GlobMatchesUptoSaid : Prop := globMatchesUptoRow.holds Try.pinned (OpenSpec.upto globMatchesSpec)

/-- 'springhouselaw.GlobPlain', WHERE WHAT IT READS IS OF BULK AT MOST 1048576: true; the input reads as it did. -/
def globPlainUptoRow : OpenClaim := { program := "ytfkfdmonnebmmaa", sum := "fc40aef8e33d9d9a17a2a8e55d6569362ca888aa9aa195ff6220961c0882e7a1", func := "springhouse/springhouselaw.GlobPlain", spec := "globPlain", unfollowed := true, recurses := true, apart := false, narrowed := true }
def GlobPlainUptoSaid : Prop := globPlainUptoRow.holds Try.pinned (OpenSpec.upto globPlainSpec)

/-- 'springhouselaw.GlobStar', WHERE WHAT IT READS IS OF BULK AT MOST 1048576: true; the input reads as it did. -/
def globStarUptoRow : OpenClaim := { program := "ytfkfdmonnebmmaa", sum := "fc40aef8e33d9d9a17a2a8e55d6569362ca888aa9aa195ff6220961c0882e7a1", func := "springhouse/springhouselaw.GlobStar", spec := "globStar", unfollowed := true, recurses := true, apart := false, narrowed := true }
def GlobStarUptoSaid : Prop := globStarUptoRow.holds Try.pinned (OpenSpec.upto globStarSpec)

/-- 'springhouselaw.ItemTells', WHERE WHAT IT READS IS OF BULK AT MOST 1048576: true; the input reads as it did. -/
def itemTellsUptoRow : OpenClaim := { program := "ytfkfdmonnebmmaa", sum := "fc40aef8e33d9d9a17a2a8e55d6569362ca888aa9aa195ff6220961c0882e7a1", func := "springhouse/springhouselaw.ItemTells", spec := "itemTells", inPlace := ["internal/bytealg.abigen_runtime_cmpstring", "internal/abi.NoEscape"], unfollowed := true, recurses := true, apart := false, narrowed := true }
def ItemTellsUptoSaid : Prop := itemTellsUptoRow.holds Try.pinned (OpenSpec.upto itemTellsSpec)

/-- 'springhouselaw.ItemBack', WHERE WHAT IT READS IS OF BULK AT MOST 1048576: true; the input reads as it did. -/
def itemBackUptoRow : OpenClaim := { program := "ytfkfdmonnebmmaa", sum := "fc40aef8e33d9d9a17a2a8e55d6569362ca888aa9aa195ff6220961c0882e7a1", func := "springhouse/springhouselaw.ItemBack", spec := "itemBack", inPlace := ["internal/bytealg.abigen_runtime_cmpstring", "internal/abi.NoEscape"], unfollowed := true, recurses := true, apart := false, narrowed := true }
def ItemBackUptoSaid : Prop := itemBackUptoRow.holds Try.pinned (OpenSpec.upto itemBackSpec)

/-- 'springhouselaw.ListTells', WHERE WHAT IT READS IS OF BULK AT MOST 1048576: true; the input reads as it did. -/
def listTellsUptoRow : OpenClaim := { program := "ytfkfdmonnebmmaa", sum := "fc40aef8e33d9d9a17a2a8e55d6569362ca888aa9aa195ff6220961c0882e7a1", func := "springhouse/springhouselaw.ListTells", spec := "listTells", inPlace := ["internal/bytealg.abigen_runtime_cmpstring"], unfollowed := true, recurses := true, apart := false, narrowed := true }
def ListTellsUptoSaid : Prop := listTellsUptoRow.holds Try.pinned (OpenSpec.upto listTellsSpec)

/-- 'springhouselaw.ListEnds', WHERE WHAT IT READS IS OF BULK AT MOST 1048576: true; the input reads as it did. -/
def listEndsUptoRow : OpenClaim := { program := "ytfkfdmonnebmmaa", sum := "fc40aef8e33d9d9a17a2a8e55d6569362ca888aa9aa195ff6220961c0882e7a1", func := "springhouse/springhouselaw.ListEnds", spec := "listEnds", inPlace := ["internal/bytealg.abigen_runtime_cmpstring"], unfollowed := true, recurses := true, apart := false, narrowed := true }
def ListEndsUptoSaid : Prop := listEndsUptoRow.holds Try.pinned (OpenSpec.upto listEndsSpec)

/-- 'springhouselaw.HashTells', WHERE WHAT IT READS IS OF BULK AT MOST 1048576: true; the input reads as it did. -/
def hashTellsUptoRow : OpenClaim := { program := "ytfkfdmonnebmmaa", sum := "fc40aef8e33d9d9a17a2a8e55d6569362ca888aa9aa195ff6220961c0882e7a1", func := "springhouse/springhouselaw.HashTells", spec := "hashTells", inPlace := ["internal/bytealg.abigen_runtime_cmpstring", "slices.overlaps[springhouse/api.Pair]"], unfollowed := true, recurses := true, apart := false, narrowed := true }
def HashTellsUptoSaid : Prop := hashTellsUptoRow.holds Try.pinned (OpenSpec.upto hashTellsSpec)

/-- 'springhouselaw.HashLast', WHERE WHAT IT READS IS OF BULK AT MOST 1048576: true; the input reads as it did. -/
def hashLastUptoRow : OpenClaim := { program := "ytfkfdmonnebmmaa", sum := "fc40aef8e33d9d9a17a2a8e55d6569362ca888aa9aa195ff6220961c0882e7a1", func := "springhouse/springhouselaw.HashLast", spec := "hashLast", inPlace := ["internal/bytealg.abigen_runtime_cmpstring", "slices.overlaps[springhouse/api.Pair]"], unfollowed := true, recurses := true, apart := false, narrowed := true }
def HashLastUptoSaid : Prop := hashLastUptoRow.holds Try.pinned (OpenSpec.upto hashLastSpec)

end Rows
end Go.Proofs.Ytfkfdmonnebmmaa
