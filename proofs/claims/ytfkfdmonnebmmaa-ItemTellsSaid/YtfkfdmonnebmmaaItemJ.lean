/- Items, plain: what is wrong with one. No walk. -/
import Derived.Test.YtfkfdmonnebmmaaItemI
set_option linter.unusedVariables false
set_option linter.unusedSimpArgs false
namespace Go.Proofs.Ytfkfdmonnebmmaa

/-- what is wrong with scores: a number, twice one member, the order. -/
def scoresCode (l : List (Int × ByteArray)) : Int :=
  if l.any (fun p => !isInt p.1) then 3 else if ¬ (l.map (·.2)).Nodup then 6 else if rises ltC l then 0 else 4

/-- what is wrong with an item. -/
def checkItm (x : Itm) : Int :=
  if ¬ (1 ≤ x.kind ∧ x.kind ≤ 5) then 7
  else if bareB x = false then 1
  else if x.kind = 1 then (if 60 < x.text.size then 2 else 0)
  else if many x = 0 then 5
  else if 24 < many x ∨ longI x = true then 2
  else if (x.kind = 3 ∧ rises ltS x.list = false) ∨ (x.kind = 4 ∧ rises ltP x.pairs = false) then 4
  else scoresCode x.scores
end Go.Proofs.Ytfkfdmonnebmmaa
