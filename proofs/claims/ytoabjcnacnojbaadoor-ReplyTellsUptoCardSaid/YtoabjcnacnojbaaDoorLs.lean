/- Items that must be nothing, or of a kind: the program's Nothing and As, the reference's IsNothing. Items that must be nothing: the reference's IsNothing. Items that must be nothing, or of a kind: the reference's CheckAs. The program's item.Of. The reference's filled; the program's list.ready. The program's list.of. The program's list.Some: what is wrong with some that come. The reference's CheckSome: what is wrong with some that come. -/
import Derived.Test.YtoabjcnacnojbaaDoorItC
import Derived.Test.YtoabjcnacnojbaaDoorItR
import Derived.Test.YtoabjcnacnojbaaDoorItf
set_option linter.unusedVariables false
set_option linter.unusedSimpArgs false
namespace Go.Proofs.YtoabjcnacnojbaaDoor
open Go.RowKit

def nothingI (x : Itm) : Bool := x.kind == 0 && bareB x
/-- what is wrong with an item that must be nothing, or of a kind. -/
def asCode (k : Int) (x : Itm) : Int := if nothingI x = true then 0 else if checkItm x = 0 then (if x.kind = k then 0 else 7) else checkItm x

end Go.Proofs.YtoabjcnacnojbaaDoor

namespace Go.Proofs.YtoabjcnacnojbaaDoor
open Go.RowKit

theorem nothingI_iff (x : Itm) : nothingI x = (x.kind == 0 && (x.text.size == 0 && many x == 0)) := by
  unfold nothingI
  by_cases hk : x.kind = 0
  · rw [hk]
    unfold bareB many
    rw [hk]
    generalize x.text.size = a
    generalize x.list.length = n1
    generalize x.pairs.length = n2
    generalize x.scores.length = n3
    rw [Bool.eq_iff_iff]
    simp
    omega
  · have q : (x.kind == 0) = false := by simpa using hk
    rw [q, Bool.false_and, Bool.false_and]

end Go.Proofs.YtoabjcnacnojbaaDoor

namespace Go.Proofs.YtoabjcnacnojbaaDoor
open Go.RowKit

end Go.Proofs.YtoabjcnacnojbaaDoor

namespace Go.Proofs.YtoabjcnacnojbaaDoor
open Go.RowKit

theorem fr_set5 {w wr : World} {o : Nat} (h : Fr [] w wr) (ho : w.heap.size ≤ o) (a b c d e : Value) : Fr [] w (set5 wr o a b c d e) :=
  ((((h.setCell (p := ⟨o, 0, none⟩) (.inr ho) _).setCell (p := ⟨o, 1, none⟩) (.inr ho) _).setCell (p := ⟨o, 2, none⟩) (.inr ho) _).setCell (p := ⟨o, 3, none⟩) (.inr ho) _).setCell (p := ⟨o, 4, none⟩) (.inr ho) _

end Go.Proofs.YtoabjcnacnojbaaDoor

namespace Go.Proofs.YtoabjcnacnojbaaDoor
open Go.RowKit

end Go.Proofs.YtoabjcnacnojbaaDoor

namespace Go.Proofs.YtoabjcnacnojbaaDoor
open Go.RowKit

def listI (l : List ByteArray) : Itm := ⟨2, ⟨#[]⟩, l, [], []⟩

end Go.Proofs.YtoabjcnacnojbaaDoor

namespace Go.Proofs.YtoabjcnacnojbaaDoor
open Go.RowKit

def someCode (l : List ByteArray) : Int := if l.length = 0 then 1 else if l.any longS = true then 2 else 0

end Go.Proofs.YtoabjcnacnojbaaDoor

namespace Go.Proofs.YtoabjcnacnojbaaDoor
open Go.RowKit

end Go.Proofs.YtoabjcnacnojbaaDoor
