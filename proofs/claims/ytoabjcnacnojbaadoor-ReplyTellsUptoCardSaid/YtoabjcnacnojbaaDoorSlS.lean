/- slices.Clone at string: a row of the call's own. (Printed by elem.py.) slices.IndexFunc and DeleteFunc at string, whatever the function. (Printed by elem.py.) slices.DeleteFunc at string, whatever the function. (Printed by elem.py.) slices.Delete at string: elements are taken out of an owned row. (Printed by elem.py.) -/
import Derived.Test.YtoabjcnacnojbaaDoorSlA
import Derived.Test.YtoabjcnacnojbaaDoorItf
import Derived.Laws.OwnMore
import Derived.WalkSpells
import Derived.Deep.RegionLaw
set_option linter.unusedVariables false
set_option linter.unusedSimpArgs false
namespace Go.Proofs.YtoabjcnacnojbaaDoor
open Go.RowKit

end Go.Proofs.YtoabjcnacnojbaaDoor

namespace Go.Proofs.YtoabjcnacnojbaaDoor
open Go.RowKit

/-- a function value that says p, whatever has been laid or turned from block B on. -/
def PredS (g : Nat) (lb : Array Value) (p : ByteArray → Bool) (B : Nat) (w : World) : Prop :=
  ∀ W (x : ByteArray), FrB [] B w W → Calls Tryd.prog g (#[.string x] ++ lb) W fun e w' => e = .returned (.bool (p x)) ∧ Fr [] W w'

theorem PredS.later {g : Nat} {lb : Array Value} {p : ByteArray → Bool} {B : Nat} {w w' : World} (h : PredS g lb p B w) (hf : FrB [] B w w') : PredS g lb p B w' := fun W x hW => h W x (hf.trans hW)

end Go.Proofs.YtoabjcnacnojbaaDoor

namespace Go.Proofs.YtoabjcnacnojbaaDoor
open Go.RowKit

def DelFPostS (ys : List ByteArray) (base : Nat) (v : Value) (w : World) (e : Ending) (w' : World) : Prop :=
  ∃ v', e = .returned v' ∧ w'.ownsRow base 9 1 v' ys.length (textsV ys) ∧ Fr (ownL v) w w' ∧ v'.ownBlock = v.ownBlock

theorem zeroFS : ∀ w, (zeroValue 9).run Tryd.prog w = .ok (.string ⟨#[]⟩) w := fun w => by kernel_rfl

end Go.Proofs.YtoabjcnacnojbaaDoor

namespace Go.Proofs.YtoabjcnacnojbaaDoor
open Go.RowKit

end Go.Proofs.YtoabjcnacnojbaaDoor
