/- slices.Clone at string: a row of the call's own. (Printed by elem.py.) slices.IndexFunc and DeleteFunc at string, whatever the function. (Printed by elem.py.) slices.DeleteFunc at string, whatever the function. (Printed by elem.py.) slices.Delete at string: elements are taken out of an owned row. (Printed by elem.py.) -/
import Derived.Test.YtlmaiiloihabdaaDoorSlA
import Derived.Test.YtlmaiiloihabdaaDoorItf
import Derived.Laws.OwnMore
import Derived.WalkSpells
import Derived.Deep.RegionLaw
set_option linter.unusedVariables false
set_option linter.unusedSimpArgs false
namespace Go.Proofs.YtlmaiiloihabdaaDoor
open Go.RowKit

end Go.Proofs.YtlmaiiloihabdaaDoor

namespace Go.Proofs.YtlmaiiloihabdaaDoor
open Go.RowKit

/-- a function value that says p, whatever has been laid or turned from block B on. -/
def PredS (g : Nat) (lb : Array Value) (p : ByteArray → Bool) (B : Nat) (w : World) : Prop :=
  ∀ W (x : ByteArray), FrB [] B w W → Calls Tryd.prog g (#[.string x] ++ lb) W fun e w' => e = .returned (.bool (p x)) ∧ Fr [] W w'

theorem PredS.later {g : Nat} {lb : Array Value} {p : ByteArray → Bool} {B : Nat} {w w' : World} (h : PredS g lb p B w) (hf : FrB [] B w w') : PredS g lb p B w' := fun W x hW => h W x (hf.trans hW)

set_option maxHeartbeats 400000 in
set_option maxRecDepth 100000 in
theorem idxS_any (g : Nat) (lb : Array Value) (eg : ∀ args w, (callFunc g args).run Tryd.prog w = .ok (.enter g args) w) (p : ByteArray → Bool) (D : Nat) (l : List ByteArray) (A : Option Addr) (c B : Nat) (w : World) (hp : PredS g lb p D w) (hl : l.length ≤ 281474976710656) (hB : B ≤ w.heap.size)
    (hsl : Sl w B 1 (.slice A l.length c) l.length (textsV l)) :
    Calls Tryd.prog 56 #[.slice A l.length c, .func (Fn.func g) #[] lb] w fun e w' => e = .returned (.int .i64 (idxOf p l)) ∧ Fr [] w w' := by
  have HS := Lib.hid hsl
  have HP := Lib.hid hp
  clear hsl hp
  go_enter Tryd.func56, Tryd.ntmps56
  go_wp2
  go_loopg [5, 8] l.length (fun g u i wr => ∃ (k : Nat), g = l.length - k ∧ k ≤ l.length ∧ i = .int .i64 k ∧ (∀ j t, j < k → l[j]? = some t → p t = false) ∧ Fr [] w wr)
  case atStart => exact ⟨0, rfl, Nat.zero_le _, rfl, fun j t hj => absurd hj (Nat.not_lt_zero _), Fr.refl _ _⟩
  case round =>
    obtain ⟨k, rfl, hk, rfl, hno, hf⟩ := hrel
    by_cases hlt : k < l.length
    · obtain ⟨b, off, rfl, hb, hc, hm, hcell⟩ := HS.out.at_ (by omega)
      obtain ⟨s, hs⟩ : ∃ s, l[k]? = some s := ⟨_, List.getElem?_eq_getElem hlt⟩
      have hc1 : wr.cell? ⟨b, off + k, none⟩ = some (.string s) := hf.cell (hcell k _ (textsV_get l k s hs)) (by simp)
      have L := Lib.hid (fun W (hW : Fr [] wr W) => HP.out W s ((hf.toB D).trans (hW.toB D)))
      have HF := Lib.hid hf
      have F1 := Lib.hid (Fr.refl [] wr)
      by_cases hq : p s = true
      · have E := Lib.hid (idxOf_found hno hs hq)
        rw [hq] at L
        clear hno hcell hs hq hf
        go_wp2_with fail
        refine (L.out _ F1.out).mono ?_
        rintro e w1 ⟨rfl, h1⟩
        go_wp2
        go_ret
        rw [E.out]
        exact ⟨rfl, HF.out.trans h1⟩
      · have hq' : p s = false := by simpa using hq
        rw [hq'] at L
        have N := Lib.hid (fun j t (hj : j < k + 1) (ht : l[j]? = some t) => (show p t = false by
          rcases Nat.lt_or_ge j k with h | h
          · exact hno j t h ht
          · have e : j = k := by omega
            subst e
            rw [hs] at ht
            cases ht
            exact hq'))
        clear hno hcell hs hq hq' hf
        go_wp2_with fail
        refine (L.out _ F1.out).mono ?_
        rintro e w1 ⟨rfl, h1⟩
        go_wp2
        go_roundg (l.length - (k + 1))
        case measure => omega
        case rel => exact ⟨k + 1, rfl, by omega, rfl, N.out, HF.out.trans h1⟩
    · have E := Lib.hid (idxOf_none (q := p) (l := l) (fun j t ht => hno j t (by have := (List.getElem?_eq_some_iff.1 ht).1; omega) ht))
      clear hno
      go_wp2
      go_ret
      rw [E.out]
      exact ⟨rfl, hf⟩
end Go.Proofs.YtlmaiiloihabdaaDoor

namespace Go.Proofs.YtlmaiiloihabdaaDoor
open Go.RowKit

def DelFPostS (ys : List ByteArray) (base : Nat) (v : Value) (w : World) (e : Ending) (w' : World) : Prop :=
  ∃ v', e = .returned v' ∧ w'.ownsRow base 9 1 v' ys.length (textsV ys) ∧ Fr (ownL v) w w' ∧ v'.ownBlock = v.ownBlock

theorem zeroFS : ∀ w, (zeroValue 9).run Tryd.prog w = .ok (.string ⟨#[]⟩) w := fun w => by kernel_rfl

end Go.Proofs.YtlmaiiloihabdaaDoor

namespace Go.Proofs.YtlmaiiloihabdaaDoor
open Go.RowKit

end Go.Proofs.YtlmaiiloihabdaaDoor
