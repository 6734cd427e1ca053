/- Byte strings: small facts more. -/
import Derived.Test.YtfkfdmonnebmmaaGlobA
import Derived.WalkLawsBesides
import Derived.WalkSpells
import Derived.LoopTactic
import Derived.Deep.QuietTactic
import Derived.BigQuiet
import Derived.OwnWalk
import Derived.Outline
set_option linter.unusedVariables false
set_option linter.unusedSimpArgs false
namespace Go.Proofs.Ytfkfdmonnebmmaa
open Go.RowKit

theorem eqB (p s : ByteArray) : (p.toList == s.toList) = decide (p = s) := by
  by_cases h : p = s
  · subst h; simp
  · have : p.toList ≠ s.toList := fun e => h (by
      have := congrArg List.toArray e
      cases p; cases s
      simpa [ByteArray.toList_eq] using this)
    simp [h, this]

theorem byteAt_extract (p : ByteArray) (a b i : Nat) (hb : b ≤ p.size) (h : a + i < b) : byteAt (p.extract a b) i = byteAt p (a + i) := by
  unfold byteAt
  congr 1
  simp only [List.getD_eq_getElem?_getD, ByteArray.data_extract, Array.toList_extract]
  congr 1
  rw [List.extract_eq_take_drop, List.getElem?_take, if_pos (by omega), List.getElem?_drop]

theorem size_extract' (p : ByteArray) (a b : Nat) (hb : b ≤ p.size) : (p.extract a b).size = b - a := by simp; omega

end Go.Proofs.Ytfkfdmonnebmmaa
