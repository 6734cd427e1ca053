/- Items that set.Add and Remove give are small. -/
import Derived.Test.YtmlmiboihjibiaaSeE
import Derived.Test.YtmlmiboihjibiaaSeC
set_option linter.unusedVariables false
set_option linter.unusedSimpArgs false
namespace Go.Proofs.Ytmlmiboihjibiaa
open Go.RowKit
theorem add3Y_small (x : Itm) (l : List ByteArray) : (add3Y x l).Small := by
  unfold add3Y
  split
  · rename_i h
    obtain ⟨h1, h2⟩ := add3_ok h
    unfold ofK
    split
    · exact newI_small 0 (by decide)
    · exact kindI_small (by decide) (by omega) (fun s hs => by have := addL3_texts h1 s hs; omega)
  · exact newI_small 0 (by decide)
theorem remOfY_small (x : Itm) (l : List ByteArray) : (remOfY 3 x l).Small := by
  unfold remOfY
  split
  · rename_i h
    have h1 := (setOk h).2
    have h2 : (lessL x.list l).length ≤ x.list.length := List.length_filter_le _ _
    unfold ofK
    split
    · exact newI_small 0 (by decide)
    · exact kindI_small (by decide) (by omega) (fun s hs => by have := (asOk_of h).texts s (List.mem_filter.1 hs).1; omega)
  · exact newI_small 0 (by decide)
end Go.Proofs.Ytmlmiboihjibiaa
