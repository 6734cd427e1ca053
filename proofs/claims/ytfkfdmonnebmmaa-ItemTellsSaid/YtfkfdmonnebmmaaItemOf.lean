/- The reference's ItemOf, all cases joined. -/
import Derived.Test.YtfkfdmonnebmmaaItemOc
import Derived.Test.YtfkfdmonnebmmaaItemOd
import Derived.Test.YtfkfdmonnebmmaaItemOe
set_option linter.unusedVariables false
set_option linter.unusedSimpArgs false
namespace Go.Proofs.Ytfkfdmonnebmmaa
open Go.RowKit

theorem itemOf_any (s : ByteArray) (w : World) (hs : s.size ≤ 281474976710656) : Calls Try.prog 21 #[.string s] w (DecPost s w) := by
  cases ho : oneB s with
  | none => exact itemOf_none s w hs ho
  | some p =>
    obtain ⟨n, r⟩ := p
    by_cases hk : 1 ≤ n ∧ n ≤ 5
    · by_cases h1 : n = 1
      · subst h1; exact itemOf_text s w hs r ho
      by_cases h2 : n = 2
      · subst h2; exact itemOf_two s w hs r ho
      by_cases h3 : n = 3
      · subst h3; exact itemOf_three s w hs r ho
      by_cases h4 : n = 4
      · subst h4; exact itemOf_four s w hs r ho
      have h5 : n = 5 := by omega
      subst h5
      exact itemOf_five s w hs r ho
    · exact itemOf_other s w hs n r ho hk
end Go.Proofs.Ytfkfdmonnebmmaa
