/- A text that is not at most another one. -/
import Derived.Test.YtmlmiboihjibiaaHpA
import Derived.Test.YtmlmiboihjibiaaCtS
import Derived.Test.YtmlmiboihjibiaaLqA
import Derived.Test.YtmlmiboihjibiaaItB
set_option linter.unusedVariables false
set_option linter.unusedSimpArgs false
namespace Go.Proofs.Ytmlmiboihjibiaa
open Go.RowKit
theorem bytesLess_cbL : ∀ a b : List UInt8, Op.bytesLess a b = decide (Lib.compareBytes a b < 0)
  | [], [] => rfl
  | [], y :: s => rfl
  | x :: r, [] => rfl
  | x :: r, y :: s => by
    show (decide (x < y) || (x == y && Op.bytesLess r s)) = decide ((if x < y then -1 else if y < x then 1 else Lib.compareBytes r s) < (0 : Int))
    rw [bytesLess_cbL r s]
    by_cases h1 : x < y
    · rw [if_pos h1]; simp [h1]
    · rw [if_neg h1]
      by_cases h2 : y < x
      · rw [if_pos h2]
        have hne : ¬ x = y := by rintro rfl; exact UInt8.lt_irrefl _ h2
        simp [h1, hne]
      · rw [if_neg h2]
        have e : x = y := by
          apply UInt8.toNat_inj.1
          rw [UInt8.lt_iff_toNat_lt] at h1 h2
          omega
        subst e
        simp [h1]
theorem less_ordL (a b : ByteArray) : Op.bytesLess a.toList b.toList = decide (ordB a b < 0) := by
  rw [ByteArray.toList_eq, ByteArray.toList_eq, bytesLess_cbL]
  rfl
theorem not_leqL {a b : ByteArray} (h : ordB a b < 0) : Op.bytesLess b.toList a.toList = false ∧ (b.toList == a.toList) = false := by
  have h2 := ordB_anti a b
  refine ⟨by rw [less_ordL]; exact decide_eq_false (by omega), ?_⟩
  refine neqB' ?_
  rintro rfl
  rw [ordB_refl] at h
  exact absurd h (by decide)
end Go.Proofs.Ytmlmiboihjibiaa
