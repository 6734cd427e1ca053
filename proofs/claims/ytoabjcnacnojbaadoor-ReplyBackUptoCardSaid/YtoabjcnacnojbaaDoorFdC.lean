/- The walk of the reader's word. -/
import Derived.Test.YtoabjcnacnojbaaDoorFdB
set_option linter.unusedVariables false
set_option linter.unusedSimpArgs false
namespace Go.Proofs.YtoabjcnacnojbaaDoor
open Go.RowKit
attribute [local go_sem] byteAt_eq

theorem line_need (w l : List UInt8) : (needL [13, 10] l = 0 ∧ lineL w l = (w, l.drop 2, 0) ∧ 2 ≤ l.length) ∨ (needL [13, 10] l ≠ 0 ∧ lineL w l = ([], [], needL [13, 10] l)) := by
  match l with
  | [] => exact .inr ⟨by show (8 : Int) ≠ 0; decide, rfl⟩
  | [x] =>
    by_cases h : x.toNat = 13
    · have e : needL [13, 10] [x] = 8 := if_pos h
      exact .inr ⟨by rw [e]; decide, by rw [e]; exact if_pos h⟩
    · have e : needL [13, 10] [x] = 1 := if_neg h
      exact .inr ⟨by rw [e]; decide, by rw [e]; exact if_neg h⟩
  | x :: y :: u =>
    by_cases h : x.toNat = 13
    · have e : needL [13, 10] (x :: y :: u) = needL [10] (y :: u) := if_pos h
      have e2 : lineL w (x :: y :: u) = if y.toNat = 10 then (w, u, 0) else ([], [], 1) := if_pos h
      by_cases h2 : y.toNat = 10
      · have e3 : needL [10] (y :: u) = 0 := if_pos h2
        rw [e, e2, e3, if_pos h2]
        exact .inl ⟨rfl, rfl, by simp⟩
      · have e3 : needL [10] (y :: u) = 1 := if_neg h2
        rw [e, e2, e3, if_neg h2]
        exact .inr ⟨by decide, rfl⟩
    · have e : needL [13, 10] (x :: y :: u) = 1 := if_neg h
      have e2 : lineL w (x :: y :: u) = ([], [], 1) := if_neg h
      rw [e, e2]
      exact .inr ⟨by decide, rfl⟩
theorem extract_toB (s : ByteArray) (p n : Nat) : s.extract p (p + n) = toB ((s.data.toList.drop p).take n) := by
  apply ByteArray.ext
  apply Array.ext'
  simp [toB, List.extract_eq_take_drop]
end Go.Proofs.YtoabjcnacnojbaaDoor
