/- One put between others; plain. -/
import Derived.Test.YtmlmiboihjibiaaBase
set_option linter.unusedVariables false
set_option linter.unusedSimpArgs false
namespace Go.Proofs.Ytmlmiboihjibiaa

/-- one put between. -/
def insAt {α : Type} (l : List α) (p : α) (j : Nat) : List α := l.take j ++ p :: l.drop j
theorem insAt_length {α : Type} (l : List α) (p : α) {j : Nat} (h : j ≤ l.length) : (insAt l p j).length = l.length + 1 := by
  unfold insAt
  rw [List.length_append, List.length_cons, List.length_take, List.length_drop]
  omega
theorem insAt_at {α : Type} (l : List α) (p : α) {j : Nat} (h : j ≤ l.length) : (insAt l p j)[j]? = some p := by
  unfold insAt
  rw [List.getElem?_append_right (by rw [List.length_take]; omega), List.length_take, show j - min j l.length = 0 by omega]
  rfl
theorem insAt_before {α : Type} (l : List α) (p : α) {j i : Nat} (hj : j ≤ l.length) (h : i < j) : (insAt l p j)[i]? = l[i]? := by
  unfold insAt
  rw [List.getElem?_append_left (by rw [List.length_take]; omega), List.getElem?_take, if_pos h]
theorem insAt_end {α : Type} (l : List α) (p : α) : insAt l p l.length = l ++ [p] := by
  unfold insAt
  rw [List.take_length, List.drop_length]
theorem insAt_swap {α : Type} {l : List α} {p q : α} {j : Nat} (hq : l[j]? = some q) : ((insAt l p (j + 1)).set (j + 1) q).set j p = insAt l p j := by
  have hlt := (List.getElem?_eq_some_iff.1 hq).1
  have hv := (List.getElem?_eq_some_iff.1 hq).2
  apply List.ext_getElem?
  intro i
  have hl1 := insAt_length l p (j := j + 1) (by omega)
  rcases Nat.lt_trichotomy i j with h | h | h
  · rw [List.getElem?_set_ne (by omega), List.getElem?_set_ne (by omega), insAt_before _ _ (by omega) (by omega), insAt_before _ _ (by omega) h]
  · subst h
    rw [List.getElem?_set_self (by rw [List.length_set, hl1]; omega), insAt_at _ _ (by omega)]
  · rw [List.getElem?_set_ne (by omega)]
    have hb : ∀ {k m : Nat}, k ≤ l.length → k < m → (insAt l p k)[m]? = l[m - 1]? := by
      intro k m hk hm
      unfold insAt
      rw [List.getElem?_append_right (by rw [List.length_take]; omega), List.length_take, show m - min k l.length = (m - 1 - k) + 1 by omega, List.getElem?_cons_succ, List.getElem?_drop]
      congr 1
      omega
    by_cases h2 : i = j + 1
    · subst h2
      rw [List.getElem?_set_self (by rw [hl1]; omega), hb (by omega) (by omega), show j + 1 - 1 = j by omega, hq]
    · rw [List.getElem?_set_ne (by omega), hb (by omega) (by omega), hb (by omega) (by omega)]
theorem insAt_swap' {α : Type} {l : List α} {p q : α} {j : Nat} (hq : l[j]? = some q) : ((insAt l p (j + 1)).set j p).set (j + 1) q = insAt l p j := by
  rw [← insAt_swap (p := p) hq, List.set_comm _ _ (by omega)]

end Go.Proofs.Ytmlmiboihjibiaa
