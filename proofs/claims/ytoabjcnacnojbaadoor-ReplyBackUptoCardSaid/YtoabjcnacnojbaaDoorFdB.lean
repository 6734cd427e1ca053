/- The walks of the reader of a command: what gives up, a byte, bytes that are needed, a number, a word. -/
import Derived.Test.YtoabjcnacnojbaaDoorFdA
import Derived.Test.YtoabjcnacnojbaaDoorItB
import Derived.Test.YtoabjcnacnojbaaDoorSlA
import Derived.WalkLawsBesides
import Derived.BigQuiet
import Derived.Deep.QuietTactic
set_option linter.unusedVariables false
set_option linter.unusedSimpArgs false
namespace Go.Proofs.YtoabjcnacnojbaaDoor
open Go.RowKit
attribute [local go_sem] byteAt_eq

/-- a call that gives up by an errno. -/
def PanV (e : Int) : List PanicEntry := [{ v := .iface 25 (.int .i64 e), recovered := false }]
theorem fr_one {g : Nat} {w : World} (b : Nat) (v : Value) : Fr [g] w (w.setCell ⟨g, b, none⟩ v) := (Fr.refl [g] w).setCell (.inl (by simp)) v

/-- bytes that must come. -/
def needL : List Nat → List UInt8 → Int
  | [], _ => 0
  | _ :: _, [] => 8
  | b :: bs, c :: r => if c.toNat = b then needL bs r else 1
theorem need_step {bs : List Nat} {s : ByteArray} {k a b : Nat} (hb : bs[k]? = some b) (ha : a < s.size) : needL (bs.drop k) (s.data.toList.drop a) = if byteAt s a = b then needL (bs.drop (k + 1)) (s.data.toList.drop (a + 1)) else 1 := by
  obtain ⟨x, hx, ex⟩ := drop_byte s a ha
  have hk := (List.getElem?_eq_some_iff.1 hb).1
  have e1 : bs.drop k = b :: bs.drop (k + 1) := by
    rw [List.drop_eq_getElem_cons hk]
    congr 1
    rw [List.getElem?_eq_getElem hk] at hb
    exact Option.some.inj hb
  rw [e1, hx, ← ex]
  rfl
theorem need_short {bs : List Nat} {s : ByteArray} {k a : Nat} (hk : k < bs.length) (ha : s.size ≤ a) : needL (bs.drop k) (s.data.toList.drop a) = 8 := by
  rw [List.drop_eq_getElem_cons hk, List.drop_of_length_le (l := s.data.toList) (by simpa using ha)]
  rfl
def byN (b : Nat) : Value := .int .u8 b
theorem count_need (sign most : Nat) (l : List UInt8) : (needL [sign] l = 0 ∧ ∃ c r, l = c :: r ∧ countL sign most l = cntL most r 0 0) ∨ (needL [sign] l ≠ 0 ∧ countL sign most l = (0, [], needL [sign] l)) := by
  cases l with
  | nil => exact .inr ⟨by show (8 : Int) ≠ 0; decide, rfl⟩
  | cons c r =>
    by_cases h : c.toNat = sign
    · exact .inl ⟨if_pos h, c, r, rfl, if_pos h⟩
    · have e : needL [sign] (c :: r) = 1 := if_neg h
      exact .inr ⟨by rw [e]; decide, by rw [e]; exact if_neg h⟩
theorem end_need (n : Nat) (l : List UInt8) : (needL [10] l = 0 ∧ ∃ c r, l = c :: r ∧ endL n l = (n, r, 0)) ∨ (needL [10] l ≠ 0 ∧ endL n l = (0, [], needL [10] l)) := by
  cases l with
  | nil => exact .inr ⟨by show (8 : Int) ≠ 0; decide, rfl⟩
  | cons c r =>
    by_cases h : c.toNat = 10
    · exact .inl ⟨if_pos h, c, r, rfl, if_pos h⟩
    · have e : needL [10] (c :: r) = 1 := if_neg h
      exact .inr ⟨by rw [e]; decide, by rw [e]; exact if_neg h⟩
theorem drop_size {s : ByteArray} {a : Nat} {c : UInt8} {r : List UInt8} (h : s.data.toList.drop a = c :: r) : a < s.size ∧ s.data.toList.drop (a + 1) = r ∧ c.toNat = byteAt s a := by
  have hl : s.data.toList.length = s.size := by simp
  have h1 : a < s.size := by
    rcases Nat.lt_or_ge a s.size with h2 | h2
    · exact h2
    · rw [List.drop_of_length_le (by omega)] at h; cases h
  obtain ⟨x, hx, ex⟩ := drop_byte s a h1
  rw [hx] at h
  cases h
  exact ⟨h1, rfl, ex⟩
theorem digB_no {c : UInt8} {y : Nat} (h : c.toNat = y) : digB c = (decide (48 ≤ y) && decide (y ≤ 57)) := by rw [← h]; rfl

end Go.Proofs.YtoabjcnacnojbaaDoor
