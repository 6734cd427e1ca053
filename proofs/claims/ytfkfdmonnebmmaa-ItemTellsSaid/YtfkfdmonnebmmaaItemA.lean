/- Items, plain: the order of texts, what is wrong with an item. No program in sight. -/
import Derived.Test.YtfkfdmonnebmmaaGlobA
import Derived.Lib.Bytealg
set_option linter.unusedVariables false
set_option linter.unusedSimpArgs false
namespace Go.Proofs.Ytfkfdmonnebmmaa

/-- an item. -/
structure Itm where
  kind : Int
  text : ByteArray
  list : List ByteArray
  pairs : List (ByteArray × ByteArray)
  scores : List (Int × ByteArray)

/-- the order of texts: -1, 0 or 1. -/
def ordB (a b : ByteArray) : Int := Lib.compareBytes a.data.toList b.data.toList

/-- the order of what stands from i on. -/
def ordAt (a b : ByteArray) (i : Nat) : Int := Lib.compareBytes (a.data.toList.drop i) (b.data.toList.drop i)

theorem ordAt_zero (a b : ByteArray) : ordAt a b 0 = ordB a b := rfl

theorem drop_byte (a : ByteArray) (i : Nat) (h : i < a.size) : ∃ x : UInt8, a.data.toList.drop i = x :: a.data.toList.drop (i + 1) ∧ x.toNat = byteAt a i := by
  have hl : i < a.data.toList.length := by simpa using h
  refine ⟨a.data.toList[i], List.drop_eq_getElem_cons hl, ?_⟩
  unfold byteAt
  rw [List.getD_eq_getElem?_getD, List.getElem?_eq_getElem hl]
  rfl

theorem ordAt_step (a b : ByteArray) (i : Nat) (ha : i < a.size) (hb : i < b.size) :
    ordAt a b i = if byteAt a i < byteAt b i then -1 else if byteAt b i < byteAt a i then 1 else ordAt a b (i + 1) := by
  obtain ⟨x, hx, ex⟩ := drop_byte a i ha
  obtain ⟨y, hy, ey⟩ := drop_byte b i hb
  unfold ordAt
  rw [hx, hy, ← ex, ← ey]
  rfl

theorem ordAt_end (a b : ByteArray) (i : Nat) (ha : i ≤ a.size) (hb : i ≤ b.size) (h : ¬ (i < a.size ∧ i < b.size)) :
    ordAt a b i = if a.size < b.size then -1 else if b.size < a.size then 1 else 0 := by
  unfold ordAt
  by_cases h1 : i < a.size
  · have e : b.size = i := by omega
    obtain ⟨x, hx, _⟩ := drop_byte a i h1
    have hd : b.data.toList.drop i = [] := List.drop_of_length_le (by simp; omega)
    rw [hx, hd, if_neg (by omega), if_pos (by omega)]
    rfl
  · have e : a.size = i := by omega
    have hd : a.data.toList.drop i = [] := List.drop_of_length_le (by simp; omega)
    by_cases h2 : i < b.size
    · obtain ⟨y, hy, _⟩ := drop_byte b i h2
      rw [hd, hy, if_pos (by omega)]
      rfl
    · have hd2 : b.data.toList.drop i = [] := List.drop_of_length_le (by simp; omega)
      rw [hd, hd2, if_neg (by omega), if_neg (by omega)]
      rfl

/-- may a number be one? -/
def isInt (n : Int) : Bool := decide (-999999999 ≤ n) && decide (n ≤ 999999999)
end Go.Proofs.Ytfkfdmonnebmmaa
