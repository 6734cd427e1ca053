/- Lists, plain: what their calls answer. No walk. -/
import Derived.Test.YtmlmiboihjibiaaLs
import Derived.Test.YtmlmiboihjibiaaItf
set_option linter.unusedVariables false
set_option linter.unusedSimpArgs false
namespace Go.Proofs.Ytmlmiboihjibiaa

/-- what is known of an item that is nothing, or right and of a kind. -/
structure AsOk (k : Int) (x : Itm) : Prop where
  kind : x.kind = 0 ∨ x.kind = k
  le24 : many x ≤ 24
  text : x.text.size ≤ 60
  texts : ∀ s ∈ x.list, s.size ≤ 60
  fields : ∀ p ∈ x.pairs, p.1.size ≤ 60 ∧ p.2.size ≤ 60
  members : ∀ p ∈ x.scores, isInt p.1 = true ∧ p.2.size ≤ 60
  bare : bareB x = true
  none : x.kind = 0 → many x = 0
  some : x.kind ≠ 0 → checkItm x = 0

theorem asOk_of {k : Int} {x : Itm} (h : asCode k x = 0) : AsOk k x := by
  unfold asCode at h
  by_cases hn : nothingI x = true
  · unfold nothingI at hn
    rw [Bool.and_eq_true] at hn
    obtain ⟨h1, h2⟩ := hn
    have hk : x.kind = 0 := by simpa using h1
    have hb := h2
    unfold bareB at hb
    rw [hk] at hb
    simp at hb
    obtain ⟨⟨⟨e1, e2⟩, e3⟩, e4⟩ := hb
    have e2 : x.list = [] := by simpa using e2
    have e3 : x.pairs = [] := by simpa using e3
    have e4 : x.scores = [] := by simpa using e4
    have e1 : x.text.size = 0 := by
      first | exact e1 | (rw [e1]; rfl)
    exact ⟨.inl hk, by unfold many; rw [e2, e3, e4]; simp, by omega, by rw [e2]; simp, by rw [e3]; simp, by rw [e4]; simp, h2, fun _ => by unfold many; rw [e2, e3, e4]; simp, fun hn => absurd hk hn⟩
  · rw [if_neg hn] at h
    by_cases hc : checkItm x = 0
    · rw [if_pos hc] at h
      have r := right_of hc
      by_cases hk : x.kind = k
      · exact ⟨.inr hk, r.many, r.text, r.texts, r.fields, r.members, r.bare, fun h0 => by have := r.kind; omega, fun _ => hc⟩
      · rw [if_neg hk] at h; cases h
    · rw [if_neg hc] at h; exact absurd h hc

/-- where a sequence of n begins and ends, as the program says it. -/
def spanA (n : Nat) (f t : Int) : Nat :=
  let f' := if f < 0 then max 0 (f + n) else f
  let t' := min (if t < 0 then t + n else t) ((n : Int) - 1)
  if f' > t' then 0 else f'.toNat
def spanB (n : Nat) (f t : Int) : Nat :=
  let f' := if f < 0 then max 0 (f + n) else f
  let t' := min (if t < 0 then t + n else t) ((n : Int) - 1)
  if f' > t' then 0 else (t' + 1).toNat

theorem span_le (n : Nat) (f t : Int) : spanA n f t ≤ spanB n f t ∧ spanB n f t ≤ n := by
  unfold spanA spanB
  simp only
  by_cases h : (if f < 0 then max 0 (f + n) else f) > min (if t < 0 then t + n else t) ((n : Int) - 1)
  · rw [if_pos h, if_pos h]; omega
  · rw [if_neg h, if_neg h]
    have : 0 ≤ (if f < 0 then max 0 (f + (n : Int)) else f) := by split <;> omega
    omega

/-- the part of a sequence from f to t. -/
def rangeOf {α : Type} (l : List α) (f t : Int) : List α := (l.take (spanB l.length f t)).drop (spanA l.length f t)

/-- is a place of n from f to t? (the document's) -/
def inR (i n : Nat) (f t : Int) : Bool := decide ((if f < 0 then f + (n : Int) else f) ≤ (i : Int)) && decide ((i : Int) ≤ (if t < 0 then t + (n : Int) else t))
/-- what the document takes of the first k. -/
def takeR {α : Type} (l : List α) (f t : Int) (k : Nat) : List α := ((l.take k).take ((if t < 0 then t + (l.length : Int) else t) + 1).toNat).drop (if f < 0 then f + (l.length : Int) else f).toNat

theorem takeR_zero {α : Type} (l : List α) (f t : Int) : takeR l f t 0 = [] := by simp [takeR]
theorem takeR_step {α : Type} {l : List α} {k : Nat} {s : α} (f t : Int) (h : l[k]? = some s) :
    takeR l f t (k + 1) = if inR k l.length f t = true then takeR l f t k ++ [s] else takeR l f t k := by
  have hlt : k < l.length := (List.getElem?_eq_some_iff.1 h).1
  unfold takeR inR
  generalize (if t < 0 then t + (l.length : Int) else t) = t'
  generalize (if f < 0 then f + (l.length : Int) else f) = f'
  rw [List.take_add_one, h, Option.toList_some]
  have hl : (l.take k).length = k := by rw [List.length_take]; omega
  by_cases h1 : (k : Int) ≤ t'
  · by_cases h2 : f' ≤ (k : Int)
    · rw [if_pos (by simp [h1, h2])]
      rw [List.take_of_length_le (by rw [List.length_append, hl]; simp; omega), List.take_of_length_le (l := l.take k) (by rw [hl]; omega)]
      rw [List.drop_append_of_le_length (by rw [hl]; omega)]
    · rw [if_neg (by simp [h2])]
      rw [List.drop_of_length_le (by rw [List.length_take, List.length_append, hl]; simp; omega), List.drop_of_length_le (by rw [List.length_take, hl]; omega)]
  · rw [if_neg (by simp [h1])]
    rw [List.take_append_of_le_length (by rw [hl]; omega)]

/-- a place that is too far away is as good as a nearer one. -/
def clampI (n : Int) : Int := if 1000 < n then 1000 else if n < -1000 then -1000 else n

theorem takeR_range {α : Type} (l : List α) (f t : Int) (hl : l.length ≤ 900) : takeR l (clampI f) (clampI t) l.length = rangeOf l f t := by
  unfold takeR rangeOf
  rw [List.take_length]
  have hA : ∀ a b c d : Nat, ((b ≤ a ∨ l.length ≤ a) ∧ (d ≤ c ∨ l.length ≤ c)) ∨ (a = c ∧ min b l.length = min d l.length) → (l.take b).drop a = (l.take d).drop c := by
    intro a b c d h
    rcases h with ⟨h1, h2⟩ | ⟨h1, h2⟩
    · rw [List.drop_of_length_le (by rw [List.length_take]; omega), List.drop_of_length_le (by rw [List.length_take]; omega)]
    · subst h1
      have : l.take b = l.take d := List.take_eq_take_iff.2 h2
      rw [this]
  apply hA
  unfold spanA spanB clampI
  simp only
  generalize l.length = n at *
  have e1 : (if (if 1000 < f then 1000 else if f < -1000 then -1000 else f) < 0 then (if 1000 < f then 1000 else if f < -1000 then -1000 else f) + (n : Int) else (if 1000 < f then 1000 else if f < -1000 then -1000 else f)) = (if f < 0 then (max f (-1000)) + n else min f 1000) := by
    repeat' split
    all_goals omega
  have e2 : (if (if 1000 < t then 1000 else if t < -1000 then -1000 else t) < 0 then (if 1000 < t then 1000 else if t < -1000 then -1000 else t) + (n : Int) else (if 1000 < t then 1000 else if t < -1000 then -1000 else t)) = (if t < 0 then (max t (-1000)) + n else min t 1000) := by
    repeat' split
    all_goals omega
  rw [e1, e2]
  by_cases h1 : f < 0 <;> by_cases h2 : t < 0 <;> simp only [h1, h2, if_true, if_false] <;> split <;> omega

/-- the codes of the calls of lists. -/
def pushCode (x : Itm) (l : List ByteArray) : Int := if asCode 2 x ≠ 0 then asCode 2 x else if someCode l ≠ 0 then someCode l else if 24 < x.list.length + l.length then 2 else 0
def pushL (x : Itm) (left : Bool) (l : List ByteArray) : List ByteArray := if left then l.reverse ++ x.list else x.list ++ l
def popCode (x : Itm) : Int := if asCode 2 x ≠ 0 then asCode 2 x else if x.kind = 0 then 5 else 0
def popL (x : Itm) (left : Bool) : List ByteArray := if left then x.list.drop 1 else x.list.take (x.list.length - 1)
def popS (x : Itm) (left : Bool) : ByteArray := x.list.getD (if left then 0 else x.list.length - 1) ⟨#[]⟩
def remL (x : Itm) (s : ByteArray) : List ByteArray := x.list.filter fun y => !decide (y = s)

/-- a list of elements, or nothing. -/
def ofL (l : List ByteArray) : Itm := if l.length = 0 then newI 0 else listI l
def pushY (x : Itm) (left : Bool) (l : List ByteArray) : Itm := if pushCode x l = 0 then ofL (pushL x left l) else newI 0
def pushK (x : Itm) (left : Bool) (l : List ByteArray) : Int := if pushCode x l = 0 then (pushL x left l).length else 0
def popY (x : Itm) (left : Bool) : Itm := if popCode x = 0 then ofL (popL x left) else newI 0
def popT (x : Itm) (left : Bool) : ByteArray := if popCode x = 0 then popS x left else ⟨#[]⟩
def remY (x : Itm) (s : ByteArray) : Itm := if asCode 2 x = 0 then ofL (remL x s) else newI 0
def remK (x : Itm) (s : ByteArray) : Int := if asCode 2 x = 0 then (x.list.length : Int) - (remL x s).length else 0

theorem some_texts {l : List ByteArray} (h : someCode l = 0) : ∀ s ∈ l, s.size ≤ 60 := by
  unfold someCode at h
  by_cases h0 : l.length = 0
  · rw [if_pos h0] at h; cases h
  · rw [if_neg h0] at h
    by_cases h1 : l.any longS = true
    · rw [if_pos h1] at h; cases h
    · intro s hs
      rw [Bool.not_eq_true, List.any_eq_false] at h1
      have := h1 s hs
      unfold longS at this
      simpa using this
theorem push_mem {x : Itm} {left : Bool} {l : List ByteArray} {s : ByteArray} (h : s ∈ pushL x left l) : s ∈ x.list ∨ s ∈ l := by
  unfold pushL at h
  cases left
  · simpa using h
  · simpa [or_comm] using h
theorem push_length (x : Itm) (left : Bool) (l : List ByteArray) : (pushL x left l).length = x.list.length + l.length := by
  unfold pushL
  cases left
  · simp
  · simp; omega
theorem rangeOf_length {α : Type} (l : List α) (f t : Int) : (rangeOf l f t).length = spanB l.length f t - spanA l.length f t := by
  unfold rangeOf
  have := span_le l.length f t
  rw [List.length_drop, List.length_take]
  omega
theorem rangeOf_mem {α : Type} {l : List α} {f t : Int} {s : α} (h : s ∈ rangeOf l f t) : s ∈ l := List.mem_of_mem_take (List.mem_of_mem_drop h)
end Go.Proofs.Ytmlmiboihjibiaa
