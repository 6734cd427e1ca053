/- Lists, plain: what is pushed is popped; an item in a block that is stored into. -/
import Derived.Test.YtfkfdmonnebmmaaLqG
set_option linter.unusedVariables false
set_option linter.unusedSimpArgs false
namespace Go.Proofs.Ytfkfdmonnebmmaa
open Go.RowKit

theorem ofL_small' {l : List ByteArray} (hl : l.length ≤ 1000000) (ht : ∀ s ∈ l, s.size ≤ 281474976710656) : (ofL l).Small := by
  unfold ofL
  split
  · exact newI_small 0 (by decide)
  · exact listI_small hl ht
theorem push_ok {x : Itm} {l : List ByteArray} (h : pushCode x l = 0) : asCode 2 x = 0 ∧ someCode l = 0 ∧ x.list.length + l.length ≤ 24 := by
  unfold pushCode at h
  by_cases ha : asCode 2 x = 0
  · rw [if_neg (by simpa using ha)] at h
    by_cases hb : someCode l = 0
    · rw [if_neg (by simpa using hb)] at h
      refine ⟨ha, hb, ?_⟩
      rcases Nat.lt_or_ge 24 (x.list.length + l.length) with hm | hm
      · rw [if_pos hm] at h; cases h
      · exact hm
    · rw [if_pos hb] at h; exact absurd h hb
  · rw [if_pos ha] at h; exact absurd h ha
theorem some_pos {l : List ByteArray} (h : someCode l = 0) : 0 < l.length := by
  unfold someCode at h
  rcases Nat.eq_zero_or_pos l.length with h0 | h0
  · rw [if_pos h0] at h; cases h
  · exact h0

theorem longI_no {L : List ByteArray} (ht : ∀ s ∈ L, s.size ≤ 60) : longI (listI L) = false := by
  have : L.any longS = false := by
    rw [List.any_eq_false]
    intro s hs
    unfold longS
    have := ht s hs
    simp
    omega
  unfold longI listI
  simp [this]
theorem list_check {L : List ByteArray} (h0 : 0 < L.length) (h24 : L.length ≤ 24) (ht : ∀ s ∈ L, s.size ≤ 60) : checkItm (listI L) = 0 := by
  have e : many (listI L) = L.length := by show L.length + 0 + 0 = L.length; omega
  unfold checkItm
  rw [if_neg (by show ¬ ¬ ((1 : Int) ≤ 2 ∧ (2 : Int) ≤ 5); decide), if_neg (by show ¬ (bareB (listI L) = false); rw [show bareB (listI L) = true from rfl]; decide), if_neg (by show ¬ (2 : Int) = 1; decide), if_neg (by rw [e]; omega), if_neg (by
    rw [e, longI_no ht]
    simp
    omega), if_neg (by
    rintro (⟨h, _⟩ | ⟨h, _⟩)
    · exact absurd (show (2 : Int) = 3 from h) (by decide)
    · exact absurd (show (2 : Int) = 4 from h) (by decide))]
  rfl
theorem list_as {L : List ByteArray} (h0 : 0 < L.length) (h24 : L.length ≤ 24) (ht : ∀ s ∈ L, s.size ≤ 60) : asCode 2 (listI L) = 0 := by
  unfold asCode
  rw [if_neg (by unfold nothingI; simp [listI]), if_pos (list_check h0 h24 ht), if_pos (show (listI L).kind = 2 from rfl)]

/-- a pop of what has s at its end. -/
theorem pop_end {L M : List ByteArray} {s : ByteArray} {left : Bool} (hL : L = if left then s :: M else M ++ [s]) (h24 : L.length ≤ 24) (ht : ∀ s ∈ L, s.size ≤ 60) :
    popCode (ofL L) = 0 ∧ popT (ofL L) left = s ∧ popY (ofL L) left = ofL M := by
  have h0 : 0 < L.length := by rw [hL]; cases left <;> simp
  have e : ofL L = listI L := if_neg (by omega)
  have hc : popCode (listI L) = 0 := by
    unfold popCode
    rw [if_neg (by rw [list_as h0 h24 ht]; decide), if_neg (by show ¬ (2 : Int) = 0; decide)]
  rw [e]
  refine ⟨hc, ?_, ?_⟩
  · unfold popT
    rw [if_pos hc]
    unfold popS
    show L.getD _ _ = s
    rw [hL]
    cases left
    · simp [listI]
    · simp
  · unfold popY
    rw [if_pos hc]
    congr 1
    unfold popL
    show (if left then L.drop 1 else L.take (L.length - 1)) = M
    rw [hL]
    cases left <;> simp

/-- what is left behind n - k pops. -/
def endA (x : Itm) (left : Bool) (l : List ByteArray) (k : Nat) : List ByteArray := pushL x left (l.take k)
theorem endA_step {x : Itm} {left : Bool} {l : List ByteArray} {k : Nat} {s : ByteArray} (h : l[k]? = some s) : endA x left l (k + 1) = if left then s :: endA x left l k else endA x left l k ++ [s] := by
  unfold endA pushL
  cases left <;> simp [List.take_add_one, h]
theorem endA_mem {x : Itm} {left : Bool} {l : List ByteArray} {k : Nat} {s : ByteArray} (h : s ∈ endA x left l k) : s ∈ x.list ∨ s ∈ l := by
  rcases push_mem h with h | h
  · exact .inl h
  · exact .inr (List.mem_of_mem_take h)
theorem endA_len (x : Itm) (left : Bool) (l : List ByteArray) (k : Nat) : (endA x left l k).length ≤ x.list.length + l.length := by
  unfold endA
  rw [push_length, List.length_take]
  omega
/-- what is left behind k pops from the other end. -/
def endB (left : Bool) (l : List ByteArray) (k : Nat) : List ByteArray := if left then (l.drop k).reverse else l.drop k
theorem endB_step {left : Bool} {l : List ByteArray} {k : Nat} {s : ByteArray} (h : l[k]? = some s) : endB left l k = if (!left) then s :: endB left l (k + 1) else endB left l (k + 1) ++ [s] := by
  have e : l.drop k = s :: l.drop (k + 1) := by
    obtain ⟨hlt, he⟩ := List.getElem?_eq_some_iff.1 h
    rw [← he]
    exact List.drop_eq_getElem_cons hlt
  unfold endB
  cases left <;> simp [e]
theorem endB_mem {left : Bool} {l : List ByteArray} {k : Nat} {s : ByteArray} (h : s ∈ endB left l k) : s ∈ l := by
  unfold endB at h
  cases left
  · exact List.mem_of_mem_drop h
  · simp at h; exact List.mem_of_mem_drop h
theorem endB_len (left : Bool) (l : List ByteArray) (k : Nat) : (endB left l k).length ≤ l.length := by
  unfold endB
  cases left <;> simp

theorem as_ofL {x : Itm} (h : AsOk 2 x) : ofL x.list = x := by
  have hb := h.bare
  rcases h.kind with hk | hk
  · have hm := h.none hk
    unfold many at hm
    unfold bareB at hb
    rw [hk] at hb
    simp at hb
    obtain ⟨⟨⟨e1, e2⟩, e3⟩, e4⟩ := hb
    have e2 : x.list = [] := by simpa using e2
    have e3 : x.pairs = [] := by simpa using e3
    have e4 : x.scores = [] := by simpa using e4
    have e1 : x.text = ⟨#[]⟩ := nilOf (by first | exact e1 | (rw [e1]; rfl))
    obtain ⟨k, t, a, b, c⟩ := x
    simp only at hk e1 e2 e3 e4
    subst hk; subst e1; subst e2; subst e3; subst e4
    rfl
  · have hp := list_pos h (by omega)
    unfold bareB at hb
    rw [hk] at hb
    simp at hb
    obtain ⟨⟨e1, e3⟩, e4⟩ := hb
    have e3 : x.pairs = [] := by simpa using e3
    have e4 : x.scores = [] := by simpa using e4
    have e1 : x.text = ⟨#[]⟩ := nilOf (by first | exact e1 | (rw [e1]; rfl))
    have e : ofL x.list = listI x.list := if_neg (by omega)
    rw [e]
    obtain ⟨k, t, a, b, c⟩ := x
    simp only at hk e1 e3 e4
    subst hk; subst e1; subst e3; subst e4
    rfl

/-- an item of the call's own in a block. -/
def BlkI (w : World) (g base : Nat) (y : Itm) : Prop := ∃ P1 p1 P2 p2 P3 p3, Whole w g 33 [.int .i64 y.kind, .string y.text, .slice P1 y.list.length p1, .slice P2 y.pairs.length p2, .slice P3 y.scores.length p3] ∧
  ItemO w base (.agg #[.int .i64 y.kind, .string y.text, .slice P1 y.list.length p1, .slice P2 y.pairs.length p2, .slice P3 y.scores.length p3]) y
theorem BlkI.go {w w' : World} {g base : Nat} {y : Itm} (h : BlkI w g base y) (k : Fr [] w w') : BlkI w' g base y := by
  obtain ⟨P1, p1, P2, p2, P3, p3, h1, h2⟩ := h
  exact ⟨P1, p1, P2, p2, P3, p3, h1.fr k (by simp), h2.go k⟩
theorem BlkI.store {w : World} {g base : Nat} {y : Itm} {a b c d e : Value} {P1 P2 P3 : Option Addr} {p1 p2 p3 : Nat} (hw : Whole w g 33 [a, b, c, d, e])
    (h : ItemO w base (.agg #[.int .i64 y.kind, .string y.text, .slice P1 y.list.length p1, .slice P2 y.pairs.length p2, .slice P3 y.scores.length p3]) y) :
    BlkI (set5 w g (.int .i64 y.kind) (.string y.text) (.slice P1 y.list.length p1) (.slice P2 y.pairs.length p2) (.slice P3 y.scores.length p3)) g base y :=
  ⟨P1, p1, P2, p2, P3, p3, whole_set5 hw, h.set5 hw _ _ _ _ _⟩
end Go.Proofs.Ytfkfdmonnebmmaa
