/- The walks of the reference's filled at lists, RemoveOf, PushOf. (Printed by lists2.py.) -/
import Derived.Test.YtmlmiboihjibiaaLsO
import Derived.Test.YtmlmiboihjibiaaBo
import Derived.Test.YtmlmiboihjibiaaLpA
import Derived.Test.YtmlmiboihjibiaaLqA
import Derived.Test.YtmlmiboihjibiaaSlA
import Derived.Deep.RegionHeld3
import Derived.IntWalk
set_option linter.unusedVariables false
set_option linter.unusedSimpArgs false
namespace Go.Proofs.Ytmlmiboihjibiaa
open Go.RowKit

/-- a list or a set of elements, or nothing. -/
def kindI (k : Int) (l : List ByteArray) : Itm := ⟨k, ⟨#[]⟩, l, [], []⟩
def ofK (k : Int) (l : List ByteArray) : Itm := if l.length = 0 then newI 0 else kindI k l
theorem ofK_two (l : List ByteArray) : ofK 2 l = ofL l := rfl

def InB (B : Nat) (x : Itm) (w : World) (e : Ending) (w' : World) : Prop := ∃ u, e = .returned u ∧ ItemV w' B u x ∧ Fr [] w w'

theorem kindI_big {k : Int} {l : List ByteArray} (hk : 0 ≤ k ∧ k ≤ 5) (hl : l.length ≤ 281474976710656) (ht : ∀ s ∈ l, s.size ≤ 281474976710656) : (kindI k l).Small :=
  ⟨by show -9223372036854775808 ≤ k ∧ k ≤ 9223372036854775807; omega, by show (⟨#[]⟩ : ByteArray).size ≤ _; decide, by show l.length ≤ _; omega, by show 0 ≤ _; omega, by show 0 ≤ _; omega, ht, (fun p hp => by cases hp), (fun p hp => by cases hp)⟩
theorem kindI_small {k : Int} {l : List ByteArray} (hk : 0 ≤ k ∧ k ≤ 5) (hl : l.length ≤ 1000000) (ht : ∀ s ∈ l, s.size ≤ 281474976710656) : (kindI k l).Small := kindI_big hk (by omega) ht
theorem ofK_list (k : Int) (l : List ByteArray) : (ofK k l).list = l := by
  unfold ofK
  by_cases h : l.length = 0
  · rw [if_pos h]; exact (List.eq_nil_of_length_eq_zero h).symm
  · rw [if_neg h]; rfl

theorem newI_item (w : World) (B : Nat) : ItemV w B (.agg #[.int .i64 0, .string ⟨#[]⟩, .slice none 0 0, .slice none 0 0, .slice none 0 0]) (newI 0) :=
  ⟨none, 0, none, 0, none, 0, rfl, Sl.nil _ _ _, Sl.nil _ _ _, Sl.nil _ _ _⟩

theorem filled_sl (k : Int) (l : List ByteArray) (A : Option Addr) (c B : Nat) (w : World) (hk : 0 ≤ k ∧ k ≤ 5) (hl : l.length ≤ 1000000) (ht : ∀ s ∈ l, s.size ≤ 281474976710656) (hB : B ≤ w.heap.size) (h : Sl w B 1 (.slice A l.length c) l.length (textsV l)) :
    Calls Try.prog 75 #[.agg #[.int .i64 k, .string ⟨#[]⟩, .slice A l.length c, .slice none 0 0, .slice none 0 0]] w (InB B (ofK k l) w) := by
  have hv : ItemV w B (.agg #[.int .i64 k, .string ⟨#[]⟩, .slice A l.length c, .slice none 0 0, .slice none 0 0]) (kindI k l) := ⟨A, c, none, 0, none, 0, rfl, h, Sl.nil _ _ _, Sl.nil _ _ _⟩
  refine (filled_any (kindI k l) _ w B (kindI_small hk hl ht) hB hv).mono ?_
  rintro e w' ⟨rfl, hf⟩
  unfold ofV ofK
  rw [show many (kindI k l) = l.length from by show l.length + 0 + 0 = l.length; omega]
  by_cases h0 : l.length = 0
  · rw [if_pos h0, if_pos h0]
    exact ⟨_, rfl, newI_item _ _, hf⟩
  · rw [if_neg h0, if_neg h0]
    exact ⟨_, rfl, hv.fr hf hB (by simp), hf⟩
theorem filled_own (k : Int) (l : List ByteArray) (base : Nat) (v : Value) (w : World) (hk : 0 ≤ k ∧ k ≤ 5) (hl : l.length ≤ 1000000) (ht : ∀ s ∈ l, s.size ≤ 281474976710656) (h : w.ownsRow base 9 1 v l.length (textsV l)) :
    Calls Try.prog 75 #[.agg #[.int .i64 k, .string ⟨#[]⟩, v, .slice none 0 0, .slice none 0 0]] w (OwnI base (ofK k l) w) := by
  obtain ⟨A, c, rfl, -⟩ := own_slice h
  have hv : ItemV w w.heap.size (.agg #[.int .i64 k, .string ⟨#[]⟩, .slice A l.length c, .slice none 0 0, .slice none 0 0]) (kindI k l) := ⟨A, c, none, 0, none, 0, rfl, own_sl h, Sl.nil _ _ _, Sl.nil _ _ _⟩
  refine (filled_any (kindI k l) _ w w.heap.size (kindI_small hk hl ht) (Nat.le_refl _) hv).mono ?_
  rintro e w' ⟨rfl, hf⟩
  unfold ofV ofK
  rw [show many (kindI k l) = l.length from by show l.length + 0 + 0 = l.length; omega]
  by_cases h0 : l.length = 0
  · rw [if_pos h0, if_pos h0]
    exact ⟨_, rfl, ItemO.nothing _ _, hf⟩
  · rw [if_neg h0, if_neg h0]
    exact ⟨_, rfl, ⟨_, _, _, rfl, own_fr h hf (by simp), ⟨rfl, .inl ⟨rfl, rfl⟩⟩, ⟨rfl, .inl ⟨rfl, rfl⟩⟩⟩, hf⟩

def VNPost (k code : Int) (y : Itm) (w : World) (e : Ending) (w' : World) : Prop := ∃ u, e = .returned (.tuple #[u, .int .i64 k, .int .i64 code]) ∧ ItemV w' w'.heap.size u y ∧ Fr [] w w'
def VSPost (s : ByteArray) (code : Int) (y : Itm) (w : World) (e : Ending) (w' : World) : Prop := ∃ u, e = .returned (.tuple #[u, .string s, .int .i64 code]) ∧ ItemV w' w'.heap.size u y ∧ Fr [] w w'

/-- five stores into a block that is none of an item's: the item reads as before. -/
theorem set5_cell {w : World} {o : Nat} {a b c d e : Value} {p : Addr} (h : p.block ≠ o) : (set5 w o a b c d e).cell? p = w.cell? p := by
  have hb : ∀ (W : World) (i : Nat) u, (W.setCell ⟨o, i, none⟩ u).cell? p = W.cell? p := fun W i u => World.cell?_setCell_other W _ p u (fun he => h (by rw [← he]))
  unfold set5
  rw [hb, hb, hb, hb, hb]
theorem set5_size (w : World) (o : Nat) (a b c d e : Value) : (set5 w o a b c d e).heap.size = w.heap.size := by simp [set5, World.setCell]
theorem set5_ge {w : World} {B o : Nat} {a b c d e : Value} (h : B ≤ w.heap.size) : B ≤ (set5 w o a b c d e).heap.size := by rw [set5_size]; exact h
theorem itemV_set5 {w : World} {B o : Nat} {v : Value} {x : Itm} {a b c d e : Value} (h : ItemV w B v x) (ho : B ≤ o) : ItemV (set5 w o a b c d e) B v x :=
  h.keep fun p hp => set5_cell (by omega)

end Go.Proofs.Ytmlmiboihjibiaa
