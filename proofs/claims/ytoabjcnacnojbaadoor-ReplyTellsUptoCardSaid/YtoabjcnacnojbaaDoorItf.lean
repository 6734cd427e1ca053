/- Items: rows of their elements, items that a call owns, what is known of an item that is right; whether two are the same. -/
import Derived.Test.YtoabjcnacnojbaaDoorProg
import Derived.Laws.AppendOwn
import Derived.Maps.AppendAt
import Derived.Lib.Builder
import Derived.Lib.AppendStr
import Derived.Lib.UnsafeStr
import Derived.Lib.Strings
import Derived.RegionTactic
import Derived.Laws.Externs
import Derived.Lib.ConvBytes
import Derived.Laws.BitsAllLaws
import Derived.Laws.BitsLemmas
import Derived.Deep.RegionHeld3
import Derived.Deep.DrawnRows
import Derived.Deep.RegionLaw
import Derived.Test.YtoabjcnacnojbaaDoorBase
import Derived.Test.YtoabjcnacnojbaaDoorItC
import Derived.Deep.RegionWith
set_option linter.unusedVariables false
set_option linter.unusedSimpArgs false
namespace Go.Proofs.YtoabjcnacnojbaaDoor
open Go.RowKit

theorem emptyB : (⟨#[]⟩ : ByteArray) = ByteArray.empty := rfl
theorem stringInfo : (Tryd.prog.info? 9).map (fun i => (i.zero, i.size, i.bytes)) = some (some (.string ⟨#[]⟩), 1, 16) := by kernel_rfl
theorem textsV_snoc (l : List ByteArray) (s : ByteArray) : textsV (l ++ [s]) = textsV l ++ [.string s] := by simp [textsV]
theorem pairsV_snoc (l : List (ByteArray × ByteArray)) (p : ByteArray × ByteArray) : pairsV (l ++ [p]) = pairsV l ++ [.string p.1, .string p.2] := by simp [pairsV]
theorem scoresV_snoc (l : List (Int × ByteArray)) (p : Int × ByteArray) : scoresV (l ++ [p]) = scoresV l ++ [.int .i64 p.1, .string p.2] := by simp [scoresV]
theorem slice_of_own {w : World} {base e size n : Nat} {v : Value} {xs : List Value} (h : w.ownsRow base e size v (n + 1) xs) : ∃ g cap, v = .slice (some ⟨g, 0, none⟩) (n + 1) cap := by
  rcases h.2 with ⟨_, h0⟩ | ⟨g, cap, cur, hv, _⟩
  · omega
  · exact ⟨g, cap, hv⟩
theorem sl_form {w : World} {B size n : Nat} {v : Value} {xs : List Value} (h : Sl w B size v n xs) : ∃ A c, v = .slice A n c := by
  obtain ⟨A, c, e, _⟩ := h
  exact ⟨A, c, e⟩
theorem own_base {w : World} {base base' e size n : Nat} {v : Value} {xs : List Value} (h : w.ownsRow base e size v n xs) (hb : base' ≤ base) : w.ownsRow base' e size v n xs := by
  refine ⟨h.1, ?_⟩
  rcases h.2 with hz | ⟨g, cap, cur, rfl, hbg, rest⟩
  · exact .inl hz
  · exact .inr ⟨g, cap, cur, rfl, by omega, rest⟩
theorem fiveF {w : World} {g t : Nat} {a b c d e : Value} (h : Whole w g t [a, b, c, d, e]) :
    w.frozen? ⟨g, 0, none⟩ = false ∧ w.frozen? ⟨g, 1, none⟩ = false ∧ w.frozen? ⟨g, 2, none⟩ = false ∧ w.frozen? ⟨g, 3, none⟩ = false ∧ w.frozen? ⟨g, 4, none⟩ = false :=
  ⟨h.frozen 0, h.frozen 1, h.frozen 2, h.frozen 3, h.frozen 4⟩
theorem newI_small (n : Nat) (hn : n < 256) : (newI n).Small :=
  ⟨⟨by show -9223372036854775808 ≤ (n : Int); omega, by show (n : Int) ≤ 9223372036854775807; omega⟩, by show (0 : Nat) ≤ _; omega, by show (0 : Nat) ≤ _; omega, by show (0 : Nat) ≤ _; omega, by show (0 : Nat) ≤ _; omega, fun s hs => absurd hs (by simp [newI]), fun s hs => absurd hs (by simp [newI]), fun s hs => absurd hs (by simp [newI])⟩
def set5 (w : World) (o : Nat) (a b c d e : Value) : World := ((((w.setCell ⟨o, 0, none⟩ a).setCell ⟨o, 1, none⟩ b).setCell ⟨o, 2, none⟩ c).setCell ⟨o, 3, none⟩ d).setCell ⟨o, 4, none⟩ e
theorem own_set5 {w : World} {base e0 size n : Nat} {v : Value} {xs : List Value} {o T : Nat} {cs : List Value} (h : w.ownsRow base e0 size v n xs) (hw : Whole w o T cs) (hT : T ≠ e0) (a b c d e : Value) : (set5 w o a b c d e).ownsRow base e0 size v n xs := by
  have hn := own_ne h hw hT
  exact own_set _ (own_set _ (own_set _ (own_set _ (own_set _ h hn) hn) hn) hn) hn
/-- what is right of an item that is. -/
structure RightI (x : Itm) : Prop where
  kind : 1 ≤ x.kind ∧ x.kind ≤ 5
  bare : bareB x = true
  many : many x ≤ 24
  text : x.text.size ≤ 60
  texts : ∀ s ∈ x.list, s.size ≤ 60
  fields : ∀ p ∈ x.pairs, p.1.size ≤ 60 ∧ p.2.size ≤ 60
  members : ∀ p ∈ x.scores, isInt p.1 = true ∧ p.2.size ≤ 60
theorem scoresCode_ok {l : List (Int × ByteArray)} (h : scoresCode l = 0) : (∀ p ∈ l, isInt p.1 = true) ∧ (l.map (·.2)).Nodup ∧ rises ltC l = true := by
  unfold scoresCode at h
  by_cases h1 : (l.any fun p => !isInt p.1) = true
  · rw [if_pos h1] at h; cases h
  · rw [if_neg h1] at h
    by_cases h2 : ¬ (l.map (·.2)).Nodup
    · rw [if_pos h2] at h; cases h
    · rw [if_neg h2] at h
      by_cases h3 : rises ltC l = true
      · refine ⟨fun p hp => ?_, Decidable.not_not.1 h2, h3⟩
        have h1' : (l.any fun p => !isInt p.1) = false := by
          cases hc : (l.any fun p => !isInt p.1) with
          | false => rfl
          | true => exact absurd hc h1
        have := List.any_eq_false.1 h1' p hp
        simpa using this
      · rw [if_neg h3] at h; cases h
theorem right_of {x : Itm} (h : checkItm x = 0) : RightI x := by
  unfold checkItm at h
  by_cases h1 : ¬ (1 ≤ x.kind ∧ x.kind ≤ 5)
  · rw [if_pos h1] at h; cases h
  rw [if_neg h1] at h
  by_cases h2 : bareB x = false
  · rw [if_pos h2] at h; cases h
  rw [if_neg h2] at h
  have hb : bareB x = true := by simpa using h2
  have hform := hb
  simp only [bareB, Bool.and_eq_true, Bool.or_eq_true, beq_iff_eq] at hform
  by_cases h3 : x.kind = 1
  · rw [if_pos h3] at h
    by_cases h4 : 60 < x.text.size
    · rw [if_pos h4] at h; cases h
    · have l1 : x.list.length = 0 := by omega
      have l2 : x.pairs.length = 0 := by omega
      have l3 : x.scores.length = 0 := by omega
      refine ⟨Decidable.not_not.1 h1, hb, by unfold Go.Proofs.YtoabjcnacnojbaaDoor.many; omega, by omega, ?_, ?_, ?_⟩
      · rw [List.eq_nil_of_length_eq_zero l1]; intro s hs; cases hs
      · rw [List.eq_nil_of_length_eq_zero l2]; intro s hs; cases hs
      · rw [List.eq_nil_of_length_eq_zero l3]; intro s hs; cases hs
  rw [if_neg h3] at h
  by_cases h4 : Go.Proofs.YtoabjcnacnojbaaDoor.many x = 0
  · rw [if_pos h4] at h; cases h
  rw [if_neg h4] at h
  by_cases h5 : 24 < Go.Proofs.YtoabjcnacnojbaaDoor.many x ∨ longI x = true
  · rw [if_pos h5] at h; cases h
  rw [if_neg h5] at h
  by_cases h6 : (x.kind = 3 ∧ rises ltS x.list = false) ∨ (x.kind = 4 ∧ rises ltP x.pairs = false)
  · rw [if_pos h6] at h; cases h
  rw [if_neg h6] at h
  have hs := scoresCode_ok h
  have hl : longI x = false := by simpa using fun e => h5 (.inr e)
  unfold longI at hl
  simp only [Bool.or_eq_false_iff] at hl
  refine ⟨Decidable.not_not.1 h1, hb, by omega, by omega, ?_, ?_, ?_⟩
  · intro s hs
    have := List.any_eq_false.1 hl.1.1 s hs
    simp [longS] at this
    exact this
  · intro p hp
    have := List.any_eq_false.1 hl.1.2 p hp
    simp [longP] at this
    exact this
  · intro p hp
    have := List.any_eq_false.1 hl.2 p hp
    simp [longC] at this
    exact ⟨hs.1 p hp, this⟩
/-- two lists agree ahead of a place. -/
def Ahead {α : Type} (a b : List α) (m : Nat) : Prop := ∀ j, j < m → a[j]? = b[j]?
theorem ahead_zero {α : Type} (a b : List α) : Ahead a b 0 := fun j hj => absurd hj (Nat.not_lt_zero _)
theorem ahead_step {α : Type} {a b : List α} {m : Nat} {s : α} (h : Ahead a b m) (ha : a[m]? = some s) (hb : b[m]? = some s) : Ahead a b (m + 1) := by
  intro j hj
  rcases Nat.lt_or_ge j m with h1 | h1
  · exact h j h1
  · have e : j = m := by omega
    rw [e, ha, hb]
theorem ahead_end {α : Type} {a b : List α} {m : Nat} (h : Ahead a b m) (ha : a.length ≤ m) (hl : a.length = b.length) : a = b := by
  apply List.ext_getElem?
  intro j
  rcases Nat.lt_or_ge j m with h1 | h1
  · exact h j h1
  · rw [List.getElem?_eq_none (by omega), List.getElem?_eq_none (by omega)]
theorem ahead_no {α : Type} {a b : List α} {m : Nat} {s t : α} (ha : a[m]? = some s) (hb : b[m]? = some t) (hne : s ≠ t) : a ≠ b := by
  rintro rfl
  rw [ha] at hb
  injection hb with hb
  exact hne hb
def sameT (a b : List ByteArray) : Bool := decide (a = b)
theorem neqB {s t : ByteArray} (h : s ≠ t) : (s.toList == t.toList) = false ∧ (s.toList != t.toList) = true := by
  have := eqB s t
  rw [decide_eq_false h] at this
  exact ⟨this, by rw [bne, this]; rfl⟩
theorem eqqB (s : ByteArray) : (s.toList == s.toList) = true ∧ (s.toList != s.toList) = false := by
  have := eqB s s
  rw [decide_eq_true rfl] at this
  exact ⟨this, by rw [bne, this]; rfl⟩
/-- are two items? -/
def sameI (x y : Itm) : Bool := decide (x.kind = y.kind) && decide (x.text = y.text) && sameT x.list y.list && decide (x.pairs = y.pairs) && decide (x.scores = y.scores)
theorem sameI_iff {x y : Itm} : sameI x y = true ↔ x = y := by
  constructor
  · intro h
    simp only [sameI, sameT, Bool.and_eq_true, decide_eq_true_eq] at h
    cases x
    cases y
    simp_all
  · rintro rfl
    simp [sameI, sameT]
theorem sameI_refl (x : Itm) : sameI x x = true := sameI_iff.2 rfl
def bsI (l : List UInt8) : ByteArray := ⟨l.toArray⟩
/-- the item that the laws begin with. -/
def tallyI : Itm := ⟨5, ⟨#[]⟩, [], [], [(-1, bsI [98]), (2, bsI [97]), (2, bsI [99])]⟩
theorem tally_small : tallyI.Small := ⟨by decide, by decide, by decide, by decide, by decide, by decide, by decide, by decide⟩
theorem tally_check : checkItm tallyI = 0 := by decide +kernel
theorem Fr.dr {S : List Nat} {w w' : World} (h : Fr S w.drew w') : Fr S w w' := ⟨h.os, h.tape, h.output, h.size, h.block⟩
theorem right_small {x : Itm} (h : RightI x) : x.Small := by
  have hm := h.many
  unfold many at hm
  have hk := h.kind
  refine ⟨by omega, by have := h.text; omega, by omega, by omega, by omega, fun s hs => by have := h.texts s hs; omega, fun p hp => by have := h.fields p hp; omega, fun p hp => ?_⟩
  have := h.members p hp
  have hi := this.1
  simp only [isInt, Bool.and_eq_true, decide_eq_true_eq] at hi
  omega
/-- an item of this world, wherever. -/
theorem ItemV.at_ {w W : World} {B : Nat} {v : Value} {x : Itm} (h : ItemV w B v x) (hB : B ≤ w.heap.size) (hf : Fr [] w W) : ItemV W W.heap.size v x :=
  (h.fr hf hB (by simp)).more (Nat.le_trans hB hf.size)
def CodeOf (c : Int) : Bool := decide (c = 0)
end Go.Proofs.YtoabjcnacnojbaaDoor
