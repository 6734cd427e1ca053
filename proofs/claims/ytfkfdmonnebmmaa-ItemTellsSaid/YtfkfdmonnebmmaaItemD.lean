/- The walks of slices.IndexFunc and ContainsFunc at an item's rows, and of long. -/
import Derived.Test.YtfkfdmonnebmmaaItemC
set_option linter.unusedVariables false
set_option linter.unusedSimpArgs false
namespace Go.Proofs.Ytfkfdmonnebmmaa
open Go.RowKit

theorem long1_any (a b : ByteArray) (w : World) : Calls Try.prog 110 #[.agg #[.string a, .string b]] w fun e w' => e = .returned (.bool (decide (60 < a.size) || decide (60 < b.size))) ∧ Fr [] w w' := by
  have L1 := Lib.hid (fun W => long_any a W)
  have L2 := Lib.hid (fun W => long_any b W)
  by_cases h : 60 < a.size
  · rw [decide_eq_true h] at L1 ⊢
    go_enter Try.func110, Try.ntmps110
    go_wp2_with fail
    refine (L1.out _).mono ?_
    rintro e w1 ⟨rfl, rfl⟩
    go_wp2
    go_ret
    exact ⟨rfl, (Fr.refl [] w).alloc _⟩
  · rw [decide_eq_false h] at L1 ⊢
    go_enter Try.func110, Try.ntmps110
    go_wp2_with fail
    refine (L1.out _).mono ?_
    rintro e w1 ⟨rfl, rfl⟩
    go_wp2_with fail
    refine (L2.out _).mono ?_
    rintro e w1 ⟨rfl, rfl⟩
    go_wp2
    go_ret
    exact ⟨rfl, (Fr.refl [] w).alloc _⟩

theorem long2_any (a : Int) (b : ByteArray) (w : World) : Calls Try.prog 112 #[.agg #[.int .i64 a, .string b]] w fun e w' => e = .returned (.bool (decide (60 < b.size))) ∧ Fr [] w w' := by
  go_enter Try.func112, Try.ntmps112
  go_wp2_with fail
  refine (long_any _ _).mono ?_
  rintro e w1 ⟨rfl, rfl⟩
  go_wp2
  go_ret
  exact ⟨rfl, (Fr.refl [] w).alloc _⟩

/-- the first place where q is so, else -1. -/
def idxOf {α : Type} (q : α → Bool) (l : List α) : Int := match l.findIdx? q with | some i => i | none => -1

theorem idxOf_found {α : Type} {q : α → Bool} {l : List α} {k : Nat} {s : α} (h : ∀ (j : Nat) t, j < k → l[j]? = some t → q t = false) (hk : l[k]? = some s) (hq : q s = true) : idxOf q l = k := by
  have : l.findIdx? q = some k := by
    rw [List.findIdx?_eq_some_iff_getElem]
    obtain ⟨hlt, he⟩ := List.getElem?_eq_some_iff.1 hk
    exact ⟨hlt, by rw [he]; exact hq, fun j hj => by rw [h j _ hj (List.getElem?_eq_getElem (by omega))]; decide⟩
  unfold idxOf; rw [this]
theorem idxOf_none {α : Type} {q : α → Bool} {l : List α} (h : ∀ (j : Nat) t, l[j]? = some t → q t = false) : idxOf q l = -1 := by
  have : l.findIdx? q = none := by
    rw [List.findIdx?_eq_none_iff]
    intro t ht
    obtain ⟨j, hj⟩ := List.getElem?_of_mem ht
    exact h j t hj
  unfold idxOf; rw [this]

def longS (s : ByteArray) : Bool := decide (60 < s.size)

set_option maxHeartbeats 400000 in
theorem idxLong_any (l : List ByteArray) (A : Option Addr) (c B : Nat) (w : World) (hl : l.length ≤ 281474976710656) (hB : B ≤ w.heap.size) (hsl : Sl w B 1 (.slice A l.length c) l.length (textsV l)) :
    Calls Try.prog 120 #[.slice A l.length c, .func (Fn.func 67) #[] #[]] w fun e w' => e = .returned (.int .i64 (idxOf longS l)) ∧ Fr [] w w' := by
  have HS := Lib.hid hsl
  clear hsl
  go_enter Try.func120, Try.ntmps120
  go_wp2
  go_loopg [5, 8] l.length (fun g u i wr => ∃ (k : Nat), g = l.length - k ∧ k ≤ l.length ∧ i = .int .i64 k ∧ (∀ j t, j < k → l[j]? = some t → longS t = false) ∧ Fr [] w wr)
  case atStart => exact ⟨0, rfl, Nat.zero_le _, rfl, fun j t hj => absurd hj (Nat.not_lt_zero _), Fr.refl _ _⟩
  case round =>
    obtain ⟨k, rfl, hk, rfl, hno, hf⟩ := hrel
    by_cases hlt : k < l.length
    · obtain ⟨b, off, rfl, hb, hc, hm, hcell⟩ := HS.out.at_ (by omega)
      obtain ⟨s, hs⟩ : ∃ s, l[k]? = some s := ⟨_, List.getElem?_eq_getElem hlt⟩
      have hc1 : wr.cell? ⟨b, off + k, none⟩ = some (.string s) := hf.cell (hcell k _ (textsV_get l k s hs)) (by simp)
      have L := Lib.hid (fun W => long_any s W)
      by_cases hq : longS s = true
      · have E := Lib.hid (idxOf_found hno hs hq)
        rw [show decide (60 < s.size) = true from hq] at L
        clear hno hcell hs hq
        go_wp2_with fail
        refine (L.out _).mono ?_
        rintro e w1 ⟨rfl, rfl⟩
        go_wp2
        go_ret
        rw [E.out]
        exact ⟨rfl, hf⟩
      · have hq' : longS s = false := by simpa using hq
        rw [show decide (60 < s.size) = false from hq'] at L
        have N := Lib.hid (fun j t (hj : j < k + 1) (ht : l[j]? = some t) => (show longS t = false by
          rcases Nat.lt_or_ge j k with h | h
          · exact hno j t h ht
          · have e : j = k := by omega
            subst e
            rw [hs] at ht
            cases ht
            exact hq'))
        clear hno hcell hs hq hq'
        go_wp2_with fail
        refine (L.out _).mono ?_
        rintro e w1 ⟨rfl, rfl⟩
        go_wp2
        go_roundg (l.length - (k + 1))
        case measure => omega
        case rel => exact ⟨k + 1, rfl, by omega, rfl, N.out, hf⟩
    · have E := Lib.hid (idxOf_none (q := longS) (l := l) (fun j t ht => hno j t (by have := (List.getElem?_eq_some_iff.1 ht).1; omega) ht))
      clear hno
      go_wp2
      go_ret
      rw [E.out]
      exact ⟨rfl, hf⟩
def longP (s : ByteArray × ByteArray) : Bool := decide (60 < s.1.size) || decide (60 < s.2.size)

set_option maxHeartbeats 400000 in
theorem idxLongP_any (l : List (ByteArray × ByteArray)) (A : Option Addr) (c B : Nat) (w : World) (hl : l.length ≤ 281474976710656) (hB : B ≤ w.heap.size) (hsl : Sl w B 2 (.slice A l.length c) l.length (pairsV l)) :
    Calls Try.prog 121 #[.slice A l.length c, .func (Fn.func 110) #[] #[]] w fun e w' => e = .returned (.int .i64 (idxOf longP l)) ∧ Fr [] w w' := by
  have HS := Lib.hid hsl
  clear hsl
  go_enter Try.func121, Try.ntmps121
  go_wp2
  go_loopg [5, 8] l.length (fun g u i wr => ∃ (k : Nat), g = l.length - k ∧ k ≤ l.length ∧ i = .int .i64 k ∧ (∀ j t, j < k → l[j]? = some t → longP t = false) ∧ Fr [] w wr)
  case atStart => exact ⟨0, rfl, Nat.zero_le _, rfl, fun j t hj => absurd hj (Nat.not_lt_zero _), Fr.refl _ _⟩
  case round =>
    obtain ⟨k, rfl, hk, rfl, hno, hf⟩ := hrel
    by_cases hlt : k < l.length
    · obtain ⟨b, off, rfl, hb, hc, hm, hcell⟩ := HS.out.at_ (by omega)
      obtain ⟨s, hs⟩ : ∃ s, l[k]? = some s := ⟨_, List.getElem?_eq_getElem hlt⟩
      have hc1 : wr.cell? ⟨b, off + 2 * k, none⟩ = some (.string s.1) := hf.cell (hcell _ _ (pairsV_get l k s hs).1) (by simp)
      have hc2 : wr.cell? ⟨b, off + 2 * k + 1, none⟩ = some (.string s.2) := hf.cell (hcell _ _ (pairsV_get l k s hs).2) (by simp)
      rw [Nat.mul_comm 2 k] at hc1 hc2
      have L := Lib.hid (fun W => long1_any s.1 s.2 W)
      by_cases hq : longP s = true
      · have E := Lib.hid (idxOf_found hno hs hq)
        rw [show (decide (60 < s.1.size) || decide (60 < s.2.size)) = true from hq] at L
        clear hno hcell hs hq
        go_wp2_with fail
        refine (L.out _).mono ?_
        rintro e w1 ⟨rfl, h1⟩
        go_wp2
        go_ret
        rw [E.out]
        exact ⟨rfl, hf.trans h1⟩
      · have hq' : longP s = false := by simpa using hq
        rw [show (decide (60 < s.1.size) || decide (60 < s.2.size)) = false from hq'] at L
        have N := Lib.hid (fun j t (hj : j < k + 1) (ht : l[j]? = some t) => (show longP t = false by
          rcases Nat.lt_or_ge j k with h | h
          · exact hno j t h ht
          · have e : j = k := by omega
            subst e
            rw [hs] at ht
            cases ht
            exact hq'))
        clear hno hcell hs hq hq'
        go_wp2_with fail
        refine (L.out _).mono ?_
        rintro e w1 ⟨rfl, h1⟩
        go_wp2
        go_roundg (l.length - (k + 1))
        case measure => omega
        case rel => exact ⟨k + 1, rfl, by omega, rfl, N.out, hf.trans h1⟩
    · have E := Lib.hid (idxOf_none (q := longP) (l := l) (fun j t ht => hno j t (by have := (List.getElem?_eq_some_iff.1 ht).1; omega) ht))
      clear hno
      go_wp2
      go_ret
      rw [E.out]
      exact ⟨rfl, hf⟩
def longC (s : Int × ByteArray) : Bool := decide (60 < s.2.size)

set_option maxHeartbeats 400000 in
theorem idxLongC_any (l : List (Int × ByteArray)) (A : Option Addr) (c B : Nat) (w : World) (hl : l.length ≤ 281474976710656) (hB : B ≤ w.heap.size) (hsl : Sl w B 2 (.slice A l.length c) l.length (scoresV l)) :
    Calls Try.prog 129 #[.slice A l.length c, .func (Fn.func 112) #[] #[]] w fun e w' => e = .returned (.int .i64 (idxOf longC l)) ∧ Fr [] w w' := by
  have HS := Lib.hid hsl
  clear hsl
  go_enter Try.func129, Try.ntmps129
  go_wp2
  go_loopg [5, 8] l.length (fun g u i wr => ∃ (k : Nat), g = l.length - k ∧ k ≤ l.length ∧ i = .int .i64 k ∧ (∀ j t, j < k → l[j]? = some t → longC t = false) ∧ Fr [] w wr)
  case atStart => exact ⟨0, rfl, Nat.zero_le _, rfl, fun j t hj => absurd hj (Nat.not_lt_zero _), Fr.refl _ _⟩
  case round =>
    obtain ⟨k, rfl, hk, rfl, hno, hf⟩ := hrel
    by_cases hlt : k < l.length
    · obtain ⟨b, off, rfl, hb, hc, hm, hcell⟩ := HS.out.at_ (by omega)
      obtain ⟨s, hs⟩ : ∃ s, l[k]? = some s := ⟨_, List.getElem?_eq_getElem hlt⟩
      have hc1 : wr.cell? ⟨b, off + 2 * k, none⟩ = some (.int .i64 s.1) := hf.cell (hcell _ _ (scoresV_get l k s hs).1) (by simp)
      have hc2 : wr.cell? ⟨b, off + 2 * k + 1, none⟩ = some (.string s.2) := hf.cell (hcell _ _ (scoresV_get l k s hs).2) (by simp)
      rw [Nat.mul_comm 2 k] at hc1 hc2
      have L := Lib.hid (fun W => long2_any s.1 s.2 W)
      by_cases hq : longC s = true
      · have E := Lib.hid (idxOf_found hno hs hq)
        rw [show (decide (60 < s.2.size)) = true from hq] at L
        clear hno hcell hs hq
        go_wp2_with fail
        refine (L.out _).mono ?_
        rintro e w1 ⟨rfl, h1⟩
        go_wp2
        go_ret
        rw [E.out]
        exact ⟨rfl, hf.trans h1⟩
      · have hq' : longC s = false := by simpa using hq
        rw [show (decide (60 < s.2.size)) = false from hq'] at L
        have N := Lib.hid (fun j t (hj : j < k + 1) (ht : l[j]? = some t) => (show longC t = false by
          rcases Nat.lt_or_ge j k with h | h
          · exact hno j t h ht
          · have e : j = k := by omega
            subst e
            rw [hs] at ht
            cases ht
            exact hq'))
        clear hno hcell hs hq hq'
        go_wp2_with fail
        refine (L.out _).mono ?_
        rintro e w1 ⟨rfl, h1⟩
        go_wp2
        go_roundg (l.length - (k + 1))
        case measure => omega
        case rel => exact ⟨k + 1, rfl, by omega, rfl, N.out, hf.trans h1⟩
    · have E := Lib.hid (idxOf_none (q := longC) (l := l) (fun j t ht => hno j t (by have := (List.getElem?_eq_some_iff.1 ht).1; omega) ht))
      clear hno
      go_wp2
      go_ret
      rw [E.out]
      exact ⟨rfl, hf⟩
end Go.Proofs.Ytfkfdmonnebmmaa
