/- slices.Index and Contains at texts; what a search answers; small words. -/
import Derived.Test.YtmlmiboihjibiaaItC
import Derived.Test.YtmlmiboihjibiaaBo
import Derived.Test.YtmlmiboihjibiaaSlA
set_option linter.unusedVariables false
set_option linter.unusedSimpArgs false
namespace Go.Proofs.Ytmlmiboihjibiaa
open Go.RowKit

def FindPost (i : Nat) (b : Bool) (w : World) (e : Ending) (w' : World) : Prop := e = .returned (.tuple #[.int .i64 i, .bool b]) ∧ Fr [] w w'

theorem frB_cell {S : List Nat} {B : Nat} {a b : World} (h : FrB S B a b) {p : Addr} {v : Value} (hc : a.cell? p = some v) (hB : p.block < B) (hS : p.block ∉ S) : b.cell? p = some v :=
  (World.cell?_of_block (h.block _ (World.block_lt_of_cell? a p hc) hB hS)).trans hc
theorem sl_frB {w w' : World} {B D size n : Nat} {v : Value} {xs : List Value} (h : Sl w B size v n xs) (hf : FrB [] D w w') (hD : B ≤ D) : Sl w' B size v n xs := by
  obtain ⟨A, c, e, hl, hc, hm, hr⟩ := h
  refine ⟨A, c, e, hl, hc, hm, fun hn => ?_⟩
  obtain ⟨g, off, e2, hg, hcell⟩ := hr hn
  exact ⟨g, off, e2, hg, fun j u hu => frB_cell hf (hcell j u hu) (Nat.lt_of_lt_of_le hg hD) (by simp)⟩

theorem idxOf_any2 {α : Type} (p : α → Bool) (l : List α) : l.any p = decide (idxOf p l ≥ 0) := by
  unfold idxOf
  cases hf : l.findIdx? p with
  | none =>
    rw [List.findIdx?_eq_none_iff] at hf
    show l.any p = decide ((-1 : Int) ≥ 0)
    rw [List.any_eq_false.2 (fun x hx => by simp [hf x hx])]
    rfl
  | some k =>
    rw [List.findIdx?_eq_some_iff_getElem] at hf
    obtain ⟨hlt, he, _⟩ := hf
    rw [List.any_eq_true.2 ⟨_, List.getElem_mem hlt, he⟩]
    exact (decide_eq_true (show ((k : Nat) : Int) ≥ 0 by omega)).symm

set_option maxHeartbeats 800000 in
theorem containsS_any (l : List ByteArray) (s : ByteArray) (A : Option Addr) (c B : Nat) (w : World) (hl : l.length ≤ 281474976710656) (hB : B ≤ w.heap.size) (h : Sl w B 1 (.slice A l.length c) l.length (textsV l)) :
    Calls Try.prog 68 #[.slice A l.length c, .string s] w fun e w' => e = .returned (.bool (l.any fun y => decide (y = s))) ∧ w = w' := by
  have HS := Lib.hid h
  clear h
  have IX : Calls Try.prog 122 #[.slice A l.length c, .string s] w fun e w' => e = .returned (.int .i64 (idxOf (fun y => decide (y = s)) l)) ∧ w = w' := by
    go_enter Try.func122, Try.ntmps122
    go_wp2
    go_loopg [5, 8] l.length (fun g u i wr => ∃ (k : Nat), g = l.length - k ∧ k ≤ l.length ∧ i = .int .i64 k ∧ (∀ (j : Nat) t, j < k → l[j]? = some t → (fun y => decide (y = s)) t = false) ∧ w = wr)
    case atStart => exact ⟨0, rfl, Nat.zero_le _, rfl, fun j t hj => absurd hj (Nat.not_lt_zero _), rfl⟩
    case round =>
      obtain ⟨k, rfl, hk, rfl, hno, rfl⟩ := hrel
      by_cases hlt : k < l.length
      · obtain ⟨b, off, rfl, hb, hc, hm, hcell⟩ := HS.out.at_ (by omega)
        obtain ⟨t, ht⟩ : ∃ t, l[k]? = some t := ⟨_, List.getElem?_eq_getElem hlt⟩
        have hc1 : w.cell? ⟨b, off + k, none⟩ = some (.string t) := hcell k _ (textsV_get l k t ht)
        by_cases hq : t = s
        · have E := Lib.hid (idxOf_found hno ht (decide_eq_true hq))
          have q : (s.toList == t.toList) = true := by have := eqB s t; rw [decide_eq_true hq.symm] at this; exact this
          clear hno hcell ht hq
          go_wp2
          go_ret
          rw [E.out]
          exact ⟨rfl, rfl⟩
        · have q : (s.toList == t.toList) = false := by have := eqB s t; rw [decide_eq_false (fun e => hq e.symm)] at this; exact this
          have N := Lib.hid (fun j t' (hj : j < k + 1) (ht' : l[j]? = some t') => (show (fun y => decide (y = s)) t' = false by
            rcases Nat.lt_or_ge j k with h | h
            · exact hno j t' h ht'
            · have e : j = k := by omega
              subst e
              rw [ht] at ht'
              cases ht'
              exact decide_eq_false hq))
          clear hno hcell ht hq
          go_wp2
          go_roundg (l.length - (k + 1))
          case measure => omega
          case rel => exact ⟨k + 1, rfl, by omega, by go_num, N.out, rfl⟩
      · have E := Lib.hid (idxOf_none (q := fun y => decide (y = s)) (l := l) (fun j t ht => hno j t (by have := (List.getElem?_eq_some_iff.1 ht).1; omega) ht))
        clear hno
        go_wp2
        go_ret
        rw [E.out]
        exact ⟨rfl, rfl⟩
  have EQ := idxOf_any2 (fun y => decide (y = s)) l
  have IX := Lib.hid IX
  generalize idxOf (fun y => decide (y = s)) l = i at *
  generalize (l.any fun y => decide (y = s)) = b at *
  subst EQ
  go_enter Try.func68, Try.ntmps68
  go_wp2_with fail
  refine IX.out.mono ?_
  rintro e w1 ⟨rfl, rfl⟩
  go_wp2
  go_ret
  exact ⟨rfl, rfl⟩
end Go.Proofs.Ytmlmiboihjibiaa
