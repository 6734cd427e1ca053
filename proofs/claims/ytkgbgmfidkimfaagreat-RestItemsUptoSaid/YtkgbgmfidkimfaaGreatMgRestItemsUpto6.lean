/- The walk of the reference's RemoveOf. (Printed by lists2.py.) The walks of list.Some and of the reference's CheckSome. slices.Index and Contains at texts; what a search answers; small words. -/
import Derived.Test.YtkgbgmfidkimfaaGreatMgRestItemsUpto5
import Derived.Test.YtkgbgmfidkimfaaGreatMgRestItemsUpto1
import Derived.Test.YtkgbgmfidkimfaaGreatItC
import Derived.Test.YtkgbgmfidkimfaaGreatSlA
set_option linter.unusedVariables false
set_option linter.unusedSimpArgs false
namespace Go.Proofs.YtkgbgmfidkimfaaGreat
open Go.RowKit

def remOfY (k : Int) (x : Itm) (m : List ByteArray) : Itm := if asCode k x = 0 then ofK k (lessL x.list m) else newI 0
def remOfK (k : Int) (x : Itm) (m : List ByteArray) : Int := if asCode k x = 0 then (x.list.length : Int) - (lessL x.list m).length else 0

end Go.Proofs.YtkgbgmfidkimfaaGreat

namespace Go.Proofs.YtkgbgmfidkimfaaGreat
open Go.RowKit

set_option maxRecDepth 100000 in
theorem some_any (l : List ByteArray) (A : Option Addr) (c : Nat) (w : World) (B : Nat) (hl : l.length ≤ 281474976710656) (hB : B ≤ w.heap.size) (h : Sl w B 1 (.slice A l.length c) l.length (textsV l)) :
    Calls Tryz.prog 44 #[.slice A l.length c] w fun e w' => e = .returned (.int .i64 (someCode l)) ∧ Fr [] w w' := by
  have C := Lib.hid (conS_any l A c B w hl hB h)
  unfold someCode
  generalize l.any longS = b at *
  clear h
  by_cases hm : l.length = 0
  · rw [if_pos hm]
    have q : ((l.length : Int) == 0) = true := by simp [hm]
    go_enter Tryz.func44, Tryz.ntmps44
    go_wp2
    go_ret
    exact ⟨rfl, Fr.refl [] w⟩
  · rw [if_neg hm]
    have q : ((l.length : Int) == 0) = false := beq_eq_false_iff_ne.2 (by omega)
    clear hm
    cases b
    · go_enter Tryz.func44, Tryz.ntmps44
      go_wp2_with fail
      refine C.out.mono ?_
      rintro e w1 ⟨rfl, f1⟩
      go_wp2
      go_ret
      exact ⟨rfl, f1⟩
    · go_enter Tryz.func44, Tryz.ntmps44
      go_wp2_with fail
      refine C.out.mono ?_
      rintro e w1 ⟨rfl, f1⟩
      go_wp2
      go_ret
      exact ⟨rfl, f1⟩
set_option maxRecDepth 100000 in
theorem checkSome_any (l : List ByteArray) (A : Option Addr) (c : Nat) (w : World) (B : Nat) (hl : l.length ≤ 281474976710656) (hB : B ≤ w.heap.size) (h : Sl w B 1 (.slice A l.length c) l.length (textsV l)) :
    Calls Tryz.prog 41 #[.slice A l.length c] w fun e w' => e = .returned (.int .i64 (someCode l)) ∧ Fr [] w w' := by
  have H1 := Lib.hid h
  have hE : someCode l = if l.length = 0 then 1 else if l.any longS = true then 2 else 0 := rfl
  have HE := Lib.hid hE
  clear h hE
  by_cases hm : l.length = 0
  · have E := Lib.hid (HE.out.trans (if_pos hm))
    go_enter Tryz.func41, Tryz.ntmps41
    go_wp2
    go_ret
    rw [E.out]
    exact ⟨rfl, Fr.refl [] w⟩
  · have q : ((l.length : Int) == 0) = false := beq_eq_false_iff_ne.2 (by omega)
    have HE2 := Lib.hid (HE.out.trans (if_neg hm))
    clear hm HE
    go_enter Tryz.func41, Tryz.ntmps41
    go_wp2
    go_loopg [3] l.length (fun g i wr => ∃ (m : Nat), g = l.length - m ∧ i = .int .i64 m ∧ m ≤ l.length ∧ (l.drop m).any longS = l.any longS ∧ Fr [] w wr)
    case atStart => exact ⟨0, rfl, rfl, Nat.zero_le _, rfl, Fr.refl [] w⟩
    case round =>
    obtain ⟨m, rfl, rfl, hm, hR, hf⟩ := hrel
    have HF := Lib.hid hf
    clear hf
    by_cases hlt : m < l.length
    · obtain ⟨b, off, e, hb, hc, hmx, hcell⟩ := H1.out.at_ (by omega)
      obtain ⟨s, hs⟩ : ∃ s, l[m]? = some s := ⟨_, List.getElem?_eq_getElem hlt⟩
      subst e
      have hc1 : wr.cell? ⟨b, off + m, none⟩ = some (.string s) := HF.out.cell (hcell _ _ (textsV_get _ m s hs)) (by simp)
      rw [any_step hs] at hR
      by_cases hq : 60 < s.size
      · rw [show longS s = true from decide_eq_true hq, Bool.true_or] at hR
        have E := Lib.hid (HE2.out.trans (if_pos hR.symm))
        clear hR hcell hs
        go_wp2
        go_ret
        rw [E.out]
        exact ⟨rfl, HF.out⟩
      · rw [show longS s = false from decide_eq_false hq, Bool.false_or] at hR
        have HR := Lib.hid hR
        clear hR hcell hs
        go_wp2
        go_roundg (l.length - (m + 1))
        case measure => omega
        case rel => exact ⟨m + 1, rfl, rfl, by omega, HR.out, HF.out⟩
    have E := Lib.hid (HE2.out.trans (if_neg (by rw [← hR, any_end (by omega)]; decide)))
    clear hR
    go_wp2
    go_ret
    rw [E.out]
    exact ⟨rfl, HF.out⟩
end Go.Proofs.YtkgbgmfidkimfaaGreat

namespace Go.Proofs.YtkgbgmfidkimfaaGreat
open Go.RowKit

def FindPost (i : Nat) (b : Bool) (w : World) (e : Ending) (w' : World) : Prop := e = .returned (.tuple #[.int .i64 i, .bool b]) ∧ Fr [] w w'

theorem frB_cell {S : List Nat} {B : Nat} {a b : World} (h : FrB S B a b) {p : Addr} {v : Value} (hc : a.cell? p = some v) (hB : p.block < B) (hS : p.block ∉ S) : b.cell? p = some v :=
  (World.cell?_of_block (h.block _ (World.block_lt_of_cell? a p hc) hB hS)).trans hc
theorem sl_frB {w w' : World} {B D size n : Nat} {v : Value} {xs : List Value} (h : Sl w B size v n xs) (hf : FrB [] D w w') (hD : B ≤ D) : Sl w' B size v n xs := by
  obtain ⟨A, c, e, hl, hc, hm, hr⟩ := h
  refine ⟨A, c, e, hl, hc, hm, fun hn => ?_⟩
  obtain ⟨g, off, e2, hg, hcell⟩ := hr hn
  exact ⟨g, off, e2, hg, fun j u hu => frB_cell hf (hcell j u hu) (Nat.lt_of_lt_of_le hg hD) (by simp)⟩

theorem idxOf_any2 {α : Type} (p : α → Bool) (l : List α) : l.any p = decide (idxOf p l ≥ 0) := by
  unfold idxOf
  cases hf : l.findIdx? p with
  | none =>
    rw [List.findIdx?_eq_none_iff] at hf
    show l.any p = decide ((-1 : Int) ≥ 0)
    rw [List.any_eq_false.2 (fun x hx => by simp [hf x hx])]
    rfl
  | some k =>
    rw [List.findIdx?_eq_some_iff_getElem] at hf
    obtain ⟨hlt, he, _⟩ := hf
    rw [List.any_eq_true.2 ⟨_, List.getElem_mem hlt, he⟩]
    exact (decide_eq_true (show ((k : Nat) : Int) ≥ 0 by omega)).symm

set_option maxHeartbeats 800000 in
theorem containsS_any (l : List ByteArray) (s : ByteArray) (A : Option Addr) (c B : Nat) (w : World) (hl : l.length ≤ 281474976710656) (hB : B ≤ w.heap.size) (h : Sl w B 1 (.slice A l.length c) l.length (textsV l)) :
    Calls Tryz.prog 56 #[.slice A l.length c, .string s] w fun e w' => e = .returned (.bool (l.any fun y => decide (y = s))) ∧ w = w' := by
  have HS := Lib.hid h
  clear h
  have IX : Calls Tryz.prog 108 #[.slice A l.length c, .string s] w fun e w' => e = .returned (.int .i64 (idxOf (fun y => decide (y = s)) l)) ∧ w = w' := by
    go_enter Tryz.func108, Tryz.ntmps108
    go_wp2
    go_loopg [5, 8] l.length (fun g u i wr => ∃ (k : Nat), g = l.length - k ∧ k ≤ l.length ∧ i = .int .i64 k ∧ (∀ (j : Nat) t, j < k → l[j]? = some t → (fun y => decide (y = s)) t = false) ∧ w = wr)
    case atStart => exact ⟨0, rfl, Nat.zero_le _, rfl, fun j t hj => absurd hj (Nat.not_lt_zero _), rfl⟩
    case round =>
      obtain ⟨k, rfl, hk, rfl, hno, rfl⟩ := hrel
      by_cases hlt : k < l.length
      · obtain ⟨b, off, rfl, hb, hc, hm, hcell⟩ := HS.out.at_ (by omega)
        obtain ⟨t, ht⟩ : ∃ t, l[k]? = some t := ⟨_, List.getElem?_eq_getElem hlt⟩
        have hc1 : w.cell? ⟨b, off + k, none⟩ = some (.string t) := hcell k _ (textsV_get l k t ht)
        by_cases hq : t = s
        · have E := Lib.hid (idxOf_found hno ht (decide_eq_true hq))
          have q : (s.toList == t.toList) = true := by have := eqB s t; rw [decide_eq_true hq.symm] at this; exact this
          clear hno hcell ht hq
          go_wp2
          go_ret
          rw [E.out]
          exact ⟨rfl, rfl⟩
        · have q : (s.toList == t.toList) = false := by have := eqB s t; rw [decide_eq_false (fun e => hq e.symm)] at this; exact this
          have N := Lib.hid (fun j t' (hj : j < k + 1) (ht' : l[j]? = some t') => (show (fun y => decide (y = s)) t' = false by
            rcases Nat.lt_or_ge j k with h | h
            · exact hno j t' h ht'
            · have e : j = k := by omega
              subst e
              rw [ht] at ht'
              cases ht'
              exact decide_eq_false hq))
          clear hno hcell ht hq
          go_wp2
          go_roundg (l.length - (k + 1))
          case measure => omega
          case rel => exact ⟨k + 1, rfl, by omega, by go_num, N.out, rfl⟩
      · have E := Lib.hid (idxOf_none (q := fun y => decide (y = s)) (l := l) (fun j t ht => hno j t (by have := (List.getElem?_eq_some_iff.1 ht).1; omega) ht))
        clear hno
        go_wp2
        go_ret
        rw [E.out]
        exact ⟨rfl, rfl⟩
  have EQ := idxOf_any2 (fun y => decide (y = s)) l
  have IX := Lib.hid IX
  generalize idxOf (fun y => decide (y = s)) l = i at *
  generalize (l.any fun y => decide (y = s)) = b at *
  subst EQ
  go_enter Tryz.func56, Tryz.ntmps56
  go_wp2_with fail
  refine IX.out.mono ?_
  rintro e w1 ⟨rfl, rfl⟩
  go_wp2
  go_ret
  exact ⟨rfl, rfl⟩
end Go.Proofs.YtkgbgmfidkimfaaGreat
