/- Items and rows that calls give are small. No walk. (Printed by smalls.py.) What Decode gives is small. No walk. (Printed by smalls.py.) The walk of the law's itemIs. -/
import Derived.Test.YtkgbgmfidkimfaaGreatMgRestItemsUpto9
import Derived.Test.YtkgbgmfidkimfaaGreatMgRestItemsUpto6
import Derived.Test.YtkgbgmfidkimfaaGreatMgRestItemsUpto11
import Derived.Test.YtkgbgmfidkimfaaGreatMgRestItemsUpto26
import Derived.Test.YtkgbgmfidkimfaaGreatMgRestItemsUpto7
import Derived.Test.YtkgbgmfidkimfaaGreatMgRestItemsUpto8
import Derived.Test.YtkgbgmfidkimfaaGreatMgRestItemsUpto12
import Derived.Test.YtkgbgmfidkimfaaGreatMgRestItemsUpto27
import Derived.Test.YtkgbgmfidkimfaaGreatItE
import Derived.Test.YtkgbgmfidkimfaaGreatMgRestItemsUpto1
import Derived.Test.YtkgbgmfidkimfaaGreatItf
import Derived.Deep.Cut
set_option linter.unusedVariables false
set_option linter.unusedSimpArgs false
namespace Go.Proofs.YtkgbgmfidkimfaaGreat
open Go.RowKit

theorem ofL_small {l : List ByteArray} (hl : l.length ≤ 1000000) (ht : ∀ s ∈ l, s.size ≤ 281474976710656) : (ofL l).Small := by
  unfold ofL
  split
  · exact newI_small 0 (by decide)
  · exact listI_small hl ht
theorem pushY_small (x : Itm) (left : Bool) (l : List ByteArray) : (pushY x left l).Small := by
  unfold pushY
  by_cases hc : pushCode x l = 0
  · rw [if_pos hc]
    unfold pushCode at hc
    by_cases ha : asCode 2 x = 0
    · rw [if_neg (by simpa using ha)] at hc
      by_cases hb : someCode l = 0
      · rw [if_neg (by simpa using hb)] at hc
        have hok := asOk_of ha
        have hos := some_texts hb
        have hm : ¬ 24 < x.list.length + l.length := fun h => by rw [if_pos h] at hc; cases hc
        refine ofL_small (by rw [push_length]; omega) (fun s hs => ?_)
        rcases push_mem hs with h | h
        · have := hok.texts s h; omega
        · have := hos s h; omega
      · rw [if_pos hb] at hc; exact absurd hc hb
    · rw [if_pos ha] at hc; exact absurd hc ha
  · rw [if_neg hc]; exact newI_small 0 (by decide)
theorem popCode_as {x : Itm} (h : popCode x = 0) : asCode 2 x = 0 := by
  unfold popCode at h
  by_cases ha : asCode 2 x = 0
  · exact ha
  · rw [if_pos ha] at h; exact absurd h ha
theorem pop_mem {x : Itm} {left : Bool} {s : ByteArray} (h : s ∈ popL x left) : s ∈ x.list := by
  unfold popL at h
  cases left
  · exact List.mem_of_mem_take h
  · exact List.mem_of_mem_drop h
theorem pop_le (x : Itm) (left : Bool) : (popL x left).length ≤ x.list.length := by
  unfold popL
  cases left <;> simp
theorem popY_small (x : Itm) (left : Bool) : (popY x left).Small := by
  unfold popY
  by_cases hc : popCode x = 0
  · rw [if_pos hc]
    have hok := asOk_of (popCode_as hc)
    have := hok.le24
    unfold many at this
    refine ofL_small (by have := pop_le x left; omega) (fun s hs => by have := hok.texts s (pop_mem hs); omega)
  · rw [if_neg hc]; exact newI_small 0 (by decide)
theorem remY_small (x : Itm) (s : ByteArray) : (remY x s).Small := by
  unfold remY
  by_cases hc : asCode 2 x = 0
  · rw [if_pos hc]
    have hok := asOk_of hc
    have := hok.le24
    unfold many at this
    refine ofL_small (by have : (remL x s).length ≤ x.list.length := List.length_filter_le _ _; omega) (fun y hy => by have := hok.texts y (List.mem_filter.1 hy).1; omega)
  · rw [if_neg hc]; exact newI_small 0 (by decide)
theorem rangeA_ok (x : Itm) (f t : Int) : (rangeA x f t).length ≤ 24 ∧ ∀ s ∈ rangeA x f t, s.size ≤ 281474976710656 := by
  unfold rangeA
  by_cases ha : asCode 2 x = 0
  · rw [if_pos ha]
    have hok := asOk_of ha
    refine ⟨?_, fun s hs => by have := hok.texts s (rangeOf_mem hs); omega⟩
    rw [rangeOf_length]
    have := span_le x.list.length f t
    have := hok.le24
    unfold many at this
    omega
  · rw [if_neg ha]
    exact ⟨by simp, by simp⟩

theorem ofP_small {l : List (ByteArray × ByteArray)} (hl : l.length ≤ 1000000) (ht : ∀ s ∈ l, s.1.size ≤ 281474976710656 ∧ s.2.size ≤ 281474976710656) : (ofP l).Small := by
  unfold ofP
  split
  · exact newI_small 0 (by decide)
  · exact pairI_small hl ht
theorem pairsOk {x : Itm} {l : List (ByteArray × ByteArray)} (h : pairsCode x l = 0) : asCode 4 x = 0 ∧ ¬ l.any longP = true := by
  unfold pairsCode at h
  by_cases ha : asCode 4 x = 0
  · rw [if_neg (by simpa using ha)] at h
    by_cases hb : l.length = 0
    · rw [if_pos hb] at h; cases h
    · rw [if_neg hb] at h
      by_cases hc : l.any longP = true
      · rw [if_pos hc] at h; cases h
      · exact ⟨ha, hc⟩
  · rw [if_pos ha] at h; exact absurd h ha
theorem putOk {x : Itm} {l : List (ByteArray × ByteArray)} (h : putCode x l = 0) : pairsCode x l = 0 ∧ (putF x l).length ≤ 24 := by
  unfold putCode at h
  by_cases ha : pairsCode x l = 0
  · rw [if_neg (by simpa using ha)] at h
    by_cases hb : 24 < (putF x l).length
    · rw [if_pos hb] at h; cases h
    · exact ⟨ha, by omega⟩
  · rw [if_pos ha] at h; exact absurd h ha
theorem putF_sizes {x : Itm} {l : List (ByteArray × ByteArray)} (h : pairsCode x l = 0) : ∀ s ∈ putF x l, s.1.size ≤ 60 ∧ s.2.size ≤ 60 := fun s hs => by
  obtain ⟨ha, hc⟩ := pairsOk h
  rcases fold_mem _ _ hs with h | h
  · exact not_long hc s h
  · exact (ok_pairs ha).2 s h
theorem putY_small (x : Itm) (l : List (ByteArray × ByteArray)) : (putY x l).Small := by
  unfold putY
  split
  · rename_i h
    obtain ⟨hp, h24⟩ := putOk h
    exact ofP_small (by omega) (fun s hs => by have := putF_sizes hp s hs; omega)
  · exact newI_small 0 (by decide)
theorem dropY_small (x : Itm) (l : List ByteArray) : (dropY x l).Small := by
  unfold dropY
  split
  · rename_i h
    have hok := ok_pairs h
    have := List.length_filter_le (fun p : ByteArray × ByteArray => !(l.any fun y => decide (y = p.1))) x.pairs
    exact ofP_small (by unfold dropP; omega) (fun s hs => by have := hok.2 s (List.mem_filter.1 hs).1; omega)
  · exact newI_small 0 (by decide)

theorem setsR_len {p : Nat → Bool → Bool} {l : List Itm} (hl : l.length ≤ 1048576) : (setsR p l).length ≤ 281474976710656 := by
  unfold setsR
  split
  · rename_i h
    unfold setsCode at h
    by_cases h0 : l.length = 0
    · rw [if_pos h0] at h; cases h
    · rw [if_neg h0] at h
      have h1 := allT_len (firstCode_ok h)
      have h2 := setU_len ((allT l).filter (pick p l))
      have h3 := List.length_filter_le (pick p l) (allT l)
      omega
  · simp

theorem range5_len (x : Itm) (f t : Int) : (range5 x f t).length ≤ 281474976710656 := by
  unfold range5
  split
  · rename_i h
    have h24 := (scores_ok h).2
    have := span_le (x.scores.map (·.2)).length f t
    rw [rangeOf_length]
    rw [List.length_map] at this ⊢
    omega
  · simp
theorem within5_len (x : Itm) (f t : Int) : (within5 x f t).length ≤ 281474976710656 := by
  unfold within5
  split
  · rename_i h
    have h24 := (scores_ok h).2
    have := List.length_filter_le (fun s : Int × ByteArray => decide (f ≤ s.1) && decide (s.1 ≤ t)) x.scores
    unfold withinC
    rw [List.length_map]
    omega
  · simp

end Go.Proofs.YtkgbgmfidkimfaaGreat

namespace Go.Proofs.YtkgbgmfidkimfaaGreat
open Go.RowKit

theorem dec_small (s : ByteArray) : (decAns s).Small := by
  by_cases hd : decCode s = 0
  · exact right_small (right_of (dec_eq hd).1)
  · rw [dec_ne hd]; exact newI_small 0 (by decide)

end Go.Proofs.YtkgbgmfidkimfaaGreat

namespace Go.Proofs.YtkgbgmfidkimfaaGreat
open Go.RowKit

/-- two blocks of items. -/
structure B2 (w : World) (cs ds : List Value) (wr : World) : Prop where
  b1 : Whole wr w.heap.size 26 cs
  b2 : Whole wr (w.heap.size + 1) 26 ds
  f : Fr [] w wr

theorem B2.new (w : World) (a b c d e a' b' c' d' e' : Value) : B2 w [a, b, c, d, e] [a', b', c', d', e'] ((w.alloc (.cells #[a, b, c, d, e] 26)).alloc (.cells #[a', b', c', d', e'] 26)) :=
  ⟨(Whole.new w _ _).alloc _, by
    have := Whole.new (w.alloc (.cells #[a, b, c, d, e] 26)) 26 [a', b', c', d', e']
    simpa using this, ((Fr.refl [] w).alloc _).alloc _⟩
theorem B2.go {w wr w1 : World} {cs ds : List Value} (h : B2 w cs ds wr) (k : Fr [] wr w1) : B2 w cs ds w1 := ⟨h.b1.fr k (by simp), h.b2.fr k (by simp), h.f.trans k⟩

end Go.Proofs.YtkgbgmfidkimfaaGreat
