/- The library's Sort and Compact at texts, of a row of one's own; BinarySearch at texts; set.has. -/
import Derived.Test.YtmlmiboihjibiaaSeA
import Derived.Test.YtmlmiboihjibiaaSh
import Derived.Test.YtmlmiboihjibiaaSlA
import Derived.Test.YtmlmiboihjibiaaBo
import Derived.Deep.RegionHeld3
set_option linter.unusedVariables false
set_option linter.unusedSimpArgs false
namespace Go.Proofs.Ytmlmiboihjibiaa
open Go.RowKit

def SortPost (l : List ByteArray) (base : Nat) (v : Value) (w : World) (e : Ending) (w' : World) : Prop := e = .returned (.tuple #[]) ∧ w'.ownsRow base 9 1 v l.length (textsV (sortB l)) ∧ w.grownBy w' v.ownBlock
def CompPost (l : List ByteArray) (base : Nat) (v : Value) (w : World) (e : Ending) (w' : World) : Prop := ∃ v', e = .returned v' ∧ w'.ownsRow base 9 1 v' (compB l).length (textsV (compB l)) ∧ w.grownBy w' v.ownBlock ∧ v'.ownBlock = v.ownBlock

theorem sortS_any (l : List ByteArray) (base : Nat) (v : Value) (w : World) (hl : l.length ≤ 281474976710656) (h : w.ownsRow base 9 1 v l.length (textsV l)) :
    Calls Try.prog 142 #[v] w (SortPost l base v w) := by
  obtain ⟨A, c, rfl, hA, hc, hm⟩ := own_slice h
  rcases Nat.eq_zero_or_pos l.length with h0 | h0
  · have e : l = [] := List.eq_nil_of_length_eq_zero h0
    subst e
    refine (Try.slices_Sort_string_none A c w).mono ?_
    rintro e w' ⟨rfl, rfl⟩
    exact ⟨rfl, by rw [show sortB [] = [] from List.eq_nil_of_length_eq_zero (sortB_length [])]; exact h, grown_refl _ _⟩
  · rcases h.2 with ⟨_, hn⟩ | ⟨g, cap, cur, hv, hb, hg, h1, h2, h3, h4⟩
    · omega
    · cases hv
      have hH : Sort.Holds encStr w g 0 (datas l).toArray := holds_of_block hg (by rw [datas_length, textsV_datas]; simpa using h4)
      have := Try.slices_Sort_string g 0 c (datas l) w hH (Array.getElem?_eq_some_iff.1 hg).1 (by rw [datas_length]; omega)
      rw [datas_length] at this
      refine this.mono ?_
      rintro e w' ⟨rfl, n, os, rfl⟩
      refine ⟨rfl, ?_, grownBy_sorted _⟩
      have h5 := ownsRow_sorted (base := base) (n := n) (os := os) (ss := datas l) (ts := (datas l).mergeSort fun x y => decide (x ≤ y)) (by simp) hb hg (by rw [datas_length]; exact h1) h2 h3
      rw [datas_length] at h5
      have e : ((datas l).mergeSort fun x y => decide (x ≤ y)).map encStr = textsV (sortB l) := by
        rw [← textsV_datas]
        unfold sortB
        rw [datas_un]
      rw [e] at h5
      exact h5

theorem compS_any (l : List ByteArray) (base : Nat) (v : Value) (w : World) (hl : l.length ≤ 281474976710656) (h : w.ownsRow base 9 1 v l.length (textsV l)) :
    Calls Try.prog 143 #[v] w (CompPost l base v w) := by
  obtain ⟨A, c, rfl, hA, hc, hm⟩ := own_slice h
  rcases Nat.eq_zero_or_pos l.length with h0 | h0
  · have e : l = [] := List.eq_nil_of_length_eq_zero h0
    subst e
    refine (Try.slices_Compact_string_empty A c w).mono ?_
    rintro e w' ⟨rfl, rfl⟩
    exact ⟨_, rfl, by rw [show compB [] = [] from rfl]; exact h, grown_refl _ _, rfl⟩
  · rcases h.2 with ⟨_, hn⟩ | ⟨g, cap, cur, hv, hb, hg, h1, h2, h3, h4⟩
    · omega
    · cases hv
      have hH : Sort.Holds encStr w g 0 (datas l).toArray := holds_of_block hg (by rw [datas_length, textsV_datas]; simpa using h4)
      have := Try.slices_Compact_string g 0 c (datas l) w hH (by rw [datas_length]; omega) (by rw [datas_length]; omega)
      rw [datas_length] at this
      refine this.mono ?_
      rintro e w' ⟨rfl, q, rfl⟩
      have hle : (Lib.compact (datas l)).length ≤ l.length := by have := Lib.compact_length_le (datas l); rw [datas_length] at this; exact this
      have hcl : (compB l).length = (Lib.compact (datas l)).length := by unfold compB; simp
      obtain ⟨ts, hts⟩ : ∃ ts, ts = Lib.compact (datas l) ++ List.replicate (l.length - (Lib.compact (datas l)).length) [] := ⟨_, rfl⟩
      have htl : ts.length = l.length := by rw [hts, List.length_append, List.length_replicate]; omega
      have hB := heap_sorted (n := q) (os := #[]) ts.toArray hg
      have hG := grownBy_sorted (w := w) (g := g) (n := q) (os := #[]) ts.toArray
      rw [Sort.grow_empty] at hB hG
      rw [← hts]
      refine ⟨_, rfl, ?_, hG, rfl⟩
      rw [hcl]
      refine ⟨by rw [textsV_length, hcl, Nat.mul_one], .inr ⟨g, c, _, rfl, hb, hB, by omega, h2, by simp [Sort.putCells, h3], ?_⟩⟩
      have hk := take_putCells cur ts (by omega)
      rw [Nat.mul_one]
      have e1 : ∀ (L : List Value), L.take (Lib.compact (datas l)).length = (L.take ts.length).take (Lib.compact (datas l)).length := fun L => by
        rw [List.take_take, Nat.min_eq_left (by omega)]
      rw [e1, hk, hts, List.map_append, List.take_left' (by simp)]
      rw [← textsV_datas]
      unfold compB
      rw [datas_un]

def HasPost (b : Bool) (w : World) (e : Ending) (w' : World) : Prop := (∃ i : Int, e = .returned (.tuple #[.int .i64 i, .bool b])) ∧ Fr [] w w'

theorem hit_has {l : List ByteArray} {s : ByteArray} (hr : rises ltS l = true) : hitK id l s = hasT l s := by
  rw [Bool.eq_iff_iff, hitK_iff, hasT_iff]
  constructor
  · rintro ⟨q, hq, rfl⟩
    exact List.mem_of_getElem? hq
  · intro h
    obtain ⟨k, hk⟩ := List.getElem?_of_mem h
    have := hit_of id (show rises (ltK id) l = true from hr) hk
    exact ⟨s, by rw [show lowK id l s = k from this]; exact hk, rfl⟩

set_option maxHeartbeats 2000000 in
set_option maxRecDepth 100000 in
theorem binS_any (l : List ByteArray) (s : ByteArray) (A : Option Addr) (c B : Nat) (w : World) (hr : rises ltS l = true) (hl : l.length ≤ 281474976710656) (hB : B ≤ w.heap.size) (h : Sl w B 1 (.slice A l.length c) l.length (textsV l)) :
    Calls Try.prog 146 #[.slice A l.length c, .string s] w (HasPost (hasT l s) w) := by
  have HS := Lib.hid h
  have hlow := lowK_le id l s
  have HR := Lib.hid (show rises (ltK id) l = true from hr)
  have EH := Lib.hid (hit_has (s := s) hr)
  clear h hr
  go_enter Try.func146, Try.ntmps146
  go_wp2
  go_loopg [7, 8] l.length (fun g s7 s8 wr => ∃ (lo hi : Nat), g = hi - lo ∧ s7 = .int .i64 lo ∧ s8 = .int .i64 hi ∧ lo ≤ lowK id l s ∧ lowK id l s ≤ hi ∧ hi ≤ l.length ∧ Fr [] w wr)
  case atStart => exact ⟨0, l.length, rfl, rfl, rfl, Nat.zero_le _, hlow, Nat.le_refl _, Fr.refl _ _⟩
  case round =>
    obtain ⟨lo, hi, rfl, rfl, rfl, h1, h2, h3, hf⟩ := hrel
    have HF := Lib.hid hf
    clear hf
    by_cases hlt : lo < hi
    · obtain ⟨m, hm⟩ : ∃ m, m = (lo + hi) / 2 := ⟨_, rfl⟩
      have hml : m < l.length := by omega
      obtain ⟨b, off, rfl, hb, hc, hmx, hcell⟩ := HS.out.at_ (by omega)
      obtain ⟨q, hq⟩ : ∃ q, l[m]? = some q := ⟨_, List.getElem?_eq_getElem hml⟩
      have c1 := HF.out.cell (show w.cell? ⟨b, off + m, none⟩ = some (.string q) from hcell _ _ (textsV_get l m q hq)) (by simp)
      have hmi : ((lo : Int) + (hi : Int)) / 2 = (m : Int) := by omega
      have hM := Lib.hid hm
      have hnew : (ltS q s = true → m < lowK id l s) ∧ (ltS q s = false → lowK id l s ≤ m) := ⟨fun h => by
        rcases Nat.lt_or_ge m (lowK id l s) with h' | h'
        · exact h'
        · exact absurd (of_decide_eq_true h) (lowK_ge id HR.out h' hq), fun h => by
        rcases Nat.lt_or_ge m (lowK id l s) with h' | h'
        · exact absurd (lowK_lt id h' hq) (of_decide_eq_false h)
        · exact h'⟩
      have HN := Lib.hid hnew
      clear hcell hq hnew hm
      by_cases ho : ltS q s = true
      · have hn := HN.out.1 ho
        have q1 : Op.bytesLess q.toList s.toList = true := (bytesL q s).trans ho
        clear ho HN
        go_wp2
        clear hmi
        go_roundg (hi - (m + 1))
        case measure => have := hM.out; omega
        case rel => exact ⟨m + 1, hi, rfl, by go_num, rfl, by omega, h2, h3, HF.out⟩
      · have ho : ltS q s = false := by simpa using ho
        have hn := HN.out.2 ho
        have q1 : Op.bytesLess q.toList s.toList = false := (bytesL q s).trans ho
        clear ho HN
        go_wp2
        clear hmi
        go_roundg (m - lo)
        case measure => have := hM.out; omega
        case rel => exact ⟨lo, m, rfl, rfl, rfl, h1, hn, by omega, HF.out⟩
    · obtain rfl : hi = lo := by omega
      obtain ⟨lw, hlw⟩ : ∃ lw, lw = lowK id l s := ⟨_, rfl⟩
      obtain rfl : hi = lw := by omega
      have HL := Lib.hid hlw
      by_cases hn : hi < l.length
      · obtain ⟨b, off, rfl, hb, hc, hmx, hcell⟩ := HS.out.at_ (by omega)
        obtain ⟨q, hq⟩ : ∃ q, l[hi]? = some q := ⟨_, List.getElem?_eq_getElem hn⟩
        have c1 := HF.out.cell (show w.cell? ⟨b, off + hi, none⟩ = some (.string q) from hcell _ _ (textsV_get l hi q hq)) (by simp)
        have HH := Lib.hid (show hasT l s = decide (q = s) from by
          rw [← EH.out]
          unfold hitK
          rw [← hlw, hq]
          refine decide_eq_decide.2 ⟨fun h => ordB_eq h, fun h => ?_⟩
          rw [h]
          exact ordB_refl _)
        clear hcell hq hlw h1 h2 EH
        by_cases ho : q = s
        · have q1 : (q.toList == s.toList) = true := by have := eqB q s; rw [decide_eq_true ho] at this; exact this
          have HH2 := Lib.hid (HH.out.trans (decide_eq_true ho))
          clear HH ho
          go_wp2
          go_ret2
          rw [HH2.out]
          exact ⟨⟨_, rfl⟩, HF.out⟩
        · have q1 : (q.toList == s.toList) = false := neqB' ho
          have HH2 := Lib.hid (HH.out.trans (decide_eq_false ho))
          clear HH ho
          go_wp2
          go_ret2
          rw [HH2.out]
          exact ⟨⟨_, rfl⟩, HF.out⟩
      · have HH2 := Lib.hid (show hasT l s = false from by
          rw [← EH.out]
          unfold hitK
          rw [← hlw, List.getElem?_eq_none (by omega)])
        clear EH hlw h1 h2
        go_wp2
        go_ret2
        rw [HH2.out]
        exact ⟨⟨_, rfl⟩, HF.out⟩

theorem setHas_any (l : List ByteArray) (s : ByteArray) (A : Option Addr) (c B : Nat) (w : World) (hr : rises ltS l = true) (hl : l.length ≤ 281474976710656) (hB : B ≤ w.heap.size) (h : Sl w B 1 (.slice A l.length c) l.length (textsV l)) :
    Calls Try.prog 106 #[.slice A l.length c, .string s] w fun e w' => e = .returned (.bool (hasT l s)) ∧ Fr [] w w' := by
  have I := Lib.hid (binS_any l s A c B w hr hl hB h)
  clear h
  go_enter Try.func106, Try.ntmps106
  go_wp2_with fail
  refine I.out.mono ?_
  rintro e w1 ⟨⟨i, rfl⟩, h1⟩
  go_wp2
  go_ret
  exact ⟨rfl, h1⟩
end Go.Proofs.Ytmlmiboihjibiaa
