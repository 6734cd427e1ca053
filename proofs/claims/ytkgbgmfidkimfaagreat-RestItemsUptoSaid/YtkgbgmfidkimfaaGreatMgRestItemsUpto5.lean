/- The library's Sort and Compact at texts, of a row of one's own; BinarySearch at texts; set.has. The walks of item.Of and of the reference's filled. The walks of the reference's filled at lists, RemoveOf, PushOf. (Printed by lists2.py.) -/
import Derived.Test.YtkgbgmfidkimfaaGreatMgRestItemsUpto18
import Derived.Test.YtkgbgmfidkimfaaGreatSh
import Derived.Test.YtkgbgmfidkimfaaGreatSlA
import Derived.Test.YtkgbgmfidkimfaaGreatMgRestItemsUpto1
import Derived.Deep.RegionHeld3
import Derived.Test.YtkgbgmfidkimfaaGreatMgRestItemsUpto3
import Derived.Test.YtkgbgmfidkimfaaGreatMgRestItemsUpto4
import Derived.IntWalk
set_option linter.unusedVariables false
set_option linter.unusedSimpArgs false
namespace Go.Proofs.YtkgbgmfidkimfaaGreat
open Go.RowKit

def SortPost (l : List ByteArray) (base : Nat) (v : Value) (w : World) (e : Ending) (w' : World) : Prop := e = .returned (.tuple #[]) ∧ w'.ownsRow base 9 1 v l.length (textsV (sortB l)) ∧ w.grownBy w' v.ownBlock
def CompPost (l : List ByteArray) (base : Nat) (v : Value) (w : World) (e : Ending) (w' : World) : Prop := ∃ v', e = .returned v' ∧ w'.ownsRow base 9 1 v' (compB l).length (textsV (compB l)) ∧ w.grownBy w' v.ownBlock ∧ v'.ownBlock = v.ownBlock

theorem sortS_any (l : List ByteArray) (base : Nat) (v : Value) (w : World) (hl : l.length ≤ 281474976710656) (h : w.ownsRow base 9 1 v l.length (textsV l)) :
    Calls Tryz.prog 106 #[v] w (SortPost l base v w) := by
  obtain ⟨A, c, rfl, hA, hc, hm⟩ := own_slice h
  rcases Nat.eq_zero_or_pos l.length with h0 | h0
  · have e : l = [] := List.eq_nil_of_length_eq_zero h0
    subst e
    refine (Tryz.slices_Sort_string_none A c w).mono ?_
    rintro e w' ⟨rfl, rfl⟩
    exact ⟨rfl, by rw [show sortB [] = [] from List.eq_nil_of_length_eq_zero (sortB_length [])]; exact h, grown_refl _ _⟩
  · rcases h.2 with ⟨_, hn⟩ | ⟨g, cap, cur, hv, hb, hg, h1, h2, h3, h4⟩
    · omega
    · cases hv
      have hH : Sort.Holds encStr w g 0 (datas l).toArray := holds_of_block hg (by rw [datas_length, textsV_datas]; simpa using h4)
      have := Tryz.slices_Sort_string g 0 c (datas l) w hH (Array.getElem?_eq_some_iff.1 hg).1 (by rw [datas_length]; omega)
      rw [datas_length] at this
      refine this.mono ?_
      rintro e w' ⟨rfl, n, os, rfl⟩
      refine ⟨rfl, ?_, grownBy_sorted _⟩
      have h5 := ownsRow_sorted (base := base) (n := n) (os := os) (ss := datas l) (ts := (datas l).mergeSort fun x y => decide (x ≤ y)) (by simp) hb hg (by rw [datas_length]; exact h1) h2 h3
      rw [datas_length] at h5
      have e : ((datas l).mergeSort fun x y => decide (x ≤ y)).map encStr = textsV (sortB l) := by
        rw [← textsV_datas]
        unfold sortB
        rw [datas_un]
      rw [e] at h5
      exact h5

theorem compS_any (l : List ByteArray) (base : Nat) (v : Value) (w : World) (hl : l.length ≤ 281474976710656) (h : w.ownsRow base 9 1 v l.length (textsV l)) :
    Calls Tryz.prog 107 #[v] w (CompPost l base v w) := by
  obtain ⟨A, c, rfl, hA, hc, hm⟩ := own_slice h
  rcases Nat.eq_zero_or_pos l.length with h0 | h0
  · have e : l = [] := List.eq_nil_of_length_eq_zero h0
    subst e
    refine (Tryz.slices_Compact_string_empty A c w).mono ?_
    rintro e w' ⟨rfl, rfl⟩
    exact ⟨_, rfl, by rw [show compB [] = [] from rfl]; exact h, grown_refl _ _, rfl⟩
  · rcases h.2 with ⟨_, hn⟩ | ⟨g, cap, cur, hv, hb, hg, h1, h2, h3, h4⟩
    · omega
    · cases hv
      have hH : Sort.Holds encStr w g 0 (datas l).toArray := holds_of_block hg (by rw [datas_length, textsV_datas]; simpa using h4)
      have := Tryz.slices_Compact_string g 0 c (datas l) w hH (by rw [datas_length]; omega) (by rw [datas_length]; omega)
      rw [datas_length] at this
      refine this.mono ?_
      rintro e w' ⟨rfl, q, rfl⟩
      have hle : (Lib.compact (datas l)).length ≤ l.length := by have := Lib.compact_length_le (datas l); rw [datas_length] at this; exact this
      have hcl : (compB l).length = (Lib.compact (datas l)).length := by unfold compB; simp
      obtain ⟨ts, hts⟩ : ∃ ts, ts = Lib.compact (datas l) ++ List.replicate (l.length - (Lib.compact (datas l)).length) [] := ⟨_, rfl⟩
      have htl : ts.length = l.length := by rw [hts, List.length_append, List.length_replicate]; omega
      have hB := heap_sorted (n := q) (os := #[]) ts.toArray hg
      have hG := grownBy_sorted (w := w) (g := g) (n := q) (os := #[]) ts.toArray
      rw [Sort.grow_empty] at hB hG
      rw [← hts]
      refine ⟨_, rfl, ?_, hG, rfl⟩
      rw [hcl]
      refine ⟨by rw [textsV_length, hcl, Nat.mul_one], .inr ⟨g, c, _, rfl, hb, hB, by omega, h2, by simp [Sort.putCells, h3], ?_⟩⟩
      have hk := take_putCells cur ts (by omega)
      rw [Nat.mul_one]
      have e1 : ∀ (L : List Value), L.take (Lib.compact (datas l)).length = (L.take ts.length).take (Lib.compact (datas l)).length := fun L => by
        rw [List.take_take, Nat.min_eq_left (by omega)]
      rw [e1, hk, hts, List.map_append, List.take_left' (by simp)]
      rw [← textsV_datas]
      unfold compB
      rw [datas_un]

def HasPost (b : Bool) (w : World) (e : Ending) (w' : World) : Prop := (∃ i : Int, e = .returned (.tuple #[.int .i64 i, .bool b])) ∧ Fr [] w w'

theorem hit_has {l : List ByteArray} {s : ByteArray} (hr : rises ltS l = true) : hitK id l s = hasT l s := by
  rw [Bool.eq_iff_iff, hitK_iff, hasT_iff]
  constructor
  · rintro ⟨q, hq, rfl⟩
    exact List.mem_of_getElem? hq
  · intro h
    obtain ⟨k, hk⟩ := List.getElem?_of_mem h
    have := hit_of id (show rises (ltK id) l = true from hr) hk
    exact ⟨s, by rw [show lowK id l s = k from this]; exact hk, rfl⟩

set_option maxHeartbeats 2000000 in
set_option maxRecDepth 100000 in
theorem binS_any (l : List ByteArray) (s : ByteArray) (A : Option Addr) (c B : Nat) (w : World) (hr : rises ltS l = true) (hl : l.length ≤ 281474976710656) (hB : B ≤ w.heap.size) (h : Sl w B 1 (.slice A l.length c) l.length (textsV l)) :
    Calls Tryz.prog 129 #[.slice A l.length c, .string s] w (HasPost (hasT l s) w) := by
  have HS := Lib.hid h
  have hlow := lowK_le id l s
  have HR := Lib.hid (show rises (ltK id) l = true from hr)
  have EH := Lib.hid (hit_has (s := s) hr)
  clear h hr
  go_enter Tryz.func129, Tryz.ntmps129
  go_wp2
  go_loopg [7, 8] l.length (fun g s7 s8 wr => ∃ (lo hi : Nat), g = hi - lo ∧ s7 = .int .i64 lo ∧ s8 = .int .i64 hi ∧ lo ≤ lowK id l s ∧ lowK id l s ≤ hi ∧ hi ≤ l.length ∧ Fr [] w wr)
  case atStart => exact ⟨0, l.length, rfl, rfl, rfl, Nat.zero_le _, hlow, Nat.le_refl _, Fr.refl _ _⟩
  case round =>
    obtain ⟨lo, hi, rfl, rfl, rfl, h1, h2, h3, hf⟩ := hrel
    have HF := Lib.hid hf
    clear hf
    by_cases hlt : lo < hi
    · obtain ⟨m, hm⟩ : ∃ m, m = (lo + hi) / 2 := ⟨_, rfl⟩
      have hml : m < l.length := by omega
      obtain ⟨b, off, rfl, hb, hc, hmx, hcell⟩ := HS.out.at_ (by omega)
      obtain ⟨q, hq⟩ : ∃ q, l[m]? = some q := ⟨_, List.getElem?_eq_getElem hml⟩
      have c1 := HF.out.cell (show w.cell? ⟨b, off + m, none⟩ = some (.string q) from hcell _ _ (textsV_get l m q hq)) (by simp)
      have hmi : ((lo : Int) + (hi : Int)) / 2 = (m : Int) := by omega
      have hM := Lib.hid hm
      have hnew : (ltS q s = true → m < lowK id l s) ∧ (ltS q s = false → lowK id l s ≤ m) := ⟨fun h => by
        rcases Nat.lt_or_ge m (lowK id l s) with h' | h'
        · exact h'
        · exact absurd (of_decide_eq_true h) (lowK_ge id HR.out h' hq), fun h => by
        rcases Nat.lt_or_ge m (lowK id l s) with h' | h'
        · exact absurd (lowK_lt id h' hq) (of_decide_eq_false h)
        · exact h'⟩
      have HN := Lib.hid hnew
      clear hcell hq hnew hm
      by_cases ho : ltS q s = true
      · have hn := HN.out.1 ho
        have q1 : Op.bytesLess q.toList s.toList = true := (bytesL q s).trans ho
        clear ho HN
        go_wp2
        clear hmi
        go_roundg (hi - (m + 1))
        case measure => have := hM.out; omega
        case rel => exact ⟨m + 1, hi, rfl, by go_num, rfl, by omega, h2, h3, HF.out⟩
      · have ho : ltS q s = false := by simpa using ho
        have hn := HN.out.2 ho
        have q1 : Op.bytesLess q.toList s.toList = false := (bytesL q s).trans ho
        clear ho HN
        go_wp2
        clear hmi
        go_roundg (m - lo)
        case measure => have := hM.out; omega
        case rel => exact ⟨lo, m, rfl, rfl, rfl, h1, hn, by omega, HF.out⟩
    · obtain rfl : hi = lo := by omega
      obtain ⟨lw, hlw⟩ : ∃ lw, lw = lowK id l s := ⟨_, rfl⟩
      obtain rfl : hi = lw := by omega
      have HL := Lib.hid hlw
      by_cases hn : hi < l.length
      · obtain ⟨b, off, rfl, hb, hc, hmx, hcell⟩ := HS.out.at_ (by omega)
        obtain ⟨q, hq⟩ : ∃ q, l[hi]? = some q := ⟨_, List.getElem?_eq_getElem hn⟩
        have c1 := HF.out.cell (show w.cell? ⟨b, off + hi, none⟩ = some (.string q) from hcell _ _ (textsV_get l hi q hq)) (by simp)
        have HH := Lib.hid (show hasT l s = decide (q = s) from by
          rw [← EH.out]
          unfold hitK
          rw [← hlw, hq]
          refine decide_eq_decide.2 ⟨fun h => ordB_eq h, fun h => ?_⟩
          rw [h]
          exact ordB_refl _)
        clear hcell hq hlw h1 h2 EH
        by_cases ho : q = s
        · have q1 : (q.toList == s.toList) = true := by have := eqB q s; rw [decide_eq_true ho] at this; exact this
          have HH2 := Lib.hid (HH.out.trans (decide_eq_true ho))
          clear HH ho
          go_wp2
          go_ret2
          rw [HH2.out]
          exact ⟨⟨_, rfl⟩, HF.out⟩
        · have q1 : (q.toList == s.toList) = false := neqB' ho
          have HH2 := Lib.hid (HH.out.trans (decide_eq_false ho))
          clear HH ho
          go_wp2
          go_ret2
          rw [HH2.out]
          exact ⟨⟨_, rfl⟩, HF.out⟩
      · have HH2 := Lib.hid (show hasT l s = false from by
          rw [← EH.out]
          unfold hitK
          rw [← hlw, List.getElem?_eq_none (by omega)])
        clear EH hlw h1 h2
        go_wp2
        go_ret2
        rw [HH2.out]
        exact ⟨⟨_, rfl⟩, HF.out⟩

theorem setHas_any (l : List ByteArray) (s : ByteArray) (A : Option Addr) (c B : Nat) (w : World) (hr : rises ltS l = true) (hl : l.length ≤ 281474976710656) (hB : B ≤ w.heap.size) (h : Sl w B 1 (.slice A l.length c) l.length (textsV l)) :
    Calls Tryz.prog 96 #[.slice A l.length c, .string s] w fun e w' => e = .returned (.bool (hasT l s)) ∧ Fr [] w w' := by
  have I := Lib.hid (binS_any l s A c B w hr hl hB h)
  clear h
  go_enter Tryz.func96, Tryz.ntmps96
  go_wp2_with fail
  refine I.out.mono ?_
  rintro e w1 ⟨⟨i, rfl⟩, h1⟩
  go_wp2
  go_ret
  exact ⟨rfl, h1⟩
end Go.Proofs.YtkgbgmfidkimfaaGreat

namespace Go.Proofs.YtkgbgmfidkimfaaGreat
open Go.RowKit

/-- what item.Of makes of an item that is no text. -/
def ofV (v : Value) (x : Itm) : Value := if many x = 0 then .agg #[.int .i64 0, .string ⟨#[]⟩, .slice none 0 0, .slice none 0 0, .slice none 0 0] else v
set_option maxRecDepth 100000 in
theorem of_any (x : Itm) (v : Value) (w : World) (B : Nat) (hs : x.Small) (hB : B ≤ w.heap.size) (h : ItemV w B v x) (hk : x.kind ≠ 1) :
    Calls Tryz.prog 104 #[v] w fun e w' => e = .returned (ofV v x) ∧ Fr [] w w' := by
  have M := Lib.hid (fun W (hf : Fr [] w W) => many_any x v W B hs (h.fr hf hB (by simp)))
  obtain ⟨A1, c1, A2, c2, A3, c3, rfl, h1, h2, h3⟩ := h
  have F1 : Fr [] w ((w.alloc (.cells #[.int .i64 x.kind, .string x.text, .slice A1 x.list.length c1, .slice A2 x.pairs.length c2, .slice A3 x.scores.length c3] 26)).alloc (.cells #[.int .i64 0, .string ⟨#[]⟩, .slice none 0 0, .slice none 0 0, .slice none 0 0] 26)) := ((Fr.refl [] w).alloc _).alloc _
  have V1 := Lib.hid (show Whole ((w.alloc (.cells #[.int .i64 x.kind, .string x.text, .slice A1 x.list.length c1, .slice A2 x.pairs.length c2, .slice A3 x.scores.length c3] 26)).alloc (.cells #[.int .i64 0, .string ⟨#[]⟩, .slice none 0 0, .slice none 0 0, .slice none 0 0] 26)) w.heap.size 26 [.int .i64 x.kind, .string x.text, .slice A1 x.list.length c1, .slice A2 x.pairs.length c2, .slice A3 x.scores.length c3] from (Whole.new w _ _).alloc _)
  have R1 := Lib.hid (show Whole ((w.alloc (.cells #[.int .i64 x.kind, .string x.text, .slice A1 x.list.length c1, .slice A2 x.pairs.length c2, .slice A3 x.scores.length c3] 26)).alloc (.cells #[.int .i64 0, .string ⟨#[]⟩, .slice none 0 0, .slice none 0 0, .slice none 0 0] 26)) (w.heap.size + 1) 26 [.int .i64 0, .string ⟨#[]⟩, .slice none 0 0, .slice none 0 0, .slice none 0 0] from by
    have := Whole.new (w.alloc (.cells #[.int .i64 x.kind, .string x.text, .slice A1 x.list.length c1, .slice A2 x.pairs.length c2, .slice A3 x.scores.length c3] 26)) 26 [.int .i64 0, .string ⟨#[]⟩, .slice none 0 0, .slice none 0 0, .slice none 0 0]
    simpa using this)
  have q1 : (x.kind != 1) = true := by simpa using hk
  obtain ⟨d0, d1, d2, d3, d4⟩ := five V1.out
  clear h1 h2 h3 hs hk
  unfold ofV
  generalize many x = m at *
  by_cases hm : m = 0
  · subst hm
    rw [if_pos rfl]
    go_enter Tryz.func104, Tryz.ntmps104
    go_wp2_with fail
    refine (M.out _ F1).mono ?_
    rintro e w1 ⟨rfl, f1⟩
    have F2 := F1.trans f1
    have V2 := Lib.hid (V1.out.fr f1 (by simp))
    have R2 := Lib.hid (R1.out.fr f1 (by simp))
    clear d0 d1 d2 d3 d4
    obtain ⟨d0, d1, d2, d3, d4⟩ := five V2.out
    obtain ⟨a0, a1, a2, a3, a4⟩ := five R2.out
    obtain ⟨b0, b2, b3, b4, b5⟩ := fiveF R2.out
    go_wp2
    refine bodyPost_ret (v := .agg #[.int .i64 0, .string ⟨#[]⟩, .slice none 0 0, .slice none 0 0, .slice none 0 0]) (by simp [results, Tryz.results104, go_sem, a0, a1, a2, a3, a4]) rfl ?_
    refine ⟨rfl, fr_set5 F2 (by omega) _ _ _ _ _⟩
  · rw [if_neg hm]
    have q2 : ((m : Int) == 0) = false := by simp; omega
    go_enter Tryz.func104, Tryz.ntmps104
    go_wp2_with fail
    refine (M.out _ F1).mono ?_
    rintro e w1 ⟨rfl, f1⟩
    have F2 := F1.trans f1
    have V2 := Lib.hid (V1.out.fr f1 (by simp))
    have R2 := Lib.hid (R1.out.fr f1 (by simp))
    clear d0 d1 d2 d3 d4
    obtain ⟨d0, d1, d2, d3, d4⟩ := five V2.out
    obtain ⟨a0, a1, a2, a3, a4⟩ := five R2.out
    obtain ⟨b0, b2, b3, b4, b5⟩ := fiveF R2.out
    go_wp2
    refine bodyPost_ret (v := .agg #[.int .i64 x.kind, .string x.text, .slice A1 x.list.length c1, .slice A2 x.pairs.length c2, .slice A3 x.scores.length c3]) (by simp [results, Tryz.results104, go_sem, a0, a1, a2, a3, a4]) rfl ?_
    refine ⟨rfl, fr_set5 F2 (by omega) _ _ _ _ _⟩
set_option maxHeartbeats 400000 in
set_option maxRecDepth 100000 in
theorem filled_any (x : Itm) (v : Value) (w : World) (B : Nat) (hs : x.Small) (hB : B ≤ w.heap.size) (h : ItemV w B v x) :
    Calls Tryz.prog 42 #[v] w fun e w' => e = .returned (ofV v x) ∧ Fr [] w w' := by
  have s1 := hs.list
  have s2 := hs.pairs
  have s3 := hs.scores
  obtain ⟨A1, c1, A2, c2, A3, c3, rfl, h1, h2, h3⟩ := h
  have F1 : Fr [] w ((w.alloc (.cells #[.int .i64 x.kind, .string x.text, .slice A1 x.list.length c1, .slice A2 x.pairs.length c2, .slice A3 x.scores.length c3] 26)).alloc (.cells #[.int .i64 0, .string ⟨#[]⟩, .slice none 0 0, .slice none 0 0, .slice none 0 0] 26)) := ((Fr.refl [] w).alloc _).alloc _
  have V1 := Lib.hid (show Whole ((w.alloc (.cells #[.int .i64 x.kind, .string x.text, .slice A1 x.list.length c1, .slice A2 x.pairs.length c2, .slice A3 x.scores.length c3] 26)).alloc (.cells #[.int .i64 0, .string ⟨#[]⟩, .slice none 0 0, .slice none 0 0, .slice none 0 0] 26)) w.heap.size 26 [.int .i64 x.kind, .string x.text, .slice A1 x.list.length c1, .slice A2 x.pairs.length c2, .slice A3 x.scores.length c3] from (Whole.new w _ _).alloc _)
  have R1 := Lib.hid (show Whole ((w.alloc (.cells #[.int .i64 x.kind, .string x.text, .slice A1 x.list.length c1, .slice A2 x.pairs.length c2, .slice A3 x.scores.length c3] 26)).alloc (.cells #[.int .i64 0, .string ⟨#[]⟩, .slice none 0 0, .slice none 0 0, .slice none 0 0] 26)) (w.heap.size + 1) 26 [.int .i64 0, .string ⟨#[]⟩, .slice none 0 0, .slice none 0 0, .slice none 0 0] from by
    have := Whole.new (w.alloc (.cells #[.int .i64 x.kind, .string x.text, .slice A1 x.list.length c1, .slice A2 x.pairs.length c2, .slice A3 x.scores.length c3] 26)) 26 [.int .i64 0, .string ⟨#[]⟩, .slice none 0 0, .slice none 0 0, .slice none 0 0]
    simpa using this)
  obtain ⟨d0, d1, d2, d3, d4⟩ := five V1.out
  obtain ⟨a0, a1, a2, a3, a4⟩ := five R1.out
  obtain ⟨b0, b2, b3, b4, b5⟩ := fiveF R1.out
  clear h1 h2 h3 hs
  have hE : many x = x.list.length + x.pairs.length + x.scores.length := rfl
  unfold ofV
  generalize many x = m at *
  generalize x.list.length = n1 at *
  generalize x.pairs.length = n2 at *
  generalize x.scores.length = n3 at *
  by_cases hm : m = 0
  · rw [if_pos hm]
    obtain rfl : n1 = 0 := by omega
    obtain rfl : n2 = 0 := by omega
    obtain rfl : n3 = 0 := by omega
    clear hE hm
    go_enter Tryz.func42, Tryz.ntmps42
    go_wp2
    refine bodyPost_ret (v := .agg #[.int .i64 0, .string ⟨#[]⟩, .slice none 0 0, .slice none 0 0, .slice none 0 0]) (by simp [results, Tryz.results42, go_sem, a0, a1, a2, a3, a4]) rfl ?_
    exact ⟨rfl, ((Fr.refl [] w).alloc _).alloc _⟩
  · rw [if_neg hm]
    have q2 : ((n1 : Int) + (n2 : Int) + (n3 : Int) == 0) = false := by simp; omega
    have q3 : ¬ ((n1 : Int) + (n2 : Int) + (n3 : Int) = 0) := by omega
    clear hE hm
    go_enter Tryz.func42, Tryz.ntmps42
    go_wp2
    refine bodyPost_ret (v := .agg #[.int .i64 x.kind, .string x.text, .slice A1 n1 c1, .slice A2 n2 c2, .slice A3 n3 c3]) (by simp [results, Tryz.results42, go_sem, a0, a1, a2, a3, a4]) rfl ?_
    exact ⟨rfl, ((Fr.refl [] w).alloc _).alloc _⟩
end Go.Proofs.YtkgbgmfidkimfaaGreat

namespace Go.Proofs.YtkgbgmfidkimfaaGreat
open Go.RowKit

/-- a list or a set of elements, or nothing. -/
def kindI (k : Int) (l : List ByteArray) : Itm := ⟨k, ⟨#[]⟩, l, [], []⟩
def ofK (k : Int) (l : List ByteArray) : Itm := if l.length = 0 then newI 0 else kindI k l
theorem ofK_two (l : List ByteArray) : ofK 2 l = ofL l := rfl

def InB (B : Nat) (x : Itm) (w : World) (e : Ending) (w' : World) : Prop := ∃ u, e = .returned u ∧ ItemV w' B u x ∧ Fr [] w w'

theorem kindI_big {k : Int} {l : List ByteArray} (hk : 0 ≤ k ∧ k ≤ 5) (hl : l.length ≤ 281474976710656) (ht : ∀ s ∈ l, s.size ≤ 281474976710656) : (kindI k l).Small :=
  ⟨by show -9223372036854775808 ≤ k ∧ k ≤ 9223372036854775807; omega, by show (⟨#[]⟩ : ByteArray).size ≤ _; decide, by show l.length ≤ _; omega, by show 0 ≤ _; omega, by show 0 ≤ _; omega, ht, (fun p hp => by cases hp), (fun p hp => by cases hp)⟩
theorem kindI_small {k : Int} {l : List ByteArray} (hk : 0 ≤ k ∧ k ≤ 5) (hl : l.length ≤ 1000000) (ht : ∀ s ∈ l, s.size ≤ 281474976710656) : (kindI k l).Small := kindI_big hk (by omega) ht
theorem ofK_list (k : Int) (l : List ByteArray) : (ofK k l).list = l := by
  unfold ofK
  by_cases h : l.length = 0
  · rw [if_pos h]; exact (List.eq_nil_of_length_eq_zero h).symm
  · rw [if_neg h]; rfl

theorem newI_item (w : World) (B : Nat) : ItemV w B (.agg #[.int .i64 0, .string ⟨#[]⟩, .slice none 0 0, .slice none 0 0, .slice none 0 0]) (newI 0) :=
  ⟨none, 0, none, 0, none, 0, rfl, Sl.nil _ _ _, Sl.nil _ _ _, Sl.nil _ _ _⟩

theorem filled_sl (k : Int) (l : List ByteArray) (A : Option Addr) (c B : Nat) (w : World) (hk : 0 ≤ k ∧ k ≤ 5) (hl : l.length ≤ 1000000) (ht : ∀ s ∈ l, s.size ≤ 281474976710656) (hB : B ≤ w.heap.size) (h : Sl w B 1 (.slice A l.length c) l.length (textsV l)) :
    Calls Tryz.prog 42 #[.agg #[.int .i64 k, .string ⟨#[]⟩, .slice A l.length c, .slice none 0 0, .slice none 0 0]] w (InB B (ofK k l) w) := by
  have hv : ItemV w B (.agg #[.int .i64 k, .string ⟨#[]⟩, .slice A l.length c, .slice none 0 0, .slice none 0 0]) (kindI k l) := ⟨A, c, none, 0, none, 0, rfl, h, Sl.nil _ _ _, Sl.nil _ _ _⟩
  refine (filled_any (kindI k l) _ w B (kindI_small hk hl ht) hB hv).mono ?_
  rintro e w' ⟨rfl, hf⟩
  unfold ofV ofK
  rw [show many (kindI k l) = l.length from by show l.length + 0 + 0 = l.length; omega]
  by_cases h0 : l.length = 0
  · rw [if_pos h0, if_pos h0]
    exact ⟨_, rfl, newI_item _ _, hf⟩
  · rw [if_neg h0, if_neg h0]
    exact ⟨_, rfl, hv.fr hf hB (by simp), hf⟩
theorem filled_own (k : Int) (l : List ByteArray) (base : Nat) (v : Value) (w : World) (hk : 0 ≤ k ∧ k ≤ 5) (hl : l.length ≤ 1000000) (ht : ∀ s ∈ l, s.size ≤ 281474976710656) (h : w.ownsRow base 9 1 v l.length (textsV l)) :
    Calls Tryz.prog 42 #[.agg #[.int .i64 k, .string ⟨#[]⟩, v, .slice none 0 0, .slice none 0 0]] w (OwnI base (ofK k l) w) := by
  obtain ⟨A, c, rfl, -⟩ := own_slice h
  have hv : ItemV w w.heap.size (.agg #[.int .i64 k, .string ⟨#[]⟩, .slice A l.length c, .slice none 0 0, .slice none 0 0]) (kindI k l) := ⟨A, c, none, 0, none, 0, rfl, own_sl h, Sl.nil _ _ _, Sl.nil _ _ _⟩
  refine (filled_any (kindI k l) _ w w.heap.size (kindI_small hk hl ht) (Nat.le_refl _) hv).mono ?_
  rintro e w' ⟨rfl, hf⟩
  unfold ofV ofK
  rw [show many (kindI k l) = l.length from by show l.length + 0 + 0 = l.length; omega]
  by_cases h0 : l.length = 0
  · rw [if_pos h0, if_pos h0]
    exact ⟨_, rfl, ItemO.nothing _ _, hf⟩
  · rw [if_neg h0, if_neg h0]
    exact ⟨_, rfl, ⟨_, _, _, rfl, own_fr h hf (by simp), ⟨rfl, .inl ⟨rfl, rfl⟩⟩, ⟨rfl, .inl ⟨rfl, rfl⟩⟩⟩, hf⟩

def VNPost (k code : Int) (y : Itm) (w : World) (e : Ending) (w' : World) : Prop := ∃ u, e = .returned (.tuple #[u, .int .i64 k, .int .i64 code]) ∧ ItemV w' w'.heap.size u y ∧ Fr [] w w'
def VSPost (s : ByteArray) (code : Int) (y : Itm) (w : World) (e : Ending) (w' : World) : Prop := ∃ u, e = .returned (.tuple #[u, .string s, .int .i64 code]) ∧ ItemV w' w'.heap.size u y ∧ Fr [] w w'

/-- five stores into a block that is none of an item's: the item reads as before. -/
theorem set5_cell {w : World} {o : Nat} {a b c d e : Value} {p : Addr} (h : p.block ≠ o) : (set5 w o a b c d e).cell? p = w.cell? p := by
  have hb : ∀ (W : World) (i : Nat) u, (W.setCell ⟨o, i, none⟩ u).cell? p = W.cell? p := fun W i u => World.cell?_setCell_other W _ p u (fun he => h (by rw [← he]))
  unfold set5
  rw [hb, hb, hb, hb, hb]
theorem set5_size (w : World) (o : Nat) (a b c d e : Value) : (set5 w o a b c d e).heap.size = w.heap.size := by simp [set5, World.setCell]
theorem set5_ge {w : World} {B o : Nat} {a b c d e : Value} (h : B ≤ w.heap.size) : B ≤ (set5 w o a b c d e).heap.size := by rw [set5_size]; exact h
theorem itemV_set5 {w : World} {B o : Nat} {v : Value} {x : Itm} {a b c d e : Value} (h : ItemV w B v x) (ho : B ≤ o) : ItemV (set5 w o a b c d e) B v x :=
  h.keep fun p hp => set5_cell (by omega)

end Go.Proofs.YtkgbgmfidkimfaaGreat
