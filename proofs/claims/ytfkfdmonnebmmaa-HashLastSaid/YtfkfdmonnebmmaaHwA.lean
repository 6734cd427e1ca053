/- The walks of slices.BinarySearchFunc at pairs, hash.find, slices.Index and Contains at texts. -/
import Derived.Test.YtfkfdmonnebmmaaHpA
import Derived.Test.YtfkfdmonnebmmaaItC
import Derived.Test.YtfkfdmonnebmmaaBo
import Derived.Test.YtfkfdmonnebmmaaSlA
import Derived.Deep.RegionHeld3
set_option linter.unusedVariables false
set_option linter.unusedSimpArgs false
namespace Go.Proofs.Ytfkfdmonnebmmaa
open Go.RowKit

def FindPost (i : Nat) (b : Bool) (w : World) (e : Ending) (w' : World) : Prop := e = .returned (.tuple #[.int .i64 i, .bool b]) ∧ Fr [] w w'

set_option maxHeartbeats 2000000 in
set_option maxRecDepth 100000 in
theorem binP_any (l : List (ByteArray × ByteArray)) (f v : ByteArray) (A : Option Addr) (c B : Nat) (w : World) (hr : rises (ltK Prod.fst) l = true) (hl : l.length ≤ 281474976710656) (hB : B ≤ w.heap.size) (h : Sl w B 2 (.slice A l.length c) l.length (pairsV l)) :
    Calls Try.prog 122 #[.slice A l.length c, .agg #[.string f, .string v], .func (Fn.func 73) #[] #[]] w (FindPost (lowK Prod.fst l f) (hitK Prod.fst l f) w) := by
  have HS := Lib.hid h
  have hlow := lowK_le Prod.fst l f
  have HR := Lib.hid hr
  have F0 := Lib.hid ((Fr.refl [] w).alloc (.cells #[.string f, .string v] 64))
  have B0 := Lib.hid (Whole.new w 64 [.string f, .string v])
  clear h hr
  go_enter Try.func122, Try.ntmps122
  go_wp2
  go_loopg [9, 10] l.length (fun g s9 s10 wr => ∃ (lo hi : Nat), g = hi - lo ∧ s9 = .int .i64 lo ∧ s10 = .int .i64 hi ∧ lo ≤ lowK Prod.fst l f ∧ lowK Prod.fst l f ≤ hi ∧ hi ≤ l.length ∧ Fr [] w wr ∧ Whole wr w.heap.size 64 [.string f, .string v])
  case atStart => exact ⟨0, l.length, rfl, rfl, rfl, Nat.zero_le _, hlow, Nat.le_refl _, F0.out, B0.out⟩
  case round =>
    obtain ⟨lo, hi, rfl, rfl, rfl, h1, h2, h3, hf, hb⟩ := hrel
    have HF := Lib.hid hf
    have HB := Lib.hid hb
    clear hf hb
    by_cases hlt : lo < hi
    · obtain ⟨m, hm⟩ : ∃ m, m = (lo + hi) / 2 := ⟨_, rfl⟩
      have hml : m < l.length := by omega
      obtain ⟨b, off, rfl, hb, hc, hmx, hcell⟩ := HS.out.at_ (by omega)
      obtain ⟨q, hq⟩ : ∃ q, l[m]? = some q := ⟨_, List.getElem?_eq_getElem hml⟩
      have x1 : w.cell? ⟨b, off + m * 2, none⟩ = some (.string q.1) := by rw [Nat.mul_comm]; exact hcell _ _ (pairsV_get l m q hq).1
      have x2 : w.cell? ⟨b, off + m * 2 + 1, none⟩ = some (.string q.2) := by rw [Nat.mul_comm]; exact hcell _ _ (pairsV_get l m q hq).2
      have X1 := Lib.hid x1
      have X2 := Lib.hid x2
      have c1 := HF.out.cell x1 (by simp)
      have c2 := HF.out.cell x2 (by simp)
      have d1 : wr.cell? ⟨w.heap.size, 0, none⟩ = some (.string f) := HB.out.cell 0
      have d2 : wr.cell? ⟨w.heap.size, 1, none⟩ = some (.string v) := HB.out.cell 1
      have FL := Lib.hid (fun W => fields_any q (f, v) W)
      have hmi : ((lo : Int) + (hi : Int)) / 2 = (m : Int) := by omega
      have hM := Lib.hid hm
      have hnew : (ordB q.1 f < 0 → m < lowK Prod.fst l f) ∧ (¬ ordB q.1 f < 0 → lowK Prod.fst l f ≤ m) := ⟨fun h => by
        rcases Nat.lt_or_ge m (lowK Prod.fst l f) with h' | h'
        · exact h'
        · exact absurd h (lowK_ge Prod.fst HR.out h' hq), fun h => by
        rcases Nat.lt_or_ge m (lowK Prod.fst l f) with h' | h'
        · exact absurd (lowK_lt Prod.fst h' hq) h
        · exact h'⟩
      rw [show ((f, v) : ByteArray × ByteArray).1 = f from rfl] at FL
      have HN := Lib.hid hnew
      clear x1 x2 hcell hq hnew hm
      generalize ordB q.1 f = o at *
      by_cases ho : o < 0
      · have hn := HN.out.1 ho
        go_wp2
        clear hmi
        go_region_held3 (fun wx => wx.cell? ⟨b, off + m * 2, none⟩ = some (.string q.1) ∧ wx.cell? ⟨b, off + m * 2 + 1, none⟩ = some (.string q.2) ∧ wx.cell? ⟨w.heap.size, 0, none⟩ = some (.string f) ∧ wx.cell? ⟨w.heap.size, 1, none⟩ = some (.string v)) (go_keep) (first | (go_at_call 73; (refine (FL.out _).mono ?_); rintro e w2 ⟨rfl, f2⟩; have G2 := Lib.hid (fr_predrew f2); have c1 := G2.out.cell c1 (by simp); have c2 := G2.out.cell c2 (by simp); have d1 := G2.out.cell d1 (by simp); have d2 := G2.out.cell d2 (by simp); clear f2))
        go_wp2
        go_roundg (hi - (m + 1))
        case measure => have := hM.out; omega
        case rel => exact ⟨m + 1, hi, rfl, by go_num, rfl, by omega, h2, h3, HF.out.trans G2.out, HB.out.fr G2.out (by simp)⟩
      · have hn := HN.out.2 ho
        go_wp2
        clear hmi
        go_region_held3 (fun wx => wx.cell? ⟨b, off + m * 2, none⟩ = some (.string q.1) ∧ wx.cell? ⟨b, off + m * 2 + 1, none⟩ = some (.string q.2) ∧ wx.cell? ⟨w.heap.size, 0, none⟩ = some (.string f) ∧ wx.cell? ⟨w.heap.size, 1, none⟩ = some (.string v)) (go_keep) (first | (go_at_call 73; (refine (FL.out _).mono ?_); rintro e w2 ⟨rfl, f2⟩; have G2 := Lib.hid (fr_predrew f2); have c1 := G2.out.cell c1 (by simp); have c2 := G2.out.cell c2 (by simp); have d1 := G2.out.cell d1 (by simp); have d2 := G2.out.cell d2 (by simp); clear f2))
        go_wp2
        go_roundg (m - lo)
        case measure => have := hM.out; omega
        case rel => exact ⟨lo, m, rfl, rfl, rfl, h1, hn, by omega, HF.out.trans G2.out, HB.out.fr G2.out (by simp)⟩
    · obtain rfl : hi = lo := by omega
      obtain ⟨lw, hlw⟩ : ∃ lw, lw = lowK Prod.fst l f := ⟨_, rfl⟩
      obtain rfl : hi = lw := by omega
      have HL := Lib.hid hlw
      have d1 : wr.cell? ⟨w.heap.size, 0, none⟩ = some (.string f) := HB.out.cell 0
      have d2 : wr.cell? ⟨w.heap.size, 1, none⟩ = some (.string v) := HB.out.cell 1
      by_cases hn : hi < l.length
      · obtain ⟨b, off, rfl, hb, hc, hmx, hcell⟩ := HS.out.at_ (by omega)
        obtain ⟨q, hq⟩ : ∃ q, l[hi]? = some q := ⟨_, List.getElem?_eq_getElem hn⟩
        have c1 := HF.out.cell (show w.cell? ⟨b, off + hi * 2, none⟩ = some (.string q.1) by rw [Nat.mul_comm]; exact hcell _ _ (pairsV_get l hi q hq).1) (by simp)
        have c2 := HF.out.cell (show w.cell? ⟨b, off + hi * 2 + 1, none⟩ = some (.string q.2) by rw [Nat.mul_comm]; exact hcell _ _ (pairsV_get l hi q hq).2) (by simp)
        have FL := Lib.hid (fun W => fields_any q (f, v) W)
        rw [show ((f, v) : ByteArray × ByteArray).1 = f from rfl] at FL
        have HH := Lib.hid (show hitK Prod.fst l f = decide (ordB q.1 f = 0) from by unfold hitK; rw [← hlw, hq])
        clear hcell hq hlw h1 h2
        generalize ordB q.1 f = o at *
        by_cases ho : o = 0
        · subst ho
          have HH2 := Lib.hid (HH.out.trans (decide_eq_true rfl))
          clear HH
          go_wp2
          go_region_held3 (fun wx => wx.cell? ⟨b, off + hi * 2, none⟩ = some (.string q.1) ∧ wx.cell? ⟨b, off + hi * 2 + 1, none⟩ = some (.string q.2) ∧ wx.cell? ⟨w.heap.size, 0, none⟩ = some (.string f) ∧ wx.cell? ⟨w.heap.size, 1, none⟩ = some (.string v)) (go_keep) (first | (go_at_call 73; (refine (FL.out _).mono ?_); rintro e w2 ⟨rfl, f2⟩; have G2 := Lib.hid (fr_predrew f2); have c1 := G2.out.cell c1 (by simp); have c2 := G2.out.cell c2 (by simp); have d1 := G2.out.cell d1 (by simp); have d2 := G2.out.cell d2 (by simp); clear f2))
          go_wp2
          go_ret2
          refine ⟨?_, HF.out.trans G2.out⟩
          rw [← HL.out, HH2.out]
          rfl
        · have q1 : (o == 0) = false := by simpa using ho
          have HH2 := Lib.hid (HH.out.trans (decide_eq_false ho))
          clear ho HH
          go_wp2
          go_region_held3 (fun wx => wx.cell? ⟨b, off + hi * 2, none⟩ = some (.string q.1) ∧ wx.cell? ⟨b, off + hi * 2 + 1, none⟩ = some (.string q.2) ∧ wx.cell? ⟨w.heap.size, 0, none⟩ = some (.string f) ∧ wx.cell? ⟨w.heap.size, 1, none⟩ = some (.string v)) (go_keep) (first | (go_at_call 73; (refine (FL.out _).mono ?_); rintro e w2 ⟨rfl, f2⟩; have G2 := Lib.hid (fr_predrew f2); have c1 := G2.out.cell c1 (by simp); have c2 := G2.out.cell c2 (by simp); have d1 := G2.out.cell d1 (by simp); have d2 := G2.out.cell d2 (by simp); clear f2))
          go_wp2
          go_ret2
          refine ⟨?_, HF.out.trans G2.out⟩
          rw [← HL.out, HH2.out]
          rfl
      · have HH := Lib.hid (show hitK Prod.fst l f = false from by unfold hitK; rw [← hlw, List.getElem?_eq_none (by omega)])
        have hn' : decide ((hi : Int) < (l.length : Int)) = false := by simpa using hn
        clear hlw h1 h2
        go_wp2
        go_quiet (fail)
        go_wp2
        go_ret2
        refine ⟨?_, HF.out.drewN _⟩
        rw [← HL.out, HH.out]
        rfl

set_option maxRecDepth 100000 in
theorem findP_any (l : List (ByteArray × ByteArray)) (f : ByteArray) (A : Option Addr) (c B : Nat) (w : World) (hr : rises (ltK Prod.fst) l = true) (hl : l.length ≤ 281474976710656) (hB : B ≤ w.heap.size) (h : Sl w B 2 (.slice A l.length c) l.length (pairsV l)) :
    Calls Try.prog 94 #[.slice A l.length c, .string f] w (FindPost (lowK Prod.fst l f) (hitK Prod.fst l f) w) := by
  have BI := Lib.hid (binP_any l f ⟨#[]⟩ A c B w hr hl hB h)
  clear h hr
  generalize lowK Prod.fst l f = i at *
  generalize hitK Prod.fst l f = b at *
  go_enter Try.func94, Try.ntmps94
  go_wp2_with fail
  refine BI.out.mono ?_
  rintro e w1 ⟨rfl, f1⟩
  go_wp2
  go_ret2
  exact ⟨rfl, f1⟩

theorem idxOf_any2 {α : Type} (p : α → Bool) (l : List α) : l.any p = decide (idxOf p l ≥ 0) := by
  unfold idxOf
  cases hf : l.findIdx? p with
  | none =>
    rw [List.findIdx?_eq_none_iff] at hf
    show l.any p = decide ((-1 : Int) ≥ 0)
    rw [List.any_eq_false.2 (fun x hx => by simp [hf x hx])]
    rfl
  | some k =>
    rw [List.findIdx?_eq_some_iff_getElem] at hf
    obtain ⟨hlt, he, _⟩ := hf
    rw [List.any_eq_true.2 ⟨_, List.getElem_mem hlt, he⟩]
    exact (decide_eq_true (show ((k : Nat) : Int) ≥ 0 by omega)).symm

set_option maxHeartbeats 800000 in
theorem containsS_any (l : List ByteArray) (s : ByteArray) (A : Option Addr) (c B : Nat) (w : World) (hl : l.length ≤ 281474976710656) (hB : B ≤ w.heap.size) (h : Sl w B 1 (.slice A l.length c) l.length (textsV l)) :
    Calls Try.prog 99 #[.slice A l.length c, .string s] w fun e w' => e = .returned (.bool (l.any fun y => decide (y = s))) ∧ w = w' := by
  have HS := Lib.hid h
  clear h
  have IX : Calls Try.prog 125 #[.slice A l.length c, .string s] w fun e w' => e = .returned (.int .i64 (idxOf (fun y => decide (y = s)) l)) ∧ w = w' := by
    go_enter Try.func125, Try.ntmps125
    go_wp2
    go_loopg [5, 8] l.length (fun g u i wr => ∃ (k : Nat), g = l.length - k ∧ k ≤ l.length ∧ i = .int .i64 k ∧ (∀ (j : Nat) t, j < k → l[j]? = some t → (fun y => decide (y = s)) t = false) ∧ w = wr)
    case atStart => exact ⟨0, rfl, Nat.zero_le _, rfl, fun j t hj => absurd hj (Nat.not_lt_zero _), rfl⟩
    case round =>
      obtain ⟨k, rfl, hk, rfl, hno, rfl⟩ := hrel
      by_cases hlt : k < l.length
      · obtain ⟨b, off, rfl, hb, hc, hm, hcell⟩ := HS.out.at_ (by omega)
        obtain ⟨t, ht⟩ : ∃ t, l[k]? = some t := ⟨_, List.getElem?_eq_getElem hlt⟩
        have hc1 : w.cell? ⟨b, off + k, none⟩ = some (.string t) := hcell k _ (textsV_get l k t ht)
        by_cases hq : t = s
        · have E := Lib.hid (idxOf_found hno ht (decide_eq_true hq))
          have q : (s.toList == t.toList) = true := by have := eqB s t; rw [decide_eq_true hq.symm] at this; exact this
          clear hno hcell ht hq
          go_wp2
          go_ret
          rw [E.out]
          exact ⟨rfl, rfl⟩
        · have q : (s.toList == t.toList) = false := by have := eqB s t; rw [decide_eq_false (fun e => hq e.symm)] at this; exact this
          have N := Lib.hid (fun j t' (hj : j < k + 1) (ht' : l[j]? = some t') => (show (fun y => decide (y = s)) t' = false by
            rcases Nat.lt_or_ge j k with h | h
            · exact hno j t' h ht'
            · have e : j = k := by omega
              subst e
              rw [ht] at ht'
              cases ht'
              exact decide_eq_false hq))
          clear hno hcell ht hq
          go_wp2
          go_roundg (l.length - (k + 1))
          case measure => omega
          case rel => exact ⟨k + 1, rfl, by omega, by go_num, N.out, rfl⟩
      · have E := Lib.hid (idxOf_none (q := fun y => decide (y = s)) (l := l) (fun j t ht => hno j t (by have := (List.getElem?_eq_some_iff.1 ht).1; omega) ht))
        clear hno
        go_wp2
        go_ret
        rw [E.out]
        exact ⟨rfl, rfl⟩
  have EQ := idxOf_any2 (fun y => decide (y = s)) l
  have IX := Lib.hid IX
  generalize idxOf (fun y => decide (y = s)) l = i at *
  generalize (l.any fun y => decide (y = s)) = b at *
  subst EQ
  go_enter Try.func99, Try.ntmps99
  go_wp2_with fail
  refine IX.out.mono ?_
  rintro e w1 ⟨rfl, rfl⟩
  go_wp2
  go_ret
  exact ⟨rfl, rfl⟩
end Go.Proofs.Ytfkfdmonnebmmaa
