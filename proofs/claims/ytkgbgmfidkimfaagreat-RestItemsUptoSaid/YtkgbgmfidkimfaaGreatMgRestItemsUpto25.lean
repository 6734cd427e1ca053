/- The walks of slices.BinarySearchFunc at pairs, hash.find, slices.Index and Contains at texts. -/
import Derived.Test.YtkgbgmfidkimfaaGreatMgRestItemsUpto3
import Derived.Test.YtkgbgmfidkimfaaGreatItC
import Derived.Test.YtkgbgmfidkimfaaGreatMgRestItemsUpto1
import Derived.Test.YtkgbgmfidkimfaaGreatSlA
import Derived.Test.YtkgbgmfidkimfaaGreatMgRestItemsUpto6
import Derived.Deep.RegionHeld3
set_option linter.unusedVariables false
set_option linter.unusedSimpArgs false
namespace Go.Proofs.YtkgbgmfidkimfaaGreat
open Go.RowKit

set_option maxHeartbeats 2000000 in
set_option maxRecDepth 100000 in
theorem binP_any (l : List (ByteArray × ByteArray)) (f v : ByteArray) (A : Option Addr) (c B : Nat) (w : World) (hr : rises (ltK Prod.fst) l = true) (hl : l.length ≤ 281474976710656) (hB : B ≤ w.heap.size) (h : Sl w B 2 (.slice A l.length c) l.length (pairsV l)) :
    Calls Tryz.prog 110 #[.slice A l.length c, .agg #[.string f, .string v], .func (Fn.func 94) #[] #[]] w (FindPost (lowK Prod.fst l f) (hitK Prod.fst l f) w) := by
  have HS := Lib.hid h
  have hlow := lowK_le Prod.fst l f
  have HR := Lib.hid hr
  have F0 := Lib.hid ((Fr.refl [] w).alloc (.cells #[.string f, .string v] 57))
  have B0 := Lib.hid (Whole.new w 57 [.string f, .string v])
  clear h hr
  go_enter Tryz.func110, Tryz.ntmps110
  go_wp2
  go_loopg [9, 10] l.length (fun g s9 s10 wr => ∃ (lo hi : Nat), g = hi - lo ∧ s9 = .int .i64 lo ∧ s10 = .int .i64 hi ∧ lo ≤ lowK Prod.fst l f ∧ lowK Prod.fst l f ≤ hi ∧ hi ≤ l.length ∧ Fr [] w wr ∧ Whole wr w.heap.size 57 [.string f, .string v])
  case atStart => exact ⟨0, l.length, rfl, rfl, rfl, Nat.zero_le _, hlow, Nat.le_refl _, F0.out, B0.out⟩
  case round =>
    obtain ⟨lo, hi, rfl, rfl, rfl, h1, h2, h3, hf, hb⟩ := hrel
    have HF := Lib.hid hf
    have HB := Lib.hid hb
    clear hf hb
    by_cases hlt : lo < hi
    · obtain ⟨m, hm⟩ : ∃ m, m = (lo + hi) / 2 := ⟨_, rfl⟩
      have hml : m < l.length := by omega
      obtain ⟨b, off, rfl, hb, hc, hmx, hcell⟩ := HS.out.at_ (by omega)
      obtain ⟨q, hq⟩ : ∃ q, l[m]? = some q := ⟨_, List.getElem?_eq_getElem hml⟩
      have x1 : w.cell? ⟨b, off + m * 2, none⟩ = some (.string q.1) := by rw [Nat.mul_comm]; exact hcell _ _ (pairsV_get l m q hq).1
      have x2 : w.cell? ⟨b, off + m * 2 + 1, none⟩ = some (.string q.2) := by rw [Nat.mul_comm]; exact hcell _ _ (pairsV_get l m q hq).2
      have X1 := Lib.hid x1
      have X2 := Lib.hid x2
      have c1 := HF.out.cell x1 (by simp)
      have c2 := HF.out.cell x2 (by simp)
      have d1 : wr.cell? ⟨w.heap.size, 0, none⟩ = some (.string f) := HB.out.cell 0
      have d2 : wr.cell? ⟨w.heap.size, 1, none⟩ = some (.string v) := HB.out.cell 1
      have FL := Lib.hid (fun W => fields_any q (f, v) W)
      have hmi : ((lo : Int) + (hi : Int)) / 2 = (m : Int) := by omega
      have hM := Lib.hid hm
      have hnew : (ordB q.1 f < 0 → m < lowK Prod.fst l f) ∧ (¬ ordB q.1 f < 0 → lowK Prod.fst l f ≤ m) := ⟨fun h => by
        rcases Nat.lt_or_ge m (lowK Prod.fst l f) with h' | h'
        · exact h'
        · exact absurd h (lowK_ge Prod.fst HR.out h' hq), fun h => by
        rcases Nat.lt_or_ge m (lowK Prod.fst l f) with h' | h'
        · exact absurd (lowK_lt Prod.fst h' hq) h
        · exact h'⟩
      rw [show ((f, v) : ByteArray × ByteArray).1 = f from rfl] at FL
      have HN := Lib.hid hnew
      clear x1 x2 hcell hq hnew hm
      generalize ordB q.1 f = o at *
      by_cases ho : o < 0
      · have hn := HN.out.1 ho
        go_wp2
        clear hmi
        go_region_held3 (fun wx => wx.cell? ⟨b, off + m * 2, none⟩ = some (.string q.1) ∧ wx.cell? ⟨b, off + m * 2 + 1, none⟩ = some (.string q.2) ∧ wx.cell? ⟨w.heap.size, 0, none⟩ = some (.string f) ∧ wx.cell? ⟨w.heap.size, 1, none⟩ = some (.string v)) (go_keep) (first | (go_at_call 94; (refine (FL.out _).mono ?_); rintro e w2 ⟨rfl, f2⟩; have G2 := Lib.hid (fr_predrew f2); have c1 := G2.out.cell c1 (by simp); have c2 := G2.out.cell c2 (by simp); have d1 := G2.out.cell d1 (by simp); have d2 := G2.out.cell d2 (by simp); clear f2))
        go_wp2
        go_roundg (hi - (m + 1))
        case measure => have := hM.out; omega
        case rel => exact ⟨m + 1, hi, rfl, by go_num, rfl, by omega, h2, h3, HF.out.trans G2.out, HB.out.fr G2.out (by simp)⟩
      · have hn := HN.out.2 ho
        go_wp2
        clear hmi
        go_region_held3 (fun wx => wx.cell? ⟨b, off + m * 2, none⟩ = some (.string q.1) ∧ wx.cell? ⟨b, off + m * 2 + 1, none⟩ = some (.string q.2) ∧ wx.cell? ⟨w.heap.size, 0, none⟩ = some (.string f) ∧ wx.cell? ⟨w.heap.size, 1, none⟩ = some (.string v)) (go_keep) (first | (go_at_call 94; (refine (FL.out _).mono ?_); rintro e w2 ⟨rfl, f2⟩; have G2 := Lib.hid (fr_predrew f2); have c1 := G2.out.cell c1 (by simp); have c2 := G2.out.cell c2 (by simp); have d1 := G2.out.cell d1 (by simp); have d2 := G2.out.cell d2 (by simp); clear f2))
        go_wp2
        go_roundg (m - lo)
        case measure => have := hM.out; omega
        case rel => exact ⟨lo, m, rfl, rfl, rfl, h1, hn, by omega, HF.out.trans G2.out, HB.out.fr G2.out (by simp)⟩
    · obtain rfl : hi = lo := by omega
      obtain ⟨lw, hlw⟩ : ∃ lw, lw = lowK Prod.fst l f := ⟨_, rfl⟩
      obtain rfl : hi = lw := by omega
      have HL := Lib.hid hlw
      have d1 : wr.cell? ⟨w.heap.size, 0, none⟩ = some (.string f) := HB.out.cell 0
      have d2 : wr.cell? ⟨w.heap.size, 1, none⟩ = some (.string v) := HB.out.cell 1
      by_cases hn : hi < l.length
      · obtain ⟨b, off, rfl, hb, hc, hmx, hcell⟩ := HS.out.at_ (by omega)
        obtain ⟨q, hq⟩ : ∃ q, l[hi]? = some q := ⟨_, List.getElem?_eq_getElem hn⟩
        have c1 := HF.out.cell (show w.cell? ⟨b, off + hi * 2, none⟩ = some (.string q.1) by rw [Nat.mul_comm]; exact hcell _ _ (pairsV_get l hi q hq).1) (by simp)
        have c2 := HF.out.cell (show w.cell? ⟨b, off + hi * 2 + 1, none⟩ = some (.string q.2) by rw [Nat.mul_comm]; exact hcell _ _ (pairsV_get l hi q hq).2) (by simp)
        have FL := Lib.hid (fun W => fields_any q (f, v) W)
        rw [show ((f, v) : ByteArray × ByteArray).1 = f from rfl] at FL
        have HH := Lib.hid (show hitK Prod.fst l f = decide (ordB q.1 f = 0) from by unfold hitK; rw [← hlw, hq])
        clear hcell hq hlw h1 h2
        generalize ordB q.1 f = o at *
        by_cases ho : o = 0
        · subst ho
          have HH2 := Lib.hid (HH.out.trans (decide_eq_true rfl))
          clear HH
          go_wp2
          go_region_held3 (fun wx => wx.cell? ⟨b, off + hi * 2, none⟩ = some (.string q.1) ∧ wx.cell? ⟨b, off + hi * 2 + 1, none⟩ = some (.string q.2) ∧ wx.cell? ⟨w.heap.size, 0, none⟩ = some (.string f) ∧ wx.cell? ⟨w.heap.size, 1, none⟩ = some (.string v)) (go_keep) (first | (go_at_call 94; (refine (FL.out _).mono ?_); rintro e w2 ⟨rfl, f2⟩; have G2 := Lib.hid (fr_predrew f2); have c1 := G2.out.cell c1 (by simp); have c2 := G2.out.cell c2 (by simp); have d1 := G2.out.cell d1 (by simp); have d2 := G2.out.cell d2 (by simp); clear f2))
          go_wp2
          go_ret2
          refine ⟨?_, HF.out.trans G2.out⟩
          rw [← HL.out, HH2.out]
          rfl
        · have q1 : (o == 0) = false := by simpa using ho
          have HH2 := Lib.hid (HH.out.trans (decide_eq_false ho))
          clear ho HH
          go_wp2
          go_region_held3 (fun wx => wx.cell? ⟨b, off + hi * 2, none⟩ = some (.string q.1) ∧ wx.cell? ⟨b, off + hi * 2 + 1, none⟩ = some (.string q.2) ∧ wx.cell? ⟨w.heap.size, 0, none⟩ = some (.string f) ∧ wx.cell? ⟨w.heap.size, 1, none⟩ = some (.string v)) (go_keep) (first | (go_at_call 94; (refine (FL.out _).mono ?_); rintro e w2 ⟨rfl, f2⟩; have G2 := Lib.hid (fr_predrew f2); have c1 := G2.out.cell c1 (by simp); have c2 := G2.out.cell c2 (by simp); have d1 := G2.out.cell d1 (by simp); have d2 := G2.out.cell d2 (by simp); clear f2))
          go_wp2
          go_ret2
          refine ⟨?_, HF.out.trans G2.out⟩
          rw [← HL.out, HH2.out]
          rfl
      · have HH := Lib.hid (show hitK Prod.fst l f = false from by unfold hitK; rw [← hlw, List.getElem?_eq_none (by omega)])
        have hn' : decide ((hi : Int) < (l.length : Int)) = false := by simpa using hn
        clear hlw h1 h2
        go_wp2
        go_quiet (fail)
        go_wp2
        go_ret2
        refine ⟨?_, HF.out.drewN _⟩
        rw [← HL.out, HH.out]
        rfl

set_option maxRecDepth 100000 in
theorem findP_any (l : List (ByteArray × ByteArray)) (f : ByteArray) (A : Option Addr) (c B : Nat) (w : World) (hr : rises (ltK Prod.fst) l = true) (hl : l.length ≤ 281474976710656) (hB : B ≤ w.heap.size) (h : Sl w B 2 (.slice A l.length c) l.length (pairsV l)) :
    Calls Tryz.prog 65 #[.slice A l.length c, .string f] w (FindPost (lowK Prod.fst l f) (hitK Prod.fst l f) w) := by
  have BI := Lib.hid (binP_any l f ⟨#[]⟩ A c B w hr hl hB h)
  clear h hr
  generalize lowK Prod.fst l f = i at *
  generalize hitK Prod.fst l f = b at *
  go_enter Tryz.func65, Tryz.ntmps65
  go_wp2_with fail
  refine BI.out.mono ?_
  rintro e w1 ⟨rfl, f1⟩
  go_wp2
  go_ret2
  exact ⟨rfl, f1⟩

end Go.Proofs.YtkgbgmfidkimfaaGreat
