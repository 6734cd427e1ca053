/- The walks of slices.BinarySearchFunc and ContainsFunc at scores, score.ready, score.of, score.place, score.some, and of the functions that they hand on. (Printed by scores.py.) -/
import Derived.Test.YtkgbgmfidkimfaaGreatMgRestItemsUpto5
import Derived.Test.YtkgbgmfidkimfaaGreatMgRestItemsUpto1
import Derived.Test.YtkgbgmfidkimfaaGreatMgRestItemsUpto6
import Derived.Test.YtkgbgmfidkimfaaGreatMgRestItemsUpto26
import Derived.Test.YtkgbgmfidkimfaaGreatMgRestItemsUpto16
import Derived.Test.YtkgbgmfidkimfaaGreatInsC
set_option linter.unusedVariables false
set_option linter.unusedSimpArgs false
namespace Go.Proofs.YtkgbgmfidkimfaaGreat
open Go.RowKit

def hitC (l : List (Int × ByteArray)) (s : Int × ByteArray) : Bool := match l[lowC l s]? with | some q => decide (ordC q s = 0) | none => false

set_option maxHeartbeats 2000000 in
set_option maxRecDepth 100000 in
theorem binC_any (l : List (Int × ByteArray)) (f : Int) (v : ByteArray) (A : Option Addr) (c B : Nat) (w : World) (hr : rises ltC l = true) (hI : ∀ q ∈ l, isInt q.1 = true) (hV : isInt f = true) (hl : l.length ≤ 281474976710656) (hB : B ≤ w.heap.size) (h : Sl w B 2 (.slice A l.length c) l.length (scoresV l)) :
    Calls Tryz.prog 75 #[.slice A l.length c, .agg #[.int .i64 f, .string v], .func (Fn.func 76) #[] #[]] w (FindPost (lowC l (f, v)) (hitC l (f, v)) w) := by
  have HS := Lib.hid h
  have HI := Lib.hid hI
  have HV := Lib.hid hV
  have hlow := lowC_le l (f, v)
  have HR := Lib.hid hr
  have F0 := Lib.hid ((Fr.refl [] w).alloc (.cells #[.int .i64 f, .string v] 60))
  have B0 := Lib.hid (Whole.new w 60 [.int .i64 f, .string v])
  clear h hr hI hV
  go_enter Tryz.func75, Tryz.ntmps75
  go_wp2
  go_loopg [9, 10] l.length (fun g s9 s10 wr => ∃ (lo hi : Nat), g = hi - lo ∧ s9 = .int .i64 lo ∧ s10 = .int .i64 hi ∧ lo ≤ lowC l (f, v) ∧ lowC l (f, v) ≤ hi ∧ hi ≤ l.length ∧ Fr [] w wr ∧ Whole wr w.heap.size 60 [.int .i64 f, .string v])
  case atStart => exact ⟨0, l.length, rfl, rfl, rfl, Nat.zero_le _, hlow, Nat.le_refl _, F0.out, B0.out⟩
  case round =>
    obtain ⟨lo, hi, rfl, rfl, rfl, h1, h2, h3, hf, hb⟩ := hrel
    have HF := Lib.hid hf
    have HB := Lib.hid hb
    clear hf hb
    by_cases hlt : lo < hi
    · obtain ⟨m, hm⟩ : ∃ m, m = (lo + hi) / 2 := ⟨_, rfl⟩
      have hml : m < l.length := by omega
      obtain ⟨b, off, rfl, hb, hc, hmx, hcell⟩ := HS.out.at_ (by omega)
      obtain ⟨q, hq⟩ : ∃ q, l[m]? = some q := ⟨_, List.getElem?_eq_getElem hml⟩
      have x1 : w.cell? ⟨b, off + m * 2, none⟩ = some (.int .i64 q.1) := by rw [Nat.mul_comm]; exact hcell _ _ (scoresV_get l m q hq).1
      have x2 : w.cell? ⟨b, off + m * 2 + 1, none⟩ = some (.string q.2) := by rw [Nat.mul_comm]; exact hcell _ _ (scoresV_get l m q hq).2
      have X1 := Lib.hid x1
      have X2 := Lib.hid x2
      have c1 := HF.out.cell x1 (by simp)
      have c2 := HF.out.cell x2 (by simp)
      have d1 : wr.cell? ⟨w.heap.size, 0, none⟩ = some (.int .i64 f) := HB.out.cell 0
      have d2 : wr.cell? ⟨w.heap.size, 1, none⟩ = some (.string v) := HB.out.cell 1
      have FL := Lib.hid (fun W => (show Calls Tryz.prog 76 #[.agg #[.int .i64 q.1, .string q.2], .agg #[.int .i64 f, .string v]] W (fun e w' => e = .returned (.int .i64 (ordC q (f, v))) ∧ Fr [] W w') from scores_any q (f, v) W (HI.out q (List.mem_of_getElem? hq)) HV.out))
      have hmi : ((lo : Int) + (hi : Int)) / 2 = (m : Int) := by omega
      have hM := Lib.hid hm
      have hnew : (ordC q (f, v) < 0 → m < lowC l (f, v)) ∧ (¬ ordC q (f, v) < 0 → lowC l (f, v) ≤ m) := ⟨fun h => by
        rcases Nat.lt_or_ge m (lowC l (f, v)) with h' | h'
        · exact h'
        · exact absurd h (lowC_ge HR.out h' hq), fun h => by
        rcases Nat.lt_or_ge m (lowC l (f, v)) with h' | h'
        · exact absurd (lowC_lt h' hq) h
        · exact h'⟩
      have HN := Lib.hid hnew
      clear x1 x2 hcell hq hnew hm
      generalize ordC q (f, v) = o at *
      by_cases ho : o < 0
      · have hn := HN.out.1 ho
        go_wp2
        clear hmi
        go_region_held3 (fun wx => wx.cell? ⟨b, off + m * 2, none⟩ = some (.int .i64 q.1) ∧ wx.cell? ⟨b, off + m * 2 + 1, none⟩ = some (.string q.2) ∧ wx.cell? ⟨w.heap.size, 0, none⟩ = some (.int .i64 f) ∧ wx.cell? ⟨w.heap.size, 1, none⟩ = some (.string v)) (go_keep) (first | (go_at_call 76; (refine (FL.out _).mono ?_); rintro e w2 ⟨rfl, f2⟩; have G2 := Lib.hid (fr_predrew f2); have c1 := G2.out.cell c1 (by simp); have c2 := G2.out.cell c2 (by simp); have d1 := G2.out.cell d1 (by simp); have d2 := G2.out.cell d2 (by simp); clear f2))
        go_wp2
        go_roundg (hi - (m + 1))
        case measure => have := hM.out; omega
        case rel => exact ⟨m + 1, hi, rfl, by go_num, rfl, by omega, h2, h3, HF.out.trans G2.out, HB.out.fr G2.out (by simp)⟩
      · have hn := HN.out.2 ho
        go_wp2
        clear hmi
        go_region_held3 (fun wx => wx.cell? ⟨b, off + m * 2, none⟩ = some (.int .i64 q.1) ∧ wx.cell? ⟨b, off + m * 2 + 1, none⟩ = some (.string q.2) ∧ wx.cell? ⟨w.heap.size, 0, none⟩ = some (.int .i64 f) ∧ wx.cell? ⟨w.heap.size, 1, none⟩ = some (.string v)) (go_keep) (first | (go_at_call 76; (refine (FL.out _).mono ?_); rintro e w2 ⟨rfl, f2⟩; have G2 := Lib.hid (fr_predrew f2); have c1 := G2.out.cell c1 (by simp); have c2 := G2.out.cell c2 (by simp); have d1 := G2.out.cell d1 (by simp); have d2 := G2.out.cell d2 (by simp); clear f2))
        go_wp2
        go_roundg (m - lo)
        case measure => have := hM.out; omega
        case rel => exact ⟨lo, m, rfl, rfl, rfl, h1, hn, by omega, HF.out.trans G2.out, HB.out.fr G2.out (by simp)⟩
    · obtain rfl : hi = lo := by omega
      obtain ⟨lw, hlw⟩ : ∃ lw, lw = lowC l (f, v) := ⟨_, rfl⟩
      obtain rfl : hi = lw := by omega
      have HL := Lib.hid hlw
      have d1 : wr.cell? ⟨w.heap.size, 0, none⟩ = some (.int .i64 f) := HB.out.cell 0
      have d2 : wr.cell? ⟨w.heap.size, 1, none⟩ = some (.string v) := HB.out.cell 1
      by_cases hn : hi < l.length
      · obtain ⟨b, off, rfl, hb, hc, hmx, hcell⟩ := HS.out.at_ (by omega)
        obtain ⟨q, hq⟩ : ∃ q, l[hi]? = some q := ⟨_, List.getElem?_eq_getElem hn⟩
        have c1 := HF.out.cell (show w.cell? ⟨b, off + hi * 2, none⟩ = some (.int .i64 q.1) by rw [Nat.mul_comm]; exact hcell _ _ (scoresV_get l hi q hq).1) (by simp)
        have c2 := HF.out.cell (show w.cell? ⟨b, off + hi * 2 + 1, none⟩ = some (.string q.2) by rw [Nat.mul_comm]; exact hcell _ _ (scoresV_get l hi q hq).2) (by simp)
        have FL := Lib.hid (fun W => (show Calls Tryz.prog 76 #[.agg #[.int .i64 q.1, .string q.2], .agg #[.int .i64 f, .string v]] W (fun e w' => e = .returned (.int .i64 (ordC q (f, v))) ∧ Fr [] W w') from scores_any q (f, v) W (HI.out q (List.mem_of_getElem? hq)) HV.out))
        have HH := Lib.hid (show hitC l (f, v) = decide (ordC q (f, v) = 0) from by unfold hitC; rw [← hlw, hq])
        clear hcell hq hlw h1 h2
        generalize ordC q (f, v) = o at *
        by_cases ho : o = 0
        · subst ho
          have HH2 := Lib.hid (HH.out.trans (decide_eq_true rfl))
          clear HH
          go_wp2
          go_region_held3 (fun wx => wx.cell? ⟨b, off + hi * 2, none⟩ = some (.int .i64 q.1) ∧ wx.cell? ⟨b, off + hi * 2 + 1, none⟩ = some (.string q.2) ∧ wx.cell? ⟨w.heap.size, 0, none⟩ = some (.int .i64 f) ∧ wx.cell? ⟨w.heap.size, 1, none⟩ = some (.string v)) (go_keep) (first | (go_at_call 76; (refine (FL.out _).mono ?_); rintro e w2 ⟨rfl, f2⟩; have G2 := Lib.hid (fr_predrew f2); have c1 := G2.out.cell c1 (by simp); have c2 := G2.out.cell c2 (by simp); have d1 := G2.out.cell d1 (by simp); have d2 := G2.out.cell d2 (by simp); clear f2))
          go_wp2
          go_ret2
          refine ⟨?_, HF.out.trans G2.out⟩
          rw [← HL.out, HH2.out]
          rfl
        · have q1 : (o == 0) = false := by simpa using ho
          have HH2 := Lib.hid (HH.out.trans (decide_eq_false ho))
          clear ho HH
          go_wp2
          go_region_held3 (fun wx => wx.cell? ⟨b, off + hi * 2, none⟩ = some (.int .i64 q.1) ∧ wx.cell? ⟨b, off + hi * 2 + 1, none⟩ = some (.string q.2) ∧ wx.cell? ⟨w.heap.size, 0, none⟩ = some (.int .i64 f) ∧ wx.cell? ⟨w.heap.size, 1, none⟩ = some (.string v)) (go_keep) (first | (go_at_call 76; (refine (FL.out _).mono ?_); rintro e w2 ⟨rfl, f2⟩; have G2 := Lib.hid (fr_predrew f2); have c1 := G2.out.cell c1 (by simp); have c2 := G2.out.cell c2 (by simp); have d1 := G2.out.cell d1 (by simp); have d2 := G2.out.cell d2 (by simp); clear f2))
          go_wp2
          go_ret2
          refine ⟨?_, HF.out.trans G2.out⟩
          rw [← HL.out, HH2.out]
          rfl
      · have HH := Lib.hid (show hitC l (f, v) = false from by unfold hitC; rw [← hlw, List.getElem?_eq_none (by omega)])
        have hn' : decide ((hi : Int) < (l.length : Int)) = false := by simpa using hn
        clear hlw h1 h2
        go_wp2
        go_quiet (fail)
        go_wp2
        go_ret2
        refine ⟨?_, HF.out.drewN _⟩
        rw [← HL.out, HH.out]
        rfl

set_option maxRecDepth 100000 in
theorem ready5_any (x : Itm) (v : Value) (w : World) (B : Nat) (hs : x.Small) (hB : B ≤ w.heap.size) (h : ItemV w B v x) :
    Calls Tryz.prog 70 #[v] w fun e w' => e = .returned (.int .i64 (asCode 5 x)) ∧ Fr [] w w' := by
  have M := Lib.hid (fun W (hf : Fr [] w W) => as_any x 5 v W B hs (Nat.le_trans hB hf.size) (h.fr hf hB (by simp)))
  obtain ⟨A1, c1, A2, c2, A3, c3, rfl, h1, h2, h3⟩ := h
  have F1 : Fr [] w (w.alloc (.cells #[.int .i64 x.kind, .string x.text, .slice A1 x.list.length c1, .slice A2 x.pairs.length c2, .slice A3 x.scores.length c3] 26)) := (Fr.refl [] w).alloc _
  go_enter Tryz.func70, Tryz.ntmps70
  go_wp2_with fail
  refine (M.out _ F1).mono ?_
  rintro e w1 ⟨rfl, f1⟩
  go_wp2
  go_ret
  exact ⟨rfl, F1.trans f1⟩


set_option maxRecDepth 100000 in
theorem scoreOf_any (l : List (Int × ByteArray)) (A : Option Addr) (c : Nat) (w : World) (B : Nat) (hs : (scoreI l).Small) (hB : B ≤ w.heap.size) (h : Sl w B 2 (.slice A l.length c) l.length (scoresV l)) :
    Calls Tryz.prog 78 #[.slice A l.length c] w fun e w' => e = .returned (if l.length = 0 then .agg #[.int .i64 0, .string ⟨#[]⟩, .slice none 0 0, .slice none 0 0, .slice none 0 0] else .agg #[.int .i64 5, .string ⟨#[]⟩, .slice none 0 0, .slice none 0 0, .slice A l.length c]) ∧ Fr [] w w' := by
  have hv : ItemV w B (.agg #[.int .i64 5, .string ⟨#[]⟩, .slice none 0 0, .slice none 0 0, .slice A l.length c]) (scoreI l) := ⟨none, 0, none, 0, A, c, rfl, Sl.nil _ _ _, Sl.nil _ _ _, h⟩
  have O := Lib.hid (fun W (hf : Fr [] w W) => (show Calls Tryz.prog 104 #[.agg #[.int .i64 5, .string ⟨#[]⟩, .slice none 0 0, .slice none 0 0, .slice A l.length c]] W fun e w' => e = .returned (if l.length = 0 then .agg #[.int .i64 0, .string ⟨#[]⟩, .slice none 0 0, .slice none 0 0, .slice none 0 0] else .agg #[.int .i64 5, .string ⟨#[]⟩, .slice none 0 0, .slice none 0 0, .slice A l.length c]) ∧ Fr [] W w' from by have := of_any (scoreI l) (.agg #[.int .i64 5, .string ⟨#[]⟩, .slice none 0 0, .slice none 0 0, .slice A l.length c]) W B hs (Nat.le_trans hB hf.size) (hv.fr hf hB (by simp)) (show (5 : Int) ≠ 1 by decide); unfold ofV at this; rw [show many (scoreI l) = l.length from by show 0 + 0 + l.length = l.length; omega] at this; exact this))
  have F1 : Fr [] w (w.alloc (.cells #[.int .i64 0, .string ⟨#[]⟩, .slice none 0 0, .slice none 0 0, .slice none 0 0] 26)) := (Fr.refl [] w).alloc _
  have R1 := Lib.hid (show Whole (w.alloc (.cells #[.int .i64 0, .string ⟨#[]⟩, .slice none 0 0, .slice none 0 0, .slice none 0 0] 26)) w.heap.size 26 [.int .i64 0, .string ⟨#[]⟩, .slice none 0 0, .slice none 0 0, .slice none 0 0] from Whole.new w _ _)
  clear hv h hs
  by_cases hm : l.length = 0
  · rw [if_pos hm] at O ⊢
    clear hm
    go_enter Tryz.func78, Tryz.ntmps78
    go_wp2_with fail
    refine (O.out _ F1).mono ?_
    rintro e w1 ⟨rfl, f1⟩
    have F2 := F1.trans f1
    have R2 := Lib.hid (R1.out.fr f1 (by simp))
    obtain ⟨a0, a1, a2, a3, a4⟩ := five R2.out
    obtain ⟨b0, b2, b3, b4, b5⟩ := fiveF R2.out
    go_wp2
    refine bodyPost_ret (v := .agg #[.int .i64 0, .string ⟨#[]⟩, .slice none 0 0, .slice none 0 0, .slice none 0 0]) (by simp [results, Tryz.results78, go_sem, a0, a1, a2, a3, a4]) rfl ?_
    refine ⟨rfl, fr_set5 F2 (Nat.le_refl _) _ _ _ _ _⟩
  · rw [if_neg hm] at O ⊢
    clear hm
    go_enter Tryz.func78, Tryz.ntmps78
    go_wp2_with fail
    refine (O.out _ F1).mono ?_
    rintro e w1 ⟨rfl, f1⟩
    have F2 := F1.trans f1
    have R2 := Lib.hid (R1.out.fr f1 (by simp))
    obtain ⟨a0, a1, a2, a3, a4⟩ := five R2.out
    obtain ⟨b0, b2, b3, b4, b5⟩ := fiveF R2.out
    go_wp2
    refine bodyPost_ret (v := .agg #[.int .i64 5, .string ⟨#[]⟩, .slice none 0 0, .slice none 0 0, .slice A l.length c]) (by simp [results, Tryz.results78, go_sem, a0, a1, a2, a3, a4]) rfl ?_
    refine ⟨rfl, fr_set5 F2 (Nat.le_refl _) _ _ _ _ _⟩


def OwnI5 (base : Nat) (x : Itm) (w : World) (e : Ending) (w' : World) : Prop := ∃ u, e = .returned u ∧ ItemO w' base u x ∧ Fr [] w w'
theorem scoreOf_own (l : List (Int × ByteArray)) (base : Nat) (v : Value) (w : World) (hl : l.length ≤ 1000000) (ht : ∀ s ∈ l, (-9223372036854775808 ≤ s.1 ∧ s.1 ≤ 9223372036854775807) ∧ s.2.size ≤ 281474976710656) (h : w.ownsRow base 60 2 v l.length (scoresV l)) :
    Calls Tryz.prog 78 #[v] w (OwnI5 base (ofC l) w) := by
  obtain ⟨A, c, rfl, -⟩ := own_slice h
  refine (scoreOf_any l A c w w.heap.size (scoreI_small hl ht) (Nat.le_refl _) (own_sl h)).mono ?_
  rintro e w' ⟨rfl, hf⟩
  unfold ofC
  by_cases h0 : l.length = 0
  · rw [if_pos h0, if_pos h0]
    exact ⟨_, rfl, ItemO.nothing _ _, hf⟩
  · rw [if_neg h0, if_neg h0]
    exact ⟨_, rfl, ⟨_, _, _, rfl, ⟨rfl, .inl ⟨rfl, rfl⟩⟩, ⟨rfl, .inl ⟨rfl, rfl⟩⟩, own_fr h hf (by simp)⟩, hf⟩


set_option maxRecDepth 100000 in
theorem place1_any (x : Int × ByteArray) (m : ByteArray) (g : Nat) (w : World) (hg : w.cell? ⟨g, 0, none⟩ = some (.string m)) :
    Calls Tryz.prog 115 (#[.agg #[.int .i64 x.1, .string x.2]] ++ #[.pointer (some ⟨g, 0, none⟩)]) w fun e w' => e = .returned (.bool (decide (x.2 = m))) ∧ Fr [] w w' := by
  have E := Lib.hid (eqB x.2 m)
  have F1 : Fr [] w (w.alloc (.cells #[.int .i64 x.1, .string x.2] 60)) := (Fr.refl [] w).alloc _
  have hg1 : (w.alloc (.cells #[.int .i64 x.1, .string x.2] 60)).cell? ⟨g, 0, none⟩ = some (.string m) := F1.cell hg (by simp)
  have V1 := Lib.hid (Whole.new w 60 [.int .i64 x.1, .string x.2])
  have c1 : (w.alloc (.cells #[.int .i64 x.1, .string x.2] 60)).cell? ⟨w.heap.size, 1, none⟩ = some (.string x.2) := V1.out.cell 1
  clear hg
  go_enter Tryz.func115, Tryz.ntmps115
  go_wp2
  go_ret
  exact ⟨by rw [← E.out]; rfl, F1⟩
theorem place1_pred (m : ByteArray) (g D : Nat) (w : World) (h : w.cell? ⟨g, 0, none⟩ = some (.string m)) (hg : g < D) : PredC 115 #[.pointer (some ⟨g, 0, none⟩)] (fun q => decide (q.2 = m)) D w :=
  fun W x hW => place1_any x m g W (frB_cell hW h hg (by simp))

set_option maxHeartbeats 400000 in
set_option maxRecDepth 100000 in
theorem place_any (l : List (Int × ByteArray)) (m : ByteArray) (A : Option Addr) (c B : Nat) (w : World) (hl : l.length ≤ 281474976710656) (hB : B ≤ w.heap.size) (h : Sl w B 2 (.slice A l.length c) l.length (scoresV l)) :
    Calls Tryz.prog 73 #[.slice A l.length c, .string m] w fun e w' => e = .returned (.int .i64 (idxOf (fun q : Int × ByteArray => decide (q.2 = m)) l)) ∧ Fr [] w w' := by
  have F1 := Lib.hid ((Fr.refl [] w).alloc (.cells #[.string m] 9))
  have hsz : (w.alloc (.cells #[.string m] 9)).heap.size = w.heap.size + 1 := by simp
  have hp : PredC 115 #[.pointer (some ⟨w.heap.size, 0, none⟩)] (fun q => decide (q.2 = m)) (w.heap.size + 1) (w.alloc (.cells #[.string m] 9)) := place1_pred m w.heap.size _ _ ((Whole.new w 9 [.string m]).cell 0) (by omega)
  have I := Lib.hid (idxC_any 115 #[.pointer (some ⟨w.heap.size, 0, none⟩)] (enters_any Tryz.func115 (by kernel_rfl) rfl) _ _ l A c B _ hp hl (by omega) (h.fr F1.out hB (by simp)))
  clear hp h hsz
  go_enter Tryz.func73, Tryz.ntmps73
  go_wp2_with fail
  refine I.out.mono ?_
  rintro e w1 ⟨rfl, h1⟩
  go_wp2
  go_ret
  exact ⟨rfl, F1.out.trans h1⟩

set_option maxHeartbeats 1000000 in
set_option maxRecDepth 100000 in
theorem scoreSome_any (l : List (Int × ByteArray)) (A : Option Addr) (c : Nat) (w : World) (B : Nat) (hl : l.length ≤ 281474976710656) (hB : B ≤ w.heap.size) (h : Sl w B 2 (.slice A l.length c) l.length (scoresV l)) :
    Calls Tryz.prog 71 #[.slice A l.length c] w fun e w' => e = .returned (.int .i64 (scsCode l)) ∧ Fr [] w w' := by
  have HS := Lib.hid h
  have E := Lib.hid (show scsCode l = if l.length = 0 then 1 else someC l from rfl)
  clear h
  by_cases h0 : l.length = 0
  · have E1 := Lib.hid (E.out.trans (if_pos h0))
    have q0 : ((l.length : Int) == 0) = true := by simp [h0]
    clear E h0
    go_enter Tryz.func71, Tryz.ntmps71
    go_wp2
    go_ret
    rw [E1.out]
    exact ⟨rfl, Fr.refl _ _⟩
  · have E1 := Lib.hid (E.out.trans (if_neg h0))
    have q0 : ((l.length : Int) == 0) = false := beq_eq_false_iff_ne.2 (by omega)
    clear E
    go_enter Tryz.func71, Tryz.ntmps71
    go_wp2
    go_loopg [10] l.length (fun g i wr => ∃ (k : Nat), g = l.length - k ∧ k ≤ l.length ∧ i = .int .i64 k ∧ Hid (someC l = someC (l.drop k)) ∧ Fr [] w wr)
    case atStart => exact ⟨0, rfl, Nat.zero_le _, rfl, Lib.hid rfl, Fr.refl _ _⟩
    case round =>
      obtain ⟨k, rfl, hk, rfl, HE, hf⟩ := hrel
      have HF := Lib.hid hf
      clear hf
      by_cases hlt : k < l.length
      · obtain ⟨b, off, rfl, hb, hc, hm, hcell⟩ := HS.out.at_ (by omega)
        obtain ⟨s, hs⟩ : ∃ s, l[k]? = some s := ⟨_, List.getElem?_eq_getElem hlt⟩
        have hc1 : wr.cell? ⟨b, off + 2 * k, none⟩ = some (.int .i64 s.1) := HF.out.cell (hcell _ _ (scoresV_get l k s hs).1) (by simp)
        have hc2 : wr.cell? ⟨b, off + 2 * k + 1, none⟩ = some (.string s.2) := HF.out.cell (hcell _ _ (scoresV_get l k s hs).2) (by simp)
        rw [Nat.mul_comm 2 k] at hc1 hc2
        have ST := Lib.hid (HE.out.trans (someC_step hs))
        have II := Lib.hid (fun W => itemInt_any s.1 W)
        have LO := Lib.hid (fun W => long_any s.2 W)
        clear hcell hs
        by_cases h1 : isInt s.1 = true
        · have ST2 := Lib.hid (ST.out.trans (if_neg (by rw [h1]; decide)))
          rw [h1] at II
          by_cases h2 : 60 < s.2.size
          · have E2 := Lib.hid (E1.out.trans (ST2.out.trans (if_pos h2)))
            rw [decide_eq_true h2] at LO
            clear h1 h2 ST ST2
            go_wp2_with fail
            refine (II.out _).mono ?_
            rintro e w1 ⟨rfl, rfl⟩
            go_wp2_with fail
            refine (LO.out _).mono ?_
            rintro e w1 ⟨rfl, rfl⟩
            go_wp2
            go_ret
            rw [E2.out]
            exact ⟨rfl, HF.out.alloc _⟩
          · have ST3 := Lib.hid (ST2.out.trans (if_neg h2))
            rw [decide_eq_false h2] at LO
            clear h1 h2 ST ST2
            go_wp2_with fail
            refine (II.out _).mono ?_
            rintro e w1 ⟨rfl, rfl⟩
            go_wp2_with fail
            refine (LO.out _).mono ?_
            rintro e w1 ⟨rfl, rfl⟩
            go_wp2
            go_roundg (l.length - (k + 1))
            case measure => omega
            case rel => exact ⟨k + 1, rfl, by omega, by go_num, ST3, HF.out.alloc _⟩
        · have h1' : isInt s.1 = false := by simpa using h1
          have E2 := Lib.hid (E1.out.trans (ST.out.trans (if_pos h1')))
          rw [h1'] at II
          clear h1 h1' ST
          go_wp2_with fail
          refine (II.out _).mono ?_
          rintro e w1 ⟨rfl, rfl⟩
          go_wp2
          go_ret
          rw [E2.out]
          exact ⟨rfl, HF.out.alloc _⟩
      · have E2 := Lib.hid (E1.out.trans (HE.out.trans (someC_end (by omega))))
        go_wp2
        go_ret
        rw [E2.out]
        exact ⟨rfl, HF.out⟩

set_option maxHeartbeats 400000 in
set_option maxRecDepth 100000 in
theorem drop5_any (x : Int × ByteArray) (l : List ByteArray) (A : Option Addr) (c g B : Nat) (w : World) (hl : l.length ≤ 281474976710656) (hB : B ≤ w.heap.size) (h : Sl w B 1 (.slice A l.length c) l.length (textsV l)) (hg : w.cell? ⟨g, 0, none⟩ = some (.slice A l.length c)) :
    Calls Tryz.prog 80 (#[.agg #[.int .i64 x.1, .string x.2]] ++ #[.pointer (some ⟨g, 0, none⟩)]) w fun e w' => e = .returned (.bool (l.any fun y => decide (y = x.2))) ∧ Fr [] w w' := by
  have F1 : Fr [] w (w.alloc (.cells #[.int .i64 x.1, .string x.2] 60)) := (Fr.refl [] w).alloc _
  have V1 := Lib.hid (show Whole (w.alloc (.cells #[.int .i64 x.1, .string x.2] 60)) w.heap.size 60 [.int .i64 x.1, .string x.2] from Whole.new w _ _)
  have CT := Lib.hid (fun W (hf : Fr [] w W) => containsS_any l x.2 A c B W hl (Nat.le_trans hB hf.size) (h.fr hf hB (by simp)))
  have hgl : g < w.heap.size := World.block_lt_of_cell? w _ hg
  have hg1 : (w.alloc (.cells #[.int .i64 x.1, .string x.2] 60)).cell? ⟨g, 0, none⟩ = some (.slice A l.length c) := F1.cell hg (by simp)
  have c1 : (w.alloc (.cells #[.int .i64 x.1, .string x.2] 60)).cell? ⟨w.heap.size, 1, none⟩ = some (.string x.2) := V1.out.cell 1
  generalize (l.any fun y => decide (y = x.2)) = b at *
  clear h hg
  go_enter Tryz.func80, Tryz.ntmps80
  go_wp2_with fail
  refine (CT.out _ F1).mono ?_
  rintro e w1 ⟨rfl, rfl⟩
  go_wp2
  go_ret
  exact ⟨rfl, F1⟩

theorem drop5_pred (l : List ByteArray) (A : Option Addr) (c g D : Nat) (w : World) (hl : l.length ≤ 281474976710656) (hD : D ≤ w.heap.size) (h : Sl w D 1 (.slice A l.length c) l.length (textsV l)) (hc : w.cell? ⟨g, 0, none⟩ = some (.slice A l.length c)) (hg : g < D) :
    PredC 80 #[.pointer (some ⟨g, 0, none⟩)] (fun x => l.any fun y => decide (y = x.2)) D w :=
  fun W x hW => drop5_any x l A c g D W hl (Nat.le_trans hD hW.size) (sl_frB h hW (Nat.le_refl _)) (frB_cell hW hc hg (by simp))


end Go.Proofs.YtkgbgmfidkimfaaGreat
