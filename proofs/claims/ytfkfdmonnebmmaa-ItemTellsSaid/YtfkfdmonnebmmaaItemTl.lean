/- The walk of the law ItemTells. (Printed by itemtells.py.) -/
import Derived.Test.YtfkfdmonnebmmaaItemBk
import Derived.Test.YtfkfdmonnebmmaaItemOf
import Derived.Test.YtfkfdmonnebmmaaItemBa
set_option linter.unusedVariables false
set_option linter.unusedSimpArgs false
namespace Go.Proofs.Ytfkfdmonnebmmaa
open Go.RowKit

theorem dec_small (s : ByteArray) : (decAns s).Small := by
  by_cases hd : decCode s = 0
  · exact right_small (right_of (dec_eq hd).1)
  · rw [dec_ne hd]; exact newI_small 0 (by decide)

set_option maxHeartbeats 2000000 in
set_option maxRecDepth 100000 in
theorem itemTells_any (x : Itm) (v : Value) (s : ByteArray) (w : World) (B : Nat) (hs : x.Small) (hB : B ≤ w.heap.size) (h : ItemV w B v x) (hsz : s.size ≤ 281474976710656) :
    Calls Try.prog 6 #[v, .string s] w fun e w' => e = .returned (.bool true) ∧ Fr [] w w' := by
  have EN := Lib.hid (fun W (hf : Fr [] w W) => encode_any x v W W.heap.size hs (Nat.le_refl _) (h.at_ hB hf))
  have CK := Lib.hid (fun W (hf : Fr [] w W) => itemCheck_any x v W W.heap.size hs (Nat.le_refl _) (h.at_ hB hf))
  have RC := Lib.hid (fun W (hf : Fr [] w W) => refCheck_any x v W W.heap.size hs (Nat.le_refl _) (h.at_ hB hf))
  have RB := Lib.hid (fun W (hf : Fr [] w W) (hc : checkItm x = 0) => (show Calls Try.prog 20 #[v] W fun e w' => e = .returned (.string (encAns x)) ∧ Fr [] W w' from by
    rw [show encAns x = toB (encItm x) by unfold encAns; rw [if_pos hc]; rfl]
    exact refBytes_any x v W W.heap.size hs (Nat.le_refl _) (right_of hc) (h.at_ hB hf)))
  have ET := Lib.hid (fun (hc : ¬ checkItm x = 0) => (show encAns x = ⟨#[]⟩ by unfold encAns; rw [if_neg hc]; rfl))
  have DS := Lib.hid (fun W => (show Calls Try.prog 18 #[.string s] W fun e w' => ∃ z, e = .returned (.tuple #[z, .int .i64 (decCode s)]) ∧ ItemO w' W.heap.size z (decAns s) ∧ Fr [] W w' from decode_any s W hsz))
  have IO := Lib.hid (fun W => (show Calls Try.prog 21 #[.string s] W fun e w' => ∃ z, e = .returned (.tuple #[z, .int .i64 (decCode s)]) ∧ ItemO w' W.heap.size z (decAns s) ∧ Fr [] W w' from itemOf_any s W hsz))
  have DSM := Lib.hid (dec_small s)
  obtain ⟨A1, c1, A2, c2, A3, c3, rfl, h1, h2, h3⟩ := h
  clear h1 h2 h3
  have F0 : Fr [] w (w.alloc (.cells #[.int .i64 x.kind, .string x.text, .slice A1 x.list.length c1, .slice A2 x.pairs.length c2, .slice A3 x.scores.length c3] 33)) := (Fr.refl [] w).alloc _
  have V0 := Lib.hid (show Whole (w.alloc (.cells #[.int .i64 x.kind, .string x.text, .slice A1 x.list.length c1, .slice A2 x.pairs.length c2, .slice A3 x.scores.length c3] 33)) w.heap.size 33 [.int .i64 x.kind, .string x.text, .slice A1 x.list.length c1, .slice A2 x.pairs.length c2, .slice A3 x.scores.length c3] from Whole.new w _ _)
  obtain ⟨d0, d1, d2, d3, d4⟩ := five V0.out
  clear hs
  generalize decCode s = dc at *
  generalize decAns s = d at *
  by_cases hc : checkItm x = 0
  · have RB := Lib.hid (fun W hf => RB.out W hf hc)
    rw [hc] at EN CK RC
    clear hc ET
    generalize encAns x = t at *
    go_enter Try.func6, Try.ntmps6
    go_wp2_with fail
    refine (EN.out _ F0).mono ?_
    rintro e w1 ⟨rfl, f1⟩
    have F1 := F0.trans f1
    have V1 := Lib.hid (V0.out.fr f1 (by simp))
    clear d0 d1 d2 d3 d4
    go_wp2_with fail
    refine (DS.out _).mono ?_
    rintro e w2 ⟨y, rfl, hy, f2⟩
    have HY := Lib.hid hy
    obtain ⟨y1, y2, y3, rfl, o1, o2, o3⟩ := hy
    obtain ⟨P1, p1, rfl⟩ := sl_form (own_sl o1)
    obtain ⟨P2, p2, rfl⟩ := sl_form (own_sl o2)
    obtain ⟨P3, p3, rfl⟩ := sl_form (own_sl o3)
    clear o1 o2 o3
    have g2 : Fr [] w2 (w2.alloc (.cells #[.int .i64 d.kind, .string d.text, .slice P1 d.list.length p1, .slice P2 d.pairs.length p2, .slice P3 d.scores.length p3] 33)) := (Fr.refl [] w2).alloc _
    have F2 := (F1.trans f2).trans g2
    have Y2 := Lib.hid (show Whole (w2.alloc (.cells #[.int .i64 d.kind, .string d.text, .slice P1 d.list.length p1, .slice P2 d.pairs.length p2, .slice P3 d.scores.length p3] 33)) w2.heap.size 33 [.int .i64 d.kind, .string d.text, .slice P1 d.list.length p1, .slice P2 d.pairs.length p2, .slice P3 d.scores.length p3] from Whole.new w2 _ _)
    have V2 := Lib.hid ((V1.out.fr f2 (by simp)).fr g2 (by simp))
    obtain ⟨d0, d1, d2, d3, d4⟩ := five V2.out
    go_wp2_with fail
    refine (RC.out _ F2).mono ?_
    rintro e w3 ⟨rfl, f3⟩
    have F3 := F2.trans f3
    have g3 := g2.trans f3
    have V3 := Lib.hid (V2.out.fr f3 (by simp))
    have Y3 := Lib.hid (Y2.out.fr f3 (by simp))
    clear d0 d1 d2 d3 d4
    obtain ⟨d0, d1, d2, d3, d4⟩ := five V3.out
    go_wp2_with fail
    refine (RB.out _ F3).mono ?_
    rintro e w4 ⟨rfl, f4⟩
    have F4 := F3.trans f4
    have g4 := g3.trans f4
    have V4 := Lib.hid (V3.out.fr f4 (by simp))
    have Y4 := Lib.hid (Y3.out.fr f4 (by simp))
    clear d0 d1 d2 d3 d4
    go_wp2_with fail
    refine (IO.out _).mono ?_
    rintro e w5 ⟨z, rfl, hz, f5⟩
    have HZ := Lib.hid hz
    obtain ⟨z1, z2, z3, rfl, o1, o2, o3⟩ := hz
    obtain ⟨Q1, q1, rfl⟩ := sl_form (own_sl o1)
    obtain ⟨Q2, q2, rfl⟩ := sl_form (own_sl o2)
    obtain ⟨Q3, q3, rfl⟩ := sl_form (own_sl o3)
    clear o1 o2 o3
    have k5 : Fr [] w5 (w5.alloc (.cells #[.int .i64 d.kind, .string d.text, .slice Q1 d.list.length q1, .slice Q2 d.pairs.length q2, .slice Q3 d.scores.length q3] 33)) := (Fr.refl [] w5).alloc _
    have F5 := (F4.trans f5).trans k5
    have g5 := (g4.trans f5).trans k5
    have Z5 := Lib.hid (show Whole (w5.alloc (.cells #[.int .i64 d.kind, .string d.text, .slice Q1 d.list.length q1, .slice Q2 d.pairs.length q2, .slice Q3 d.scores.length q3] 33)) w5.heap.size 33 [.int .i64 d.kind, .string d.text, .slice Q1 d.list.length q1, .slice Q2 d.pairs.length q2, .slice Q3 d.scores.length q3] from Whole.new w5 _ _)
    have V5 := Lib.hid ((V4.out.fr f5 (by simp)).fr k5 (by simp))
    have Y5 := Lib.hid ((Y4.out.fr f5 (by simp)).fr k5 (by simp))
    go_wp2_with fail
    refine (itemBegun_any _).mono ?_
    rintro e w6 ⟨rfl, f6⟩
    have F6 := F5.trans f6
    have V6 := Lib.hid (V5.out.fr f6 (by simp))
    obtain ⟨d0, d1, d2, d3, d4⟩ := five V6.out
    go_wp2_with fail
    refine (CK.out _ F6).mono ?_
    rintro e w7 ⟨rfl, f7⟩
    have F7 := F6.trans f7
    have g7 := (g5.trans f6).trans f7
    have k7 := (k5.trans f6).trans f7
    clear d0 d1 d2 d3 d4
    obtain ⟨d0, d1, d2, d3, d4⟩ := five ((Y5.out.fr f6 (by simp)).fr f7 (by simp))
    obtain ⟨e0, e1, e2, e3, e4⟩ := five ((Z5.out.fr f6 (by simp)).fr f7 (by simp))
    have HI := Lib.hid (sameItem_any d d _ _ _ _ DSM.out DSM.out (Nat.le_refl _) (HY.out.fr0 g7).item (HZ.out.fr0 k7).item)
    rw [sameI_refl] at HI
    go_wp2_with fail
    refine HI.out.mono ?_
    rintro e w8 ⟨rfl, f8⟩
    go_wp2
    go_ret
    exact ⟨rfl, F7.trans f8⟩
  · have qc : (checkItm x == 0) = false := by simpa using hc
    rw [ET.out hc] at EN
    clear hc ET RB
    generalize checkItm x = c at *
    go_enter Try.func6, Try.ntmps6
    go_wp2_with fail
    refine (EN.out _ F0).mono ?_
    rintro e w1 ⟨rfl, f1⟩
    have F1 := F0.trans f1
    have V1 := Lib.hid (V0.out.fr f1 (by simp))
    clear d0 d1 d2 d3 d4
    go_wp2_with fail
    refine (DS.out _).mono ?_
    rintro e w2 ⟨y, rfl, hy, f2⟩
    have HY := Lib.hid hy
    obtain ⟨y1, y2, y3, rfl, o1, o2, o3⟩ := hy
    obtain ⟨P1, p1, rfl⟩ := sl_form (own_sl o1)
    obtain ⟨P2, p2, rfl⟩ := sl_form (own_sl o2)
    obtain ⟨P3, p3, rfl⟩ := sl_form (own_sl o3)
    clear o1 o2 o3
    have g2 : Fr [] w2 (w2.alloc (.cells #[.int .i64 d.kind, .string d.text, .slice P1 d.list.length p1, .slice P2 d.pairs.length p2, .slice P3 d.scores.length p3] 33)) := (Fr.refl [] w2).alloc _
    have F2 := (F1.trans f2).trans g2
    have Y2 := Lib.hid (show Whole (w2.alloc (.cells #[.int .i64 d.kind, .string d.text, .slice P1 d.list.length p1, .slice P2 d.pairs.length p2, .slice P3 d.scores.length p3] 33)) w2.heap.size 33 [.int .i64 d.kind, .string d.text, .slice P1 d.list.length p1, .slice P2 d.pairs.length p2, .slice P3 d.scores.length p3] from Whole.new w2 _ _)
    have V2 := Lib.hid ((V1.out.fr f2 (by simp)).fr g2 (by simp))
    obtain ⟨d0, d1, d2, d3, d4⟩ := five V2.out
    go_wp2_with fail
    refine (RC.out _ F2).mono ?_
    rintro e w3 ⟨rfl, f3⟩
    have F3 := F2.trans f3
    have g3 := g2.trans f3
    have V3 := Lib.hid (V2.out.fr f3 (by simp))
    have Y3 := Lib.hid (Y2.out.fr f3 (by simp))
    clear d0 d1 d2 d3 d4
    obtain ⟨d0, d1, d2, d3, d4⟩ := five V3.out
    have f4 : Fr [] w3 w3 := Fr.refl [] w3
    have F4 := F3.trans f4
    have g4 := g3.trans f4
    have V4 := Lib.hid (V3.out.fr f4 (by simp))
    have Y4 := Lib.hid (Y3.out.fr f4 (by simp))
    clear d0 d1 d2 d3 d4
    go_wp2_with fail
    refine (IO.out _).mono ?_
    rintro e w5 ⟨z, rfl, hz, f5⟩
    have HZ := Lib.hid hz
    obtain ⟨z1, z2, z3, rfl, o1, o2, o3⟩ := hz
    obtain ⟨Q1, q1, rfl⟩ := sl_form (own_sl o1)
    obtain ⟨Q2, q2, rfl⟩ := sl_form (own_sl o2)
    obtain ⟨Q3, q3, rfl⟩ := sl_form (own_sl o3)
    clear o1 o2 o3
    have k5 : Fr [] w5 (w5.alloc (.cells #[.int .i64 d.kind, .string d.text, .slice Q1 d.list.length q1, .slice Q2 d.pairs.length q2, .slice Q3 d.scores.length q3] 33)) := (Fr.refl [] w5).alloc _
    have F5 := (F4.trans f5).trans k5
    have g5 := (g4.trans f5).trans k5
    have Z5 := Lib.hid (show Whole (w5.alloc (.cells #[.int .i64 d.kind, .string d.text, .slice Q1 d.list.length q1, .slice Q2 d.pairs.length q2, .slice Q3 d.scores.length q3] 33)) w5.heap.size 33 [.int .i64 d.kind, .string d.text, .slice Q1 d.list.length q1, .slice Q2 d.pairs.length q2, .slice Q3 d.scores.length q3] from Whole.new w5 _ _)
    have V5 := Lib.hid ((V4.out.fr f5 (by simp)).fr k5 (by simp))
    have Y5 := Lib.hid ((Y4.out.fr f5 (by simp)).fr k5 (by simp))
    go_wp2_with fail
    refine (itemBegun_any _).mono ?_
    rintro e w6 ⟨rfl, f6⟩
    have F6 := F5.trans f6
    have V6 := Lib.hid (V5.out.fr f6 (by simp))
    obtain ⟨d0, d1, d2, d3, d4⟩ := five V6.out
    go_wp2_with fail
    refine (CK.out _ F6).mono ?_
    rintro e w7 ⟨rfl, f7⟩
    have F7 := F6.trans f7
    have g7 := (g5.trans f6).trans f7
    have k7 := (k5.trans f6).trans f7
    clear d0 d1 d2 d3 d4
    obtain ⟨d0, d1, d2, d3, d4⟩ := five ((Y5.out.fr f6 (by simp)).fr f7 (by simp))
    obtain ⟨e0, e1, e2, e3, e4⟩ := five ((Z5.out.fr f6 (by simp)).fr f7 (by simp))
    have HI := Lib.hid (sameItem_any d d _ _ _ _ DSM.out DSM.out (Nat.le_refl _) (HY.out.fr0 g7).item (HZ.out.fr0 k7).item)
    rw [sameI_refl] at HI
    go_wp2_with fail
    refine HI.out.mono ?_
    rintro e w8 ⟨rfl, f8⟩
    go_wp2
    go_ret
    exact ⟨rfl, F7.trans f8⟩
end Go.Proofs.Ytfkfdmonnebmmaa
