/- The walk of the law HashTells. (Printed by hashes2.py.) -/
import Derived.Test.YtfkfdmonnebmmaaHwG
import Derived.Test.YtfkfdmonnebmmaaHwF
import Derived.Test.YtfkfdmonnebmmaaLqF
set_option linter.unusedVariables false
set_option linter.unusedSimpArgs false
namespace Go.Proofs.Ytfkfdmonnebmmaa
open Go.RowKit

theorem ofP_small {l : List (ByteArray × ByteArray)} (hl : l.length ≤ 1000000) (ht : ∀ s ∈ l, s.1.size ≤ 281474976710656 ∧ s.2.size ≤ 281474976710656) : (ofP l).Small := by
  unfold ofP
  split
  · exact newI_small 0 (by decide)
  · exact pairI_small hl ht
theorem pairsOk {x : Itm} {l : List (ByteArray × ByteArray)} (h : pairsCode x l = 0) : asCode 4 x = 0 ∧ ¬ l.any longP = true := by
  unfold pairsCode at h
  by_cases ha : asCode 4 x = 0
  · rw [if_neg (by simpa using ha)] at h
    by_cases hb : l.length = 0
    · rw [if_pos hb] at h; cases h
    · rw [if_neg hb] at h
      by_cases hc : l.any longP = true
      · rw [if_pos hc] at h; cases h
      · exact ⟨ha, hc⟩
  · rw [if_pos ha] at h; exact absurd h ha
theorem putOk {x : Itm} {l : List (ByteArray × ByteArray)} (h : putCode x l = 0) : pairsCode x l = 0 ∧ (putF x l).length ≤ 24 := by
  unfold putCode at h
  by_cases ha : pairsCode x l = 0
  · rw [if_neg (by simpa using ha)] at h
    by_cases hb : 24 < (putF x l).length
    · rw [if_pos hb] at h; cases h
    · exact ⟨ha, by omega⟩
  · rw [if_pos ha] at h; exact absurd h ha
theorem putF_sizes {x : Itm} {l : List (ByteArray × ByteArray)} (h : pairsCode x l = 0) : ∀ s ∈ putF x l, s.1.size ≤ 60 ∧ s.2.size ≤ 60 := fun s hs => by
  obtain ⟨ha, hc⟩ := pairsOk h
  rcases fold_mem _ _ hs with h | h
  · exact not_long hc s h
  · exact (ok_pairs ha).2 s h
theorem putY_small (x : Itm) (l : List (ByteArray × ByteArray)) : (putY x l).Small := by
  unfold putY
  split
  · rename_i h
    obtain ⟨hp, h24⟩ := putOk h
    exact ofP_small (by omega) (fun s hs => by have := putF_sizes hp s hs; omega)
  · exact newI_small 0 (by decide)
theorem dropY_small (x : Itm) (l : List ByteArray) : (dropY x l).Small := by
  unfold dropY
  split
  · rename_i h
    have hok := ok_pairs h
    have := List.length_filter_le (fun p : ByteArray × ByteArray => !(l.any fun y => decide (y = p.1))) x.pairs
    exact ofP_small (by unfold dropP; omega) (fun s hs => by have := hok.2 s (List.mem_filter.1 hs).1; omega)
  · exact newI_small 0 (by decide)

set_option maxHeartbeats 4000000 in
set_option maxRecDepth 100000 in
theorem hashTells_any (x : Itm) (v : Value) (l : List (ByteArray × ByteArray)) (Al : Option Addr) (cl : Nat) (fs : List ByteArray) (Af : Option Addr) (cf : Nat) (f : ByteArray) (w : World) (B : Nat) (hs : x.Small) (hB : B ≤ w.heap.size) (h : ItemV w B v x) (hl : (24 + l.length) * 32 ≤ 140737488355328) (hL : Sl w B 2 (.slice Al l.length cl) l.length (pairsV l)) (hf : fs.length ≤ 281474976710656) (hF : Sl w B 1 (.slice Af fs.length cf) fs.length (textsV fs)) :
    Calls Try.prog 10 #[v, .slice Al l.length cl, .slice Af fs.length cf, .string f] w fun e w' => e = .returned (.bool true) ∧ Fr [] w w' := by
  have PU := Lib.hid (fun (W : World) u A c (h : ItemV W W.heap.size u x) k => hashPut_any x u l A c W W.heap.size hs (Nat.le_refl _) h hl k)
  have GE := Lib.hid (fun (W : World) u (h : ItemV W W.heap.size u x) => hashGet_any x u f W W.heap.size hs (Nat.le_refl _) h)
  have DR := Lib.hid (fun (W : World) u A c (h : ItemV W W.heap.size u x) k => hashDrop_any x u fs A c W W.heap.size hs (Nat.le_refl _) h hf k)
  have PV := Lib.hid (fun (W : World) u A c (h : ItemV W W.heap.size u x) k => putPairs_any x u l A c W W.heap.size hs (Nat.le_refl _) h hl k)
  have GV := Lib.hid (fun (W : World) u (h : ItemV W W.heap.size u x) => fieldOf_any x u f W W.heap.size hs (Nat.le_refl _) h)
  have DV := Lib.hid (fun (W : World) u A c (h : ItemV W W.heap.size u x) k => dropPairs_any x u fs A c W W.heap.size hs (Nat.le_refl _) h hf k)
  have S1 := Lib.hid (putY_small x l)
  have S2 := Lib.hid (dropY_small x fs)
  have N1 := Lib.hid (fun (hc : putCode x l ≠ 0) => (show putY x l = newI 0 ∧ putN x l = 0 from ⟨if_neg hc, if_neg hc⟩))
  have N2 := Lib.hid (fun (hc : asCode 4 x ≠ 0) => (show dropY x fs = newI 0 ∧ dropN x fs = 0 from ⟨if_neg hc, if_neg hc⟩))
  unfold SEPost at GE GV
  have qf : ((getS x f).toList == (getS x f).toList) = true := by simp
  have qg : (getCode x f == getCode x f) = true := by simp
  have E0 := Lib.hid (Env.start w)
  have E1 := Lib.hid (E0.out.item (h.more hB))
  have E2 := Lib.hid (E1.out.row (hL.more hB))
  have E3 := Lib.hid (E2.out.row (hF.more hB))
  obtain ⟨A1, c1, A2, c2, A3, c3, rfl⟩ := h.form
  clear h hL hF hs
  have E4 := Lib.hid (E3.out.box (.int .i64 x.kind) (.string x.text) (.slice A1 x.list.length c1) (.slice A2 x.pairs.length c2) (.slice A3 x.scores.length c3))
  generalize putY x l = y1 at *
  generalize putN x l = n1 at *
  generalize putCode x l = e1 at *
  generalize dropY x fs = y2 at *
  generalize dropN x fs = n2 at *
  generalize asCode 4 x = e2 at *
  generalize getS x f = gs at *
  generalize getCode x f = ge at *
  go_enter Try.func10, Try.ntmps10
  obtain ⟨d0, d1, d2, d3, d4⟩ := five (E4.out.bl _ (.head _))
  go_wp2_with fail
  refine (PU.out _ _ _ _ (E4.out.its _ (.head _)) (E4.out.rs _ (.tail _ (.head _)))).mono ?_
  rintro e w1 ⟨v1, rfl, i1, f1⟩
  have E5 := Lib.hid (E4.out.go f1)
  clear d0 d1 d2 d3 d4
  have E6 := Lib.hid (E5.out.item i1.item)
  obtain ⟨P1, p1, P2, p2, P3, p3, rfl⟩ := i1.form
  clear i1
  have E7 := Lib.hid (E6.out.box (.int .i64 y1.kind) (.string y1.text) (.slice P1 y1.list.length p1) (.slice P2 y1.pairs.length p2) (.slice P3 y1.scores.length p3))
  obtain ⟨d0, d1, d2, d3, d4⟩ := five (E7.out.bl _ (.tail _ (.head _)))
  go_wp2_with fail
  refine (GE.out _ _ (E7.out.its _ (.tail _ (.head _)))).mono ?_
  rintro e w2 ⟨rfl, f2⟩
  have E8 := Lib.hid (E7.out.go f2)
  clear d0 d1 d2 d3 d4
  obtain ⟨d0, d1, d2, d3, d4⟩ := five (E8.out.bl _ (.tail _ (.head _)))
  go_wp2_with fail
  refine (DR.out _ _ _ _ (E8.out.its _ (.tail _ (.head _))) (E8.out.rs _ (.head _))).mono ?_
  rintro e w3 ⟨v3, rfl, i3, f3⟩
  have E9 := Lib.hid (E8.out.go f3)
  clear d0 d1 d2 d3 d4
  have E10 := Lib.hid (E9.out.item i3.item)
  obtain ⟨Q1, q1, Q2, q2, Q3, q3, rfl⟩ := i3.form
  clear i3
  have E11 := Lib.hid (E10.out.box (.int .i64 y2.kind) (.string y2.text) (.slice Q1 y2.list.length q1) (.slice Q2 y2.pairs.length q2) (.slice Q3 y2.scores.length q3))
  obtain ⟨d0, d1, d2, d3, d4⟩ := five (E11.out.bl _ (.tail _ (.tail _ (.head _))))
  go_wp2_with fail
  refine (PV.out _ _ _ _ (E11.out.its _ (.tail _ (.tail _ (.head _)))) (E11.out.rs _ (.tail _ (.head _)))).mono ?_
  rintro e w4 ⟨v4, rfl, i4, f4⟩
  have E12 := Lib.hid (E11.out.go f4)
  clear d0 d1 d2 d3 d4
  have E13 := Lib.hid (E12.out.item i4.item)
  obtain ⟨T1, t1, T2, t2, T3, t3, rfl⟩ := i4.form
  clear i4
  have E14 := Lib.hid (E13.out.box (.int .i64 y1.kind) (.string y1.text) (.slice T1 y1.list.length t1) (.slice T2 y1.pairs.length t2) (.slice T3 y1.scores.length t3))
  obtain ⟨d0, d1, d2, d3, d4⟩ := five (E14.out.bl _ (.tail _ (.tail _ (.tail _ (.head _)))))
  go_wp2_with fail
  refine (GV.out _ _ (E14.out.its _ (.tail _ (.tail _ (.tail _ (.head _)))))).mono ?_
  rintro e w5 ⟨rfl, f5⟩
  have E15 := Lib.hid (E14.out.go f5)
  clear d0 d1 d2 d3 d4
  obtain ⟨d0, d1, d2, d3, d4⟩ := five (E15.out.bl _ (.tail _ (.tail _ (.tail _ (.head _)))))
  go_wp2_with fail
  refine (DV.out _ _ _ _ (E15.out.its _ (.tail _ (.tail _ (.tail _ (.head _))))) (E15.out.rs _ (.head _))).mono ?_
  rintro e w6 ⟨v6, rfl, i6, f6⟩
  have E16 := Lib.hid (E15.out.go f6)
  clear d0 d1 d2 d3 d4
  have E17 := Lib.hid (E16.out.item i6.item)
  obtain ⟨U1, u1, U2, u2, U3, u3, rfl⟩ := i6.form
  clear i6
  have E18 := Lib.hid (E17.out.box (.int .i64 y2.kind) (.string y2.text) (.slice U1 y2.list.length u1) (.slice U2 y2.pairs.length u2) (.slice U3 y2.scores.length u3))
  go_wp2_with fail
  refine (hashBegun_any _).mono ?_
  rintro e w7 ⟨rfl, f7⟩
  have E19 := Lib.hid (E18.out.go f7)
  obtain ⟨d0, d1, d2, d3, d4⟩ := five (E19.out.bl _ (.tail _ (.tail _ (.tail _ (.head _)))))
  obtain ⟨g0, g1, g2, g3, g4⟩ := five (E19.out.bl _ (.tail _ (.head _)))
  go_wp2_with fail
  refine (itemIs_any y1 e1 n1 _ _ _ _ S1.out (Nat.le_refl _) (E19.out.its _ (.tail _ (.tail _ (.tail _ (.head _))))) (E19.out.its _ (.tail _ (.head _))) N1.out).mono ?_
  rintro e w8 ⟨rfl, f8⟩
  have E20 := Lib.hid (E19.out.go f8)
  clear d0 d1 d2 d3 d4 g0 g1 g2 g3 g4
  obtain ⟨d0, d1, d2, d3, d4⟩ := five (E20.out.bl _ (.tail _ (.tail _ (.head _))))
  obtain ⟨g0, g1, g2, g3, g4⟩ := five (E20.out.bl _ (.head _))
  go_wp2_with fail
  refine (itemIs_any y2 e2 n2 _ _ _ _ S2.out (Nat.le_refl _) (E20.out.its _ (.tail _ (.tail _ (.head _)))) (E20.out.its _ (.head _)) N2.out).mono ?_
  rintro e w9 ⟨rfl, f9⟩
  have E21 := Lib.hid (E20.out.go f9)
  go_wp2
  go_ret
  exact ⟨rfl, E21.out.f⟩
end Go.Proofs.Ytfkfdmonnebmmaa
