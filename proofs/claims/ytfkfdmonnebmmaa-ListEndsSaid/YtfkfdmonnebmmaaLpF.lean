/- The walk of list.Remove. (Printed by lists.py.) -/
import Derived.Test.YtfkfdmonnebmmaaLpE
import Derived.Test.YtfkfdmonnebmmaaSlS
set_option linter.unusedVariables false
set_option linter.unusedSimpArgs false
namespace Go.Proofs.Ytfkfdmonnebmmaa
open Go.RowKit

theorem rem1_any (y s : ByteArray) (g : Nat) (w : World) (h : w.cell? ⟨g, 0, none⟩ = some (.string s)) :
    Calls Try.prog 84 #[.string y, .pointer (some ⟨g, 0, none⟩)] w fun e w' => e = .returned (.bool (decide (y = s))) ∧ Fr [] w w' := by
  have E := Lib.hid (eqB y s)
  go_enter Try.func84, Try.ntmps84
  go_wp2
  go_ret
  exact ⟨by rw [← E.out]; rfl, Fr.refl _ _⟩

theorem FrB.cellOf {S : List Nat} {B : Nat} {a b : World} (h : FrB S B a b) {p : Addr} {v : Value} (hc : a.cell? p = some v) (hB : p.block < B) (hS : p.block ∉ S) : b.cell? p = some v :=
  (World.cell?_of_block (h.block _ (World.block_lt_of_cell? a p hc) hB hS)).trans hc

theorem rem1_pred (s : ByteArray) (g D : Nat) (w : World) (h : w.cell? ⟨g, 0, none⟩ = some (.string s)) (hg : g < D) : PredS 84 #[.pointer (some ⟨g, 0, none⟩)] (fun y => decide (y = s)) D w :=
  fun W x hW => rem1_any x s g W (hW.cellOf h hg (by simp))

set_option maxHeartbeats 2000000 in
set_option maxRecDepth 100000 in
theorem listRemove_any (x : Itm) (v : Value) (s : ByteArray) (w : World) (B : Nat) (hs : x.Small) (hB : B ≤ w.heap.size) (h : ItemV w B v x) :
    Calls Try.prog 29 #[v, .string s] w (INPost (remK x s) (asCode 2 x) (remY x s) w) := by
  have RD := Lib.hid (fun W (hf : Fr [] w W) => ready_any x v W B hs (Nat.le_trans hB hf.size) (h.fr hf hB (by simp)))
  obtain ⟨A1, c1, A2, c2, A3, c3, rfl, h1, h2, h3⟩ := h
  have H1 := Lib.hid h1
  have D0 := Lib.hid (BO.new2 w (.int .i64 x.kind) (.string x.text) (.slice A1 x.list.length c1) (.slice A2 x.pairs.length c2) (.slice A3 x.scores.length c3) (.string s))
  obtain ⟨d0, d1, d2, d3, d4⟩ := five D0.out.b
  have S0 := Lib.hid (show (((w.alloc (.cells #[.int .i64 x.kind, .string x.text, .slice A1 x.list.length c1, .slice A2 x.pairs.length c2, .slice A3 x.scores.length c3] 33)).alloc (.cells #[.string s] 9)).alloc (.cells #[.int .i64 0, .string ⟨#[]⟩, .slice none 0 0, .slice none 0 0, .slice none 0 0] 33)).cell? ⟨w.heap.size + 1, 0, none⟩ = some (.string s) from by
    have := ((Whole.new (w.alloc (.cells #[.int .i64 x.kind, .string x.text, .slice A1 x.list.length c1, .slice A2 x.pairs.length c2, .slice A3 x.scores.length c3] 33)) 9 [.string s]).alloc (.cells #[.int .i64 0, .string ⟨#[]⟩, .slice none 0 0, .slice none 0 0, .slice none 0 0] 33)).cell 0
    simpa using this)
  have EY := Lib.hid (show remY x s = if asCode 2 x = 0 then ofL (remL x s) else newI 0 from rfl)
  have EK := Lib.hid (show remK x s = if asCode 2 x = 0 then (x.list.length : Int) - (remL x s).length else 0 from rfl)
  have hs1 := hs.list
  clear h1 h2 h3 hs
  by_cases ha : asCode 2 x = 0
  · have hok := asOk_of ha
    rw [EY.out, EK.out, if_pos ha, if_pos ha, ha]
    rw [ha] at RD
    have h24 : x.list.length ≤ 24 := by have := hok.le24; unfold many at this; omega
    have hrl : (remL x s).length ≤ x.list.length := List.length_filter_le _ _
    have OF := Lib.hid (fun W base u hu => listOf_own (remL x s) base u W (by omega) (fun y hy => by have := hok.texts y (List.mem_filter.1 hy).1; omega) hu)
    have CL := Lib.hid (fun W (hW : Fr [] w W) => cloneS_row x.list.length (textsV x.list) A1 c1 W B (by omega) (Nat.le_trans hB hW.size) (H1.out.fr hW hB (by simp)) (texts_one _))
    have DF := Lib.hid (fun W base u D (hp : PredS 84 #[.pointer (some ⟨w.heap.size + 1, 0, none⟩)] (fun y => decide (y = s)) D W) hD hu => (show Calls Try.prog 83 #[u, .func (Fn.func 84) #[] #[.pointer (some ⟨w.heap.size + 1, 0, none⟩)]] W (DelFPostS (remL x s) base u W) from delFS_any 84 #[.pointer (some ⟨w.heap.size + 1, 0, none⟩)] (enters_any Try.func84 (by kernel_rfl) rfl) (fun y => decide (y = s)) D x.list base u W hp hD (by omega) hu))
    clear hok EY EK ha
    generalize ofL (remL x s) = y at *
    have HW := Lib.hid (show IntKind.i64.wrap ((x.list.length : Int) - ((remL x s).length : Int)) = (x.list.length : Int) - (remL x s).length from IntWalk.i64_in _ (by omega))
    generalize remL x s = r at *
    go_enter Try.func29, Try.ntmps29
    go_wp2_with fail
    refine (RD.out _ D0.out.f).mono ?_
    rintro e w1 ⟨rfl, f1⟩
    have D1 := Lib.hid (D0.out.go f1)
    have S1 := Lib.hid (f1.cell S0.out (by simp))
    have hz1 := D1.out.lt
    clear d0 d1 d2 d3 d4
    obtain ⟨d0, d1, d2, d3, d4⟩ := five D1.out.b
    go_wp2_with fail
    refine (CL.out _ D1.out.f).mono ?_
    rintro e w2 ⟨u, rfl, ho, f2⟩
    have D2 := Lib.hid (D1.out.go f2)
    have S2 := Lib.hid (f2.cell S1.out (by simp))
    have HO := Lib.hid ho
    obtain ⟨U, cu, rfl, -⟩ := own_slice ho
    have hp := Lib.hid (rem1_pred s (w.heap.size + 1) w1.heap.size w2 S2.out (by omega))
    clear d0 d1 d2 d3 d4 ho
    obtain ⟨d0, d1, d2, d3, d4⟩ := five D2.out.b
    go_wp2_with fail
    refine (DF.out _ _ _ _ hp.out (Nat.le_refl _) HO.out).mono ?_
    rintro e w3 ⟨u3, rfl, ho3, f3, -⟩
    have D3 := Lib.hid (D2.out.step f3 (fun g hg => by have := ownL_base HO.out hg; omega))
    have HO3 := Lib.hid ho3
    obtain ⟨U3, cu3, rfl, -⟩ := own_slice ho3
    clear d0 d1 d2 d3 d4 ho3
    obtain ⟨d0, d1, d2, d3, d4⟩ := five D3.out.b
    have hne1 : ¬ w.heap.size = w.heap.size + 1 + 1 := by omega
    have hne2 : ¬ w.heap.size + 1 + 1 = w.heap.size := by omega
    go_wp2
    go_region_held3 (fun wx => wx.cell? ⟨w.heap.size, 2, none⟩ = some (.slice A1 x.list.length c1)) (go_keep) (first | (go_at_call 80; (refine (OF.out _ _ _ (show w3.drew.ownsRow _ _ _ _ _ _ from HO3.out)).mono ?_); rintro e w5 ⟨u5, rfl, hi, f5⟩; have D5 := Lib.hid (D3.out.go (fr_predrew f5)); clear d0 d1 d2 d3 d4 f5; obtain ⟨d0, d1, d2, d3, d4⟩ := five D5.out.b; have HI := Lib.hid hi; obtain ⟨P1, p1, P2, p2, P3, p3, rfl⟩ := hi.form; clear hi; have OO := D5.out.o; rw [show w.heap.size + 2 = w.heap.size + 1 + 1 from rfl] at OO; obtain ⟨a0, a1, a2, a3, a4⟩ := five OO; obtain ⟨b0, b2, b3, b4, b5⟩ := fiveF OO; clear OO))
    go_wp2
    refine bodyPost_ret (v := .tuple #[.agg #[.int .i64 y.kind, .string y.text, .slice P1 y.list.length p1, .slice P2 y.pairs.length p2, .slice P3 y.scores.length p3], .int .i64 (IntKind.i64.wrap ((x.list.length : Int) - (r.length : Int))), .int .i64 0]) (by simp [results, Try.results29, go_sem, a0, a1, a2, a3, a4]) rfl ?_
    exact ⟨_, by rw [HW.out], (itemO_later HI.out (by omega) _ _ _ _ _).less (by omega), D5.out.end5 _ _ _ _ _⟩
  · rw [EY.out, EK.out, if_neg ha, if_neg ha]
    have q2 : (asCode 2 x != 0) = true := by simpa using ha
    clear EY EK ha
    generalize asCode 2 x = r at *
    go_enter Try.func29, Try.ntmps29
    go_wp2_with fail
    refine (RD.out _ D0.out.f).mono ?_
    rintro e w1 ⟨rfl, f1⟩
    have D1 := Lib.hid (D0.out.go f1)
    clear d0 d1 d2 d3 d4
    have OO := D1.out.o
    rw [show w.heap.size + 2 = w.heap.size + 1 + 1 from rfl] at OO
    obtain ⟨a0, a1, a2, a3, a4⟩ := five OO
    obtain ⟨b0, b2, b3, b4, b5⟩ := fiveF OO
    clear OO
    go_wp2
    refine bodyPost_ret (v := .tuple #[.agg #[.int .i64 0, .string ⟨#[]⟩, .slice none 0 0, .slice none 0 0, .slice none 0 0], .int .i64 0, .int .i64 r]) (by simp [results, Try.results29, go_sem, a0, a1, a2, a3, a4]) rfl ?_
    exact ⟨_, rfl, ItemO.nothing _ _, D1.out.end5 _ _ _ _ _⟩
end Go.Proofs.Ytfkfdmonnebmmaa
