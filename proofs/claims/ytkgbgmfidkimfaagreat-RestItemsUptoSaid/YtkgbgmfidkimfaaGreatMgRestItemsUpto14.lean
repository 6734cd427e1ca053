/- The walk of list.Remove. (Printed by lists.py.) The walks of the law's row and listBegun. (Printed by lists3.py.) -/
import Derived.Test.YtkgbgmfidkimfaaGreatMgRestItemsUpto9
import Derived.Test.YtkgbgmfidkimfaaGreatMgRestItemsUpto27
import Derived.Test.YtkgbgmfidkimfaaGreatMgRestItemsUpto4
import Derived.Test.YtkgbgmfidkimfaaGreatMgRestItemsUpto13
import Derived.Test.YtkgbgmfidkimfaaGreatMgRestItemsUpto29
import Derived.Test.YtkgbgmfidkimfaaGreatItf
set_option linter.unusedVariables false
set_option linter.unusedSimpArgs false
namespace Go.Proofs.YtkgbgmfidkimfaaGreat
open Go.RowKit

theorem rem1_any (y s : ByteArray) (g : Nat) (w : World) (h : w.cell? ⟨g, 0, none⟩ = some (.string s)) :
    Calls Tryz.prog 51 #[.string y, .pointer (some ⟨g, 0, none⟩)] w fun e w' => e = .returned (.bool (decide (y = s))) ∧ Fr [] w w' := by
  have E := Lib.hid (eqB y s)
  go_enter Tryz.func51, Tryz.ntmps51
  go_wp2
  go_ret
  exact ⟨by rw [← E.out]; rfl, Fr.refl _ _⟩

theorem FrB.cellOf {S : List Nat} {B : Nat} {a b : World} (h : FrB S B a b) {p : Addr} {v : Value} (hc : a.cell? p = some v) (hB : p.block < B) (hS : p.block ∉ S) : b.cell? p = some v :=
  (World.cell?_of_block (h.block _ (World.block_lt_of_cell? a p hc) hB hS)).trans hc

theorem rem1_pred (s : ByteArray) (g D : Nat) (w : World) (h : w.cell? ⟨g, 0, none⟩ = some (.string s)) (hg : g < D) : PredS 51 #[.pointer (some ⟨g, 0, none⟩)] (fun y => decide (y = s)) D w :=
  fun W x hW => rem1_any x s g W (hW.cellOf h hg (by simp))

set_option maxHeartbeats 2000000 in
set_option maxRecDepth 100000 in
theorem listRemove_any (x : Itm) (v : Value) (s : ByteArray) (w : World) (B : Nat) (hs : x.Small) (hB : B ≤ w.heap.size) (h : ItemV w B v x) :
    Calls Tryz.prog 15 #[v, .string s] w (INPost (remK x s) (asCode 2 x) (remY x s) w) := by
  have RD := Lib.hid (fun W (hf : Fr [] w W) => ready_any x v W B hs (Nat.le_trans hB hf.size) (h.fr hf hB (by simp)))
  obtain ⟨A1, c1, A2, c2, A3, c3, rfl, h1, h2, h3⟩ := h
  have H1 := Lib.hid h1
  have D0 := Lib.hid (BO.new2 w (.int .i64 x.kind) (.string x.text) (.slice A1 x.list.length c1) (.slice A2 x.pairs.length c2) (.slice A3 x.scores.length c3) (.string s))
  obtain ⟨d0, d1, d2, d3, d4⟩ := five D0.out.b
  have S0 := Lib.hid (show (((w.alloc (.cells #[.int .i64 x.kind, .string x.text, .slice A1 x.list.length c1, .slice A2 x.pairs.length c2, .slice A3 x.scores.length c3] 26)).alloc (.cells #[.string s] 9)).alloc (.cells #[.int .i64 0, .string ⟨#[]⟩, .slice none 0 0, .slice none 0 0, .slice none 0 0] 26)).cell? ⟨w.heap.size + 1, 0, none⟩ = some (.string s) from by
    have := ((Whole.new (w.alloc (.cells #[.int .i64 x.kind, .string x.text, .slice A1 x.list.length c1, .slice A2 x.pairs.length c2, .slice A3 x.scores.length c3] 26)) 9 [.string s]).alloc (.cells #[.int .i64 0, .string ⟨#[]⟩, .slice none 0 0, .slice none 0 0, .slice none 0 0] 26)).cell 0
    simpa using this)
  have EY := Lib.hid (show remY x s = if asCode 2 x = 0 then ofL (remL x s) else newI 0 from rfl)
  have EK := Lib.hid (show remK x s = if asCode 2 x = 0 then (x.list.length : Int) - (remL x s).length else 0 from rfl)
  have hs1 := hs.list
  clear h1 h2 h3 hs
  by_cases ha : asCode 2 x = 0
  · have hok := asOk_of ha
    rw [EY.out, EK.out, if_pos ha, if_pos ha, ha]
    rw [ha] at RD
    have h24 : x.list.length ≤ 24 := by have := hok.le24; unfold many at this; omega
    have hrl : (remL x s).length ≤ x.list.length := List.length_filter_le _ _
    have OF := Lib.hid (fun W base u hu => listOf_own (remL x s) base u W (by omega) (fun y hy => by have := hok.texts y (List.mem_filter.1 hy).1; omega) hu)
    have CL := Lib.hid (fun W (hW : Fr [] w W) => cloneS_row x.list.length (textsV x.list) A1 c1 W B (by omega) (Nat.le_trans hB hW.size) (H1.out.fr hW hB (by simp)) (texts_one _))
    have DF := Lib.hid (fun W base u D (hp : PredS 51 #[.pointer (some ⟨w.heap.size + 1, 0, none⟩)] (fun y => decide (y = s)) D W) hD hu => (show Calls Tryz.prog 50 #[u, .func (Fn.func 51) #[] #[.pointer (some ⟨w.heap.size + 1, 0, none⟩)]] W (DelFPostS (remL x s) base u W) from delFS_any 51 #[.pointer (some ⟨w.heap.size + 1, 0, none⟩)] (enters_any Tryz.func51 (by kernel_rfl) rfl) (fun y => decide (y = s)) D x.list base u W hp hD (by omega) hu))
    clear hok EY EK ha
    generalize ofL (remL x s) = y at *
    have HW := Lib.hid (show IntKind.i64.wrap ((x.list.length : Int) - ((remL x s).length : Int)) = (x.list.length : Int) - (remL x s).length from IntWalk.i64_in _ (by omega))
    generalize remL x s = r at *
    go_enter Tryz.func15, Tryz.ntmps15
    go_wp2_with fail
    refine (RD.out _ D0.out.f).mono ?_
    rintro e w1 ⟨rfl, f1⟩
    have D1 := Lib.hid (D0.out.go f1)
    have S1 := Lib.hid (f1.cell S0.out (by simp))
    have hz1 := D1.out.lt
    clear d0 d1 d2 d3 d4
    obtain ⟨d0, d1, d2, d3, d4⟩ := five D1.out.b
    go_wp2_with fail
    refine (CL.out _ D1.out.f).mono ?_
    rintro e w2 ⟨u, rfl, ho, f2⟩
    have D2 := Lib.hid (D1.out.go f2)
    have S2 := Lib.hid (f2.cell S1.out (by simp))
    have HO := Lib.hid ho
    obtain ⟨U, cu, rfl, -⟩ := own_slice ho
    have hp := Lib.hid (rem1_pred s (w.heap.size + 1) w1.heap.size w2 S2.out (by omega))
    clear d0 d1 d2 d3 d4 ho
    obtain ⟨d0, d1, d2, d3, d4⟩ := five D2.out.b
    go_wp2_with fail
    refine (DF.out _ _ _ _ hp.out (Nat.le_refl _) HO.out).mono ?_
    rintro e w3 ⟨u3, rfl, ho3, f3, -⟩
    have D3 := Lib.hid (D2.out.step f3 (fun g hg => by have := ownL_base HO.out hg; omega))
    have HO3 := Lib.hid ho3
    obtain ⟨U3, cu3, rfl, -⟩ := own_slice ho3
    clear d0 d1 d2 d3 d4 ho3
    obtain ⟨d0, d1, d2, d3, d4⟩ := five D3.out.b
    have hne1 : ¬ w.heap.size = w.heap.size + 1 + 1 := by omega
    have hne2 : ¬ w.heap.size + 1 + 1 = w.heap.size := by omega
    go_wp2
    go_region_held3 (fun wx => wx.cell? ⟨w.heap.size, 2, none⟩ = some (.slice A1 x.list.length c1)) (go_keep) (first | (go_at_call 48; (refine (OF.out _ _ _ (show w3.drew.ownsRow _ _ _ _ _ _ from HO3.out)).mono ?_); rintro e w5 ⟨u5, rfl, hi, f5⟩; have D5 := Lib.hid (D3.out.go (fr_predrew f5)); clear d0 d1 d2 d3 d4 f5; obtain ⟨d0, d1, d2, d3, d4⟩ := five D5.out.b; have HI := Lib.hid hi; obtain ⟨P1, p1, P2, p2, P3, p3, rfl⟩ := hi.form; clear hi; have OO := D5.out.o; rw [show w.heap.size + 2 = w.heap.size + 1 + 1 from rfl] at OO; obtain ⟨a0, a1, a2, a3, a4⟩ := five OO; obtain ⟨b0, b2, b3, b4, b5⟩ := fiveF OO; clear OO))
    go_wp2
    refine bodyPost_ret (v := .tuple #[.agg #[.int .i64 y.kind, .string y.text, .slice P1 y.list.length p1, .slice P2 y.pairs.length p2, .slice P3 y.scores.length p3], .int .i64 (IntKind.i64.wrap ((x.list.length : Int) - (r.length : Int))), .int .i64 0]) (by simp [results, Tryz.results15, go_sem, a0, a1, a2, a3, a4]) rfl ?_
    exact ⟨_, by rw [HW.out], (itemO_later HI.out (by omega) _ _ _ _ _).less (by omega), D5.out.end5 _ _ _ _ _⟩
  · rw [EY.out, EK.out, if_neg ha, if_neg ha]
    have q2 : (asCode 2 x != 0) = true := by simpa using ha
    clear EY EK ha
    generalize asCode 2 x = r at *
    go_enter Tryz.func15, Tryz.ntmps15
    go_wp2_with fail
    refine (RD.out _ D0.out.f).mono ?_
    rintro e w1 ⟨rfl, f1⟩
    have D1 := Lib.hid (D0.out.go f1)
    clear d0 d1 d2 d3 d4
    have OO := D1.out.o
    rw [show w.heap.size + 2 = w.heap.size + 1 + 1 from rfl] at OO
    obtain ⟨a0, a1, a2, a3, a4⟩ := five OO
    obtain ⟨b0, b2, b3, b4, b5⟩ := fiveF OO
    clear OO
    go_wp2
    refine bodyPost_ret (v := .tuple #[.agg #[.int .i64 0, .string ⟨#[]⟩, .slice none 0 0, .slice none 0 0, .slice none 0 0], .int .i64 0, .int .i64 r]) (by simp [results, Tryz.results15, go_sem, a0, a1, a2, a3, a4]) rfl ?_
    exact ⟨_, rfl, ItemO.nothing _ _, D1.out.end5 _ _ _ _ _⟩
end Go.Proofs.YtkgbgmfidkimfaaGreat

namespace Go.Proofs.YtkgbgmfidkimfaaGreat
open Go.RowKit

def lb1 : Itm := listI [tD, tC, tA, tB, tA]
def lb2 : Itm := listI [tC, tA, tB, tA]
def lb3 : Itm := listI [tB]
theorem lb1_small : lb1.Small := listI_small (by decide) (by decide)
theorem lb2_small : lb2.Small := listI_small (by decide) (by decide)
theorem lb3_small : lb3.Small := listI_small (by decide) (by decide)
theorem lb_push : pushCode rowI [tC, tD] = 0 ∧ pushK rowI true [tC, tD] = 5 ∧ pushY rowI true [tC, tD] = lb1 := ⟨by kernel_rfl, by kernel_rfl, by kernel_rfl⟩
theorem lb_pop : popCode lb1 = 0 ∧ popT lb1 true = ⟨#[100]⟩ ∧ popY lb1 true = lb2 := ⟨by kernel_rfl, by kernel_rfl, by kernel_rfl⟩
theorem lb_range : asCode 2 lb2 = 0 ∧ rangeA lb2 0 1 = [tC, tA] := ⟨by kernel_rfl, by kernel_rfl⟩
theorem lb_trim : asCode 2 rowI = 0 ∧ ofL (rangeA rowI 1 1) = lb3 := ⟨by kernel_rfl, by kernel_rfl⟩
theorem lb_rem : remK rowI ⟨#[97]⟩ = 2 ∧ remY rowI ⟨#[97]⟩ = lb3 := ⟨by kernel_rfl, by kernel_rfl⟩

theorem sl_lit2 (w : World) (a b : ByteArray) : Sl (w.alloc (.cells #[.string a, .string b] 9)) (w.alloc (.cells #[.string a, .string b] 9)).heap.size 1 (.slice (some ⟨w.heap.size, 0, none⟩) 2 2) 2 (textsV [a, b]) :=
  own_sl (World.ownsRow_lit (base := w.heap.size) (e := 9) (size := 1) w #[.string a, .string b] 2 (Nat.le_refl _) (by decide) rfl)
theorem sl_lit2b (w : World) (o : Obj) (a b : ByteArray) : Sl ((w.alloc o).alloc (.cells #[.string a, .string b] 9)) ((w.alloc o).alloc (.cells #[.string a, .string b] 9)).heap.size 1 (.slice (some ⟨w.heap.size + 1, 0, none⟩) 2 2) 2 (textsV [a, b]) := by
  have := sl_lit2 (w.alloc o) a b
  rw [show (w.alloc o).heap.size = w.heap.size + 1 by simp] at this
  exact this
theorem sl_lit1b (w : World) (o : Obj) (a : ByteArray) : Sl ((w.alloc o).alloc (.cells #[.string a] 9)) ((w.alloc o).alloc (.cells #[.string a] 9)).heap.size 1 (.slice (some ⟨w.heap.size + 1, 0, none⟩) 1 1) 1 (textsV [a]) := by
  have := own_sl (World.ownsRow_lit (base := (w.alloc o).heap.size) (e := 9) (size := 1) (w.alloc o) #[.string a] 1 (Nat.le_refl _) (by decide) rfl)
  rw [show (w.alloc o).heap.size = w.heap.size + 1 by simp] at this
  exact this
theorem sl_lit1 (w : World) (a : ByteArray) : Sl (w.alloc (.cells #[.string a] 9)) (w.alloc (.cells #[.string a] 9)).heap.size 1 (.slice (some ⟨w.heap.size, 0, none⟩) 1 1) 1 (textsV [a]) :=
  own_sl (World.ownsRow_lit (base := w.heap.size) (e := 9) (size := 1) w #[.string a] 1 (Nat.le_refl _) (by decide) rfl)

set_option maxHeartbeats 4000000 in
set_option maxRecDepth 100000 in
theorem listBegun_any (w : World) : Calls Tryz.prog 5 #[] w fun e w' => e = .returned (.bool true) ∧ Fr [] w w' := by
  have PU := Lib.hid (fun (W : World) v u (h : ItemV W W.heap.size v rowI) (k : Sl W W.heap.size 1 (.slice u 2 2) 2 (textsV [tC, tD])) => (show Calls Tryz.prog 11 #[v, .bool true, .slice u 2 2] W (INPost 5 0 lb1 W) from by
    have := listPush_any rowI v true [tC, tD] u 2 W W.heap.size row_small (Nat.le_refl _) h (by decide) k
    rw [lb_push.1, lb_push.2.1, lb_push.2.2] at this
    exact this))
  have PO := Lib.hid (fun (W : World) v (h : ItemV W W.heap.size v lb1) => (show Calls Tryz.prog 13 #[v, .bool true] W (ISPost ⟨#[100]⟩ 0 lb2 W) from by
    have := listPop_any lb1 v true W W.heap.size lb1_small (Nat.le_refl _) h
    rw [lb_pop.1, lb_pop.2.1, lb_pop.2.2] at this
    exact this))
  have RG := Lib.hid (fun (W : World) v (h : ItemV W W.heap.size v lb2) => (show Calls Tryz.prog 16 #[v, .int .i64 0, .int .i64 1] W fun e w' => ∃ u, e = .returned (.tuple #[u, .int .i64 0]) ∧ w'.ownsRow W.heap.size 9 1 u 2 (textsV [tC, tA]) ∧ Fr [] W w' from by
    have := listRange_any lb2 v 0 1 W W.heap.size lb2_small (Nat.le_refl _) h (by decide) (by decide)
    unfold RangePost at this
    rw [lb_range.1, lb_range.2] at this
    exact this))
  have TR := Lib.hid (fun (W : World) v (h : ItemV W W.heap.size v rowI) => (show Calls Tryz.prog 14 #[v, .int .i64 1, .int .i64 1] W (IEPost 0 lb3 W) from by
    have := listTrim_any rowI v 1 1 W W.heap.size row_small (Nat.le_refl _) h (by decide) (by decide)
    rw [lb_trim.1, lb_trim.2] at this
    exact this))
  have RM := Lib.hid (fun (W : World) v (h : ItemV W W.heap.size v rowI) => (show Calls Tryz.prog 15 #[v, .string ⟨#[97]⟩] W (INPost 2 0 lb3 W) from by
    have := listRemove_any rowI v ⟨#[97]⟩ W W.heap.size row_small (Nat.le_refl _) h
    rw [lb_trim.1, lb_rem.1, lb_rem.2] at this
    exact this))
  have ST := Lib.hid (fun (W : World) (A B : Option Addr) c d (h : Sl W W.heap.size 1 (.slice A 2 c) 2 (textsV [tC, tA])) (k : Sl W W.heap.size 1 (.slice B 2 d) 2 (textsV [tC, tA])) => (show Calls Tryz.prog 28 #[.slice A 2 c, .slice B 2 d] W fun e w' => e = .returned (.bool true) ∧ Fr [] W w' from by
    have := sameTexts_any [tC, tA] [tC, tA] A B c d W.heap.size W (by decide) (by decide) (Nat.le_refl _) h k
    rw [show sameT [tC, tA] [tC, tA] = true from decide_eq_true rfl] at this
    exact this))
  have SI := Lib.hid (fun (W : World) v u (h : ItemV W W.heap.size v lb3) (k : ItemV W W.heap.size u lb3) => (show Calls Tryz.prog 12 #[v, u] W fun e w' => e = .returned (.bool true) ∧ Fr [] W w' from by
    have := sameItem_any lb3 lb3 v u W W.heap.size lb3_small lb3_small (Nat.le_refl _) h k
    rw [sameI_refl] at this
    exact this))
  have q1 : ((⟨#[100]⟩ : ByteArray).toList == (⟨#[100]⟩ : ByteArray).toList) = true := by simp
  have E0 := Lib.hid (Env.start w)
  go_enter Tryz.func5, Tryz.ntmps5
  go_wp2_with fail
  refine (row_any _).mono ?_
  rintro e w1 ⟨v1, rfl, i1, f1⟩
  have E1 := Lib.hid (E0.out.go f1)
  have E2 := Lib.hid (E1.out.item i1.item)
  have E3 := Lib.hid (E2.out.alloc (.cells #[.string ⟨#[99]⟩, .string ⟨#[100]⟩] 9))
  have E4 := Lib.hid (E3.out.row (sl_lit2 w1 tC tD))
  go_wp2_with fail
  refine (PU.out _ _ _ (E4.out.its _ (.head _)) (E4.out.rs _ (.head _))).mono ?_
  rintro e w2 ⟨v2, rfl, i2, f2⟩
  have E5 := Lib.hid (E4.out.go f2)
  have E6 := Lib.hid (E5.out.item i2.item)
  obtain ⟨P1, p1, P2, p2, P3, p3, rfl⟩ := i2.form
  clear i2
  have E7 := Lib.hid (E6.out.box (.int .i64 lb1.kind) (.string lb1.text) (.slice P1 lb1.list.length p1) (.slice P2 lb1.pairs.length p2) (.slice P3 lb1.scores.length p3))
  obtain ⟨d0, d1, d2, d3, d4⟩ := five (E7.out.bl _ (.head _))
  go_wp2_with fail
  refine (PO.out _ _ (E7.out.its _ (.head _))).mono ?_
  rintro e w3 ⟨v3, rfl, i3, f3⟩
  have E8 := Lib.hid (E7.out.go f3)
  clear d0 d1 d2 d3 d4
  have E9 := Lib.hid (E8.out.item i3.item)
  obtain ⟨Q1, q1, Q2, q2, Q3, q3, rfl⟩ := i3.form
  clear i3
  have E10 := Lib.hid (E9.out.box (.int .i64 lb2.kind) (.string lb2.text) (.slice Q1 lb2.list.length q1) (.slice Q2 lb2.pairs.length q2) (.slice Q3 lb2.scores.length q3))
  obtain ⟨d0, d1, d2, d3, d4⟩ := five (E10.out.bl _ (.head _))
  go_wp2_with fail
  refine (RG.out _ _ (E10.out.its _ (.head _))).mono ?_
  rintro e w4 ⟨v4, rfl, i4, f4⟩
  have E11 := Lib.hid (E10.out.go f4)
  clear d0 d1 d2 d3 d4
  have E12 := Lib.hid (E11.out.row (own_sl i4))
  obtain ⟨Rl, cl, rfl, -⟩ := own_slice i4
  clear i4
  go_wp2_with fail
  refine (row_any _).mono ?_
  rintro e w5 ⟨v5, rfl, i5, f5⟩
  have E13 := Lib.hid (E12.out.go f5)
  have E14 := Lib.hid (E13.out.item i5.item)
  go_wp2_with fail
  refine (TR.out _ _ (E14.out.its _ (.head _))).mono ?_
  rintro e w6 ⟨v6, rfl, i6, f6⟩
  have E15 := Lib.hid (E14.out.go f6)
  have E16 := Lib.hid (E15.out.item i6.item)
  obtain ⟨T1, t1, T2, t2, T3, t3, rfl⟩ := i6.form
  clear i6
  have E17 := Lib.hid (E16.out.box (.int .i64 lb3.kind) (.string lb3.text) (.slice T1 lb3.list.length t1) (.slice T2 lb3.pairs.length t2) (.slice T3 lb3.scores.length t3))
  go_wp2_with fail
  refine (row_any _).mono ?_
  rintro e w7 ⟨v7, rfl, i7, f7⟩
  have E18 := Lib.hid (E17.out.go f7)
  have E19 := Lib.hid (E18.out.item i7.item)
  go_wp2_with fail
  refine (RM.out _ _ (E19.out.its _ (.head _))).mono ?_
  rintro e w8 ⟨v8, rfl, i8, f8⟩
  have E20 := Lib.hid (E19.out.go f8)
  have E21 := Lib.hid (E20.out.item i8.item)
  obtain ⟨U1, u1, U2, u2, U3, u3, rfl⟩ := i8.form
  clear i8
  have E22 := Lib.hid (E21.out.box (.int .i64 lb3.kind) (.string lb3.text) (.slice U1 lb3.list.length u1) (.slice U2 lb3.pairs.length u2) (.slice U3 lb3.scores.length u3))
  have E23 := Lib.hid (E22.out.alloc (.cells #[.string ⟨#[99]⟩, .string ⟨#[97]⟩] 9))
  have E24 := Lib.hid (E23.out.row (sl_lit2b w8 (.cells #[.int .i64 lb3.kind, .string lb3.text, .slice U1 lb3.list.length u1, .slice U2 lb3.pairs.length u2, .slice U3 lb3.scores.length u3] 26) tC tA))
  go_wp2_with fail
  refine (ST.out _ _ _ _ _ (E24.out.rs _ (.tail _ (.head _))) (E24.out.rs _ (.head _))).mono ?_
  rintro e w9 ⟨rfl, f9⟩
  have E25 := Lib.hid (E24.out.go f9)
  obtain ⟨d0, d1, d2, d3, d4⟩ := five (E25.out.bl _ (.tail _ (.head _)))
  obtain ⟨g0, g1, g2, g3, g4⟩ := five (E25.out.bl _ (.head _))
  go_wp2_with fail
  refine (SI.out _ _ _ (E25.out.its _ (.tail _ (.tail _ (.head _)))) (E25.out.its _ (.head _))).mono ?_
  rintro e w10 ⟨rfl, f10⟩
  have E26 := Lib.hid (E25.out.go f10)
  go_wp2
  go_ret
  exact ⟨rfl, E26.out.f⟩
end Go.Proofs.YtkgbgmfidkimfaaGreat
