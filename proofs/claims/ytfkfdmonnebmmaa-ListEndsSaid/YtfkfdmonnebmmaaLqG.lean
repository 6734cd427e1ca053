/- The walks of the law's row and listBegun. (Printed by lists3.py.) -/
import Derived.Test.YtfkfdmonnebmmaaLqF
import Derived.Test.YtfkfdmonnebmmaaLpD
import Derived.Test.YtfkfdmonnebmmaaLpE
import Derived.Test.YtfkfdmonnebmmaaLpF
import Derived.Test.YtfkfdmonnebmmaaItE
set_option linter.unusedVariables false
set_option linter.unusedSimpArgs false
namespace Go.Proofs.Ytfkfdmonnebmmaa
open Go.RowKit

def tA : ByteArray := ⟨#[97]⟩
def tB : ByteArray := ⟨#[98]⟩
def tC : ByteArray := ⟨#[99]⟩
def tD : ByteArray := ⟨#[100]⟩
def rowI : Itm := listI [tA, tB, tA]
def lb1 : Itm := listI [tD, tC, tA, tB, tA]
def lb2 : Itm := listI [tC, tA, tB, tA]
def lb3 : Itm := listI [tB]
theorem row_small : rowI.Small := listI_small (by decide) (by decide)
theorem lb1_small : lb1.Small := listI_small (by decide) (by decide)
theorem lb2_small : lb2.Small := listI_small (by decide) (by decide)
theorem lb3_small : lb3.Small := listI_small (by decide) (by decide)
theorem lb_push : pushCode rowI [tC, tD] = 0 ∧ pushK rowI true [tC, tD] = 5 ∧ pushY rowI true [tC, tD] = lb1 := ⟨by kernel_rfl, by kernel_rfl, by kernel_rfl⟩
theorem lb_pop : popCode lb1 = 0 ∧ popT lb1 true = ⟨#[100]⟩ ∧ popY lb1 true = lb2 := ⟨by kernel_rfl, by kernel_rfl, by kernel_rfl⟩
theorem lb_range : asCode 2 lb2 = 0 ∧ rangeA lb2 0 1 = [tC, tA] := ⟨by kernel_rfl, by kernel_rfl⟩
theorem lb_trim : asCode 2 rowI = 0 ∧ ofL (rangeA rowI 1 1) = lb3 := ⟨by kernel_rfl, by kernel_rfl⟩
theorem lb_rem : remK rowI ⟨#[97]⟩ = 2 ∧ remY rowI ⟨#[97]⟩ = lb3 := ⟨by kernel_rfl, by kernel_rfl⟩

set_option maxRecDepth 100000 in
theorem row_any (w : World) : Calls Try.prog 89 #[] w (SomeItem rowI w) := by
  go_enter Try.func89, Try.ntmps89
  go_wp2
  refine bodyPost_ret (v := .agg #[.int .i64 2, .string ⟨#[]⟩, .slice (some ⟨w.heap.size + 1, 0, none⟩) 3 3, .slice none 0 0, .slice none 0 0]) (by simp [results, Try.results89, go_sem]) rfl ?_
  have hb := heap_alloc_new (w.alloc (.cells #[.int .i64 2, .string ⟨#[]⟩, .slice (some ⟨w.heap.size + 1, 0, none⟩) 3 3, .slice none 0 0, .slice none 0 0] 33)) (.cells #[.string ⟨#[97]⟩, .string ⟨#[98]⟩, .string ⟨#[97]⟩] 9)
  have hz : (w.alloc (.cells #[.int .i64 2, .string ⟨#[]⟩, .slice (some ⟨w.heap.size + 1, 0, none⟩) 3 3, .slice none 0 0, .slice none 0 0] 33)).heap.size = w.heap.size + 1 := by simp
  rw [hz] at hb
  exact ⟨_, rfl, ⟨_, _, _, rfl, ⟨rfl, .inr ⟨w.heap.size + 1, 3, _, rfl, by omega, hb, Nat.le_refl _, by decide, rfl, rfl⟩⟩, ⟨rfl, .inl ⟨rfl, rfl⟩⟩, ⟨rfl, .inl ⟨rfl, rfl⟩⟩⟩, ((Fr.refl [] w).alloc _).alloc _⟩

theorem sl_lit2 (w : World) (a b : ByteArray) : Sl (w.alloc (.cells #[.string a, .string b] 9)) (w.alloc (.cells #[.string a, .string b] 9)).heap.size 1 (.slice (some ⟨w.heap.size, 0, none⟩) 2 2) 2 (textsV [a, b]) :=
  own_sl (World.ownsRow_lit (base := w.heap.size) (e := 9) (size := 1) w #[.string a, .string b] 2 (Nat.le_refl _) (by decide) rfl)
theorem sl_lit2b (w : World) (o : Obj) (a b : ByteArray) : Sl ((w.alloc o).alloc (.cells #[.string a, .string b] 9)) ((w.alloc o).alloc (.cells #[.string a, .string b] 9)).heap.size 1 (.slice (some ⟨w.heap.size + 1, 0, none⟩) 2 2) 2 (textsV [a, b]) := by
  have := sl_lit2 (w.alloc o) a b
  rw [show (w.alloc o).heap.size = w.heap.size + 1 by simp] at this
  exact this
theorem sl_lit1b (w : World) (o : Obj) (a : ByteArray) : Sl ((w.alloc o).alloc (.cells #[.string a] 9)) ((w.alloc o).alloc (.cells #[.string a] 9)).heap.size 1 (.slice (some ⟨w.heap.size + 1, 0, none⟩) 1 1) 1 (textsV [a]) := by
  have := own_sl (World.ownsRow_lit (base := (w.alloc o).heap.size) (e := 9) (size := 1) (w.alloc o) #[.string a] 1 (Nat.le_refl _) (by decide) rfl)
  rw [show (w.alloc o).heap.size = w.heap.size + 1 by simp] at this
  exact this
theorem sl_lit1 (w : World) (a : ByteArray) : Sl (w.alloc (.cells #[.string a] 9)) (w.alloc (.cells #[.string a] 9)).heap.size 1 (.slice (some ⟨w.heap.size, 0, none⟩) 1 1) 1 (textsV [a]) :=
  own_sl (World.ownsRow_lit (base := w.heap.size) (e := 9) (size := 1) w #[.string a] 1 (Nat.le_refl _) (by decide) rfl)

set_option maxHeartbeats 4000000 in
set_option maxRecDepth 100000 in
theorem listBegun_any (w : World) : Calls Try.prog 36 #[] w fun e w' => e = .returned (.bool true) ∧ Fr [] w w' := by
  have PU := Lib.hid (fun (W : World) v u (h : ItemV W W.heap.size v rowI) (k : Sl W W.heap.size 1 (.slice u 2 2) 2 (textsV [tC, tD])) => (show Calls Try.prog 25 #[v, .bool true, .slice u 2 2] W (INPost 5 0 lb1 W) from by
    have := listPush_any rowI v true [tC, tD] u 2 W W.heap.size row_small (Nat.le_refl _) h (by decide) k
    rw [lb_push.1, lb_push.2.1, lb_push.2.2] at this
    exact this))
  have PO := Lib.hid (fun (W : World) v (h : ItemV W W.heap.size v lb1) => (show Calls Try.prog 26 #[v, .bool true] W (ISPost ⟨#[100]⟩ 0 lb2 W) from by
    have := listPop_any lb1 v true W W.heap.size lb1_small (Nat.le_refl _) h
    rw [lb_pop.1, lb_pop.2.1, lb_pop.2.2] at this
    exact this))
  have RG := Lib.hid (fun (W : World) v (h : ItemV W W.heap.size v lb2) => (show Calls Try.prog 27 #[v, .int .i64 0, .int .i64 1] W fun e w' => ∃ u, e = .returned (.tuple #[u, .int .i64 0]) ∧ w'.ownsRow W.heap.size 9 1 u 2 (textsV [tC, tA]) ∧ Fr [] W w' from by
    have := listRange_any lb2 v 0 1 W W.heap.size lb2_small (Nat.le_refl _) h (by decide) (by decide)
    unfold RangePost at this
    rw [lb_range.1, lb_range.2] at this
    exact this))
  have TR := Lib.hid (fun (W : World) v (h : ItemV W W.heap.size v rowI) => (show Calls Try.prog 28 #[v, .int .i64 1, .int .i64 1] W (IEPost 0 lb3 W) from by
    have := listTrim_any rowI v 1 1 W W.heap.size row_small (Nat.le_refl _) h (by decide) (by decide)
    rw [lb_trim.1, lb_trim.2] at this
    exact this))
  have RM := Lib.hid (fun (W : World) v (h : ItemV W W.heap.size v rowI) => (show Calls Try.prog 29 #[v, .string ⟨#[97]⟩] W (INPost 2 0 lb3 W) from by
    have := listRemove_any rowI v ⟨#[97]⟩ W W.heap.size row_small (Nat.le_refl _) h
    rw [lb_trim.1, lb_rem.1, lb_rem.2] at this
    exact this))
  have ST := Lib.hid (fun (W : World) (A B : Option Addr) c d (h : Sl W W.heap.size 1 (.slice A 2 c) 2 (textsV [tC, tA])) (k : Sl W W.heap.size 1 (.slice B 2 d) 2 (textsV [tC, tA])) => (show Calls Try.prog 38 #[.slice A 2 c, .slice B 2 d] W fun e w' => e = .returned (.bool true) ∧ Fr [] W w' from by
    have := sameTexts_any [tC, tA] [tC, tA] A B c d W.heap.size W (by decide) (by decide) (Nat.le_refl _) h k
    rw [show sameT [tC, tA] [tC, tA] = true from decide_eq_true rfl] at this
    exact this))
  have SI := Lib.hid (fun (W : World) v u (h : ItemV W W.heap.size v lb3) (k : ItemV W W.heap.size u lb3) => (show Calls Try.prog 24 #[v, u] W fun e w' => e = .returned (.bool true) ∧ Fr [] W w' from by
    have := sameItem_any lb3 lb3 v u W W.heap.size lb3_small lb3_small (Nat.le_refl _) h k
    rw [sameI_refl] at this
    exact this))
  have q1 : ((⟨#[100]⟩ : ByteArray).toList == (⟨#[100]⟩ : ByteArray).toList) = true := by simp
  have E0 := Lib.hid (Env.start w)
  go_enter Try.func36, Try.ntmps36
  go_wp2_with fail
  refine (row_any _).mono ?_
  rintro e w1 ⟨v1, rfl, i1, f1⟩
  have E1 := Lib.hid (E0.out.go f1)
  have E2 := Lib.hid (E1.out.item i1.item)
  have E3 := Lib.hid (E2.out.alloc (.cells #[.string ⟨#[99]⟩, .string ⟨#[100]⟩] 9))
  have E4 := Lib.hid (E3.out.row (sl_lit2 w1 tC tD))
  go_wp2_with fail
  refine (PU.out _ _ _ (E4.out.its _ (.head _)) (E4.out.rs _ (.head _))).mono ?_
  rintro e w2 ⟨v2, rfl, i2, f2⟩
  have E5 := Lib.hid (E4.out.go f2)
  have E6 := Lib.hid (E5.out.item i2.item)
  obtain ⟨P1, p1, P2, p2, P3, p3, rfl⟩ := i2.form
  clear i2
  have E7 := Lib.hid (E6.out.box (.int .i64 lb1.kind) (.string lb1.text) (.slice P1 lb1.list.length p1) (.slice P2 lb1.pairs.length p2) (.slice P3 lb1.scores.length p3))
  obtain ⟨d0, d1, d2, d3, d4⟩ := five (E7.out.bl _ (.head _))
  go_wp2_with fail
  refine (PO.out _ _ (E7.out.its _ (.head _))).mono ?_
  rintro e w3 ⟨v3, rfl, i3, f3⟩
  have E8 := Lib.hid (E7.out.go f3)
  clear d0 d1 d2 d3 d4
  have E9 := Lib.hid (E8.out.item i3.item)
  obtain ⟨Q1, q1, Q2, q2, Q3, q3, rfl⟩ := i3.form
  clear i3
  have E10 := Lib.hid (E9.out.box (.int .i64 lb2.kind) (.string lb2.text) (.slice Q1 lb2.list.length q1) (.slice Q2 lb2.pairs.length q2) (.slice Q3 lb2.scores.length q3))
  obtain ⟨d0, d1, d2, d3, d4⟩ := five (E10.out.bl _ (.head _))
  go_wp2_with fail
  refine (RG.out _ _ (E10.out.its _ (.head _))).mono ?_
  rintro e w4 ⟨v4, rfl, i4, f4⟩
  have E11 := Lib.hid (E10.out.go f4)
  clear d0 d1 d2 d3 d4
  have E12 := Lib.hid (E11.out.row (own_sl i4))
  obtain ⟨Rl, cl, rfl, -⟩ := own_slice i4
  clear i4
  go_wp2_with fail
  refine (row_any _).mono ?_
  rintro e w5 ⟨v5, rfl, i5, f5⟩
  have E13 := Lib.hid (E12.out.go f5)
  have E14 := Lib.hid (E13.out.item i5.item)
  go_wp2_with fail
  refine (TR.out _ _ (E14.out.its _ (.head _))).mono ?_
  rintro e w6 ⟨v6, rfl, i6, f6⟩
  have E15 := Lib.hid (E14.out.go f6)
  have E16 := Lib.hid (E15.out.item i6.item)
  obtain ⟨T1, t1, T2, t2, T3, t3, rfl⟩ := i6.form
  clear i6
  have E17 := Lib.hid (E16.out.box (.int .i64 lb3.kind) (.string lb3.text) (.slice T1 lb3.list.length t1) (.slice T2 lb3.pairs.length t2) (.slice T3 lb3.scores.length t3))
  go_wp2_with fail
  refine (row_any _).mono ?_
  rintro e w7 ⟨v7, rfl, i7, f7⟩
  have E18 := Lib.hid (E17.out.go f7)
  have E19 := Lib.hid (E18.out.item i7.item)
  go_wp2_with fail
  refine (RM.out _ _ (E19.out.its _ (.head _))).mono ?_
  rintro e w8 ⟨v8, rfl, i8, f8⟩
  have E20 := Lib.hid (E19.out.go f8)
  have E21 := Lib.hid (E20.out.item i8.item)
  obtain ⟨U1, u1, U2, u2, U3, u3, rfl⟩ := i8.form
  clear i8
  have E22 := Lib.hid (E21.out.box (.int .i64 lb3.kind) (.string lb3.text) (.slice U1 lb3.list.length u1) (.slice U2 lb3.pairs.length u2) (.slice U3 lb3.scores.length u3))
  have E23 := Lib.hid (E22.out.alloc (.cells #[.string ⟨#[99]⟩, .string ⟨#[97]⟩] 9))
  have E24 := Lib.hid (E23.out.row (sl_lit2b w8 (.cells #[.int .i64 lb3.kind, .string lb3.text, .slice U1 lb3.list.length u1, .slice U2 lb3.pairs.length u2, .slice U3 lb3.scores.length u3] 33) tC tA))
  go_wp2_with fail
  refine (ST.out _ _ _ _ _ (E24.out.rs _ (.tail _ (.head _))) (E24.out.rs _ (.head _))).mono ?_
  rintro e w9 ⟨rfl, f9⟩
  have E25 := Lib.hid (E24.out.go f9)
  obtain ⟨d0, d1, d2, d3, d4⟩ := five (E25.out.bl _ (.tail _ (.head _)))
  obtain ⟨g0, g1, g2, g3, g4⟩ := five (E25.out.bl _ (.head _))
  go_wp2_with fail
  refine (SI.out _ _ _ (E25.out.its _ (.tail _ (.tail _ (.head _)))) (E25.out.its _ (.head _))).mono ?_
  rintro e w10 ⟨rfl, f10⟩
  have E26 := Lib.hid (E25.out.go f10)
  go_wp2
  go_ret
  exact ⟨rfl, E26.out.f⟩
end Go.Proofs.Ytfkfdmonnebmmaa
