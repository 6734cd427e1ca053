/- The walk of the law's scoreBegun. (Printed by scores6.py.) -/
import Derived.Test.YtkgbgmfidkimfaaGreatMgRestItemsUpto34
import Derived.Test.YtkgbgmfidkimfaaGreatMgRestItemsUpto35
import Derived.Test.YtkgbgmfidkimfaaGreatTal
import Derived.Test.YtkgbgmfidkimfaaGreatMgRestItemsUpto2
import Derived.Test.YtkgbgmfidkimfaaGreatItf
set_option linter.unusedVariables false
set_option linter.unusedSimpArgs false
namespace Go.Proofs.YtkgbgmfidkimfaaGreat
open Go.RowKit

theorem newI0_item (w : World) (B : Nat) : ItemV w B (.agg #[.int .i64 0, .string ⟨#[]⟩, .slice none 0 0, .slice none 0 0, .slice none 0 0]) (newI 0) := ⟨none, 0, none, 0, none, 0, rfl, Sl.nil _ _ _, Sl.nil _ _ _, Sl.nil _ _ _⟩
def sbL : List (Int × ByteArray) := [(9, ⟨#[98]⟩), (2, ⟨#[97, 97]⟩)]
def sb1 : Itm := scoreI [(2, ⟨#[97]⟩), (2, ⟨#[97, 97]⟩), (2, ⟨#[99]⟩), (9, ⟨#[98]⟩)]
def sb2 : Itm := scoreI [(2, ⟨#[97]⟩), (2, ⟨#[97, 97]⟩), (2, ⟨#[99]⟩)]
def sbA : List ByteArray := [⟨#[97]⟩, ⟨#[97, 97]⟩]
def sbB : List ByteArray := [⟨#[97]⟩, ⟨#[97, 97]⟩, ⟨#[99]⟩]
theorem sb1_small : sb1.Small := scoreI_small (by decide) (by decide)
theorem sb2_small : sb2.Small := scoreI_small (by decide) (by decide)
theorem sb_put : put5 tallyI sbL = 0 ∧ put5N tallyI sbL = 1 ∧ put5Y tallyI sbL = sb1 := ⟨by kernel_rfl, by kernel_rfl, by kernel_rfl⟩
theorem sb_rank : rankCode sb1 ⟨#[98]⟩ = 0 ∧ rankN sb1 ⟨#[98]⟩ = 3 ∧ numN sb1 ⟨#[98]⟩ = 9 := ⟨by kernel_rfl, by kernel_rfl, by kernel_rfl⟩
theorem sb_range : asCode 5 sb1 = 0 ∧ range5 sb1 0 1 = sbA ∧ within5 sb1 2 2 = sbB := ⟨by kernel_rfl, by kernel_rfl, by kernel_rfl⟩
theorem sb_drop : drop5N sb1 [⟨#[98]⟩] = 1 ∧ drop5Y sb1 [⟨#[98]⟩] = sb2 := ⟨by kernel_rfl, by kernel_rfl⟩
theorem slC_lit (w : World) : Sl (w.alloc (.cells #[.int .i64 9, .string ⟨#[98]⟩, .int .i64 2, .string ⟨#[97, 97]⟩] 60)) (w.alloc (.cells #[.int .i64 9, .string ⟨#[98]⟩, .int .i64 2, .string ⟨#[97, 97]⟩] 60)).heap.size 2 (.slice (some ⟨w.heap.size, 0, none⟩) 2 2) 2 (scoresV sbL) :=
  own_sl (World.ownsRow_lit (base := w.heap.size) (e := 60) (size := 2) w #[.int .i64 9, .string ⟨#[98]⟩, .int .i64 2, .string ⟨#[97, 97]⟩] 2 (Nat.le_refl _) (by decide) rfl)
set_option maxHeartbeats 8000000 in
set_option maxRecDepth 100000 in
theorem scoreBegun_any (w : World) : Calls Tryz.prog 8 #[] w fun e w' => e = .returned (.bool true) ∧ Fr [] w w' := by
  have PU := Lib.hid (fun (W : World) v u (h : ItemV W W.heap.size v tallyI) (k : Sl W W.heap.size 2 (.slice u 2 2) 2 (scoresV sbL)) => (show Calls Tryz.prog 23 #[v, .slice u 2 2] W (INPost 1 0 sb1 W) from by
    have := scorePut_any tallyI v sbL u 2 W W.heap.size tally_small (Nat.le_refl _) h (by decide) k
    rw [sb_put.1, sb_put.2.1, sb_put.2.2] at this
    exact this))
  have RK := Lib.hid (fun (W : World) v (h : ItemV W W.heap.size v sb1) => (show Calls Tryz.prog 37 #[v, .string ⟨#[98]⟩] W (IEPostN 3 0 W) from by
    have := scoreRank_any sb1 v ⟨#[98]⟩ W W.heap.size sb1_small (Nat.le_refl _) h
    rw [sb_rank.1, sb_rank.2.1] at this
    exact this))
  have NU := Lib.hid (fun (W : World) v (h : ItemV W W.heap.size v sb1) => (show Calls Tryz.prog 38 #[v, .string ⟨#[98]⟩] W (IEPostN 9 0 W) from by
    have := scoreNumber_any sb1 v ⟨#[98]⟩ W W.heap.size sb1_small (Nat.le_refl _) h
    rw [sb_rank.1, sb_rank.2.2] at this
    exact this))
  have RA := Lib.hid (fun (W : World) v (h : ItemV W W.heap.size v sb1) => (show Calls Tryz.prog 25 #[v, .int .i64 0, .int .i64 1] W (TEPost sbA 0 W) from by
    have := scoreRange_any sb1 v 0 1 W W.heap.size sb1_small (Nat.le_refl _) h (by decide) (by decide)
    rw [sb_range.1, sb_range.2.1] at this
    exact this))
  have WI := Lib.hid (fun (W : World) v (h : ItemV W W.heap.size v sb1) => (show Calls Tryz.prog 39 #[v, .int .i64 2, .int .i64 2] W (TEPost sbB 0 W) from by
    have := scoreWithin_any sb1 v 2 2 W W.heap.size sb1_small (Nat.le_refl _) h
    rw [sb_range.1, sb_range.2.2] at this
    exact this))
  have DR := Lib.hid (fun (W : World) v u (h : ItemV W W.heap.size v sb1) (k : Sl W W.heap.size 1 (.slice u 1 1) 1 (textsV [⟨#[98]⟩])) => (show Calls Tryz.prog 24 #[v, .slice u 1 1] W (INPost 1 0 sb2 W) from by
    have := scoreDrop_any sb1 v [⟨#[98]⟩] u 1 W W.heap.size sb1_small (Nat.le_refl _) h (by decide) k
    rw [sb_range.1, sb_drop.1, sb_drop.2] at this
    exact this))
  have SA := Lib.hid (fun (W : World) a b c d (h : Sl W W.heap.size 1 (.slice a sbA.length c) sbA.length (textsV sbA)) (k : Sl W W.heap.size 1 (.slice b 2 d) 2 (textsV [⟨#[97]⟩, ⟨#[97, 97]⟩])) => (show Calls Tryz.prog 28 #[.slice a sbA.length c, .slice b 2 d] W (fun e w' => e = .returned (.bool true) ∧ Fr [] W w') from by
    have := sameTexts_any sbA sbA a b c d W.heap.size W (by decide) (by decide) (Nat.le_refl _) h k
    rw [show sameT sbA sbA = true from by simp [sameT]] at this
    exact this))
  have SB := Lib.hid (fun (W : World) a b c d (h : Sl W W.heap.size 1 (.slice a sbB.length c) sbB.length (textsV sbB)) (k : Sl W W.heap.size 1 (.slice b 3 d) 3 (textsV [⟨#[97]⟩, ⟨#[97, 97]⟩, ⟨#[99]⟩])) => (show Calls Tryz.prog 28 #[.slice a sbB.length c, .slice b 3 d] W (fun e w' => e = .returned (.bool true) ∧ Fr [] W w') from by
    have := sameTexts_any sbB sbB a b c d W.heap.size W (by decide) (by decide) (Nat.le_refl _) h k
    rw [show sameT sbB sbB = true from by simp [sameT]] at this
    exact this))
  have E0 := Lib.hid (Env.start w)
  go_enter Tryz.func8, Tryz.ntmps8
  go_wp2_with fail
  refine (tally_any _).mono ?_
  rintro e w1 ⟨v0, rfl, i0, f1⟩
  have E1 := Lib.hid (E0.out.go f1)
  have E2 := Lib.hid (E1.out.item i0.item)
  obtain ⟨T1, t1, T2, t2, T3, t3, rfl⟩ := i0.form
  clear i0
  have E3 := Lib.hid (E2.out.alloc (.cells #[.int .i64 9, .string ⟨#[98]⟩, .int .i64 2, .string ⟨#[97, 97]⟩] 60))
  have E4 := Lib.hid (E3.out.row (slC_lit w1))
  go_wp2_with fail
  refine (PU.out _ _ _ (E4.out.its _ (.head _)) (E4.out.rs _ (.head _))).mono ?_
  rintro e w2 ⟨v1, rfl, i1, f2⟩
  have E5 := Lib.hid (E4.out.go f2)
  have E6 := Lib.hid (E5.out.item i1.item)
  obtain ⟨P1, p1, P2, p2, P3, p3, rfl⟩ := i1.form
  clear i1
  have E7 := Lib.hid (E6.out.box (.int .i64 sb1.kind) (.string sb1.text) (.slice P1 sb1.list.length p1) (.slice P2 sb1.pairs.length p2) (.slice P3 sb1.scores.length p3))
  obtain ⟨d0, d1, d2, d3, d4⟩ := five (E7.out.bl _ (.head _))
  go_wp2_with fail
  refine (RK.out _ _ (E7.out.its _ (.head _))).mono ?_
  rintro e w3 ⟨rfl, f3⟩
  have E8 := Lib.hid (E7.out.go f3)
  clear d0 d1 d2 d3 d4
  obtain ⟨d0, d1, d2, d3, d4⟩ := five (E8.out.bl _ (.head _))
  go_wp2_with fail
  refine (NU.out _ _ (E8.out.its _ (.head _))).mono ?_
  rintro e w4 ⟨rfl, f4⟩
  have E9 := Lib.hid (E8.out.go f4)
  clear d0 d1 d2 d3 d4
  obtain ⟨d0, d1, d2, d3, d4⟩ := five (E9.out.bl _ (.head _))
  go_wp2_with fail
  refine (RA.out _ _ (E9.out.its _ (.head _))).mono ?_
  rintro e w5 ⟨ur, rfl, or_, f5⟩
  have E10 := Lib.hid (E9.out.go f5)
  have E11 := Lib.hid (E10.out.row (own_sl or_))
  obtain ⟨Ar, cr, rfl, -⟩ := own_slice or_
  clear or_
  clear d0 d1 d2 d3 d4
  obtain ⟨d0, d1, d2, d3, d4⟩ := five (E11.out.bl _ (.head _))
  go_wp2_with fail
  refine (WI.out _ _ (E11.out.its _ (.head _))).mono ?_
  rintro e w6 ⟨uw, rfl, ow, f6⟩
  have E12 := Lib.hid (E11.out.go f6)
  have E13 := Lib.hid (E12.out.row (own_sl ow))
  obtain ⟨Aw, cw, rfl, -⟩ := own_slice ow
  clear ow
  clear d0 d1 d2 d3 d4
  obtain ⟨d0, d1, d2, d3, d4⟩ := five (E13.out.bl _ (.head _))
  have E14 := Lib.hid (E13.out.alloc (.cells #[.string ⟨#[98]⟩] 9))
  have E15 := Lib.hid (E14.out.row (slT_lit1 w6 ⟨#[98]⟩))
  go_wp2_with fail
  refine (DR.out _ _ _ (E15.out.its _ (.head _)) (E15.out.rs _ (.head _))).mono ?_
  rintro e w7 ⟨v2, rfl, i2, f7⟩
  have E16 := Lib.hid (E15.out.go f7)
  clear d0 d1 d2 d3 d4
  have E17 := Lib.hid (E16.out.item i2.item)
  obtain ⟨Q1, q1, Q2, q2, Q3, q3, rfl⟩ := i2.form
  clear i2
  have E18 := Lib.hid (E17.out.box (.int .i64 sb2.kind) (.string sb2.text) (.slice Q1 sb2.list.length q1) (.slice Q2 sb2.pairs.length q2) (.slice Q3 sb2.scores.length q3))
  have E19 := Lib.hid (E18.out.alloc (.cells #[.string ⟨#[97]⟩, .string ⟨#[97, 97]⟩] 9))
  have E20 := Lib.hid (E19.out.row (slT_lit2b w7 _ ⟨#[97]⟩ ⟨#[97, 97]⟩))
  go_wp2_with fail
  refine (SA.out _ _ _ _ _ (E20.out.rs _ (.tail _ (.tail _ (.tail _ (.head _))))) (E20.out.rs _ (.head _))).mono ?_
  rintro e w8 ⟨rfl, f8⟩
  have E21 := Lib.hid (E20.out.go f8)
  have E22 := Lib.hid (E21.out.alloc (.cells #[.string ⟨#[97]⟩, .string ⟨#[97, 97]⟩, .string ⟨#[99]⟩] 9))
  have E23 := Lib.hid (E22.out.row (slT_lit3 w8 ⟨#[97]⟩ ⟨#[97, 97]⟩ ⟨#[99]⟩))
  go_wp2_with fail
  refine (SB.out _ _ _ _ _ (E23.out.rs _ (.tail _ (.tail _ (.tail _ (.head _))))) (E23.out.rs _ (.head _))).mono ?_
  rintro e w9 ⟨rfl, f9⟩
  have E24 := Lib.hid (E23.out.go f9)
  obtain ⟨d0, d1, d2, d3, d4⟩ := five (E24.out.bl _ (.head _))
  have hl2 : sb2.scores.length = 3 := rfl
  go_wp2
  go_ret
  exact ⟨rfl, E24.out.f⟩
end Go.Proofs.YtkgbgmfidkimfaaGreat
