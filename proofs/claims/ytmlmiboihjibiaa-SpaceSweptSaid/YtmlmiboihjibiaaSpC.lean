/- The walk of item.Own. -/
import Derived.Test.YtmlmiboihjibiaaEnt
import Derived.Test.YtmlmiboihjibiaaBo
import Derived.Test.YtmlmiboihjibiaaSlS
import Derived.Test.YtmlmiboihjibiaaCloneP
import Derived.Test.YtmlmiboihjibiaaCloneC
import Derived.Deep.RegionHeld3
import Derived.Deep.RegionLaw
set_option linter.unusedVariables false
set_option linter.unusedSimpArgs false
namespace Go.Proofs.Ytmlmiboihjibiaa
open Go.RowKit

/-- behind the three copies: the box bears them. -/
def OwnMid (x : Itm) (w wx : World) : Prop := ∃ S1 s1 S2 s2 S3 s3,
  wx.ownsRow (w.heap.size + 2) 9 1 (.slice S1 x.list.length s1) x.list.length (textsV x.list) ∧ wx.ownsRow (w.heap.size + 2) 106 2 (.slice S2 x.pairs.length s2) x.pairs.length (pairsV x.pairs) ∧ wx.ownsRow (w.heap.size + 2) 36 2 (.slice S3 x.scores.length s3) x.scores.length (scoresV x.scores) ∧
  BO w 1 [.int .i64 x.kind, .string x.text, .slice S1 x.list.length s1, .slice S2 x.pairs.length s2, .slice S3 x.scores.length s3] wx
theorem ownMid_of {x : Itm} {w w3 : World} {A1 A2 A3 S1 S2 S3 : Option Addr} {c1 c2 c3 s1 s2 s3 b1 b2 b3 : Nat} (h : BO w 1 [.int .i64 x.kind, .string x.text, .slice A1 x.list.length c1, .slice A2 x.pairs.length c2, .slice A3 x.scores.length c3] w3)
    (o1 : w3.ownsRow b1 9 1 (.slice S1 x.list.length s1) x.list.length (textsV x.list)) (o2 : w3.ownsRow b2 106 2 (.slice S2 x.pairs.length s2) x.pairs.length (pairsV x.pairs)) (o3 : w3.ownsRow b3 36 2 (.slice S3 x.scores.length s3) x.scores.length (scoresV x.scores))
    (h1 : w.heap.size + 2 ≤ b1) (h2 : w.heap.size + 2 ≤ b2) (h3 : w.heap.size + 2 ≤ b3) :
    OwnMid x w (((w3.setCell ⟨w.heap.size, 2, none⟩ (.slice S1 x.list.length s1)).setCell ⟨w.heap.size, 3, none⟩ (.slice S2 x.pairs.length s2)).setCell ⟨w.heap.size, 4, none⟩ (.slice S3 x.scores.length s3)) := by
  have kp : ∀ {e size n : Nat} {v : Value} {xs : List Value} {b : Nat} {u1 u2 u3 : Value}, w.heap.size + 2 ≤ b → w3.ownsRow b e size v n xs → (((w3.setCell ⟨w.heap.size, 2, none⟩ u1).setCell ⟨w.heap.size, 3, none⟩ u2).setCell ⟨w.heap.size, 4, none⟩ u3).ownsRow (w.heap.size + 2) e size v n xs := fun hb ho =>
    own_base (own_later (own_later (own_later ho (by show w.heap.size < _; omega) _) (by show w.heap.size < _; omega) _) (by show w.heap.size < _; omega) _) hb
  refine ⟨S1, s1, S2, s2, S3, s3, kp h1 o1, kp h2 o2, kp h3 o3, ?_, ?_, ?_⟩
  · have := ((h.b.set_ 2 (.slice S1 x.list.length s1)).set_ 3 (.slice S2 x.pairs.length s2)).set_ 4 (.slice S3 x.scores.length s3)
    exact this
  · exact ((h.o.far (by show w.heap.size + 1 ≠ w.heap.size; omega) _).far (by show w.heap.size + 1 ≠ w.heap.size; omega) _).far (by show w.heap.size + 1 ≠ w.heap.size; omega) _
  · exact ((h.f.setCell (p := ⟨w.heap.size, 2, none⟩) (.inr (Nat.le_refl _)) _).setCell (p := ⟨w.heap.size, 3, none⟩) (.inr (Nat.le_refl _)) _).setCell (p := ⟨w.heap.size, 4, none⟩) (.inr (Nat.le_refl _)) _

set_option maxHeartbeats 4000000 in
set_option maxRecDepth 100000 in
theorem itemOwn_any (x : Itm) (v : Value) (w : World) (B : Nat) (hs : x.Small) (l1 : x.list.length ≤ 1000000) (l2 : x.pairs.length ≤ 1000000) (l3 : x.scores.length ≤ 1000000) (hB : B ≤ w.heap.size) (h : ItemV w B v x) :
    Calls Try.prog 82 #[v] w (OwnI w.heap.size x w) := by
  obtain ⟨A1, c1, A2, c2, A3, c3, rfl, h1, h2, h3⟩ := h
  have CS := Lib.hid (fun W (hW : Fr [] w W) => cloneS_row x.list.length (textsV x.list) A1 c1 W B l1 (Nat.le_trans hB hW.size) (h1.fr hW hB (by simp)) (texts_one _))
  have CP := Lib.hid (fun W (hW : Fr [] w W) => cloneP_row x.pairs.length (pairsV x.pairs) A2 c2 W B l2 (Nat.le_trans hB hW.size) (h2.fr hW hB (by simp)) (pairs_one _))
  have CC := Lib.hid (fun W (hW : Fr [] w W) => cloneC_row x.scores.length (scoresV x.scores) A3 c3 W B l3 (Nat.le_trans hB hW.size) (h3.fr hW hB (by simp)) (scores_one _))
  have D0 := Lib.hid (BO.new w (.int .i64 x.kind) (.string x.text) (.slice A1 x.list.length c1) (.slice A2 x.pairs.length c2) (.slice A3 x.scores.length c3))
  obtain ⟨d0, d1, d2, d3, d4⟩ := five D0.out.b
  clear h1 h2 h3 hs
  go_enter Try.func82, Try.ntmps82
  go_wp2_with fail
  go_cut [] (fun wx => OwnMid x w wx)
  case first =>
    go_region_law (first
      | (go_simp; go_at_call 104; refine (CS.out _ (D0.out.f.drew)).mono ?_; rintro e w1 ⟨u1, rfl, o1, f1⟩; have D1 := Lib.hid (D0.out.go (fr_predrew f1)); have O1 := Lib.hid o1; obtain ⟨S1, s1, rfl, -⟩ := own_slice o1; clear o1 f1 d0 d1 d2 d3 d4; obtain ⟨d0, d1, d2, d3, d4⟩ := five D1.out.b)
      | (go_simp; go_at_call 124; refine (CP.out _ D1.out.f).mono ?_; rintro e w2 ⟨u2, rfl, o2, f2⟩; have D2 := Lib.hid (D1.out.go f2); have O12 := Lib.hid (own_fr O1.out f2 (by simp)); have O2 := Lib.hid o2; obtain ⟨S2, s2, rfl, -⟩ := own_slice o2; clear o2 f2 d0 d1 d2 d3 d4; obtain ⟨d0, d1, d2, d3, d4⟩ := five D2.out.b)
      | (go_simp; go_at_call 59; refine (CC.out _ D2.out.f).mono ?_; rintro e w3 ⟨u3, rfl, o3, f3⟩; have D3 := Lib.hid (D2.out.go f3); have O13 := Lib.hid (own_fr O12.out f3 (by simp)); have O23 := Lib.hid (own_fr O2.out f3 (by simp)); have O3 := Lib.hid o3; obtain ⟨S3, s3, rfl, -⟩ := own_slice o3; clear o3 f3 d0 d1 d2 d3 d4; obtain ⟨d0, d1, d2, d3, d4⟩ := five D3.out.b; obtain ⟨e0, e1, e2, e3, e4⟩ := fiveF D3.out.b))
    all_goals
      go_wp2
      go_meet
      case rel => exact ownMid_of D3.out O13.out O23.out O3.out (by simp [World.drew]) (by have := D1.out.lt; omega) (by have := D2.out.lt; omega)
  case rest =>
    obtain ⟨S1, s1, S2, s2, S3, s3, o1, o2, o3, hD⟩ := hcut
    have O1 := Lib.hid o1
    have O2 := Lib.hid o2
    have O3 := Lib.hid o3
    have DD := Lib.hid hD
    clear o1 o2 o3 hD d0 d1 d2 d3 d4
    have hne1 : ¬ w.heap.size = w.heap.size + 1 := by omega
    have hne2 : ¬ w.heap.size + 1 = w.heap.size := by omega
    obtain ⟨d0, d1, d2, d3, d4⟩ := five DD.out.b
    obtain ⟨a0, a1, a2, a3, a4⟩ := five DD.out.o
    obtain ⟨b0, b1, b2, b3, b4⟩ := fiveF DD.out.o
    go_wp2
    refine bodyPost_ret (v := .agg #[.int .i64 x.kind, .string x.text, .slice S1 x.list.length s1, .slice S2 x.pairs.length s2, .slice S3 x.scores.length s3]) (by simp [results, Try.results82, go_sem, a0, a1, a2, a3, a4]) rfl ?_
    exact ⟨_, rfl, ⟨_, _, _, rfl, own_base (own_later5 O1.out (by omega) _ _ _ _ _) (by omega), own_base (own_later5 O2.out (by omega) _ _ _ _ _) (by omega), own_base (own_later5 O3.out (by omega) _ _ _ _ _) (by omega)⟩, DD.out.end5 _ _ _ _ _⟩
end Go.Proofs.Ytmlmiboihjibiaa
