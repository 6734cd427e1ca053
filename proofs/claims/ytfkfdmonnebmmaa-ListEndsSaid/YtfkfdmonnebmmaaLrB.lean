/- The walk of the law ListEnds. (Printed by lists4.py.) -/
import Derived.Test.YtfkfdmonnebmmaaLrA
import Derived.Test.YtfkfdmonnebmmaaLqB
import Derived.Deep.RegionHeld3
import Derived.Deep.Cut
set_option linter.unusedVariables false
set_option linter.unusedSimpArgs false
namespace Go.Proofs.Ytfkfdmonnebmmaa
open Go.RowKit

set_option maxHeartbeats 4000000 in
set_option maxRecDepth 100000 in
theorem listEnds_any (x : Itm) (v : Value) (left : Bool) (l : List ByteArray) (Al : Option Addr) (cl : Nat) (w : World) (B : Nat) (hs : x.Small) (hB : B ≤ w.heap.size) (h : ItemV w B v x) (hl : l.length ≤ 281474976710656) (hL : Sl w B 1 (.slice Al l.length cl) l.length (textsV l)) :
    Calls Try.prog 9 #[v, .bool left, .slice Al l.length cl] w fun e w' => e = .returned (.bool true) ∧ Fr [] w w' := by
  have PU := Lib.hid (fun (W : World) u A c (h : ItemV W W.heap.size u x) k => listPush_any x u left l A c W W.heap.size hs (Nat.le_refl _) h hl k)
  have HS := Lib.hid hs
  have E0 := Lib.hid (Env.start w)
  have E1 := Lib.hid (E0.out.item (h.more hB))
  have E2 := Lib.hid (E1.out.row (hL.more hB))
  obtain ⟨A1, c1, A2, c2, A3, c3, rfl⟩ := h.form
  clear h hL hs
  have E3 := Lib.hid (E2.out.box (.int .i64 x.kind) (.string x.text) (.slice A1 x.list.length c1) (.slice A2 x.pairs.length c2) (.slice A3 x.scores.length c3))
  by_cases hp : pushCode x l = 0
  · obtain ⟨ha, hb, h24⟩ := push_ok hp
    have hok := asOk_of ha
    have hpos := some_pos hb
    have htl := some_texts hb
    have QU := Lib.hid (fun (W : World) u k s (hk : l[k]? = some s) (h : ItemV W W.heap.size u (ofL (endA x left l (k + 1)))) => (show Calls Try.prog 26 #[u, .bool left] W (ISPost s 0 (ofL (endA x left l k)) W) from by
      have ht : ∀ s ∈ endA x left l (k + 1), s.size ≤ 60 := fun s hs => by
        rcases endA_mem hs with h | h
        · exact hok.texts s h
        · exact htl s h
      have h24' : (endA x left l (k + 1)).length ≤ 24 := by have := endA_len x left l (k + 1); omega
      have := listPop_any (ofL (endA x left l (k + 1))) u left W W.heap.size (ofL_small' (by omega) (fun s hs => by have := ht s hs; omega)) (Nat.le_refl _) h
      obtain ⟨e1, e2, e3⟩ := pop_end (endA_step hk) h24' ht
      rw [e1, e2, e3] at this
      exact this))
    have QB := Lib.hid (fun (W : World) u k s (hk : l[k]? = some s) (h : ItemV W W.heap.size u (ofL (endB left l k))) => (show Calls Try.prog 26 #[u, .bool (!left)] W (ISPost s 0 (ofL (endB left l (k + 1))) W) from by
      have ht : ∀ s ∈ endB left l k, s.size ≤ 60 := fun s hs => htl s (endB_mem hs)
      have h24' : (endB left l k).length ≤ 24 := by have := endB_len left l k; omega
      have := listPop_any (ofL (endB left l k)) u (!left) W W.heap.size (ofL_small' (by omega) (fun s hs => by have := ht s hs; omega)) (Nat.le_refl _) h
      obtain ⟨e1, e2, e3⟩ := pop_end (endB_step hk) h24' ht
      rw [e1, e2, e3] at this
      exact this))
    have y1e : pushY x left l = ofL (endA x left l l.length) := by unfold pushY endA; rw [if_pos hp, List.take_length]
    have y0e : ofL (endA x left l 0) = x := by
      have : endA x left l 0 = x.list := by unfold endA pushL; cases left <;> simp
      rw [this]; exact as_ofL hok
    have zc : pushCode (newI 0) l = 0 := by
      unfold pushCode
      rw [if_neg (by rw [show asCode 2 (newI 0) = 0 from by kernel_rfl]; decide), if_neg (by simpa using hb), if_neg (by show ¬ 24 < 0 + l.length; omega)]
    have zy : pushY (newI 0) left l = ofL (endB left l 0) := by
      unfold pushY endB pushL
      rw [if_pos zc]
      cases left <;> simp [newI]
    have zk : pushK (newI 0) left l = (l.length : Int) := by
      unfold pushK
      rw [if_pos zc, push_length]
      show ((0 + l.length : Nat) : Int) = _
      rw [Nat.zero_add]
    have PZ := Lib.hid (fun (W : World) A c k => (show Calls Try.prog 25 #[.agg #[.int .i64 0, .string ⟨#[]⟩, .slice none 0 0, .slice none 0 0, .slice none 0 0], .bool left, .slice A l.length c] W (INPost (l.length : Int) 0 (ofL (endB left l 0)) W) from by
      have := listPush_any (newI 0) (.agg #[.int .i64 0, .string ⟨#[]⟩, .slice none 0 0, .slice none 0 0, .slice none 0 0]) left l A c W W.heap.size (newI_small 0 (by decide)) (Nat.le_refl _) (newI_item _ _) hl k
      rw [zc, zy, zk] at this
      exact this))
    generalize hz0 : ofL (endB left l 0) = z0 at PZ
    have HZ0 := Lib.hid hz0
    clear hz0
    have zn : ofL (endB left l l.length) = newI 0 := by unfold endB; rw [List.drop_length]; cases left <;> rfl
    rw [hp, y1e] at PU
    generalize hyn : ofL (endA x left l l.length) = yn at PU
    have HYN := Lib.hid hyn
    clear hyn
    have Y0 := Lib.hid y0e
    have ZN := Lib.hid zn
    have SI := Lib.hid (fun (W : World) u u' (h : ItemV W W.heap.size u x) (k : ItemV W W.heap.size u' x) => (show Calls Try.prog 24 #[u, u'] W fun e w' => e = .returned (.bool true) ∧ Fr [] W w' from by
      have := sameItem_any x x u u' W W.heap.size HS.out HS.out (Nat.le_refl _) h k
      rw [sameI_refl] at this
      exact this))
    have NX := Lib.hid (fun (W : World) u (h : ItemV W W.heap.size u x) => isNothing_any x u W W.heap.size HS.out (Nat.le_refl _) h)
    have NZ := Lib.hid (fun (W : World) u (h : ItemV W W.heap.size u (newI 0)) => (show Calls Try.prog 39 #[u] W fun e w' => e = .returned (.bool true) ∧ Fr [] W w' from by
      have := isNothing_any (newI 0) u W W.heap.size (newI_small 0 (by decide)) (Nat.le_refl _) h
      rw [show nothingI (newI 0) = true from by kernel_rfl] at this
      exact this))
    have hl24 : l.length ≤ 24 := by omega
    clear ha hb h24 hok htl y1e y0e zc zy zk zn hp
    generalize nothingI x = nx at *
    generalize pushK x left l = k1 at *
    go_enter Try.func9, Try.ntmps9
    go_wp2_with fail
    refine (listBegun_any _).mono ?_
    rintro e w1 ⟨rfl, f1⟩
    have E4 := Lib.hid (E3.out.go f1)
    obtain ⟨d0, d1, d2, d3, d4⟩ := five (E4.out.bl _ (.head _))
    go_wp2_with fail
    refine (PU.out _ _ _ _ (E4.out.its _ (.head _)) (E4.out.rs _ (.head _))).mono ?_
    rintro e w2 ⟨v2, rfl, i2, f2⟩
    have E5 := Lib.hid (E4.out.go f2)
    have HI2 := Lib.hid i2
    obtain ⟨P1, p1, P2, p2, P3, p3, rfl⟩ := i2.form
    clear i2
    clear d0 d1 d2 d3 d4
    have hzz := f2.size
    have B0 := Lib.hid (show BlkI ((w2.alloc (.cells #[.int .i64 yn.kind, .string yn.text, .slice P1 yn.list.length p1, .slice P2 yn.pairs.length p2, .slice P3 yn.scores.length p3] 33)).alloc (.cells #[.int .i64 yn.kind, .string yn.text, .slice P1 yn.list.length p1, .slice P2 yn.pairs.length p2, .slice P3 yn.scores.length p3] 33)) (w2.heap.size + 1) w1.heap.size yn from ⟨P1, p1, P2, p2, P3, p3, by
      have := Whole.new (w2.alloc (.cells #[.int .i64 yn.kind, .string yn.text, .slice P1 yn.list.length p1, .slice P2 yn.pairs.length p2, .slice P3 yn.scores.length p3] 33)) 33 [.int .i64 yn.kind, .string yn.text, .slice P1 yn.list.length p1, .slice P2 yn.pairs.length p2, .slice P3 yn.scores.length p3]
      rw [show (w2.alloc (.cells #[.int .i64 yn.kind, .string yn.text, .slice P1 yn.list.length p1, .slice P2 yn.pairs.length p2, .slice P3 yn.scores.length p3] 33)).heap.size = w2.heap.size + 1 by simp] at this
      exact this, ((HI2.out.go ((Fr.refl [] w2).alloc (.cells #[.int .i64 yn.kind, .string yn.text, .slice P1 yn.list.length p1, .slice P2 yn.pairs.length p2, .slice P3 yn.scores.length p3] 33))).go ((Fr.refl [] _).alloc (.cells #[.int .i64 yn.kind, .string yn.text, .slice P1 yn.list.length p1, .slice P2 yn.pairs.length p2, .slice P3 yn.scores.length p3] 33)))⟩)
    have F0 := Lib.hid (show Fr [] w1 ((w2.alloc (.cells #[.int .i64 yn.kind, .string yn.text, .slice P1 yn.list.length p1, .slice P2 yn.pairs.length p2, .slice P3 yn.scores.length p3] 33)).alloc (.cells #[.int .i64 yn.kind, .string yn.text, .slice P1 yn.list.length p1, .slice P2 yn.pairs.length p2, .slice P3 yn.scores.length p3] 33)) from (f2.alloc _).alloc _)
    have d00 : (w2.alloc (.cells #[.int .i64 yn.kind, .string yn.text, .slice P1 yn.list.length p1, .slice P2 yn.pairs.length p2, .slice P3 yn.scores.length p3] 33)).cell? ⟨w2.heap.size, 0, none⟩ = some (.int .i64 yn.kind) := (Whole.new w2 33 [.int .i64 yn.kind, .string yn.text, .slice P1 yn.list.length p1, .slice P2 yn.pairs.length p2, .slice P3 yn.scores.length p3]).cell 0
    go_wp2
    go_loopg [11] (2 * l.length) (fun g i wr => ∃ (k : Nat), g = 2 * k ∧ k ≤ l.length ∧ i = .int .i64 ((k : Int) - 1) ∧ BlkI wr (w2.heap.size + 1) w1.heap.size (ofL (endA x left l k)) ∧ Fr [] w1 wr)
    case atStart => exact ⟨l.length, rfl, Nat.le_refl _, rfl, by rw [HYN.out]; exact B0.out, F0.out⟩
    case round =>
    obtain ⟨k, rfl, hk, rfl, hb, hf⟩ := hrel
    have HB := Lib.hid hb
    have HF := Lib.hid hf
    have hzr := hf.size
    clear hb hf d00
    by_cases hk0 : 0 < k
    · obtain ⟨m, rfl⟩ : ∃ m, k = m + 1 := ⟨k - 1, by omega⟩
      rw [show ((m + 1 : Nat) : Int) - 1 = (m : Int) by omega]
      have hsl := (E4.out.go HF.out).rs _ (.head _)
      obtain ⟨bl, off, rfl, hbl, hc, hmx, hcell⟩ := hsl.at_ (by omega)
      obtain ⟨s, hs⟩ : ∃ s, l[m]? = some s := ⟨_, List.getElem?_eq_getElem (by omega)⟩
      have HCS := Lib.hid (hcell m _ (textsV_get l m s hs))
      have Q := Lib.hid (fun W u h => QU.out W u m s hs h)
      obtain ⟨qs1, qs2⟩ := eqqB s
      clear hsl hcell
      obtain ⟨P1, p1, P2, p2, P3, p3, hw0, hi0⟩ := HB.out
      have I0 := Lib.hid hi0
      have W0 := Lib.hid hw0
      clear hw0 hi0 HB
      generalize ofL (endA x left l (m + 1)) = ya at *
      generalize hyb : ofL (endA x left l m) = yb at Q
      have HYB := Lib.hid hyb
      clear hyb
      obtain ⟨d0, d1, d2, d3, d4⟩ := five W0.out
      have hge : (m : Int) ≥ 0 := by omega
      go_wp2_with fail
      refine (Q.out _ _ I0.out.item).mono ?_
      rintro e w3 ⟨v3, rfl, i3, f3⟩
      have I3 := Lib.hid (i3.less (base' := w1.heap.size) hzr)
      obtain ⟨S1, s1, S2, s2, S3, s3, rfl⟩ := i3.form
      have W3 := Lib.hid (W0.out.fr f3 (by simp))
      have F3 := Lib.hid (HF.out.trans f3)
      have hc1 : w3.cell? ⟨bl, off + m, none⟩ = some (.string s) := f3.cell HCS.out (by simp)
      clear d0 d1 d2 d3 d4 i3
      have bx := Lib.hid ((Fr.refl [] w3).alloc (.cells #[.int .i64 yb.kind, .string yb.text, .slice S1 yb.list.length s1, .slice S2 yb.pairs.length s2, .slice S3 yb.scores.length s3] 33))
      have W4 := Lib.hid (W3.out.alloc (.cells #[.int .i64 yb.kind, .string yb.text, .slice S1 yb.list.length s1, .slice S2 yb.pairs.length s2, .slice S3 yb.scores.length s3] 33))
      have hc2 := bx.out.cell hc1 (by simp)
      obtain ⟨a0, a1, a2, a3, a4⟩ := five W4.out
      obtain ⟨b0, b2, b3, b4, b5⟩ := fiveF W4.out
      have hlt3 : ¬ w3.heap.size = w2.heap.size + 1 := by have := W3.out.lt; omega
      go_wp2
      go_roundg (2 * m)
      case measure => omega
      case rel => exact ⟨m, rfl, by omega, rfl, by rw [HYB.out]; exact BlkI.store W4.out (I3.out.go bx.out), fr_set5 (F3.out.trans bx.out) (by omega) _ _ _ _ _⟩
    obtain rfl : k = 0 := by omega
    rw [Y0.out] at HB
    clear hk0 hk
    obtain ⟨P1, p1, P2, p2, P3, p3, hw0, hi0⟩ := HB.out
    have W0 := Lib.hid hw0
    have E5 := Lib.hid (E4.out.go HF.out)
    have E6 := Lib.hid (E5.out.put W0.out)
    have E7 := Lib.hid (E6.out.item hi0.item)
    clear hi0 hw0 HB W0
    obtain ⟨d0, d1, d2, d3, d4⟩ := five (E7.out.bl _ (.head _))
    obtain ⟨g0, g1, g2, g3, g4⟩ := five (E7.out.bl _ (.tail _ (.head _)))
    have SIc := Lib.hid (fun W (hW : Fr [] wr W) => (show Calls Try.prog 24 #[.agg #[.int .i64 x.kind, .string x.text, .slice P1 x.list.length p1, .slice P2 x.pairs.length p2, .slice P3 x.scores.length p3], .agg #[.int .i64 x.kind, .string x.text, .slice A1 x.list.length c1, .slice A2 x.pairs.length c2, .slice A3 x.scores.length c3]] W fun e w' => e = .returned (.bool true) ∧ Fr [] W w' from SI.out W _ _ ((E7.out.go hW).its _ (.head _)) ((E7.out.go hW).its _ (.tail _ (.head _)))))
    have NBc := Lib.hid (fun W (hW : Fr [] wr W) => (show Calls Try.prog 39 #[.agg #[.int .i64 x.kind, .string x.text, .slice P1 x.list.length p1, .slice P2 x.pairs.length p2, .slice P3 x.scores.length p3]] W fun e w' => e = .returned (.bool nx) ∧ Fr [] W w' from NX.out W _ ((E7.out.go hW).its _ (.head _))))
    have NXc := Lib.hid (fun W (hW : Fr [] wr W) => (show Calls Try.prog 39 #[.agg #[.int .i64 x.kind, .string x.text, .slice A1 x.list.length c1, .slice A2 x.pairs.length c2, .slice A3 x.scores.length c3]] W fun e w' => e = .returned (.bool nx) ∧ Fr [] W w' from NX.out W _ ((E7.out.go hW).its _ (.tail _ (.head _)))))
    go_upto_region 14 with fail
    go_cut [77] (fun cx wx => cx = .bool false ∧ Fr [] wr wx)
    case first =>
      go_region_with (first | (go_at_call 24; (refine (SIc.out _ (Fr.refl [] wr).drew).mono ?_); rintro e wa ⟨rfl, fa⟩; have GG := Lib.hid (fr_predrew fa); clear fa d0 d1 d2 d3 d4 g0 g1 g2 g3 g4; obtain ⟨d0, d1, d2, d3, d4⟩ := five ((E7.out.go GG.out).bl _ (.head _)); obtain ⟨g0, g1, g2, g3, g4⟩ := five ((E7.out.go GG.out).bl _ (.tail _ (.head _)))) | (go_at_call 39; (first | (with_reducible refine (NBc.out _ GG.out).mono ?_) | (with_reducible refine (NXc.out _ GG.out).mono ?_)); rintro e wb ⟨rfl, fb⟩; have G2 := Lib.hid (GG.out.trans fb); clear GG; have GG := G2; clear G2 fb d0 d1 d2 d3 d4 g0 g1 g2 g3 g4; obtain ⟨d0, d1, d2, d3, d4⟩ := five ((E7.out.go GG.out).bl _ (.head _)); obtain ⟨g0, g1, g2, g3, g4⟩ := five ((E7.out.go GG.out).bl _ (.tail _ (.head _)))))
      all_goals
        go_wp2
        go_meet
        case rel => exact ⟨rfl, GG.out⟩
    obtain ⟨rfl, hcf⟩ := hcut
    have E8 := Lib.hid (E7.out.go hcf)
    clear hcf SIc NBc NXc d0 d1 d2 d3 d4 g0 g1 g2 g3 g4
    have hsz0 := E8.out.f.size
    go_wp2_with fail
    refine (PZ.out _ _ _ (E8.out.rs _ (.head _))).mono ?_
    rintro e w6 ⟨v6, rfl, i6, f6⟩
    have hsz6 := f6.size
    have I6 := Lib.hid (i6.less (base' := w.heap.size) hsz0)
    obtain ⟨Q1, q1, Q2, q2, Q3, q3, rfl⟩ := i6.form
    clear i6
    have E9 := Lib.hid (E8.out.go f6)
    have bx6 := Lib.hid ((Fr.refl [] w6).alloc (.cells #[.int .i64 z0.kind, .string z0.text, .slice Q1 z0.list.length q1, .slice Q2 z0.pairs.length q2, .slice Q3 z0.scores.length q3] 33))
    have B6 := Lib.hid (show BlkI (w6.alloc (.cells #[.int .i64 z0.kind, .string z0.text, .slice Q1 z0.list.length q1, .slice Q2 z0.pairs.length q2, .slice Q3 z0.scores.length q3] 33)) w6.heap.size w.heap.size z0 from ⟨Q1, q1, Q2, q2, Q3, q3, Whole.new w6 33 [.int .i64 z0.kind, .string z0.text, .slice Q1 z0.list.length q1, .slice Q2 z0.pairs.length q2, .slice Q3 z0.scores.length q3], I6.out.go bx6.out⟩)
    go_wp2
    go_loopg [18] l.length (fun g i wr => ∃ (k : Nat), g = l.length - k ∧ k ≤ l.length ∧ i = .int .i64 k ∧ BlkI wr w6.heap.size w.heap.size (ofL (endB left l k)) ∧ Fr [] w6 wr)
    case atStart => exact ⟨0, rfl, Nat.zero_le _, rfl, by rw [HZ0.out]; exact B6.out, bx6.out⟩
    case round =>
    obtain ⟨k, rfl, hk, rfl, hb, hf⟩ := hrel
    have HB := Lib.hid hb
    have HF := Lib.hid hf
    have hzr := hf.size
    have hz6 := E9.out.f.size
    clear hb hf
    by_cases hlt : k < l.length
    · have hsl := (E9.out.go HF.out).rs _ (.head _)
      obtain ⟨bl, off, rfl, hbl, hc, hmx, hcell⟩ := hsl.at_ (by omega)
      obtain ⟨s, hs⟩ : ∃ s, l[k]? = some s := ⟨_, List.getElem?_eq_getElem hlt⟩
      have HCS := Lib.hid (hcell k _ (textsV_get l k s hs))
      have Q := Lib.hid (fun W u h => QB.out W u k s hs h)
      obtain ⟨qs1, qs2⟩ := eqqB s
      clear hsl hcell
      obtain ⟨P1, p1, P2, p2, P3, p3, hw0, hi0⟩ := HB.out
      have I0 := Lib.hid hi0
      have W0 := Lib.hid hw0
      clear hw0 hi0 HB
      generalize ofL (endB left l k) = ya at *
      generalize hyb : ofL (endB left l (k + 1)) = yb at Q
      have HYB := Lib.hid hyb
      clear hyb
      obtain ⟨d0, d1, d2, d3, d4⟩ := five W0.out
      go_wp2_with fail
      refine (Q.out _ _ I0.out.item).mono ?_
      rintro e w7 ⟨v7, rfl, i7, f7⟩
      have I7 := Lib.hid (i7.less (base' := w.heap.size) (by omega))
      obtain ⟨S1, s1, S2, s2, S3, s3, rfl⟩ := i7.form
      have W7 := Lib.hid (W0.out.fr f7 (by simp))
      have F7 := Lib.hid (HF.out.trans f7)
      have hc1 : w7.cell? ⟨bl, off + k, none⟩ = some (.string s) := f7.cell HCS.out (by simp)
      clear d0 d1 d2 d3 d4 i7
      have bx := Lib.hid ((Fr.refl [] w7).alloc (.cells #[.int .i64 yb.kind, .string yb.text, .slice S1 yb.list.length s1, .slice S2 yb.pairs.length s2, .slice S3 yb.scores.length s3] 33))
      have W8 := Lib.hid (W7.out.alloc (.cells #[.int .i64 yb.kind, .string yb.text, .slice S1 yb.list.length s1, .slice S2 yb.pairs.length s2, .slice S3 yb.scores.length s3] 33))
      have hc2 := bx.out.cell hc1 (by simp)
      obtain ⟨a0, a1, a2, a3, a4⟩ := five W8.out
      obtain ⟨b0, b2, b3, b4, b5⟩ := fiveF W8.out
      have hlt3 : ¬ w7.heap.size = w6.heap.size := by have := W7.out.lt; omega
      go_wp2
      go_roundg (l.length - (k + 1))
      case measure => omega
      case rel => exact ⟨k + 1, rfl, by omega, by go_num, by rw [HYB.out]; exact BlkI.store W8.out (I7.out.go bx.out), fr_set5 (F7.out.trans bx.out) (by omega) _ _ _ _ _⟩
    obtain rfl : k = l.length := by omega
    rw [ZN.out] at HB
    obtain ⟨P1, p1, P2, p2, P3, p3, hw0, hi0⟩ := HB.out
    have I0 := Lib.hid hi0
    have W0 := Lib.hid hw0
    clear hw0 hi0 HB
    obtain ⟨d0, d1, d2, d3, d4⟩ := five W0.out
    go_wp2_with fail
    refine (NZ.out _ _ I0.out.item).mono ?_
    rintro e w9 ⟨rfl, f9⟩
    go_wp2
    go_ret
    exact ⟨rfl, (E9.out.f.trans HF.out).trans f9⟩
  · have hk : pushK x left l = 0 := if_neg hp
    rw [hk] at PU
    have q : (pushCode x l != 0) = true := by simpa using hp
    clear hp hk
    generalize pushY x left l = y1 at *
    generalize pushCode x l = e1 at *
    go_enter Try.func9, Try.ntmps9
    go_wp2_with fail
    refine (listBegun_any _).mono ?_
    rintro e w1 ⟨rfl, f1⟩
    have E4 := Lib.hid (E3.out.go f1)
    obtain ⟨d0, d1, d2, d3, d4⟩ := five (E4.out.bl _ (.head _))
    go_wp2_with fail
    refine (PU.out _ _ _ _ (E4.out.its _ (.head _)) (E4.out.rs _ (.head _))).mono ?_
    rintro e w2 ⟨v2, rfl, i2, f2⟩
    have E5 := Lib.hid (E4.out.go f2)
    obtain ⟨P1, p1, P2, p2, P3, p3, rfl⟩ := i2.form
    clear i2
    clear d0 d1 d2 d3 d4
    go_wp2
    go_ret
    exact ⟨rfl, E5.out.f.alloc _⟩
end Go.Proofs.Ytfkfdmonnebmmaa
