/- The walk of the law SetCounts. (Printed by sets4.py.) -/
import Derived.Test.YtmlmiboihjibiaaSeK
import Derived.Test.YtmlmiboihjibiaaSeM0
import Derived.Test.YtmlmiboihjibiaaSeS
import Derived.WalkLawsBesides
set_option linter.unusedVariables false
set_option linter.unusedSimpArgs false
namespace Go.Proofs.Ytmlmiboihjibiaa
open Go.RowKit

set_option maxHeartbeats 8000000 in
set_option maxRecDepth 100000 in
theorem setCounts_any (x : Itm) (v : Value) (l : List ByteArray) (Al : Option Addr) (cl : Nat) (w : World) (B : Nat) (hs : x.Small) (hB : B ≤ w.heap.size) (h : ItemV w B v x) (hl : l.length ≤ 8796093021952) (hL : Sl w B 1 (.slice Al l.length cl) l.length (textsV l)) :
    Calls Try.prog 10 #[v, .slice Al l.length cl] w fun e w' => e = .returned (.bool true) ∧ Fr [] w w' := by
  have AD := Lib.hid (fun (W : World) u A c (h : ItemV W W.heap.size u x) k => setAdd_any x u l A c W W.heap.size hs (Nat.le_refl _) h hl k)
  have RM := Lib.hid (fun (W : World) u A c (h : ItemV W W.heap.size u x) k => setRemove_any x u l A c W W.heap.size hs (Nat.le_refl _) h (by omega) k)
  have S1 := Lib.hid (add3Y_small x l)
  have S2 := Lib.hid (remOfY_small x l)
  have TW := Lib.hid (fun (he : add3 x l = 0) (W : World) u A c (h : ItemV W W.heap.size u (add3Y x l)) k => (show Calls Try.prog 45 #[u, .slice A l.length c] W (INPost 0 0 (add3Y x l) W) from by
    have := setAdd_any (add3Y x l) u l A c W W.heap.size S1.out (Nat.le_refl _) h hl k
    obtain ⟨t1, t2, t3⟩ := add3_twice he
    rw [t1, t2, t3] at this
    exact this))
  have HA := Lib.hid (fun (he : add3 x l = 0) (W : World) u (h : ItemV W W.heap.size u (add3Y x l)) (s : ByteArray) (hs : s ∈ l) => (show Calls Try.prog 47 #[u, .string s] W (fun e w' => e = .returned (.tuple #[.bool true, .int .i64 0]) ∧ Fr [] W w') from by
    have := setHasOp_any (add3Y x l) u s W W.heap.size S1.out (Nat.le_refl _) h
    rw [add3_has he hs, (add3_as he).1] at this
    exact this))
  have HC := Lib.hid (fun (ha : asCode 3 x = 0) (W : World) u (h : ItemV W W.heap.size u (remOfY 3 x l)) (s : ByteArray) (hs : s ∈ l) => (show Calls Try.prog 47 #[u, .string s] W (fun e w' => e = .returned (.tuple #[.bool false, .int .i64 0]) ∧ Fr [] W w') from by
    have := setHasOp_any (remOfY 3 x l) u s W W.heap.size S2.out (Nat.le_refl _) h
    obtain ⟨r1, _, r3, _⟩ := rem3_as (l := l) ha
    rw [r3 s hs, Bool.and_false, r1] at this
    exact this))
  have NA := Lib.hid (fun (he : add3 x l = 0) => add3_num he)
  have NR := Lib.hid (fun (ha : asCode 3 x = 0) => (rem3_as (l := l) ha).2.2.2)
  have NK := Lib.hid (fun (ha : asCode 3 x ≠ 0) => (show remOfK 3 x l = 0 from if_neg ha))
  have SI := Lib.hid (fun (W : World) (y : Itm) (sy : y.Small) a b (h : ItemV W W.heap.size a y) (k : ItemV W W.heap.size b y) => (show Calls Try.prog 42 #[a, b] W (fun e w' => e = .returned (.bool true) ∧ Fr [] W w') from by
    have := sameItem_any y y a b W W.heap.size sy sy (Nat.le_refl _) h k
    rw [sameI_refl] at this
    exact this))
  have hsl := hs.list
  have E0 := Lib.hid (Env.start w)
  have E1 := Lib.hid (E0.out.item (h.more hB))
  have E2 := Lib.hid (E1.out.row (hL.more hB))
  obtain ⟨A1, c1, A2, c2, A3, c3, rfl⟩ := h.form
  have HL := Lib.hid hL
  clear h hL hs
  have E3 := Lib.hid (E2.out.box (.int .i64 x.kind) (.string x.text) (.slice A1 x.list.length c1) (.slice A2 x.pairs.length c2) (.slice A3 x.scores.length c3))
  by_cases he : add3 x l = 0
  · obtain ⟨na, nb1, nb2, ha⟩ := NA.out he
    obtain ⟨nr, nr1, nr2⟩ := NR.out ha
    have HA2 := Lib.hid (HA.out he)
    have HC2 := Lib.hid (HC.out ha)
    have TW2 := Lib.hid (TW.out he)
    rw [he] at AD
    rw [ha] at RM
    have h24 := (setOk ha).2
    clear HA HC TW NA NR NK he ha
    generalize add3Y x l = y1 at *
    generalize add3N x l = n1 at *
    generalize remOfY 3 x l = y2 at *
    generalize remOfK 3 x l = n2 at *
    have q8 : ((y1.list.length : Int) != (x.list.length : Int) + n1) = false := by rw [bne_eq_false_iff_eq]; exact na
    have q9 : ((y2.list.length : Int) == (x.list.length : Int) - n2) = true := by rw [beq_iff_eq]; exact nr
    have NAH := Lib.hid na
    have NRH := Lib.hid nr
    clear na nr
    go_enter Try.func10, Try.ntmps10
    go_wp2_with fail
    refine (setBegun_any _).mono ?_
    rintro e w1 ⟨rfl, f1⟩
    have E4 := Lib.hid (E3.out.go f1)
    obtain ⟨d0, d1, d2, d3, d4⟩ := five (E4.out.bl _ (.head _))
    go_wp2_with fail
    refine (AD.out _ _ _ _ (E4.out.its _ (.head _)) (E4.out.rs _ (.head _))).mono ?_
    rintro e w2 ⟨v1, rfl, i1, f2⟩
    have E5 := Lib.hid (E4.out.go f2)
    clear d0 d1 d2 d3 d4
    have E6 := Lib.hid (E5.out.item i1.item)
    obtain ⟨P1, p1, P2, p2, P3, p3, rfl⟩ := i1.form
    clear i1
    have E7 := Lib.hid (E6.out.box (.int .i64 y1.kind) (.string y1.text) (.slice P1 y1.list.length p1) (.slice P2 y1.pairs.length p2) (.slice P3 y1.scores.length p3))
    go_wp2
    go_loopg [8] l.length (fun g i wr => ∃ (k : Nat), g = l.length - k ∧ k ≤ l.length ∧ i = .int .i64 k ∧ Fr [] (w2.alloc (.cells #[.int .i64 y1.kind, .string y1.text, .slice P1 y1.list.length p1, .slice P2 y1.pairs.length p2, .slice P3 y1.scores.length p3] 26)) wr)
    case atStart => exact ⟨0, rfl, Nat.zero_le _, rfl, Fr.refl _ _⟩
    case round =>
      obtain ⟨k, rfl, hk, rfl, hf⟩ := hrel
      have E8 := Lib.hid (E7.out.go hf)
      have HFp := Lib.hid hf
      clear hf
      obtain ⟨d0, d1, d2, d3, d4⟩ := five (E8.out.bl _ (.head _))
      by_cases hlt : k < l.length
      · obtain ⟨b, off, rfl, hb1, hc1, hm1, hcell⟩ := HL.out.at_ (by omega)
        obtain ⟨s, hs⟩ : ∃ s, l[k]? = some s := ⟨_, List.getElem?_eq_getElem hlt⟩
        have m1 := E8.out.f.cell (show w.cell? ⟨b, off + k, none⟩ = some (.string s) from hcell k _ (textsV_get _ k s hs)) (by simp)
        have HK := Lib.hid (fun W u h => HA2.out W u h s (List.mem_of_getElem? hs))
        have ix0 : (0 : Int) ≤ (k : Int) := by omega
        have ix1 : (k : Int) < (l.length : Int) := by omega
        unfold maxLen at hm1
        clear hcell hs
        go_wp2
        go_region_held3 (fun wx => wx.cell? ⟨w2.heap.size, 0, none⟩ = some (.int .i64 y1.kind) ∧ wx.cell? ⟨w2.heap.size, 1, none⟩ = some (.string y1.text) ∧ wx.cell? ⟨w2.heap.size, 2, none⟩ = some (.slice P1 y1.list.length p1) ∧ wx.cell? ⟨w2.heap.size, 3, none⟩ = some (.slice P2 y1.pairs.length p2) ∧ wx.cell? ⟨w2.heap.size, 4, none⟩ = some (.slice P3 y1.scores.length p3) ∧ wx.cell? ⟨b, off + k, none⟩ = some (.string s)) (go_keep) (first | (go_at_call 47; (refine (HK.out _ _ (E8.out.drew.its _ (.head _))).mono ?_); rintro e w50 ⟨rfl, fz⟩; have G50 := Lib.hid (fr_predrew fz); clear fz; have d0 := G50.out.cell d0 (by simp); have d1 := G50.out.cell d1 (by simp); have d2 := G50.out.cell d2 (by simp); have d3 := G50.out.cell d3 (by simp); have d4 := G50.out.cell d4 (by simp); have m1 := G50.out.cell m1 (by simp)))
        go_wp2
        go_roundg (l.length - (k + 1))
        case measure => omega
        case rel => exact ⟨k + 1, rfl, by omega, by go_num, HFp.out.trans G50.out⟩
      · obtain rfl : k = l.length := by omega
        go_wp2_with fail
        refine (TW2.out _ _ _ _ (E8.out.its _ (.head _)) (E8.out.rs _ (.head _))).mono ?_
        rintro e w3 ⟨v3, rfl, i3, f3⟩
        have E9 := Lib.hid (E8.out.go f3)
        clear d0 d1 d2 d3 d4
        have E10 := Lib.hid (E9.out.item i3.item)
        obtain ⟨T1, t1, T2, t2, T3, t3, rfl⟩ := i3.form
        clear i3
        have E11 := Lib.hid (E10.out.box (.int .i64 y1.kind) (.string y1.text) (.slice T1 y1.list.length t1) (.slice T2 y1.pairs.length t2) (.slice T3 y1.scores.length t3))
        obtain ⟨d0, d1, d2, d3, d4⟩ := five (E11.out.bl _ (.tail _ (.head _)))
        obtain ⟨g0, g1, g2, g3, g4⟩ := five (E11.out.bl _ (.head _))
        obtain ⟨h0, h1, h2, h3, h4⟩ := five (E11.out.bl _ (.tail _ (.tail _ (.head _))))
        go_wp2_with fail
        refine (SI.out _ y1 S1.out _ _ (E11.out.its _ (.tail _ (.head _))) (E11.out.its _ (.head _))).mono ?_
        rintro e w4 ⟨rfl, f4⟩
        have E12 := Lib.hid (E11.out.go f4)
        clear d0 d1 d2 d3 d4 g0 g1 g2 g3 g4 h0 h1 h2 h3 h4
        obtain ⟨d0, d1, d2, d3, d4⟩ := five (E12.out.bl _ (.tail _ (.head _)))
        obtain ⟨g0, g1, g2, g3, g4⟩ := five (E12.out.bl _ (.tail _ (.tail _ (.head _))))
        go_wp2_with fail
        refine (RM.out _ _ _ _ (E12.out.its _ (.tail _ (.tail _ (.head _)))) (E12.out.rs _ (.head _))).mono ?_
        rintro e w5 ⟨v9, rfl, i9, f5⟩
        have E13 := Lib.hid (E12.out.go f5)
        clear d0 d1 d2 d3 d4 g0 g1 g2 g3 g4
        have E14 := Lib.hid (E13.out.item i9.item)
        obtain ⟨Q1, q1, Q2, q2, Q3, q3, rfl⟩ := i9.form
        clear i9
        have E15 := Lib.hid (E14.out.box (.int .i64 y2.kind) (.string y2.text) (.slice Q1 y2.list.length q1) (.slice Q2 y2.pairs.length q2) (.slice Q3 y2.scores.length q3))
        go_wp2
        go_loopg [17] l.length (fun g i wr => ∃ (k : Nat), g = l.length - k ∧ k ≤ l.length ∧ i = .int .i64 k ∧ Fr [] (w5.alloc (.cells #[.int .i64 y2.kind, .string y2.text, .slice Q1 y2.list.length q1, .slice Q2 y2.pairs.length q2, .slice Q3 y2.scores.length q3] 26)) wr)
        case atStart => exact ⟨0, rfl, Nat.zero_le _, rfl, Fr.refl _ _⟩
        case round =>
          obtain ⟨k, rfl, hk, rfl, hf⟩ := hrel
          have E16 := Lib.hid (E15.out.go hf)
          have HFq := Lib.hid hf
          clear hf
          obtain ⟨d0, d1, d2, d3, d4⟩ := five (E16.out.bl _ (.head _))
          by_cases hlt : k < l.length
          · obtain ⟨b, off, rfl, hb1, hc1, hm1, hcell⟩ := HL.out.at_ (by omega)
            obtain ⟨s, hs⟩ : ∃ s, l[k]? = some s := ⟨_, List.getElem?_eq_getElem hlt⟩
            have m1 := E16.out.f.cell (show w.cell? ⟨b, off + k, none⟩ = some (.string s) from hcell k _ (textsV_get _ k s hs)) (by simp)
            have HK := Lib.hid (fun W u h => HC2.out W u h s (List.mem_of_getElem? hs))
            have ix0 : (0 : Int) ≤ (k : Int) := by omega
            have ix1 : (k : Int) < (l.length : Int) := by omega
            unfold maxLen at hm1
            clear hcell hs
            go_wp2
            go_region_held3 (fun wx => wx.cell? ⟨w5.heap.size, 0, none⟩ = some (.int .i64 y2.kind) ∧ wx.cell? ⟨w5.heap.size, 1, none⟩ = some (.string y2.text) ∧ wx.cell? ⟨w5.heap.size, 2, none⟩ = some (.slice Q1 y2.list.length q1) ∧ wx.cell? ⟨w5.heap.size, 3, none⟩ = some (.slice Q2 y2.pairs.length q2) ∧ wx.cell? ⟨w5.heap.size, 4, none⟩ = some (.slice Q3 y2.scores.length q3) ∧ wx.cell? ⟨b, off + k, none⟩ = some (.string s)) (go_keep) (first | (go_at_call 47; (refine (HK.out _ _ (E16.out.drew.its _ (.head _))).mono ?_); rintro e w50 ⟨rfl, fz⟩; have G50 := Lib.hid (fr_predrew fz); clear fz; have d0 := G50.out.cell d0 (by simp); have d1 := G50.out.cell d1 (by simp); have d2 := G50.out.cell d2 (by simp); have d3 := G50.out.cell d3 (by simp); have d4 := G50.out.cell d4 (by simp); have m1 := G50.out.cell m1 (by simp)))
            go_wp2
            go_roundg (l.length - (k + 1))
            case measure => omega
            case rel => exact ⟨k + 1, rfl, by omega, by go_num, HFq.out.trans G50.out⟩
          · obtain rfl : k = l.length := by omega
            clear d0 d1 d2 d3 d4
            obtain ⟨d0, d1, d2, d3, d4⟩ := five (E16.out.bl _ (.head _))
            obtain ⟨g0, g1, g2, g3, g4⟩ := five (E16.out.bl _ (.tail _ (.tail _ (.tail _ (.head _)))))
            go_wp2
            go_ret
            exact ⟨rfl, E16.out.f⟩
  · have q1 : (add3 x l == 0) = false := by simpa using he
    clear he HA TW NA
    by_cases ha : asCode 3 x = 0
    · obtain ⟨nr, nr1, nr2⟩ := NR.out ha
      have HC2 := Lib.hid (HC.out ha)
      rw [ha] at RM
      have h24 := (setOk ha).2
      clear HC NR NK ha
      generalize add3Y x l = y1 at *
      generalize add3N x l = n1 at *
      generalize add3 x l = e1 at *
      generalize remOfY 3 x l = y2 at *
      generalize remOfK 3 x l = n2 at *
      have q9 : ((y2.list.length : Int) == (x.list.length : Int) - n2) = true := by rw [beq_iff_eq]; exact nr
      have NRH := Lib.hid nr
      clear nr
      go_enter Try.func10, Try.ntmps10
      go_wp2_with fail
      refine (setBegun_any _).mono ?_
      rintro e w1 ⟨rfl, f1⟩
      have E4 := Lib.hid (E3.out.go f1)
      obtain ⟨d0, d1, d2, d3, d4⟩ := five (E4.out.bl _ (.head _))
      go_wp2_with fail
      refine (AD.out _ _ _ _ (E4.out.its _ (.head _)) (E4.out.rs _ (.head _))).mono ?_
      rintro e w2 ⟨v1, rfl, i1, f2⟩
      have E5 := Lib.hid (E4.out.go f2)
      clear d0 d1 d2 d3 d4
      have E6 := Lib.hid (E5.out.item i1.item)
      obtain ⟨P1, p1, P2, p2, P3, p3, rfl⟩ := i1.form
      clear i1
      have E7 := Lib.hid (E6.out.box (.int .i64 y1.kind) (.string y1.text) (.slice P1 y1.list.length p1) (.slice P2 y1.pairs.length p2) (.slice P3 y1.scores.length p3))
      obtain ⟨d0, d1, d2, d3, d4⟩ := five (E7.out.bl _ (.head _))
      obtain ⟨g0, g1, g2, g3, g4⟩ := five (E7.out.bl _ (.tail _ (.head _)))
      go_wp2_with fail
      refine (RM.out _ _ _ _ (E7.out.its _ (.tail _ (.head _))) (E7.out.rs _ (.head _))).mono ?_
      rintro e w3 ⟨v9, rfl, i9, f3⟩
      have E8 := Lib.hid (E7.out.go f3)
      clear d0 d1 d2 d3 d4 g0 g1 g2 g3 g4
      have E9 := Lib.hid (E8.out.item i9.item)
      obtain ⟨Q1, q1, Q2, q2, Q3, q3, rfl⟩ := i9.form
      clear i9
      have E10 := Lib.hid (E9.out.box (.int .i64 y2.kind) (.string y2.text) (.slice Q1 y2.list.length q1) (.slice Q2 y2.pairs.length q2) (.slice Q3 y2.scores.length q3))
      go_wp2
      go_loopg [17] l.length (fun g i wr => ∃ (k : Nat), g = l.length - k ∧ k ≤ l.length ∧ i = .int .i64 k ∧ Fr [] (w3.alloc (.cells #[.int .i64 y2.kind, .string y2.text, .slice Q1 y2.list.length q1, .slice Q2 y2.pairs.length q2, .slice Q3 y2.scores.length q3] 26)) wr)
      case atStart => exact ⟨0, rfl, Nat.zero_le _, rfl, Fr.refl _ _⟩
      case round =>
        obtain ⟨k, rfl, hk, rfl, hf⟩ := hrel
        have E11 := Lib.hid (E10.out.go hf)
        have HFq := Lib.hid hf
        clear hf
        obtain ⟨d0, d1, d2, d3, d4⟩ := five (E11.out.bl _ (.head _))
        by_cases hlt : k < l.length
        · obtain ⟨b, off, rfl, hb1, hc1, hm1, hcell⟩ := HL.out.at_ (by omega)
          obtain ⟨s, hs⟩ : ∃ s, l[k]? = some s := ⟨_, List.getElem?_eq_getElem hlt⟩
          have m1 := E11.out.f.cell (show w.cell? ⟨b, off + k, none⟩ = some (.string s) from hcell k _ (textsV_get _ k s hs)) (by simp)
          have HK := Lib.hid (fun W u h => HC2.out W u h s (List.mem_of_getElem? hs))
          have ix0 : (0 : Int) ≤ (k : Int) := by omega
          have ix1 : (k : Int) < (l.length : Int) := by omega
          unfold maxLen at hm1
          clear hcell hs
          go_wp2
          go_region_held3 (fun wx => wx.cell? ⟨w3.heap.size, 0, none⟩ = some (.int .i64 y2.kind) ∧ wx.cell? ⟨w3.heap.size, 1, none⟩ = some (.string y2.text) ∧ wx.cell? ⟨w3.heap.size, 2, none⟩ = some (.slice Q1 y2.list.length q1) ∧ wx.cell? ⟨w3.heap.size, 3, none⟩ = some (.slice Q2 y2.pairs.length q2) ∧ wx.cell? ⟨w3.heap.size, 4, none⟩ = some (.slice Q3 y2.scores.length q3) ∧ wx.cell? ⟨b, off + k, none⟩ = some (.string s)) (go_keep) (first | (go_at_call 47; (refine (HK.out _ _ (E11.out.drew.its _ (.head _))).mono ?_); rintro e w50 ⟨rfl, fz⟩; have G50 := Lib.hid (fr_predrew fz); clear fz; have d0 := G50.out.cell d0 (by simp); have d1 := G50.out.cell d1 (by simp); have d2 := G50.out.cell d2 (by simp); have d3 := G50.out.cell d3 (by simp); have d4 := G50.out.cell d4 (by simp); have m1 := G50.out.cell m1 (by simp)))
          go_wp2
          go_roundg (l.length - (k + 1))
          case measure => omega
          case rel => exact ⟨k + 1, rfl, by omega, by go_num, HFq.out.trans G50.out⟩
        · obtain rfl : k = l.length := by omega
          clear d0 d1 d2 d3 d4
          obtain ⟨d0, d1, d2, d3, d4⟩ := five (E11.out.bl _ (.head _))
          obtain ⟨g0, g1, g2, g3, g4⟩ := five (E11.out.bl _ (.tail _ (.tail _ (.head _))))
          go_wp2
          go_ret
          exact ⟨rfl, E11.out.f⟩
    · have hk0 := NK.out ha
      rw [hk0] at RM
      have q2 : (asCode 3 x != 0) = true := by simpa using ha
      clear HC NR NK ha hk0
      generalize add3Y x l = y1 at *
      generalize add3N x l = n1 at *
      generalize add3 x l = e1 at *
      generalize remOfY 3 x l = y2 at *
      generalize asCode 3 x = e2 at *
      go_enter Try.func10, Try.ntmps10
      go_wp2_with fail
      refine (setBegun_any _).mono ?_
      rintro e w1 ⟨rfl, f1⟩
      have E4 := Lib.hid (E3.out.go f1)
      obtain ⟨d0, d1, d2, d3, d4⟩ := five (E4.out.bl _ (.head _))
      go_wp2_with fail
      refine (AD.out _ _ _ _ (E4.out.its _ (.head _)) (E4.out.rs _ (.head _))).mono ?_
      rintro e w2 ⟨v1, rfl, i1, f2⟩
      have E5 := Lib.hid (E4.out.go f2)
      clear d0 d1 d2 d3 d4
      have E6 := Lib.hid (E5.out.item i1.item)
      obtain ⟨P1, p1, P2, p2, P3, p3, rfl⟩ := i1.form
      clear i1
      have E7 := Lib.hid (E6.out.box (.int .i64 y1.kind) (.string y1.text) (.slice P1 y1.list.length p1) (.slice P2 y1.pairs.length p2) (.slice P3 y1.scores.length p3))
      obtain ⟨d0, d1, d2, d3, d4⟩ := five (E7.out.bl _ (.head _))
      obtain ⟨g0, g1, g2, g3, g4⟩ := five (E7.out.bl _ (.tail _ (.head _)))
      go_wp2_with fail
      refine (RM.out _ _ _ _ (E7.out.its _ (.tail _ (.head _))) (E7.out.rs _ (.head _))).mono ?_
      rintro e w3 ⟨v9, rfl, i9, f3⟩
      have E8 := Lib.hid (E7.out.go f3)
      clear d0 d1 d2 d3 d4 g0 g1 g2 g3 g4
      have E9 := Lib.hid (E8.out.item i9.item)
      obtain ⟨Q1, q1, Q2, q2, Q3, q3, rfl⟩ := i9.form
      clear i9
      have E10 := Lib.hid (E9.out.box (.int .i64 y2.kind) (.string y2.text) (.slice Q1 y2.list.length q1) (.slice Q2 y2.pairs.length q2) (.slice Q3 y2.scores.length q3))
      obtain ⟨d0, d1, d2, d3, d4⟩ := five (E10.out.bl _ (.head _))
      go_wp2
      go_ret
      exact ⟨rfl, E10.out.f⟩
end Go.Proofs.Ytmlmiboihjibiaa
