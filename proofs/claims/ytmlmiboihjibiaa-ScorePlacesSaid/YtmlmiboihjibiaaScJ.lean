/- The walk of the law ScorePlaces. (Printed by scores7.py.) -/
import Derived.Test.YtmlmiboihjibiaaScG
import Derived.Test.YtmlmiboihjibiaaScE
import Derived.Test.YtmlmiboihjibiaaScI
import Derived.WalkLawsBesides
set_option linter.unusedVariables false
set_option linter.unusedSimpArgs false
namespace Go.Proofs.Ytmlmiboihjibiaa
open Go.RowKit

theorem isInt_bounds {n : Int} (h : isInt n = true) : -999999999 ≤ n ∧ n ≤ 999999999 := by
  unfold isInt at h
  simpa using h

set_option maxHeartbeats 8000000 in
set_option maxRecDepth 100000 in
theorem scorePlaces_any (x : Itm) (v : Value) (l : List (Int × ByteArray)) (Al : Option Addr) (cl : Nat) (f t : Int) (w : World) (B : Nat) (hs : x.Small) (hB : B ≤ w.heap.size) (h : ItemV w B v x) (hl : (24 + l.length) * 24 ≤ 140737488355328) (hL : Sl w B 2 (.slice Al l.length cl) l.length (scoresV l)) (bf : -9223372036854775808 ≤ f ∧ f ≤ 9223372036854775807) (bt : -9223372036854775808 ≤ t ∧ t ≤ 9223372036854775807) :
    Calls Try.prog 4 #[v, .slice Al l.length cl, .int .i64 f, .int .i64 t] w fun e w' => e = .returned (.bool true) ∧ Fr [] w w' := by
  have PU := Lib.hid (fun (W : World) u A c (h : ItemV W W.heap.size u x) k => scorePut_any x u l A c W W.heap.size hs (Nat.le_refl _) h hl k)
  have N1 := Lib.hid (fun (hc : put5 x l ≠ 0) => (show put5N x l = 0 from if_neg hc))
  have PE := Lib.hid (fun (hc : put5 x l = 0) => put5_end hc)
  have NP := Lib.hid (fun (hc : put5 x l = 0) (k : Nat) (s : Int × ByteArray) (hk : l[k]? = some s) => num_put hc hk)
  have HL := Lib.hid hL
  have E0 := Lib.hid (Env.start w)
  have E1 := Lib.hid (E0.out.item (h.more hB))
  have E2 := Lib.hid (E1.out.row (hL.more hB))
  obtain ⟨A1, c1, A2, c2, A3, c3, rfl⟩ := h.form
  clear h hL hs
  have E3 := Lib.hid (E2.out.box (.int .i64 x.kind) (.string x.text) (.slice A1 x.list.length c1) (.slice A2 x.pairs.length c2) (.slice A3 x.scores.length c3))
  by_cases he : put5 x l = 0
  · obtain ⟨p1, hy, ok, h24, p5, ha, hls⟩ := PE.out he
    have NP2 := Lib.hid (NP.out he)
    rw [he, p1, p5] at PU
    clear PE NP N1 p1 p5
    have hx24 := (scores_ok ha).2
    have hpos : 0 < (putF5 x l).length := by
      obtain ⟨h0, _⟩ := scsCode_ok (pre5_ok (put5_ok he).1).2
      have := putF5_pos (x := x) h0
      omega
    clear he ha
    generalize putF5 x l = F at *
    have HY := Lib.hid hy
    have OK := Lib.hid ok
    have SY := scoreI_small (show F.length ≤ 1000000 by omega) ok.small
    have RA := Lib.hid (fun (W : World) u (h : ItemV W W.heap.size u (scoreI F)) => (show Calls Try.prog 15 #[u, .int .i64 0, .int .i64 (-1)] W (TEPost (F.map (·.2)) 0 W) from by
      have := scoreRange_any (scoreI F) u 0 (-1) W W.heap.size SY (Nat.le_refl _) h (by decide) (by decide)
      rw [range5_all hy, hy] at this
      exact this))
    have WI := Lib.hid (fun (W : World) u (h : ItemV W W.heap.size u (scoreI F)) => (show Calls Try.prog 16 #[u, .int .i64 f, .int .i64 t] W (TEPost (withinC F f t) 0 W) from by
      have := scoreWithin_any (scoreI F) u f t W W.heap.size SY (Nat.le_refl _) h
      rw [within5_all f t hy, hy] at this
      exact this))
    have RK := Lib.hid (fun (W : World) u (k : Nat) (s : Int × ByteArray) (hk : F[k]? = some s) (h : ItemV W W.heap.size u (scoreI F)) => (show Calls Try.prog 14 #[u, .string s.2] W (IEPostN k 0 W) from by
      have := scoreRank_any (scoreI F) u s.2 W W.heap.size SY (Nat.le_refl _) h
      obtain ⟨r1, r2, r3⟩ := rank_of hy ok.dist hk
      rw [r1, r2] at this
      exact this))
    have NU := Lib.hid (fun (W : World) u (k : Nat) (s : Int × ByteArray) (hk : F[k]? = some s) (h : ItemV W W.heap.size u (scoreI F)) => (show Calls Try.prog 13 #[u, .string s.2] W (IEPostN s.1 0 W) from by
      have := scoreNumber_any (scoreI F) u s.2 W W.heap.size SY (Nat.le_refl _) h
      obtain ⟨r1, r2, r3⟩ := rank_of hy ok.dist hk
      rw [r1, r3] at this
      exact this))
    have NV := Lib.hid (fun (W : World) u (k : Nat) (s : Int × ByteArray) (hk : l[k]? = some s) (h : ItemV W W.heap.size u (scoreI F)) => (show Calls Try.prog 13 #[u, .string s.2] W (IEPostN (lastN (l.drop k) s.2 s.1) 0 W) from by
      have := scoreNumber_any (scoreI F) u s.2 W W.heap.size SY (Nat.le_refl _) h
      obtain ⟨r1, r3⟩ := NP2.out k s hk
      rw [r1, r3] at this
      exact this))
    have HIL := Lib.hid (show (withinC F f t).length ≤ 24 from by have := withinC_len F F.length f t; rw [List.take_length] at this; omega)
    clear hy ok SY
    unfold IEPostN at RK NU NV
    have HM : ∃ M : List ByteArray, Hid (M = F.map (·.2)) ∧ M.length = F.length := ⟨_, Lib.hid rfl, List.length_map _⟩
    obtain ⟨M, HM, hML⟩ := HM
    rw [← HM.out] at RA
    have HI : ∃ I : List ByteArray, Hid (I = withinC F f t) ∧ I.length ≤ 24 := ⟨_, Lib.hid rfl, HIL.out⟩
    obtain ⟨I, HI, hIL⟩ := HI
    rw [← HI.out] at WI
    have HN : ∃ n1 : Int, Hid (n1 = (F.length : Int) - x.scores.length) ∧ -24 ≤ n1 ∧ n1 ≤ 24 := ⟨_, Lib.hid rfl, by omega, by omega⟩
    obtain ⟨n1, HN, hn1, hn2⟩ := HN
    rw [← HN.out] at PU
    have q8 : ((M.length : Int) != (x.scores.length : Int) + n1) = false := by rw [bne_eq_false_iff_eq, HN.out, hML]; omega
    have q8' : (M.length : Int) = (x.scores.length : Int) + n1 := by rw [HN.out, hML]; omega
    have Q8 := Lib.hid q8'
    have HMF := Lib.hid hML
    have hM24 : M.length ≤ 24 := by omega
    clear q8' hML hpos h24 NP2 HIL
    go_enter Try.func4, Try.ntmps4
    go_wp2_with fail
    refine (scoreBegun_any _).mono ?_
    rintro e w1 ⟨rfl, f1⟩
    have E4 := Lib.hid (E3.out.go f1)
    obtain ⟨d0, d1, d2, d3, d4⟩ := five (E4.out.bl _ (.head _))
    go_wp2_with fail
    refine (PU.out _ _ _ _ (E4.out.its _ (.head _)) (E4.out.rs _ (.head _))).mono ?_
    rintro e w2 ⟨v1, rfl, i1, f2⟩
    have E5 := Lib.hid (E4.out.go f2)
    clear d0 d1 d2 d3 d4
    have E6 := Lib.hid (E5.out.item i1.item)
    obtain ⟨P1, p1, P2, p2, P3, p3, rfl⟩ := i1.form
    clear i1
    have E7 := Lib.hid (E6.out.box (.int .i64 (scoreI F).kind) (.string (scoreI F).text) (.slice P1 (scoreI F).list.length p1) (.slice P2 (scoreI F).pairs.length p2) (.slice P3 (scoreI F).scores.length p3))
    obtain ⟨d0, d1, d2, d3, d4⟩ := five (E7.out.bl _ (.head _))
    go_wp2_with fail
    refine (RA.out _ _ (E7.out.its _ (.head _))).mono ?_
    rintro e w3 ⟨ur, rfl, or_, f3⟩
    have E8 := Lib.hid (E7.out.go f3)
    have E9 := Lib.hid (E8.out.row (own_sl or_))
    obtain ⟨Ar, cr, rfl, -⟩ := own_slice or_
    clear or_
    clear d0 d1 d2 d3 d4
    obtain ⟨d0, d1, d2, d3, d4⟩ := five (E9.out.bl _ (.head _))
    go_wp2_with fail
    refine (WI.out _ _ (E9.out.its _ (.head _))).mono ?_
    rintro e w4 ⟨uw, rfl, ow_, f4⟩
    have E10 := Lib.hid (E9.out.go f4)
    have E11 := Lib.hid (E10.out.row (own_sl ow_))
    obtain ⟨Aw, cw, rfl, -⟩ := own_slice ow_
    clear ow_
    clear d0 d1 d2 d3 d4
    obtain ⟨d0, d1, d2, d3, d4⟩ := five (E11.out.bl _ (.tail _ (.head _)))
    go_wp2
    clear d0 d1 d2 d3 d4 q8
    go_loopg [15, 16, 17] M.length (fun g kk wv i wr => ∃ (i0 : Nat) (d : Int), g = M.length - i0 ∧ i0 ≤ M.length ∧ i = .int .i64 i0 ∧ kk = .int .i64 ((withinC (F.take i0) f t).length : Nat) ∧ wv = .int .i64 d ∧ Hid (i0 = 0 ∨ ∃ j p, i0 = j + 1 ∧ F[j]? = some p ∧ d = p.1) ∧ Fr [] w4 wr)
    case atStart => exact ⟨0, 0, rfl, Nat.zero_le _, rfl, by simp [withinC], rfl, Lib.hid (.inl rfl), Fr.refl _ _⟩
    case round =>
      obtain ⟨i0, d, rfl, hi0, rfl, rfl, rfl, HD, hf⟩ := hrel
      have EE := Lib.hid (E11.out.go hf)
      have HFS := Lib.hid hf
      have hkw : (withinC (F.take i0) f t).length ≤ 24 := by have := withinC_len F i0 f t; have := HMF.out; omega
      clear hf
      by_cases hlt : i0 < M.length
      · obtain ⟨s, hs⟩ : ∃ s, F[i0]? = some s := ⟨_, List.getElem?_eq_getElem (by have := HMF.out; omega)⟩
        have hms : M[i0]? = some s.2 := by rw [HM.out, List.getElem?_map, hs]; rfl
        have hro := (EE.out.rs _ (.tail _ (.head _)))
        obtain ⟨b, off, rfl, hb, hlc, hcm, hcell⟩ := Sl.at_ hro (by omega)
        have m1 : wr.cell? ⟨b, off + i0, none⟩ = some (.string s.2) := hcell _ _ (textsV_get _ _ _ hms)
        have hprev := fun (j : Nat) (p : Int × ByteArray) (hj : i0 = j + 1) (hp : F[j]? = some p) => (show wr.cell? ⟨b, off + j, none⟩ = some (.string p.2) from hcell _ _ (textsV_get _ _ _ (by rw [HM.out, List.getElem?_map, hp]; rfl)))
        have HPV := Lib.hid hprev
        have HNG := Lib.hid (fun (j : Nat) (p : Int × ByteArray) (hj : i0 = j + 1) (hp : F[j]? = some p) => next_gt OK.out.rise hp (by rw [← hj]; exact hs))
        have HWA := Lib.hid (fun (hw : (decide (f ≤ s.1) && decide (s.1 ≤ t)) = true) => (show I[(withinC (F.take i0) f t).length]? = some s.2 from by rw [HI.out]; exact within_at f t hs hw))
        have HST := Lib.hid (withinC_step f t hs)
        have HIN := Lib.hid (isInt_bounds (OK.out.ok s (List.mem_of_getElem? hs)).1)
        have RK2 := Lib.hid (fun W u h => RK.out W u i0 s hs h)
        have NU2 := Lib.hid (fun W u h => NU.out W u i0 s hs h)
        have HSS := Lib.hid hs
        have ix0 : (0 : Int) ≤ (i0 : Int) := by omega
        have ix1 : (i0 : Int) < (M.length : Int) := by omega
        unfold maxLen at hcm
        clear hcell hms hprev hs hro
        generalize hkk : (withinC (F.take i0) f t).length = kk at *
        have HKK := Lib.hid hkk
        clear hkk
        obtain ⟨d0, d1, d2, d3, d4⟩ := five (EE.out.bl _ (.head _))
        go_wp2
        go_region_held3 (fun wx => wx.cell? ⟨w2.heap.size, 0, none⟩ = some (.int .i64 (scoreI F).kind) ∧ wx.cell? ⟨w2.heap.size, 1, none⟩ = some (.string (scoreI F).text) ∧ wx.cell? ⟨w2.heap.size, 2, none⟩ = some (.slice P1 (scoreI F).list.length p1) ∧ wx.cell? ⟨w2.heap.size, 3, none⟩ = some (.slice P2 (scoreI F).pairs.length p2) ∧ wx.cell? ⟨w2.heap.size, 4, none⟩ = some (.slice P3 (scoreI F).scores.length p3) ∧ wx.cell? ⟨b, off + i0, none⟩ = some (.string s.2)) (go_keep) (first | (go_at_call 14; (refine (RK2.out _ _ (EE.out.drew.its _ (.head _))).mono ?_); rintro e w20 ⟨rfl, fz⟩; have G20 := Lib.hid (fr_predrew fz); clear fz; have d0 := G20.out.cell d0 (by simp); have d1 := G20.out.cell d1 (by simp); have d2 := G20.out.cell d2 (by simp); have d3 := G20.out.cell d3 (by simp); have d4 := G20.out.cell d4 (by simp); have m1 := G20.out.cell m1 (by simp)))
        have E20 := Lib.hid (EE.out.go G20.out)
        go_wp2
        go_region_held3 (fun wx => wx.cell? ⟨w2.heap.size, 0, none⟩ = some (.int .i64 (scoreI F).kind) ∧ wx.cell? ⟨w2.heap.size, 1, none⟩ = some (.string (scoreI F).text) ∧ wx.cell? ⟨w2.heap.size, 2, none⟩ = some (.slice P1 (scoreI F).list.length p1) ∧ wx.cell? ⟨w2.heap.size, 3, none⟩ = some (.slice P2 (scoreI F).pairs.length p2) ∧ wx.cell? ⟨w2.heap.size, 4, none⟩ = some (.slice P3 (scoreI F).scores.length p3) ∧ wx.cell? ⟨b, off + i0, none⟩ = some (.string s.2)) (go_keep) (first | (go_at_call 13; (refine (NU2.out _ _ (E20.out.drew.its _ (.head _))).mono ?_); rintro e w21 ⟨rfl, fz⟩; have G21 := Lib.hid (fr_predrew fz); clear fz; have d0 := G21.out.cell d0 (by simp); have d1 := G21.out.cell d1 (by simp); have d2 := G21.out.cell d2 (by simp); have d3 := G21.out.cell d3 (by simp); have d4 := G21.out.cell d4 (by simp); have m1 := G21.out.cell m1 (by simp)))
        have E21 := Lib.hid (E20.out.go G21.out)
        have G22 := Lib.hid (G20.out.trans G21.out)
        have hin := HIN.out
        go_wp2
        have HD2 : (i0 = 0) ∨ (∃ j p, i0 = j + 1 ∧ F[j]? = some p ∧ d = p.1 ∧ p.1 < s.1) ∨ (∃ j p, i0 = j + 1 ∧ F[j]? = some p ∧ d = p.1 ∧ p.1 = s.1 ∧ ordB p.2 s.2 < 0) := by
          rcases HD.out with h | ⟨j, p, h1, h2, h3⟩
          · exact .inl h
          · rcases HNG.out j p h1 h2 with h4 | ⟨h4, h5⟩
            · exact .inr (.inl ⟨j, p, h1, h2, h3, h4⟩)
            · exact .inr (.inr ⟨j, p, h1, h2, h3, h4, h5⟩)
        have HI22 := Lib.hid (fun (hk : kk < I.length) => E21.out.rs _ (.head _))
        rcases HD2 with h0 | ⟨j, p, h1, h2, h3, h4⟩ | ⟨j, p, h1, h2, h3, h4, h5⟩
        · subst h0
          rw [Nat.add_zero] at m1
          go_quiet (fail)
          by_cases g1 : f ≤ s.1
          · by_cases g2 : s.1 ≤ t
            · have hat := HWA.out (by rw [decide_eq_true g1, decide_eq_true g2]; rfl)
              have hklt := (List.getElem?_eq_some_iff.1 hat).1
              have hri := (E21.out.rs _ (.head _))
              obtain ⟨b2, off2, rfl, hb2, hlc2, hcm2, hcell2⟩ := Sl.at_ hri (by omega)
              have m2 : w21.cell? ⟨b2, off2 + kk, none⟩ = some (.string s.2) := hcell2 _ _ (textsV_get _ _ _ hat)
              have iy0 : (0 : Int) ≤ (kk : Int) := by omega
              have iy1 : (kk : Int) < (I.length : Int) := by omega
              have iy2 : decide ((I.length : Int) ≤ (kk : Int)) = false := decide_eq_false (by omega)
              have iy3 : decide (I.length ≤ kk) = false := decide_eq_false (by omega)
              obtain ⟨e1, e2⟩ := eqqB s.2
              unfold maxLen at hcm2
              have ST := Lib.hid (HST.out.trans (if_pos (by rw [decide_eq_true g1, decide_eq_true g2]; rfl)))
              clear hcell2 hri hat
              go_wp2
              go_quiet (fail)
              go_wp2
              go_roundg (M.length - (0 + 1))
              case measure => omega
              case rel => exact ⟨0 + 1, s.1, rfl, by omega, by go_num, by rw [ST.out, List.length_append, HKK.out]; go_num, rfl, Lib.hid (.inr ⟨0, s, rfl, HSS.out, rfl⟩), by first | exact HFS.out.trans G22.out | exact (HFS.out.trans G22.out).drewN _ | exact ((HFS.out.trans G22.out).drewN _).drewN _⟩
            · have ST := Lib.hid (HST.out.trans (if_neg (by rw [decide_eq_false g2]; simp)))
              have g3 : decide (s.1 ≤ t) = false := decide_eq_false g2
              go_wp2
              go_roundg (M.length - (0 + 1))
              case measure => omega
              case rel => exact ⟨0 + 1, s.1, rfl, by omega, by go_num, by rw [ST.out, HKK.out], rfl, Lib.hid (.inr ⟨0, s, rfl, HSS.out, rfl⟩), by first | exact HFS.out.trans G22.out | exact (HFS.out.trans G22.out).drewN _ | exact ((HFS.out.trans G22.out).drewN _).drewN _⟩
          · have ST := Lib.hid (HST.out.trans (if_neg (by rw [decide_eq_false g1]; simp)))
            have g3 : decide (f ≤ s.1) = false := decide_eq_false g1
            go_wp2
            go_roundg (M.length - (0 + 1))
            case measure => omega
            case rel => exact ⟨0 + 1, s.1, rfl, by omega, by go_num, by rw [ST.out, HKK.out], rfl, Lib.hid (.inr ⟨0, s, rfl, HSS.out, rfl⟩), by first | exact HFS.out.trans G22.out | exact (HFS.out.trans G22.out).drewN _ | exact ((HFS.out.trans G22.out).drewN _).drewN _⟩
        · have m3 : w21.cell? ⟨b, off + j, none⟩ = some (.string p.2) := (HPV.out j p h1 h2 |> fun c => G22.out.cell c (by simp))
          subst h1
          subst h3
          have hw1 : IntKind.i64.wrap (((j + 1 : Nat) : Int) - 1) = (j : Int) := by rw [IntKind.wrap_i64]; omega
          have hw2 : IntKind.i64.wrap ((j : Int) + 1 - 1) = (j : Int) := by rw [IntKind.wrap_i64]; omega
          have hw3 : IntKind.i64.wrap (j : Int) = (j : Int) := by rw [IntKind.wrap_i64]; omega
          have jx0 : (0 : Int) ≤ (j : Int) := by omega
          have jx1 : (j : Int) < (M.length : Int) := by omega
          have jx2 : (0 : Int) ≤ (j : Int) + 1 := by omega
          have jx3 : (j : Int) + 1 < (M.length : Int) := by omega
          have jx4 : ((j : Int) + 1).toNat = j + 1 := by omega
          have z1 : decide (s.1 < p.1) = false := decide_eq_false (by omega)
          have z2 : (s.1 == p.1) = false := beq_eq_false_iff_ne.2 (by omega)
          go_quiet (fail)
          by_cases g1 : f ≤ s.1
          · by_cases g2 : s.1 ≤ t
            · have hat := HWA.out (by rw [decide_eq_true g1, decide_eq_true g2]; rfl)
              have hklt := (List.getElem?_eq_some_iff.1 hat).1
              have hri := (E21.out.rs _ (.head _))
              obtain ⟨b2, off2, rfl, hb2, hlc2, hcm2, hcell2⟩ := Sl.at_ hri (by omega)
              have m2 : w21.cell? ⟨b2, off2 + kk, none⟩ = some (.string s.2) := hcell2 _ _ (textsV_get _ _ _ hat)
              have iy0 : (0 : Int) ≤ (kk : Int) := by omega
              have iy1 : (kk : Int) < (I.length : Int) := by omega
              have iy2 : decide ((I.length : Int) ≤ (kk : Int)) = false := decide_eq_false (by omega)
              have iy3 : decide (I.length ≤ kk) = false := decide_eq_false (by omega)
              obtain ⟨e1, e2⟩ := eqqB s.2
              unfold maxLen at hcm2
              have ST := Lib.hid (HST.out.trans (if_pos (by rw [decide_eq_true g1, decide_eq_true g2]; rfl)))
              clear hcell2 hri hat
              go_wp2
              go_quiet (fail)
              go_wp2
              go_roundg (M.length - (j + 1 + 1))
              case measure => omega
              case rel => exact ⟨j + 1 + 1, s.1, rfl, by omega, by go_num, by rw [ST.out, List.length_append, HKK.out]; go_num, rfl, Lib.hid (.inr ⟨j + 1, s, rfl, HSS.out, rfl⟩), by first | exact HFS.out.trans G22.out | exact (HFS.out.trans G22.out).drewN _ | exact ((HFS.out.trans G22.out).drewN _).drewN _⟩
            · have ST := Lib.hid (HST.out.trans (if_neg (by rw [decide_eq_false g2]; simp)))
              have g3 : decide (s.1 ≤ t) = false := decide_eq_false g2
              go_wp2
              go_roundg (M.length - (j + 1 + 1))
              case measure => omega
              case rel => exact ⟨j + 1 + 1, s.1, rfl, by omega, by go_num, by rw [ST.out, HKK.out], rfl, Lib.hid (.inr ⟨j + 1, s, rfl, HSS.out, rfl⟩), by first | exact HFS.out.trans G22.out | exact (HFS.out.trans G22.out).drewN _ | exact ((HFS.out.trans G22.out).drewN _).drewN _⟩
          · have ST := Lib.hid (HST.out.trans (if_neg (by rw [decide_eq_false g1]; simp)))
            have g3 : decide (f ≤ s.1) = false := decide_eq_false g1
            go_wp2
            go_roundg (M.length - (j + 1 + 1))
            case measure => omega
            case rel => exact ⟨j + 1 + 1, s.1, rfl, by omega, by go_num, by rw [ST.out, HKK.out], rfl, Lib.hid (.inr ⟨j + 1, s, rfl, HSS.out, rfl⟩), by first | exact HFS.out.trans G22.out | exact (HFS.out.trans G22.out).drewN _ | exact ((HFS.out.trans G22.out).drewN _).drewN _⟩
        · have m3 : w21.cell? ⟨b, off + j, none⟩ = some (.string p.2) := (HPV.out j p h1 h2 |> fun c => G22.out.cell c (by simp))
          subst h1
          subst h3
          have hw1 : IntKind.i64.wrap (((j + 1 : Nat) : Int) - 1) = (j : Int) := by rw [IntKind.wrap_i64]; omega
          have hw2 : IntKind.i64.wrap ((j : Int) + 1 - 1) = (j : Int) := by rw [IntKind.wrap_i64]; omega
          have hw3 : IntKind.i64.wrap (j : Int) = (j : Int) := by rw [IntKind.wrap_i64]; omega
          have jx0 : (0 : Int) ≤ (j : Int) := by omega
          have jx1 : (j : Int) < (M.length : Int) := by omega
          have jx2 : (0 : Int) ≤ (j : Int) + 1 := by omega
          have jx3 : (j : Int) + 1 < (M.length : Int) := by omega
          have jx4 : ((j : Int) + 1).toNat = j + 1 := by omega
          have z1 : decide (s.1 < p.1) = false := decide_eq_false (by omega)
          have z2 : (s.1 == p.1) = true := by rw [beq_iff_eq]; omega
          obtain ⟨z3, z4⟩ := not_leq h5
          go_quiet (fail)
          by_cases g1 : f ≤ s.1
          · by_cases g2 : s.1 ≤ t
            · have hat := HWA.out (by rw [decide_eq_true g1, decide_eq_true g2]; rfl)
              have hklt := (List.getElem?_eq_some_iff.1 hat).1
              have hri := (E21.out.rs _ (.head _))
              obtain ⟨b2, off2, rfl, hb2, hlc2, hcm2, hcell2⟩ := Sl.at_ hri (by omega)
              have m2 : w21.cell? ⟨b2, off2 + kk, none⟩ = some (.string s.2) := hcell2 _ _ (textsV_get _ _ _ hat)
              have iy0 : (0 : Int) ≤ (kk : Int) := by omega
              have iy1 : (kk : Int) < (I.length : Int) := by omega
              have iy2 : decide ((I.length : Int) ≤ (kk : Int)) = false := decide_eq_false (by omega)
              have iy3 : decide (I.length ≤ kk) = false := decide_eq_false (by omega)
              obtain ⟨e1, e2⟩ := eqqB s.2
              unfold maxLen at hcm2
              have ST := Lib.hid (HST.out.trans (if_pos (by rw [decide_eq_true g1, decide_eq_true g2]; rfl)))
              clear hcell2 hri hat
              go_wp2
              go_quiet (fail)
              go_wp2
              go_roundg (M.length - (j + 1 + 1))
              case measure => omega
              case rel => exact ⟨j + 1 + 1, s.1, rfl, by omega, by go_num, by rw [ST.out, List.length_append, HKK.out]; go_num, rfl, Lib.hid (.inr ⟨j + 1, s, rfl, HSS.out, rfl⟩), by first | exact HFS.out.trans G22.out | exact (HFS.out.trans G22.out).drewN _ | exact ((HFS.out.trans G22.out).drewN _).drewN _⟩
            · have ST := Lib.hid (HST.out.trans (if_neg (by rw [decide_eq_false g2]; simp)))
              have g3 : decide (s.1 ≤ t) = false := decide_eq_false g2
              go_wp2
              go_roundg (M.length - (j + 1 + 1))
              case measure => omega
              case rel => exact ⟨j + 1 + 1, s.1, rfl, by omega, by go_num, by rw [ST.out, HKK.out], rfl, Lib.hid (.inr ⟨j + 1, s, rfl, HSS.out, rfl⟩), by first | exact HFS.out.trans G22.out | exact (HFS.out.trans G22.out).drewN _ | exact ((HFS.out.trans G22.out).drewN _).drewN _⟩
          · have ST := Lib.hid (HST.out.trans (if_neg (by rw [decide_eq_false g1]; simp)))
            have g3 : decide (f ≤ s.1) = false := decide_eq_false g1
            go_wp2
            go_roundg (M.length - (j + 1 + 1))
            case measure => omega
            case rel => exact ⟨j + 1 + 1, s.1, rfl, by omega, by go_num, by rw [ST.out, HKK.out], rfl, Lib.hid (.inr ⟨j + 1, s, rfl, HSS.out, rfl⟩), by first | exact HFS.out.trans G22.out | exact (HFS.out.trans G22.out).drewN _ | exact ((HFS.out.trans G22.out).drewN _).drewN _⟩
      · obtain rfl : i0 = M.length := by omega
        have hend : withinC (F.take M.length) f t = I := by rw [HMF.out, List.take_length, HI.out]
        rw [hend]
        clear hend hkw HD
        go_wp2
        go_loopg [22] l.length (fun g i wq => ∃ (k : Nat), g = l.length - k ∧ k ≤ l.length ∧ i = .int .i64 k ∧ Fr [] w4 wq)
        case atStart => exact ⟨0, rfl, Nat.zero_le _, rfl, HFS.out⟩
        case round =>
          obtain ⟨k, rfl, hk, rfl, hf⟩ := hrel
          have EF := Lib.hid (E11.out.go hf)
          have HFQ := Lib.hid hf
          clear hf EE HFS
          by_cases hlt : k < l.length
          · obtain ⟨s, hs⟩ : ∃ s, l[k]? = some s := ⟨_, List.getElem?_eq_getElem hlt⟩
            have hro := (EF.out.rs _ (.tail _ (.tail _ (.head _))))
            obtain ⟨b, off, rfl, hb, hlc, hcm, hcell⟩ := Sl.at_ hro (by omega)
            have HX := Lib.hid (fun (W : World) (hW : Fr [] wr W) (h : Nat) (t : Int × ByteArray) (ht : l[h]? = some t) => (show W.cell? ⟨b, off + h * 2, none⟩ = some (.int .i64 t.1) ∧ W.cell? ⟨b, off + h * 2 + 1, none⟩ = some (.string t.2) from ⟨by rw [Nat.mul_comm]; exact hW.cell (hcell _ _ (scoresV_get l h t ht).1) (by simp), by rw [Nat.mul_comm]; exact hW.cell (hcell _ _ (scoresV_get l h t ht).2) (by simp)⟩))
            obtain ⟨m0, m1⟩ := HX.out wr (Fr.refl [] wr) k s hs
            have NV2 := Lib.hid (fun W u h => NV.out W u k s hs h)
            have hli := isInt_bounds (hls s (List.mem_of_getElem? hs)).1
            have ix0 : (0 : Int) ≤ (k : Int) := by omega
            have ix1 : (k : Int) < (l.length : Int) := by omega
            unfold maxLen at hcm
            clear hcell hs hro
            generalize hln : lastN (l.drop k) s.2 s.1 = ln at *
            have HLN := Lib.hid hln
            clear hln
            obtain ⟨d0, d1, d2, d3, d4⟩ := five (EF.out.bl _ (.head _))
            go_wp2
            go_region_held3 (fun wx => wx.cell? ⟨w2.heap.size, 0, none⟩ = some (.int .i64 (scoreI F).kind) ∧ wx.cell? ⟨w2.heap.size, 1, none⟩ = some (.string (scoreI F).text) ∧ wx.cell? ⟨w2.heap.size, 2, none⟩ = some (.slice P1 (scoreI F).list.length p1) ∧ wx.cell? ⟨w2.heap.size, 3, none⟩ = some (.slice P2 (scoreI F).pairs.length p2) ∧ wx.cell? ⟨w2.heap.size, 4, none⟩ = some (.slice P3 (scoreI F).scores.length p3) ∧ wx.cell? ⟨b, off + k * 2 + 1, none⟩ = some (.string s.2)) (go_keep) (first | (go_at_call 13; (refine (NV2.out _ _ (EF.out.drew.its _ (.head _))).mono ?_); rintro e w30 ⟨rfl, fz⟩; have G30 := Lib.hid (fr_predrew fz); clear fz; have d0 := G30.out.cell d0 (by simp); have d1 := G30.out.cell d1 (by simp); have d2 := G30.out.cell d2 (by simp); have d3 := G30.out.cell d3 (by simp); have d4 := G30.out.cell d4 (by simp); have m0 := G30.out.cell m0 (by simp); have m1 := G30.out.cell m1 (by simp)))
            go_wp2
            go_loopg [25, 26] (l.length - k) (fun g la i wq => ∃ (h : Nat) (d : Int), g = l.length - h ∧ k ≤ h ∧ h ≤ l.length ∧ i = .int .i64 h ∧ la = .int .i64 d ∧ Hid (d = lastN ((l.take h).drop k) s.2 s.1) ∧ Fr [] w30 wq)
            case atStart => exact ⟨k, s.1, rfl, Nat.le_refl _, by omega, rfl, rfl, Lib.hid (lastN_none l k s.2 s.1).symm, Fr.refl _ _⟩
            case round =>
              obtain ⟨h, d, rfl, hkh, hh, rfl, rfl, HD, hf⟩ := hrel
              have HFI := Lib.hid hf
              clear hf
              by_cases hhl : h < l.length
              · obtain ⟨t, ht⟩ : ∃ t, l[h]? = some t := ⟨_, List.getElem?_eq_getElem hhl⟩
                obtain ⟨n0, n1'⟩ := HX.out wr (G30.out.trans HFI.out) h t ht
                have m1' := HFI.out.cell m1 (by simp)
                have ST := Lib.hid (lastN_step s.2 s.1 hkh ht)
                have jx0 : (0 : Int) ≤ (h : Int) := by omega
                have jx1 : (h : Int) < (l.length : Int) := by omega
                clear ht m0 m1 d0 d1 d2 d3 d4
                by_cases hq : t.2 = s.2
                · have ST2 := Lib.hid (ST.out.trans (if_pos hq))
                  have q1 : (t.2.toList == s.2.toList) = true := by rw [hq]; exact (eqqB s.2).1
                  clear hq ST
                  go_wp2
                  go_quiet (fail)
                  go_wp2
                  go_roundg (l.length - (h + 1))
                  case measure => omega
                  case rel => exact ⟨h + 1, t.1, rfl, by omega, by omega, by go_num, rfl, Lib.hid ST2.out.symm, by first | exact HFI.out | exact HFI.out.drewN _ | exact (HFI.out.drewN _).drewN _⟩
                · have ST2 := Lib.hid (ST.out.trans (if_neg hq))
                  have q1 : (t.2.toList == s.2.toList) = false := (neqB hq).1
                  clear hq ST
                  go_wp2
                  go_quiet (fail)
                  go_wp2
                  go_roundg (l.length - (h + 1))
                  case measure => omega
                  case rel => exact ⟨h + 1, d, rfl, by omega, by omega, by go_num, rfl, Lib.hid (HD.out.trans ST2.out.symm), by first | exact HFI.out | exact HFI.out.drewN _ | exact (HFI.out.drewN _).drewN _⟩
              · obtain rfl : h = l.length := by omega
                obtain rfl : d = ln := by rw [HD.out, List.take_length, HLN.out]
                have q1 : (d != d) = false := by simp
                clear HD HLN
                go_wp2
                go_roundg (l.length - (k + 1))
                case measure => omega
                case rel => exact ⟨k + 1, rfl, by omega, by go_num, (HFQ.out.trans G30.out).trans HFI.out⟩
          · go_wp2
            go_ret
            exact ⟨rfl, EF.out.f⟩
  · have hn := N1.out he
    rw [hn] at PU
    have q : (put5 x l != 0) = true := by simpa using he
    clear he N1 PE NP hn
    generalize put5Y x l = y1 at *
    generalize put5 x l = e1 at *
    go_enter Try.func4, Try.ntmps4
    go_wp2_with fail
    refine (scoreBegun_any _).mono ?_
    rintro e w1 ⟨rfl, f1⟩
    have E4 := Lib.hid (E3.out.go f1)
    obtain ⟨d0, d1, d2, d3, d4⟩ := five (E4.out.bl _ (.head _))
    go_wp2_with fail
    refine (PU.out _ _ _ _ (E4.out.its _ (.head _)) (E4.out.rs _ (.head _))).mono ?_
    rintro e w2 ⟨v1, rfl, i1, f2⟩
    have E5 := Lib.hid (E4.out.go f2)
    clear d0 d1 d2 d3 d4
    have E6 := Lib.hid (E5.out.item i1.item)
    obtain ⟨P1, p1, P2, p2, P3, p3, rfl⟩ := i1.form
    clear i1
    have E7 := Lib.hid (E6.out.box (.int .i64 y1.kind) (.string y1.text) (.slice P1 y1.list.length p1) (.slice P2 y1.pairs.length p2) (.slice P3 y1.scores.length p3))
    go_wp2
    go_ret
    exact ⟨rfl, E7.out.f⟩
end Go.Proofs.Ytmlmiboihjibiaa
