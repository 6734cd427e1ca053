/- The walk of the law ScoreTells. (Printed by scores6.py.) -/
import Derived.Test.YtmlmiboihjibiaaScG
import Derived.Test.YtmlmiboihjibiaaScE
import Derived.Test.YtmlmiboihjibiaaScF
import Derived.Test.YtmlmiboihjibiaaLqF
set_option linter.unusedVariables false
set_option linter.unusedSimpArgs false
namespace Go.Proofs.Ytmlmiboihjibiaa
open Go.RowKit

theorem range5_len (x : Itm) (f t : Int) : (range5 x f t).length ≤ 281474976710656 := by
  unfold range5
  split
  · rename_i h
    have h24 := (scores_ok h).2
    have := span_le (x.scores.map (·.2)).length f t
    rw [rangeOf_length]
    rw [List.length_map] at this ⊢
    omega
  · simp
theorem within5_len (x : Itm) (f t : Int) : (within5 x f t).length ≤ 281474976710656 := by
  unfold within5
  split
  · rename_i h
    have h24 := (scores_ok h).2
    have := List.length_filter_le (fun s : Int × ByteArray => decide (f ≤ s.1) && decide (s.1 ≤ t)) x.scores
    unfold withinC
    rw [List.length_map]
    omega
  · simp

set_option maxHeartbeats 8000000 in
set_option maxRecDepth 100000 in
theorem scoreTells_any (x : Itm) (v : Value) (l : List (Int × ByteArray)) (Al : Option Addr) (cl : Nat) (fs : List ByteArray) (Af : Option Addr) (cf : Nat) (m : ByteArray) (f t : Int) (w : World) (B : Nat) (hs : x.Small) (hB : B ≤ w.heap.size) (h : ItemV w B v x) (hl : (24 + l.length) * 24 ≤ 140737488355328) (hls : ∀ s ∈ l, s.2.size ≤ 281474976710656) (hL : Sl w B 2 (.slice Al l.length cl) l.length (scoresV l)) (hf : fs.length ≤ 281474976710656) (hF : Sl w B 1 (.slice Af fs.length cf) fs.length (textsV fs)) (bf : -9223372036854775808 ≤ f ∧ f ≤ 9223372036854775807) (bt : -9223372036854775808 ≤ t ∧ t ≤ 9223372036854775807) :
    Calls Try.prog 3 #[v, .slice Al l.length cl, .slice Af fs.length cf, .string m, .int .i64 f, .int .i64 t] w fun e w' => e = .returned (.bool true) ∧ Fr [] w w' := by
  have PU := Lib.hid (fun (W : World) u A c (h : ItemV W W.heap.size u x) k => scorePut_any x u l A c W W.heap.size hs (Nat.le_refl _) h hl k)
  have DR := Lib.hid (fun (W : World) u A c (h : ItemV W W.heap.size u x) k => scoreDrop_any x u fs A c W W.heap.size hs (Nat.le_refl _) h hf k)
  have NU := Lib.hid (fun (W : World) u (h : ItemV W W.heap.size u x) => scoreNumber_any x u m W W.heap.size hs (Nat.le_refl _) h)
  have RK := Lib.hid (fun (W : World) u (h : ItemV W W.heap.size u x) => scoreRank_any x u m W W.heap.size hs (Nat.le_refl _) h)
  have RA := Lib.hid (fun (W : World) u (h : ItemV W W.heap.size u x) => scoreRange_any x u f t W W.heap.size hs (Nat.le_refl _) h bf bt)
  have WI := Lib.hid (fun (W : World) u (h : ItemV W W.heap.size u x) => scoreWithin_any x u f t W W.heap.size hs (Nat.le_refl _) h)
  have PV := Lib.hid (fun (W : World) u A c (h : ItemV W W.heap.size u x) k => putScores_any x u l A c W W.heap.size hs (Nat.le_refl _) h hl hls k)
  have DV := Lib.hid (fun (W : World) u A c (h : ItemV W W.heap.size u x) k => dropScores_any x u fs A c W W.heap.size hs (Nat.le_refl _) h hf k)
  have RV := Lib.hid (fun (W : World) u (h : ItemV W W.heap.size u x) => refRank_any x u m W W.heap.size hs (Nat.le_refl _) h)
  have GV := Lib.hid (fun (W : World) u (h : ItemV W W.heap.size u x) => (show Calls Try.prog 20 #[u, .int .i64 (clampI f), .int .i64 (clampI t)] W (TEPost (range5 x f t) (asCode 5 x) W) from by
    have := refRange_any x u (clampI f) (clampI t) W W.heap.size hs (Nat.le_refl _) h (clampI_le f) (clampI_le t)
    rw [range5_eq] at this
    exact this))
  have IV := Lib.hid (fun (W : World) u (h : ItemV W W.heap.size u x) => (show Calls Try.prog 22 #[u, .int .i64 f, .int .i64 t] W (TEPost (within5 x f t) (asCode 5 x) W) from refWithin_any x u f t W W.heap.size hs (Nat.le_refl _) h))
  have CLF := Lib.hid (fun W => clamped_any f W bf)
  have CLT := Lib.hid (fun W => clamped_any t W bt)
  have S1 := Lib.hid (put5Y_small x l)
  have S2 := Lib.hid (drop5Y_small x fs)
  have N1 := Lib.hid (fun (hc : put5 x l ≠ 0) => (show put5Y x l = newI 0 ∧ put5N x l = 0 from ⟨if_neg hc, if_neg hc⟩))
  have N2 := Lib.hid (fun (hc : asCode 5 x ≠ 0) => (show drop5Y x fs = newI 0 ∧ drop5N x fs = 0 from ⟨if_neg hc, if_neg hc⟩))
  have SM := Lib.hid (fun (W : World) (a : List ByteArray) A1 A2 c1 c2 (ha : a.length ≤ 281474976710656) (h : Sl W W.heap.size 1 (.slice A1 a.length c1) a.length (textsV a)) (k : Sl W W.heap.size 1 (.slice A2 a.length c2) a.length (textsV a)) => (show Calls Try.prog 25 #[.slice A1 a.length c1, .slice A2 a.length c2] W (fun e w' => e = .returned (.bool true) ∧ Fr [] W w') from by
    have := sameTexts_any a a A1 A2 c1 c2 W.heap.size W ha ha (Nat.le_refl _) h k
    rw [show sameT a a = true from by simp [sameT]] at this
    exact this))
  have LR := Lib.hid (range5_len x f t)
  have LI := Lib.hid (within5_len x f t)
  have RC := Lib.hid (fun (h : rankCode x m = 0) => rank_at h)
  have NC := Lib.hid (fun (h : rankCode x m ≠ 0) => (show numN x m = 0 from if_neg h))
  unfold IEPostN at NU RK RV
  have q1 : (numN x m == numN x m) = true := by simp
  have q2 : (rankN x m == rankN x m) = true := by simp
  have q3 : (rankCode x m == rankCode x m) = true := by simp
  have q4 : (asCode 5 x == asCode 5 x) = true := by simp
  have E0 := Lib.hid (Env.start w)
  have E1 := Lib.hid (E0.out.item (h.more hB))
  have E2 := Lib.hid (E1.out.row (hL.more hB))
  have E3 := Lib.hid (E2.out.row (hF.more hB))
  obtain ⟨A1, c1, A2, c2, A3, c3, rfl⟩ := h.form
  have H3 := Lib.hid (show Sl w B 2 (.slice A3 x.scores.length c3) x.scores.length (scoresV x.scores) from by obtain ⟨_, _, _, _, _, _, he, _, _, k3⟩ := h; cases he; exact k3)
  have hsl := hs.scores
  clear h hL hF hs hls
  have E4 := Lib.hid (E3.out.box (.int .i64 x.kind) (.string x.text) (.slice A1 x.list.length c1) (.slice A2 x.pairs.length c2) (.slice A3 x.scores.length c3))
  generalize put5Y x l = y1 at *
  generalize put5N x l = n1 at *
  generalize put5 x l = e1 at *
  generalize drop5Y x fs = y2 at *
  generalize drop5N x fs = n2 at *
  generalize asCode 5 x = e2 at *
  generalize range5 x f t = rl at *
  generalize within5 x f t = il at *
  generalize clampI f = cf' at *
  generalize clampI t = ct' at *
  go_enter Try.func3, Try.ntmps3
  obtain ⟨d0, d1, d2, d3, d4⟩ := five (E4.out.bl _ (.head _))
  go_wp2_with fail
  refine (PU.out _ _ _ _ (E4.out.its _ (.head _)) (E4.out.rs _ (.tail _ (.head _)))).mono ?_
  rintro e w1 ⟨v1, rfl, i1, f1⟩
  have E5 := Lib.hid (E4.out.go f1)
  clear d0 d1 d2 d3 d4
  have E6 := Lib.hid (E5.out.item i1.item)
  obtain ⟨P1, p1, P2, p2, P3, p3, rfl⟩ := i1.form
  clear i1
  have E7 := Lib.hid (E6.out.box (.int .i64 y1.kind) (.string y1.text) (.slice P1 y1.list.length p1) (.slice P2 y1.pairs.length p2) (.slice P3 y1.scores.length p3))
  obtain ⟨d0, d1, d2, d3, d4⟩ := five (E7.out.bl _ (.tail _ (.head _)))
  go_wp2_with fail
  refine (DR.out _ _ _ _ (E7.out.its _ (.tail _ (.head _))) (E7.out.rs _ (.head _))).mono ?_
  rintro e w2 ⟨v2, rfl, i2, f2⟩
  have E8 := Lib.hid (E7.out.go f2)
  clear d0 d1 d2 d3 d4
  have E9 := Lib.hid (E8.out.item i2.item)
  obtain ⟨Q1, q1, Q2, q2, Q3, q3, rfl⟩ := i2.form
  clear i2
  have E10 := Lib.hid (E9.out.box (.int .i64 y2.kind) (.string y2.text) (.slice Q1 y2.list.length q1) (.slice Q2 y2.pairs.length q2) (.slice Q3 y2.scores.length q3))
  obtain ⟨d0, d1, d2, d3, d4⟩ := five (E10.out.bl _ (.tail _ (.tail _ (.head _))))
  go_wp2_with fail
  refine (NU.out _ _ (E10.out.its _ (.tail _ (.tail _ (.head _))))).mono ?_
  rintro e w3 ⟨rfl, f3⟩
  have E11 := Lib.hid (E10.out.go f3)
  clear d0 d1 d2 d3 d4
  obtain ⟨d0, d1, d2, d3, d4⟩ := five (E11.out.bl _ (.tail _ (.tail _ (.head _))))
  go_wp2_with fail
  refine (RK.out _ _ (E11.out.its _ (.tail _ (.tail _ (.head _))))).mono ?_
  rintro e w4 ⟨rfl, f4⟩
  have E12 := Lib.hid (E11.out.go f4)
  clear d0 d1 d2 d3 d4
  obtain ⟨d0, d1, d2, d3, d4⟩ := five (E12.out.bl _ (.tail _ (.tail _ (.head _))))
  go_wp2_with fail
  refine (RA.out _ _ (E12.out.its _ (.tail _ (.tail _ (.head _))))).mono ?_
  rintro e w5 ⟨ur, rfl, or_, f5⟩
  have E13 := Lib.hid (E12.out.go f5)
  have E14 := Lib.hid (E13.out.row (own_sl or_))
  obtain ⟨Ar, cr, rfl, -⟩ := own_slice or_
  clear or_
  clear d0 d1 d2 d3 d4
  obtain ⟨d0, d1, d2, d3, d4⟩ := five (E14.out.bl _ (.tail _ (.tail _ (.head _))))
  go_wp2_with fail
  refine (WI.out _ _ (E14.out.its _ (.tail _ (.tail _ (.head _))))).mono ?_
  rintro e w6 ⟨uw, rfl, ow_, f6⟩
  have E15 := Lib.hid (E14.out.go f6)
  have E16 := Lib.hid (E15.out.row (own_sl ow_))
  obtain ⟨Aw, cw, rfl, -⟩ := own_slice ow_
  clear ow_
  clear d0 d1 d2 d3 d4
  obtain ⟨d0, d1, d2, d3, d4⟩ := five (E16.out.bl _ (.tail _ (.tail _ (.head _))))
  go_wp2_with fail
  refine (PV.out _ _ _ _ (E16.out.its _ (.tail _ (.tail _ (.head _)))) (E16.out.rs _ (.tail _ (.tail _ (.tail _ (.head _)))))).mono ?_
  rintro e w7 ⟨v4, rfl, i4, f7⟩
  have E17 := Lib.hid (E16.out.go f7)
  clear d0 d1 d2 d3 d4
  have E18 := Lib.hid (E17.out.item i4.item)
  obtain ⟨T1, t1, T2, t2, T3, t3, rfl⟩ := i4.form
  clear i4
  have E19 := Lib.hid (E18.out.box (.int .i64 y1.kind) (.string y1.text) (.slice T1 y1.list.length t1) (.slice T2 y1.pairs.length t2) (.slice T3 y1.scores.length t3))
  obtain ⟨d0, d1, d2, d3, d4⟩ := five (E19.out.bl _ (.tail _ (.tail _ (.tail _ (.head _)))))
  go_wp2_with fail
  refine (DV.out _ _ _ _ (E19.out.its _ (.tail _ (.tail _ (.tail _ (.head _))))) (E19.out.rs _ (.tail _ (.tail _ (.head _))))).mono ?_
  rintro e w8 ⟨v6, rfl, i6, f8⟩
  have E20 := Lib.hid (E19.out.go f8)
  clear d0 d1 d2 d3 d4
  have E21 := Lib.hid (E20.out.item i6.item)
  obtain ⟨U1, u1, U2, u2, U3, u3, rfl⟩ := i6.form
  clear i6
  have E22 := Lib.hid (E21.out.box (.int .i64 y2.kind) (.string y2.text) (.slice U1 y2.list.length u1) (.slice U2 y2.pairs.length u2) (.slice U3 y2.scores.length u3))
  obtain ⟨d0, d1, d2, d3, d4⟩ := five (E22.out.bl _ (.tail _ (.tail _ (.tail _ (.tail _ (.head _))))))
  go_wp2_with fail
  refine (RV.out _ _ (E22.out.its _ (.tail _ (.tail _ (.tail _ (.tail _ (.head _))))))).mono ?_
  rintro e w9 ⟨rfl, f9⟩
  have E23 := Lib.hid (E22.out.go f9)
  clear d0 d1 d2 d3 d4
  by_cases hrc : rankCode x m = 0
  · obtain ⟨k, s, r1, r2, r3, -⟩ := RC.out hrc
    rw [hrc, r1, r3] at *
    have hlt := (List.getElem?_eq_some_iff.1 r2).1
    have hs24 : k < 281474976710656 := by omega
    obtain ⟨b, off, rfl, hb, hlc, hcm, hcell⟩ := H3.out.at_ (by omega)
    have hc1 := E23.out.f.cell (hcell _ _ (scoresV_get _ _ s r2).1) (by simp)
    rw [Nat.mul_comm 2 k] at hc1
    unfold maxLen at hcm
    clear r1 r2 r3 hcell RC NC hrc
    obtain ⟨d0, d1, d2, d3, d4⟩ := five (E23.out.bl _ (.tail _ (.tail _ (.tail _ (.tail _ (.head _))))))
    go_wp2
    go_region_held3 (fun wx => wx.cell? ⟨w.heap.size, 0, none⟩ = some (.int .i64 x.kind) ∧ wx.cell? ⟨w.heap.size, 1, none⟩ = some (.string x.text) ∧ wx.cell? ⟨w.heap.size, 2, none⟩ = some (.slice A1 x.list.length c1) ∧ wx.cell? ⟨w.heap.size, 3, none⟩ = some (.slice A2 x.pairs.length c2) ∧ wx.cell? ⟨w.heap.size, 4, none⟩ = some (.slice (some ⟨b, off, none⟩) x.scores.length c3)) (go_keep) (first | (go_at_call 21; (first | (with_reducible refine (CLF.out _).mono ?_) | (with_reducible refine (CLT.out _).mono ?_)); rintro e wq ⟨rfl, rfl⟩) | (go_at_call 20; (refine (GV.out _ _ (E23.out.drew.its _ (.tail _ (.tail _ (.tail _ (.tail _ (.head _))))))).mono ?_); rintro e w10 ⟨u, rfl, ho, fz⟩; have E24 := Lib.hid (E23.out.go (fr_predrew fz)); clear d0 d1 d2 d3 d4 fz; obtain ⟨d0, d1, d2, d3, d4⟩ := five (E24.out.bl _ (.tail _ (.tail _ (.tail _ (.tail _ (.head _)))))); have HOZ := Lib.hid ho; obtain ⟨Sr, sc, rfl, -⟩ := own_slice ho; clear ho))
    have E25 := Lib.hid (E24.out.row (own_sl HOZ.out))
    clear d0 d1 d2 d3 d4
    obtain ⟨d0, d1, d2, d3, d4⟩ := five (E25.out.bl _ (.tail _ (.tail _ (.tail _ (.tail _ (.head _))))))
    go_wp2_with fail
    refine (IV.out _ _ (E25.out.its _ (.tail _ (.tail _ (.tail _ (.tail _ (.head _))))))).mono ?_
    rintro e w11 ⟨uj, rfl, oj, f11⟩
    have E26 := Lib.hid (E25.out.go f11)
    have E27 := Lib.hid (E26.out.row (own_sl oj))
    obtain ⟨Aj, cj, rfl, -⟩ := own_slice oj
    clear oj
    clear d0 d1 d2 d3 d4
    go_wp2_with fail
    refine (scoreBegun_any _).mono ?_
    rintro e w12 ⟨rfl, f12⟩
    have E28 := Lib.hid (E27.out.go f12)
    obtain ⟨d0, d1, d2, d3, d4⟩ := five (E28.out.bl _ (.tail _ (.tail _ (.tail _ (.head _)))))
    obtain ⟨g0, g1, g2, g3, g4⟩ := five (E28.out.bl _ (.tail _ (.head _)))
    go_wp2_with fail
    refine (itemIs_any y1 e1 n1 _ _ _ _ S1.out (Nat.le_refl _) (E28.out.its _ (.tail _ (.tail _ (.tail _ (.head _))))) (E28.out.its _ (.tail _ (.head _))) N1.out).mono ?_
    rintro e w13 ⟨rfl, f13⟩
    have E29 := Lib.hid (E28.out.go f13)
    clear d0 d1 d2 d3 d4 g0 g1 g2 g3 g4
    obtain ⟨d0, d1, d2, d3, d4⟩ := five (E29.out.bl _ (.tail _ (.tail _ (.head _))))
    obtain ⟨g0, g1, g2, g3, g4⟩ := five (E29.out.bl _ (.head _))
    go_wp2_with fail
    refine (itemIs_any y2 e2 n2 _ _ _ _ S2.out (Nat.le_refl _) (E29.out.its _ (.tail _ (.tail _ (.head _)))) (E29.out.its _ (.head _)) N2.out).mono ?_
    rintro e w14 ⟨rfl, f14⟩
    have E30 := Lib.hid (E29.out.go f14)
    clear d0 d1 d2 d3 d4 g0 g1 g2 g3 g4
    go_wp2_with fail
    refine (SM.out _ _ _ _ _ _ LR.out (E30.out.rs _ (.tail _ (.tail _ (.tail _ (.head _))))) (E30.out.rs _ (.tail _ (.head _)))).mono ?_
    rintro e w15 ⟨rfl, f15⟩
    have E31 := Lib.hid (E30.out.go f15)
    go_wp2_with fail
    refine (SM.out _ _ _ _ _ _ LI.out (E31.out.rs _ (.tail _ (.tail _ (.head _)))) (E31.out.rs _ (.head _))).mono ?_
    rintro e w16 ⟨rfl, f16⟩
    have E32 := Lib.hid (E31.out.go f16)
    go_wp2
    go_ret
    exact ⟨rfl, E32.out.f⟩
  · have hn := NC.out hrc
    rw [hn] at *
    have q5 : (rankCode x m == 0) = false := by simpa using hrc
    clear hn RC NC hrc
    generalize rankCode x m = rc at *
    generalize rankN x m = rn at *
    obtain ⟨d0, d1, d2, d3, d4⟩ := five (E23.out.bl _ (.tail _ (.tail _ (.tail _ (.tail _ (.head _))))))
    go_wp2
    go_region_held3 (fun wx => wx.cell? ⟨w.heap.size, 0, none⟩ = some (.int .i64 x.kind) ∧ wx.cell? ⟨w.heap.size, 1, none⟩ = some (.string x.text) ∧ wx.cell? ⟨w.heap.size, 2, none⟩ = some (.slice A1 x.list.length c1) ∧ wx.cell? ⟨w.heap.size, 3, none⟩ = some (.slice A2 x.pairs.length c2) ∧ wx.cell? ⟨w.heap.size, 4, none⟩ = some (.slice A3 x.scores.length c3)) (go_keep) (first | (go_at_call 21; (first | (with_reducible refine (CLF.out _).mono ?_) | (with_reducible refine (CLT.out _).mono ?_)); rintro e wq ⟨rfl, rfl⟩) | (go_at_call 20; (refine (GV.out _ _ (E23.out.drew.its _ (.tail _ (.tail _ (.tail _ (.tail _ (.head _))))))).mono ?_); rintro e w10 ⟨u, rfl, ho, fz⟩; have E24 := Lib.hid (E23.out.go (fr_predrew fz)); clear d0 d1 d2 d3 d4 fz; obtain ⟨d0, d1, d2, d3, d4⟩ := five (E24.out.bl _ (.tail _ (.tail _ (.tail _ (.tail _ (.head _)))))); have HOZ := Lib.hid ho; obtain ⟨Sr, sc, rfl, -⟩ := own_slice ho; clear ho))
    have E25 := Lib.hid (E24.out.row (own_sl HOZ.out))
    clear d0 d1 d2 d3 d4
    obtain ⟨d0, d1, d2, d3, d4⟩ := five (E25.out.bl _ (.tail _ (.tail _ (.tail _ (.tail _ (.head _))))))
    go_wp2_with fail
    refine (IV.out _ _ (E25.out.its _ (.tail _ (.tail _ (.tail _ (.tail _ (.head _))))))).mono ?_
    rintro e w11 ⟨uj, rfl, oj, f11⟩
    have E26 := Lib.hid (E25.out.go f11)
    have E27 := Lib.hid (E26.out.row (own_sl oj))
    obtain ⟨Aj, cj, rfl, -⟩ := own_slice oj
    clear oj
    clear d0 d1 d2 d3 d4
    go_wp2_with fail
    refine (scoreBegun_any _).mono ?_
    rintro e w12 ⟨rfl, f12⟩
    have E28 := Lib.hid (E27.out.go f12)
    obtain ⟨d0, d1, d2, d3, d4⟩ := five (E28.out.bl _ (.tail _ (.tail _ (.tail _ (.head _)))))
    obtain ⟨g0, g1, g2, g3, g4⟩ := five (E28.out.bl _ (.tail _ (.head _)))
    go_wp2_with fail
    refine (itemIs_any y1 e1 n1 _ _ _ _ S1.out (Nat.le_refl _) (E28.out.its _ (.tail _ (.tail _ (.tail _ (.head _))))) (E28.out.its _ (.tail _ (.head _))) N1.out).mono ?_
    rintro e w13 ⟨rfl, f13⟩
    have E29 := Lib.hid (E28.out.go f13)
    clear d0 d1 d2 d3 d4 g0 g1 g2 g3 g4
    obtain ⟨d0, d1, d2, d3, d4⟩ := five (E29.out.bl _ (.tail _ (.tail _ (.head _))))
    obtain ⟨g0, g1, g2, g3, g4⟩ := five (E29.out.bl _ (.head _))
    go_wp2_with fail
    refine (itemIs_any y2 e2 n2 _ _ _ _ S2.out (Nat.le_refl _) (E29.out.its _ (.tail _ (.tail _ (.head _)))) (E29.out.its _ (.head _)) N2.out).mono ?_
    rintro e w14 ⟨rfl, f14⟩
    have E30 := Lib.hid (E29.out.go f14)
    clear d0 d1 d2 d3 d4 g0 g1 g2 g3 g4
    go_wp2_with fail
    refine (SM.out _ _ _ _ _ _ LR.out (E30.out.rs _ (.tail _ (.tail _ (.tail _ (.head _))))) (E30.out.rs _ (.tail _ (.head _)))).mono ?_
    rintro e w15 ⟨rfl, f15⟩
    have E31 := Lib.hid (E30.out.go f15)
    go_wp2_with fail
    refine (SM.out _ _ _ _ _ _ LI.out (E31.out.rs _ (.tail _ (.tail _ (.head _)))) (E31.out.rs _ (.head _))).mono ?_
    rintro e w16 ⟨rfl, f16⟩
    have E32 := Lib.hid (E31.out.go f16)
    go_wp2
    go_ret
    exact ⟨rfl, E32.out.f⟩
end Go.Proofs.Ytmlmiboihjibiaa
