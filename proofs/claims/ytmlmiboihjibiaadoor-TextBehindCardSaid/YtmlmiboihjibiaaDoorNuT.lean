/- The walk of the law TextTells. (Printed by numbers2.py.) -/
import Derived.Test.YtmlmiboihjibiaaDoorNuY
import Derived.Test.YtmlmiboihjibiaaDoorLqF
import Derived.Deep.RegionHeld3
import Derived.WalkLawsBesides
set_option linter.unusedVariables false
set_option linter.unusedSimpArgs false
namespace Go.Proofs.YtmlmiboihjibiaaDoor
open Go.RowKit

theorem apY_small {x : Itm} {s : ByteArray} : (apY x s).Small := by
  by_cases h : apCode x s = 0
  · obtain ⟨_, h1, h2, _⟩ := ap_ok h
    rw [h2]
    exact textI_small (by simp; omega)
  · rw [(ap_no h).1]; exact newI_small 0 (by decide)
theorem adY_small {x : Itm} {n : Int} : (adY x n).Small := by
  by_cases h : adCode x n = 0
  · obtain ⟨_, _, h1, _, _, h2, _⟩ := ad_ok h
    rw [h2]
    exact textI_small (by have := size_itoa h1; omega)
  · rw [(ad_no rfl h).1]; exact newI_small 0 (by decide)
set_option maxHeartbeats 4000000 in
set_option maxRecDepth 100000 in
theorem textTells_any (x : Itm) (v : Value) (s : ByteArray) (n f t : Int) (w : World) (B : Nat) (hs : x.Small) (hB : B ≤ w.heap.size) (h : ItemV w B v x) (bs : s.size ≤ 281474976710656) (bn : -9223372036854775808 ≤ n ∧ n ≤ 9223372036854775807) (bf : -9223372036854775808 ≤ f ∧ f ≤ 9223372036854775807) (bt : -9223372036854775808 ≤ t ∧ t ≤ 9223372036854775807) (hv : Vars w) :
    Calls Tryd.prog 4 #[v, .string s, .int .i64 n, .int .i64 f, .int .i64 t] w fun e w' => e = .returned (.bool true) ∧ Fr [] w w' := by
  have AP := Lib.hid (fun (W : World) u (h : ItemV W W.heap.size u x) => tappend_any x u s W W.heap.size hs (Nat.le_refl _) h bs)
  have AQ := Lib.hid (fun (W : World) u (h : ItemV W W.heap.size u x) => refAppend_any x u s W W.heap.size hs (Nat.le_refl _) h bs)
  have LN := Lib.hid (fun (W : World) u (h : ItemV W W.heap.size u x) => tlen_any x u W W.heap.size hs (Nat.le_refl _) h)
  have AD := Lib.hid (fun (W : World) u (h : ItemV W W.heap.size u x) (k : Vars W) => tadd_any x u n W W.heap.size hs (Nat.le_refl _) h bn k)
  have AE := Lib.hid (fun (W : World) u (h : ItemV W W.heap.size u x) => refAdd_any x u n W W.heap.size hs (Nat.le_refl _) h bn)
  have RG := Lib.hid (fun (W : World) u (h : ItemV W W.heap.size u x) => trange_any x u f t W W.heap.size hs (Nat.le_refl _) h bf bt)
  have CA := Lib.hid (fun (W : World) u (h : ItemV W W.heap.size u x) => checkAs_any x 1 u W W.heap.size hs (Nat.le_refl _) h)
  have CLF := Lib.hid (fun W => clamped_any f W bf)
  have CLT := Lib.hid (fun W => clamped_any t W bt)
  have RT := Lib.hid (fun W (hz : x.text.size ≤ 60) => refText_any x.text (clampI f) (clampI t) W (by omega) (clampI_le f) (clampI_le t))
  have SMA := Lib.hid (apY_small (x := x) (s := s))
  have SMD := Lib.hid (adY_small (x := x) (n := n))
  have N1 := Lib.hid (fun (h : apCode x s ≠ 0) => ap_no h)
  have N2 := Lib.hid (fun (h : adCode x n ≠ 0) => ad_no rfl h)
  have OK := Lib.hid (fun (h : asCode 1 x = 0) => (asOk_of h).text)
  have V := Lib.hid hv
  have HLN := Lib.hid (show lnN x = if asCode 1 x = 0 then (x.text.size : Int) else 0 from rfl)
  have HRG := Lib.hid (show rgS x f t = if asCode 1 x = 0 then x.text.extract (spanA x.text.size f t) (spanB x.text.size f t) else ⟨#[]⟩ from rfl)
  clear hv bn
  have E0 := Lib.hid (Env.start w)
  have E1 := Lib.hid (E0.out.item (h.more hB))
  obtain ⟨A1, c1, A2, c2, A3, c3, rfl⟩ := h.form
  clear h hs bf bt
  have E2 := Lib.hid (E1.out.box (.int .i64 x.kind) (.string x.text) (.slice A1 x.list.length c1) (.slice A2 x.pairs.length c2) (.slice A3 x.scores.length c3))
  generalize apCode x s = ac at *
  generalize apY x s = ay at *
  generalize apN x s = an at *
  generalize adCode x n = dc at *
  generalize adY x n = dy at *
  generalize adN x n = dn at *
  have qac : (ac == ac) = true := by simp
  by_cases ha : asCode 1 x = 0
  · rw [ha] at CA LN RG
    have hz := OK.out ha
    have h1 := HLN.out.trans (if_pos ha)
    have h2 := HRG.out.trans (if_pos ha)
    rw [h1] at LN
    rw [h2, ← range_text x.text f t (by omega)] at RG
    have RT2 := Lib.hid (fun W => RT.out W hz)
    clear h1 h2 HLN HRG OK RT ha
    generalize (⟨(takeR x.text.data.toList (clampI f) (clampI t) x.text.data.toList.length).toArray⟩ : ByteArray) = r at *
    have qr : (r.toList == r.toList) = true := by simp
    go_enter Tryd.func4, Tryd.ntmps4
    obtain ⟨d0, d1, d2, d3, d4⟩ := five (E2.out.bl _ (.head _))
    go_wp2_with fail
    refine (AP.out _ _ (E2.out.its _ (.head _))).mono ?_
    rintro e w1 ⟨v1, rfl, i1, f1⟩
    have E3 := Lib.hid (E2.out.go f1)
    clear d0 d1 d2 d3 d4
    have E4 := Lib.hid (E3.out.item i1.item)
    obtain ⟨P1, p1, P2, p2, P3, p3, rfl⟩ := i1.form
    clear i1
    have E5 := Lib.hid (E4.out.box (.int .i64 ay.kind) (.string ay.text) (.slice P1 ay.list.length p1) (.slice P2 ay.pairs.length p2) (.slice P3 ay.scores.length p3))
    obtain ⟨d0, d1, d2, d3, d4⟩ := five (E5.out.bl _ (.tail _ (.head _)))
    go_wp2_with fail
    refine (LN.out _ _ (E5.out.its _ (.tail _ (.head _)))).mono ?_
    rintro e w2 ⟨rfl, f2⟩
    have E6 := Lib.hid (E5.out.go f2)
    clear d0 d1 d2 d3 d4
    obtain ⟨d0, d1, d2, d3, d4⟩ := five (E6.out.bl _ (.tail _ (.head _)))
    go_wp2_with fail
    refine (AD.out _ _ (E6.out.its _ (.tail _ (.head _))) (V.out.fr E6.out.f)).mono ?_
    rintro e w3 ⟨v2, rfl, i1, f3⟩
    have E7 := Lib.hid (E6.out.go f3)
    clear d0 d1 d2 d3 d4
    have E8 := Lib.hid (E7.out.item i1.item)
    obtain ⟨Q1, q1, Q2, q2, Q3, q3, rfl⟩ := i1.form
    clear i1
    have E9 := Lib.hid (E8.out.box (.int .i64 dy.kind) (.string dy.text) (.slice Q1 dy.list.length q1) (.slice Q2 dy.pairs.length q2) (.slice Q3 dy.scores.length q3))
    obtain ⟨d0, d1, d2, d3, d4⟩ := five (E9.out.bl _ (.tail _ (.tail _ (.head _))))
    go_wp2_with fail
    refine (RG.out _ _ (E9.out.its _ (.tail _ (.tail _ (.head _))))).mono ?_
    rintro e w4 ⟨rfl, f4⟩
    have E10 := Lib.hid (E9.out.go f4)
    clear d0 d1 d2 d3 d4
    obtain ⟨d0, d1, d2, d3, d4⟩ := five (E10.out.bl _ (.tail _ (.tail _ (.head _))))
    go_wp2_with fail
    refine (AQ.out _ _ (E10.out.its _ (.tail _ (.tail _ (.head _))))).mono ?_
    rintro e w5 ⟨v3, rfl, i1, f5⟩
    have E11 := Lib.hid (E10.out.go f5)
    clear d0 d1 d2 d3 d4
    have E12 := Lib.hid (E11.out.item i1.item)
    obtain ⟨R1, r1, R2, r2, R3, r3, rfl⟩ := i1.form
    clear i1
    have E13 := Lib.hid (E12.out.box (.int .i64 ay.kind) (.string ay.text) (.slice R1 ay.list.length r1) (.slice R2 ay.pairs.length r2) (.slice R3 ay.scores.length r3))
    obtain ⟨d0, d1, d2, d3, d4⟩ := five (E13.out.bl _ (.tail _ (.tail _ (.tail _ (.head _)))))
    go_wp2_with fail
    refine (AE.out _ _ (E13.out.its _ (.tail _ (.tail _ (.tail _ (.head _)))))).mono ?_
    rintro e w6 ⟨v4, rfl, i1, f6⟩
    have E14 := Lib.hid (E13.out.go f6)
    clear d0 d1 d2 d3 d4
    have E15 := Lib.hid (E14.out.item i1.item)
    obtain ⟨S1, s1, S2, s2, S3, s3, rfl⟩ := i1.form
    clear i1
    have E16 := Lib.hid (E15.out.box (.int .i64 dy.kind) (.string dy.text) (.slice S1 dy.list.length s1) (.slice S2 dy.pairs.length s2) (.slice S3 dy.scores.length s3))
    obtain ⟨d0, d1, d2, d3, d4⟩ := five (E16.out.bl _ (.tail _ (.tail _ (.tail _ (.tail _ (.head _))))))
    go_wp2_with fail
    refine (CA.out _ _ (E16.out.its _ (.tail _ (.tail _ (.tail _ (.tail _ (.head _))))))).mono ?_
    rintro e w7 ⟨rfl, f7⟩
    have E17 := Lib.hid (E16.out.go f7)
    clear d0 d1 d2 d3 d4
    obtain ⟨d0, d1, d2, d3, d4⟩ := five (E17.out.bl _ (.tail _ (.tail _ (.tail _ (.tail _ (.head _))))))
    go_wp2_with fail
    go_region_held3 (fun wx => wx.cell? ⟨w.heap.size, 1, none⟩ = some (.string x.text)) (go_keep) (first | (go_at_call 16; (first | (with_reducible refine (CLF.out _).mono ?_) | (with_reducible refine (CLT.out _).mono ?_)); rintro e wq ⟨rfl, rfl⟩) | (go_at_call 15; (refine (RT2.out _).mono ?_); rintro e wq ⟨rfl, rfl⟩))
    have E18 := Lib.hid (E17.out.drew)
    go_wp2_with fail
    refine (textBegun_any _ (V.out.fr E18.out.f)).mono ?_
    rintro e w8 ⟨rfl, f8⟩
    have E19 := Lib.hid (E18.out.go f8)
    clear d0 d1 d2 d3 d4
    obtain ⟨d0, d1, d2, d3, d4⟩ := five (E19.out.bl _ (.tail _ (.tail _ (.tail _ (.head _)))))
    obtain ⟨g0, g1, g2, g3, g4⟩ := five (E19.out.bl _ (.tail _ (.head _)))
    go_wp2_with fail
    refine (itemIs_any ay ac an _ _ _ _ SMA.out (Nat.le_refl _) (E19.out.its _ (.tail _ (.tail _ (.tail _ (.head _))))) (E19.out.its _ (.tail _ (.head _))) N1.out).mono ?_
    rintro e w9 ⟨rfl, f9⟩
    have E20 := Lib.hid (E19.out.go f9)
    clear d0 d1 d2 d3 d4 g0 g1 g2 g3 g4
    obtain ⟨d0, d1, d2, d3, d4⟩ := five (E20.out.bl _ (.tail _ (.tail _ (.head _))))
    obtain ⟨g0, g1, g2, g3, g4⟩ := five (E20.out.bl _ (.head _))
    go_wp2_with fail
    refine (itemIs_any dy dc dn _ _ _ _ SMD.out (Nat.le_refl _) (E20.out.its _ (.tail _ (.tail _ (.head _)))) (E20.out.its _ (.head _)) N2.out).mono ?_
    rintro e w10 ⟨rfl, f10⟩
    have E21 := Lib.hid (E20.out.go f10)
    go_wp2
    go_ret
    exact ⟨rfl, E21.out.f⟩
  · have h1 := HLN.out.trans (if_neg ha)
    have h2 := HRG.out.trans (if_neg ha)
    rw [h1] at LN
    rw [h2] at RG
    have q : (asCode 1 x == 0) = false := by simpa using ha
    have qs : (asCode 1 x == asCode 1 x) = true := by simp
    have qr : ((⟨#[]⟩ : ByteArray).toList == (⟨#[]⟩ : ByteArray).toList) = true := by simp
    clear h1 h2 HLN HRG OK RT CLF CLT ha
    generalize asCode 1 x = a at *
    go_enter Tryd.func4, Tryd.ntmps4
    obtain ⟨d0, d1, d2, d3, d4⟩ := five (E2.out.bl _ (.head _))
    go_wp2_with fail
    refine (AP.out _ _ (E2.out.its _ (.head _))).mono ?_
    rintro e w1 ⟨v1, rfl, i1, f1⟩
    have E3 := Lib.hid (E2.out.go f1)
    clear d0 d1 d2 d3 d4
    have E4 := Lib.hid (E3.out.item i1.item)
    obtain ⟨P1, p1, P2, p2, P3, p3, rfl⟩ := i1.form
    clear i1
    have E5 := Lib.hid (E4.out.box (.int .i64 ay.kind) (.string ay.text) (.slice P1 ay.list.length p1) (.slice P2 ay.pairs.length p2) (.slice P3 ay.scores.length p3))
    obtain ⟨d0, d1, d2, d3, d4⟩ := five (E5.out.bl _ (.tail _ (.head _)))
    go_wp2_with fail
    refine (LN.out _ _ (E5.out.its _ (.tail _ (.head _)))).mono ?_
    rintro e w2 ⟨rfl, f2⟩
    have E6 := Lib.hid (E5.out.go f2)
    clear d0 d1 d2 d3 d4
    obtain ⟨d0, d1, d2, d3, d4⟩ := five (E6.out.bl _ (.tail _ (.head _)))
    go_wp2_with fail
    refine (AD.out _ _ (E6.out.its _ (.tail _ (.head _))) (V.out.fr E6.out.f)).mono ?_
    rintro e w3 ⟨v2, rfl, i1, f3⟩
    have E7 := Lib.hid (E6.out.go f3)
    clear d0 d1 d2 d3 d4
    have E8 := Lib.hid (E7.out.item i1.item)
    obtain ⟨Q1, q1, Q2, q2, Q3, q3, rfl⟩ := i1.form
    clear i1
    have E9 := Lib.hid (E8.out.box (.int .i64 dy.kind) (.string dy.text) (.slice Q1 dy.list.length q1) (.slice Q2 dy.pairs.length q2) (.slice Q3 dy.scores.length q3))
    obtain ⟨d0, d1, d2, d3, d4⟩ := five (E9.out.bl _ (.tail _ (.tail _ (.head _))))
    go_wp2_with fail
    refine (RG.out _ _ (E9.out.its _ (.tail _ (.tail _ (.head _))))).mono ?_
    rintro e w4 ⟨rfl, f4⟩
    have E10 := Lib.hid (E9.out.go f4)
    clear d0 d1 d2 d3 d4
    obtain ⟨d0, d1, d2, d3, d4⟩ := five (E10.out.bl _ (.tail _ (.tail _ (.head _))))
    go_wp2_with fail
    refine (AQ.out _ _ (E10.out.its _ (.tail _ (.tail _ (.head _))))).mono ?_
    rintro e w5 ⟨v3, rfl, i1, f5⟩
    have E11 := Lib.hid (E10.out.go f5)
    clear d0 d1 d2 d3 d4
    have E12 := Lib.hid (E11.out.item i1.item)
    obtain ⟨R1, r1, R2, r2, R3, r3, rfl⟩ := i1.form
    clear i1
    have E13 := Lib.hid (E12.out.box (.int .i64 ay.kind) (.string ay.text) (.slice R1 ay.list.length r1) (.slice R2 ay.pairs.length r2) (.slice R3 ay.scores.length r3))
    obtain ⟨d0, d1, d2, d3, d4⟩ := five (E13.out.bl _ (.tail _ (.tail _ (.tail _ (.head _)))))
    go_wp2_with fail
    refine (AE.out _ _ (E13.out.its _ (.tail _ (.tail _ (.tail _ (.head _)))))).mono ?_
    rintro e w6 ⟨v4, rfl, i1, f6⟩
    have E14 := Lib.hid (E13.out.go f6)
    clear d0 d1 d2 d3 d4
    have E15 := Lib.hid (E14.out.item i1.item)
    obtain ⟨S1, s1, S2, s2, S3, s3, rfl⟩ := i1.form
    clear i1
    have E16 := Lib.hid (E15.out.box (.int .i64 dy.kind) (.string dy.text) (.slice S1 dy.list.length s1) (.slice S2 dy.pairs.length s2) (.slice S3 dy.scores.length s3))
    obtain ⟨d0, d1, d2, d3, d4⟩ := five (E16.out.bl _ (.tail _ (.tail _ (.tail _ (.tail _ (.head _))))))
    go_wp2_with fail
    refine (CA.out _ _ (E16.out.its _ (.tail _ (.tail _ (.tail _ (.tail _ (.head _))))))).mono ?_
    rintro e w7 ⟨rfl, f7⟩
    have E17 := Lib.hid (E16.out.go f7)
    go_wp2_with fail
    refine (textBegun_any _ (V.out.fr E17.out.f)).mono ?_
    rintro e w8 ⟨rfl, f8⟩
    have E18 := Lib.hid (E17.out.go f8)
    clear d0 d1 d2 d3 d4
    obtain ⟨d0, d1, d2, d3, d4⟩ := five (E18.out.bl _ (.tail _ (.tail _ (.tail _ (.head _)))))
    obtain ⟨g0, g1, g2, g3, g4⟩ := five (E18.out.bl _ (.tail _ (.head _)))
    go_wp2_with fail
    refine (itemIs_any ay ac an _ _ _ _ SMA.out (Nat.le_refl _) (E18.out.its _ (.tail _ (.tail _ (.tail _ (.head _))))) (E18.out.its _ (.tail _ (.head _))) N1.out).mono ?_
    rintro e w9 ⟨rfl, f9⟩
    have E19 := Lib.hid (E18.out.go f9)
    clear d0 d1 d2 d3 d4 g0 g1 g2 g3 g4
    obtain ⟨d0, d1, d2, d3, d4⟩ := five (E19.out.bl _ (.tail _ (.tail _ (.head _))))
    obtain ⟨g0, g1, g2, g3, g4⟩ := five (E19.out.bl _ (.head _))
    go_wp2_with fail
    refine (itemIs_any dy dc dn _ _ _ _ SMD.out (Nat.le_refl _) (E19.out.its _ (.tail _ (.tail _ (.head _)))) (E19.out.its _ (.head _)) N2.out).mono ?_
    rintro e w10 ⟨rfl, f10⟩
    have E20 := Lib.hid (E19.out.go f10)
    go_wp2
    go_ret
    exact ⟨rfl, E20.out.f⟩
end Go.Proofs.YtmlmiboihjibiaaDoor
