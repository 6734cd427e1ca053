/- The walk of the law TextSum. (Printed by numbers2.py.) -/
import Derived.Test.YtmlmiboihjibiaaDoorNuT
import Derived.WalkLawsBesides
set_option linter.unusedVariables false
set_option linter.unusedSimpArgs false
namespace Go.Proofs.YtmlmiboihjibiaaDoor
open Go.RowKit

theorem isInt_neg {n : Int} (h : isInt n = true) : isInt (-n) = true := by
  unfold isInt at h ⊢
  simp at h ⊢
  omega
theorem isInt_out {n : Int} (h : ¬ isInt n = true) : n > 999999999 ∨ n < -999999999 := by
  unfold isInt at h
  simp at h
  omega
theorem ad_more {x : Itm} {m : Int} (k : Int) (h : adCode x m = 0) (hk : isInt k = true) (hs : isInt (adWas x + k) = true) : adCode x k = 0 ∧ adY x k = textI ⟨(Lib.itoa (adWas x + k)).toArray⟩ ∧ adN x k = adWas x + k := by
  obtain ⟨h1, _, _, h4, _⟩ := ad_ok h
  have hc : adCode x k = 0 := by
    unfold adCode
    rw [if_neg (by simpa using h1), if_neg (fun hh => by rw [h4 hh.1] at hh; cases hh.2), if_pos ⟨hk, hs⟩]
  exact ⟨hc, ad_yes hc rfl⟩
set_option maxHeartbeats 4000000 in
set_option maxRecDepth 100000 in
theorem textSum_any (x : Itm) (v : Value) (m n : Int) (w : World) (B : Nat) (hs : x.Small) (hB : B ≤ w.heap.size) (h : ItemV w B v x) (bm : -9223372036854775808 ≤ m ∧ m ≤ 9223372036854775807) (bn : -9223372036854775808 ≤ n ∧ n ≤ 9223372036854775807) (hv : Vars w) :
    Calls Tryd.prog 3 #[v, .int .i64 m, .int .i64 n] w fun e w' => e = .returned (.bool true) ∧ Fr [] w w' := by
  have AD := Lib.hid (fun (W : World) u (h : ItemV W W.heap.size u x) (k : Vars W) => tadd_any x u m W W.heap.size hs (Nat.le_refl _) h bm k)
  have N1 := Lib.hid (fun (h : adCode x m ≠ 0) => ad_no rfl h)
  have V := Lib.hid hv
  have HX := Lib.hid h
  have HS := Lib.hid hs
  clear hv
  have E0 := Lib.hid (Env.start w)
  have E1 := Lib.hid (E0.out.item (h.more hB))
  obtain ⟨A1, c1, A2, c2, A3, c3, rfl⟩ := h.form
  clear h hs
  have E2 := Lib.hid (E1.out.box (.int .i64 x.kind) (.string x.text) (.slice A1 x.list.length c1) (.slice A2 x.pairs.length c2) (.slice A3 x.scores.length c3))
  by_cases he : adCode x m = 0
  · obtain ⟨hA, im, is, hL, iw, hy, hn⟩ := ad_ok he
    have hneg := ad_text_ok (n := -m) is (isInt_neg im) (by rw [show adWas x + m + -m = adWas x by omega]; exact iw)
    rw [show adWas x + m + -m = adWas x by omega] at hneg
    have A2c := Lib.hid (fun (W : World) u (h : ItemV W W.heap.size u (textI ⟨(Lib.itoa (adWas x + m)).toArray⟩)) (k : Vars W) => (show Calls Tryd.prog 7 #[u, .int .i64 (-m)] W (INPost (adWas x) 0 (textI ⟨(Lib.itoa (adWas x)).toArray⟩) W) from by
      have := tadd_any _ u (-m) W W.heap.size (textI_small (by have := size_itoa is; omega)) (Nat.le_refl _) h (by have := isInt_bounds im; omega) k
      rw [hneg.1, hneg.2.1, hneg.2.2] at this
      exact this))
    have RG := Lib.hid (fun (W : World) u (h : ItemV W W.heap.size u x) => (show Calls Tryd.prog 8 #[u, .int .i64 0, .int .i64 (-1)] W (SEPost x.text 0 W) from by
      have := trange_any x u 0 (-1) W W.heap.size HS.out (Nat.le_refl _) h (by decide) (by decide)
      rw [rg_all hA, hA] at this
      exact this))
    have A3c := Lib.hid (fun (W : World) u (h : ItemV W W.heap.size u (textI ⟨(Lib.itoa (adWas x + m)).toArray⟩)) (k : Vars W) => tadd_any _ u n W W.heap.size (textI_small (by have := size_itoa is; omega)) (Nat.le_refl _) h bn k)
    have C3 := Lib.hid (ad_text (n := n) is)
    have O3 := Lib.hid (fun hn hs => ad_text_ok (n := n) is hn hs)
    have A4c := Lib.hid (fun (W : World) u (h : ItemV W W.heap.size u x) (k : Vars W) (hn : isInt n = true) (hmn : isInt (m + n) = true) (hs2 : isInt (adWas x + m + n) = true) => (show Calls Tryd.prog 7 #[u, .int .i64 (m + n)] W (INPost (adWas x + m + n) 0 (textI ⟨(Lib.itoa (adWas x + m + n)).toArray⟩) W) from by
      have := tadd_any x u (m + n) W W.heap.size HS.out (Nat.le_refl _) h (by have := isInt_bounds hmn; omega) k
      have e : adWas x + (m + n) = adWas x + m + n := by omega
      obtain ⟨r1, r2, r3⟩ := ad_more (m + n) he hmn (by rw [e]; exact hs2)
      rw [r1, r2, r3, e] at this
      exact this))
    rw [he, hy, hn] at AD
    obtain ⟨m1, m2⟩ := isInt_bounds im
    obtain ⟨u1, u2⟩ := isInt_bounds iw
    obtain ⟨s1, s2⟩ := isInt_bounds is
    have KE : (x.kind = 0 ∧ Hid (x.text.toList == ([] : List UInt8)) ∧ True) ∨ True := .inr trivial
    clear KE
    have K0 := Lib.hid (fun (hk : x.kind = 0) => (show (x.text.toList == ([] : List UInt8)) = true ∧ ((textI ⟨(Lib.itoa (adWas x)).toArray⟩).text.toList == ([48] : List UInt8)) = true from by
      have h0 := bare_empty hA hk
      have e : x.text = ⟨#[]⟩ := ba_eq (by
        have : x.text.data.toList.length = 0 := by simpa using h0
        rw [List.eq_nil_of_length_eq_zero this])
      have ew : adWas x = 0 := by unfold adWas; rw [if_pos hk]
      rw [ew, e]
      exact ⟨by simp [ByteArray.toList_eq], by simp [textI, ByteArray.toList_eq, Lib.itoa, Lib.decDigits]⟩))
    have K1 := Lib.hid (fun (hk : ¬ x.kind = 0) => (show (x.text.toList == ([] : List UInt8)) = false ∧ ((textI ⟨(Lib.itoa (adWas x)).toArray⟩).text.toList == x.text.toList) = true from by
      have h1 := intL_iff.1 (hL hk)
      have e : x.text = ⟨(Lib.itoa (adWas x)).toArray⟩ := ba_eq (by rw [h1.2])
      refine ⟨?_, by rw [← e]; simp [textI]⟩
      have := (itoa_len h1.1).1
      rw [← h1.2] at this
      rw [ByteArray.toList_eq]
      cases hl : x.text.data.toList with
      | nil => rw [hl] at this; simp at this
      | cons c r => rfl))
    have SI := Lib.hid (fun (W : World) (y : Itm) v u (hy : y.Small) (h : ItemV W W.heap.size v y) (k : ItemV W W.heap.size u y) => (show Calls Tryd.prog 9 #[v, u] W fun e w' => e = .returned (.bool true) ∧ Fr [] W w' from by
      have := sameItem_any y y v u W W.heap.size hy hy (Nat.le_refl _) h k
      rw [sameI_refl] at this
      exact this))
    have TS := Lib.hid (fun (h : isInt (adWas x + m + n) = true) => (show (textI ⟨(Lib.itoa (adWas x + m + n)).toArray⟩).Small from textI_small (by have := size_itoa h; omega)))
    clear he hy hn hA im is hL iw hneg N1 HX bm HS
    generalize adWas x = u at *
    generalize (textI ⟨(Lib.itoa (u + m)).toArray⟩) = ya at *
    generalize (textI ⟨(Lib.itoa u).toArray⟩) = yz at *
    generalize (textI ⟨(Lib.itoa (u + m + n)).toArray⟩) = yb at *
    by_cases hk : x.kind = 0
    · obtain ⟨k1, k2⟩ := K0.out hk
      clear K0 K1 hk
      by_cases hc : isInt n = true ∧ isInt (u + m + n) = true
      · obtain ⟨r1, r2, r3⟩ := O3.out hc.1 hc.2
        rw [r1, r2, r3] at A3c
        obtain ⟨n1, n2⟩ := isInt_bounds hc.1
        obtain ⟨t1, t2⟩ := isInt_bounds hc.2
        clear r1 r2 r3 C3 O3
        by_cases hmn : isInt (m + n) = true
        · obtain ⟨o1, o2⟩ := isInt_bounds hmn
          have TSY := TS.out hc.2
          have A4d := Lib.hid (fun W u h k => A4c.out W u h k hc.1 hmn hc.2)
          clear hc hmn TS A4c
          go_enter Tryd.func3, Tryd.ntmps3
          go_wp2_with fail
          refine (textBegun_any _ (V.out.fr E2.out.f)).mono ?_
          rintro e w1 ⟨rfl, f1⟩
          have E3 := Lib.hid (E2.out.go f1)
          obtain ⟨d0, d1, d2, d3, d4⟩ := five (E3.out.bl _ (.head _))
          go_wp2_with fail
          refine (AD.out _ _ (E3.out.its _ (.head _)) (V.out.fr E3.out.f)).mono ?_
          rintro e w2 ⟨v1, rfl, i1, f2⟩
          have E4 := Lib.hid (E3.out.go f2)
          clear d0 d1 d2 d3 d4
          have E5 := Lib.hid (E4.out.item i1.item)
          obtain ⟨P1, p1, P2, p2, P3, p3, rfl⟩ := i1.form
          clear i1
          have E6 := Lib.hid (E5.out.box (.int .i64 ya.kind) (.string ya.text) (.slice P1 ya.list.length p1) (.slice P2 ya.pairs.length p2) (.slice P3 ya.scores.length p3))
          obtain ⟨d0, d1, d2, d3, d4⟩ := five (E6.out.bl _ (.head _))
          go_wp2_with fail
          refine (A2c.out _ _ (E6.out.its _ (.head _)) (V.out.fr E6.out.f)).mono ?_
          rintro e w3 ⟨v2, rfl, i2, f3⟩
          have E7 := Lib.hid (E6.out.go f3)
          clear d0 d1 d2 d3 d4
          have E8 := Lib.hid (E7.out.item i2.item)
          obtain ⟨Q1, q1, Q2, q2, Q3, q3, rfl⟩ := i2.form
          clear i2
          have E9 := Lib.hid (E8.out.box (.int .i64 yz.kind) (.string yz.text) (.slice Q1 yz.list.length q1) (.slice Q2 yz.pairs.length q2) (.slice Q3 yz.scores.length q3))
          obtain ⟨d0, d1, d2, d3, d4⟩ := five (E9.out.bl _ (.tail _ (.tail _ (.head _))))
          go_wp2_with fail
          refine (RG.out _ _ (E9.out.its _ (.tail _ (.tail _ (.head _))))).mono ?_
          rintro e w4 ⟨rfl, f4⟩
          have E10 := Lib.hid (E9.out.go f4)
          clear d0 d1 d2 d3 d4
          obtain ⟨d0, d1, d2, d3, d4⟩ := five (E10.out.bl _ (.head _))
          obtain ⟨g0, g1, g2, g3, g4⟩ := five (E10.out.bl _ (.tail _ (.head _)))
          go_wp2_with fail
          refine (A3c.out _ _ (E10.out.its _ (.tail _ (.head _))) (V.out.fr E10.out.f)).mono ?_
          rintro e w5 ⟨v3, rfl, i3, f5⟩
          have E11 := Lib.hid (E10.out.go f5)
          clear d0 d1 d2 d3 d4 g0 g1 g2 g3 g4
          have E12 := Lib.hid (E11.out.item i3.item)
          obtain ⟨R1, r1, R2, r2, R3, r3, rfl⟩ := i3.form
          clear i3
          have E13 := Lib.hid (E12.out.box (.int .i64 yb.kind) (.string yb.text) (.slice R1 yb.list.length r1) (.slice R2 yb.pairs.length r2) (.slice R3 yb.scores.length r3))
          obtain ⟨d0, d1, d2, d3, d4⟩ := five (E13.out.bl _ (.tail _ (.tail _ (.tail _ (.head _)))))
          go_wp2_with fail
          refine (A4d.out _ _ (E13.out.its _ (.tail _ (.tail _ (.tail _ (.head _))))) (V.out.fr E13.out.f)).mono ?_
          rintro e w6 ⟨v4, rfl, i4, f6⟩
          have E14 := Lib.hid (E13.out.go f6)
          clear d0 d1 d2 d3 d4
          have E15 := Lib.hid (E14.out.item i4.item)
          obtain ⟨S1, s1, S2, s2, S3, s3, rfl⟩ := i4.form
          clear i4
          have E16 := Lib.hid (E15.out.box (.int .i64 yb.kind) (.string yb.text) (.slice S1 yb.list.length s1) (.slice S2 yb.pairs.length s2) (.slice S3 yb.scores.length s3))
          obtain ⟨d0, d1, d2, d3, d4⟩ := five (E16.out.bl _ (.tail _ (.head _)))
          obtain ⟨g0, g1, g2, g3, g4⟩ := five (E16.out.bl _ (.head _))
          go_wp2_with fail
          refine (SI.out _ yb _ _ TSY (E16.out.its _ (.tail _ (.head _))) (E16.out.its _ (.head _))).mono ?_
          rintro e w7 ⟨rfl, f7⟩
          have E17 := Lib.hid (E16.out.go f7)
          go_wp2
          go_ret
          exact ⟨rfl, E17.out.f⟩
        · clear TS A4c SI
          rcases isInt_out hmn with ho | ho
          · clear hmn hc
            go_enter Tryd.func3, Tryd.ntmps3
            go_wp2_with fail
            refine (textBegun_any _ (V.out.fr E2.out.f)).mono ?_
            rintro e w1 ⟨rfl, f1⟩
            have E3 := Lib.hid (E2.out.go f1)
            obtain ⟨d0, d1, d2, d3, d4⟩ := five (E3.out.bl _ (.head _))
            go_wp2_with fail
            refine (AD.out _ _ (E3.out.its _ (.head _)) (V.out.fr E3.out.f)).mono ?_
            rintro e w2 ⟨v1, rfl, i1, f2⟩
            have E4 := Lib.hid (E3.out.go f2)
            clear d0 d1 d2 d3 d4
            have E5 := Lib.hid (E4.out.item i1.item)
            obtain ⟨P1, p1, P2, p2, P3, p3, rfl⟩ := i1.form
            clear i1
            have E6 := Lib.hid (E5.out.box (.int .i64 ya.kind) (.string ya.text) (.slice P1 ya.list.length p1) (.slice P2 ya.pairs.length p2) (.slice P3 ya.scores.length p3))
            obtain ⟨d0, d1, d2, d3, d4⟩ := five (E6.out.bl _ (.head _))
            go_wp2_with fail
            refine (A2c.out _ _ (E6.out.its _ (.head _)) (V.out.fr E6.out.f)).mono ?_
            rintro e w3 ⟨v2, rfl, i2, f3⟩
            have E7 := Lib.hid (E6.out.go f3)
            clear d0 d1 d2 d3 d4
            have E8 := Lib.hid (E7.out.item i2.item)
            obtain ⟨Q1, q1, Q2, q2, Q3, q3, rfl⟩ := i2.form
            clear i2
            have E9 := Lib.hid (E8.out.box (.int .i64 yz.kind) (.string yz.text) (.slice Q1 yz.list.length q1) (.slice Q2 yz.pairs.length q2) (.slice Q3 yz.scores.length q3))
            obtain ⟨d0, d1, d2, d3, d4⟩ := five (E9.out.bl _ (.tail _ (.tail _ (.head _))))
            go_wp2_with fail
            refine (RG.out _ _ (E9.out.its _ (.tail _ (.tail _ (.head _))))).mono ?_
            rintro e w4 ⟨rfl, f4⟩
            have E10 := Lib.hid (E9.out.go f4)
            clear d0 d1 d2 d3 d4
            obtain ⟨d0, d1, d2, d3, d4⟩ := five (E10.out.bl _ (.head _))
            obtain ⟨g0, g1, g2, g3, g4⟩ := five (E10.out.bl _ (.tail _ (.head _)))
            go_wp2_with fail
            refine (A3c.out _ _ (E10.out.its _ (.tail _ (.head _))) (V.out.fr E10.out.f)).mono ?_
            rintro e w5 ⟨v3, rfl, i3, f5⟩
            have E11 := Lib.hid (E10.out.go f5)
            clear d0 d1 d2 d3 d4 g0 g1 g2 g3 g4
            have E12 := Lib.hid (E11.out.item i3.item)
            obtain ⟨R1, r1, R2, r2, R3, r3, rfl⟩ := i3.form
            clear i3
            have E13 := Lib.hid (E12.out.box (.int .i64 yb.kind) (.string yb.text) (.slice R1 yb.list.length r1) (.slice R2 yb.pairs.length r2) (.slice R3 yb.scores.length r3))
            go_wp2
            go_ret
            exact ⟨rfl, E13.out.f⟩
          · clear hmn hc
            go_enter Tryd.func3, Tryd.ntmps3
            go_wp2_with fail
            refine (textBegun_any _ (V.out.fr E2.out.f)).mono ?_
            rintro e w1 ⟨rfl, f1⟩
            have E3 := Lib.hid (E2.out.go f1)
            obtain ⟨d0, d1, d2, d3, d4⟩ := five (E3.out.bl _ (.head _))
            go_wp2_with fail
            refine (AD.out _ _ (E3.out.its _ (.head _)) (V.out.fr E3.out.f)).mono ?_
            rintro e w2 ⟨v1, rfl, i1, f2⟩
            have E4 := Lib.hid (E3.out.go f2)
            clear d0 d1 d2 d3 d4
            have E5 := Lib.hid (E4.out.item i1.item)
            obtain ⟨P1, p1, P2, p2, P3, p3, rfl⟩ := i1.form
            clear i1
            have E6 := Lib.hid (E5.out.box (.int .i64 ya.kind) (.string ya.text) (.slice P1 ya.list.length p1) (.slice P2 ya.pairs.length p2) (.slice P3 ya.scores.length p3))
            obtain ⟨d0, d1, d2, d3, d4⟩ := five (E6.out.bl _ (.head _))
            go_wp2_with fail
            refine (A2c.out _ _ (E6.out.its _ (.head _)) (V.out.fr E6.out.f)).mono ?_
            rintro e w3 ⟨v2, rfl, i2, f3⟩
            have E7 := Lib.hid (E6.out.go f3)
            clear d0 d1 d2 d3 d4
            have E8 := Lib.hid (E7.out.item i2.item)
            obtain ⟨Q1, q1, Q2, q2, Q3, q3, rfl⟩ := i2.form
            clear i2
            have E9 := Lib.hid (E8.out.box (.int .i64 yz.kind) (.string yz.text) (.slice Q1 yz.list.length q1) (.slice Q2 yz.pairs.length q2) (.slice Q3 yz.scores.length q3))
            obtain ⟨d0, d1, d2, d3, d4⟩ := five (E9.out.bl _ (.tail _ (.tail _ (.head _))))
            go_wp2_with fail
            refine (RG.out _ _ (E9.out.its _ (.tail _ (.tail _ (.head _))))).mono ?_
            rintro e w4 ⟨rfl, f4⟩
            have E10 := Lib.hid (E9.out.go f4)
            clear d0 d1 d2 d3 d4
            obtain ⟨d0, d1, d2, d3, d4⟩ := five (E10.out.bl _ (.head _))
            obtain ⟨g0, g1, g2, g3, g4⟩ := five (E10.out.bl _ (.tail _ (.head _)))
            go_wp2_with fail
            refine (A3c.out _ _ (E10.out.its _ (.tail _ (.head _))) (V.out.fr E10.out.f)).mono ?_
            rintro e w5 ⟨v3, rfl, i3, f5⟩
            have E11 := Lib.hid (E10.out.go f5)
            clear d0 d1 d2 d3 d4 g0 g1 g2 g3 g4
            have E12 := Lib.hid (E11.out.item i3.item)
            obtain ⟨R1, r1, R2, r2, R3, r3, rfl⟩ := i3.form
            clear i3
            have E13 := Lib.hid (E12.out.box (.int .i64 yb.kind) (.string yb.text) (.slice R1 yb.list.length r1) (.slice R2 yb.pairs.length r2) (.slice R3 yb.scores.length r3))
            go_wp2
            go_ret
            exact ⟨rfl, E13.out.f⟩
      · have r1 := C3.out.trans (if_neg hc)
        rw [r1] at A3c
        clear r1 C3 O3 hc TS A4c SI
        generalize adY ya n = yc at *
        go_enter Tryd.func3, Tryd.ntmps3
        go_wp2_with fail
        refine (textBegun_any _ (V.out.fr E2.out.f)).mono ?_
        rintro e w1 ⟨rfl, f1⟩
        have E3 := Lib.hid (E2.out.go f1)
        obtain ⟨d0, d1, d2, d3, d4⟩ := five (E3.out.bl _ (.head _))
        go_wp2_with fail
        refine (AD.out _ _ (E3.out.its _ (.head _)) (V.out.fr E3.out.f)).mono ?_
        rintro e w2 ⟨v1, rfl, i1, f2⟩
        have E4 := Lib.hid (E3.out.go f2)
        clear d0 d1 d2 d3 d4
        have E5 := Lib.hid (E4.out.item i1.item)
        obtain ⟨P1, p1, P2, p2, P3, p3, rfl⟩ := i1.form
        clear i1
        have E6 := Lib.hid (E5.out.box (.int .i64 ya.kind) (.string ya.text) (.slice P1 ya.list.length p1) (.slice P2 ya.pairs.length p2) (.slice P3 ya.scores.length p3))
        obtain ⟨d0, d1, d2, d3, d4⟩ := five (E6.out.bl _ (.head _))
        go_wp2_with fail
        refine (A2c.out _ _ (E6.out.its _ (.head _)) (V.out.fr E6.out.f)).mono ?_
        rintro e w3 ⟨v2, rfl, i2, f3⟩
        have E7 := Lib.hid (E6.out.go f3)
        clear d0 d1 d2 d3 d4
        have E8 := Lib.hid (E7.out.item i2.item)
        obtain ⟨Q1, q1, Q2, q2, Q3, q3, rfl⟩ := i2.form
        clear i2
        have E9 := Lib.hid (E8.out.box (.int .i64 yz.kind) (.string yz.text) (.slice Q1 yz.list.length q1) (.slice Q2 yz.pairs.length q2) (.slice Q3 yz.scores.length q3))
        obtain ⟨d0, d1, d2, d3, d4⟩ := five (E9.out.bl _ (.tail _ (.tail _ (.head _))))
        go_wp2_with fail
        refine (RG.out _ _ (E9.out.its _ (.tail _ (.tail _ (.head _))))).mono ?_
        rintro e w4 ⟨rfl, f4⟩
        have E10 := Lib.hid (E9.out.go f4)
        clear d0 d1 d2 d3 d4
        obtain ⟨d0, d1, d2, d3, d4⟩ := five (E10.out.bl _ (.head _))
        obtain ⟨g0, g1, g2, g3, g4⟩ := five (E10.out.bl _ (.tail _ (.head _)))
        go_wp2_with fail
        refine (A3c.out _ _ (E10.out.its _ (.tail _ (.head _))) (V.out.fr E10.out.f)).mono ?_
        rintro e w5 ⟨v3, rfl, i3, f5⟩
        have E11 := Lib.hid (E10.out.go f5)
        clear d0 d1 d2 d3 d4 g0 g1 g2 g3 g4
        have E12 := Lib.hid (E11.out.item i3.item)
        obtain ⟨R1, r1, R2, r2, R3, r3, rfl⟩ := i3.form
        clear i3
        have E13 := Lib.hid (E12.out.box (.int .i64 yc.kind) (.string yc.text) (.slice R1 yc.list.length r1) (.slice R2 yc.pairs.length r2) (.slice R3 yc.scores.length r3))
        go_wp2
        go_ret
        exact ⟨rfl, E13.out.f⟩
    · obtain ⟨k1, k2⟩ := K1.out hk
      clear K0 K1 hk
      by_cases hc : isInt n = true ∧ isInt (u + m + n) = true
      · obtain ⟨r1, r2, r3⟩ := O3.out hc.1 hc.2
        rw [r1, r2, r3] at A3c
        obtain ⟨n1, n2⟩ := isInt_bounds hc.1
        obtain ⟨t1, t2⟩ := isInt_bounds hc.2
        clear r1 r2 r3 C3 O3
        by_cases hmn : isInt (m + n) = true
        · obtain ⟨o1, o2⟩ := isInt_bounds hmn
          have TSY := TS.out hc.2
          have A4d := Lib.hid (fun W u h k => A4c.out W u h k hc.1 hmn hc.2)
          clear hc hmn TS A4c
          go_enter Tryd.func3, Tryd.ntmps3
          go_wp2_with fail
          refine (textBegun_any _ (V.out.fr E2.out.f)).mono ?_
          rintro e w1 ⟨rfl, f1⟩
          have E3 := Lib.hid (E2.out.go f1)
          obtain ⟨d0, d1, d2, d3, d4⟩ := five (E3.out.bl _ (.head _))
          go_wp2_with fail
          refine (AD.out _ _ (E3.out.its _ (.head _)) (V.out.fr E3.out.f)).mono ?_
          rintro e w2 ⟨v1, rfl, i1, f2⟩
          have E4 := Lib.hid (E3.out.go f2)
          clear d0 d1 d2 d3 d4
          have E5 := Lib.hid (E4.out.item i1.item)
          obtain ⟨P1, p1, P2, p2, P3, p3, rfl⟩ := i1.form
          clear i1
          have E6 := Lib.hid (E5.out.box (.int .i64 ya.kind) (.string ya.text) (.slice P1 ya.list.length p1) (.slice P2 ya.pairs.length p2) (.slice P3 ya.scores.length p3))
          obtain ⟨d0, d1, d2, d3, d4⟩ := five (E6.out.bl _ (.head _))
          go_wp2_with fail
          refine (A2c.out _ _ (E6.out.its _ (.head _)) (V.out.fr E6.out.f)).mono ?_
          rintro e w3 ⟨v2, rfl, i2, f3⟩
          have E7 := Lib.hid (E6.out.go f3)
          clear d0 d1 d2 d3 d4
          have E8 := Lib.hid (E7.out.item i2.item)
          obtain ⟨Q1, q1, Q2, q2, Q3, q3, rfl⟩ := i2.form
          clear i2
          have E9 := Lib.hid (E8.out.box (.int .i64 yz.kind) (.string yz.text) (.slice Q1 yz.list.length q1) (.slice Q2 yz.pairs.length q2) (.slice Q3 yz.scores.length q3))
          obtain ⟨d0, d1, d2, d3, d4⟩ := five (E9.out.bl _ (.tail _ (.tail _ (.head _))))
          go_wp2_with fail
          refine (RG.out _ _ (E9.out.its _ (.tail _ (.tail _ (.head _))))).mono ?_
          rintro e w4 ⟨rfl, f4⟩
          have E10 := Lib.hid (E9.out.go f4)
          clear d0 d1 d2 d3 d4
          obtain ⟨d0, d1, d2, d3, d4⟩ := five (E10.out.bl _ (.head _))
          obtain ⟨g0, g1, g2, g3, g4⟩ := five (E10.out.bl _ (.tail _ (.head _)))
          go_wp2_with fail
          refine (A3c.out _ _ (E10.out.its _ (.tail _ (.head _))) (V.out.fr E10.out.f)).mono ?_
          rintro e w5 ⟨v3, rfl, i3, f5⟩
          have E11 := Lib.hid (E10.out.go f5)
          clear d0 d1 d2 d3 d4 g0 g1 g2 g3 g4
          have E12 := Lib.hid (E11.out.item i3.item)
          obtain ⟨R1, r1, R2, r2, R3, r3, rfl⟩ := i3.form
          clear i3
          have E13 := Lib.hid (E12.out.box (.int .i64 yb.kind) (.string yb.text) (.slice R1 yb.list.length r1) (.slice R2 yb.pairs.length r2) (.slice R3 yb.scores.length r3))
          obtain ⟨d0, d1, d2, d3, d4⟩ := five (E13.out.bl _ (.tail _ (.tail _ (.tail _ (.head _)))))
          go_wp2_with fail
          refine (A4d.out _ _ (E13.out.its _ (.tail _ (.tail _ (.tail _ (.head _))))) (V.out.fr E13.out.f)).mono ?_
          rintro e w6 ⟨v4, rfl, i4, f6⟩
          have E14 := Lib.hid (E13.out.go f6)
          clear d0 d1 d2 d3 d4
          have E15 := Lib.hid (E14.out.item i4.item)
          obtain ⟨S1, s1, S2, s2, S3, s3, rfl⟩ := i4.form
          clear i4
          have E16 := Lib.hid (E15.out.box (.int .i64 yb.kind) (.string yb.text) (.slice S1 yb.list.length s1) (.slice S2 yb.pairs.length s2) (.slice S3 yb.scores.length s3))
          obtain ⟨d0, d1, d2, d3, d4⟩ := five (E16.out.bl _ (.tail _ (.head _)))
          obtain ⟨g0, g1, g2, g3, g4⟩ := five (E16.out.bl _ (.head _))
          go_wp2_with fail
          refine (SI.out _ yb _ _ TSY (E16.out.its _ (.tail _ (.head _))) (E16.out.its _ (.head _))).mono ?_
          rintro e w7 ⟨rfl, f7⟩
          have E17 := Lib.hid (E16.out.go f7)
          go_wp2
          go_ret
          exact ⟨rfl, E17.out.f⟩
        · clear TS A4c SI
          rcases isInt_out hmn with ho | ho
          · clear hmn hc
            go_enter Tryd.func3, Tryd.ntmps3
            go_wp2_with fail
            refine (textBegun_any _ (V.out.fr E2.out.f)).mono ?_
            rintro e w1 ⟨rfl, f1⟩
            have E3 := Lib.hid (E2.out.go f1)
            obtain ⟨d0, d1, d2, d3, d4⟩ := five (E3.out.bl _ (.head _))
            go_wp2_with fail
            refine (AD.out _ _ (E3.out.its _ (.head _)) (V.out.fr E3.out.f)).mono ?_
            rintro e w2 ⟨v1, rfl, i1, f2⟩
            have E4 := Lib.hid (E3.out.go f2)
            clear d0 d1 d2 d3 d4
            have E5 := Lib.hid (E4.out.item i1.item)
            obtain ⟨P1, p1, P2, p2, P3, p3, rfl⟩ := i1.form
            clear i1
            have E6 := Lib.hid (E5.out.box (.int .i64 ya.kind) (.string ya.text) (.slice P1 ya.list.length p1) (.slice P2 ya.pairs.length p2) (.slice P3 ya.scores.length p3))
            obtain ⟨d0, d1, d2, d3, d4⟩ := five (E6.out.bl _ (.head _))
            go_wp2_with fail
            refine (A2c.out _ _ (E6.out.its _ (.head _)) (V.out.fr E6.out.f)).mono ?_
            rintro e w3 ⟨v2, rfl, i2, f3⟩
            have E7 := Lib.hid (E6.out.go f3)
            clear d0 d1 d2 d3 d4
            have E8 := Lib.hid (E7.out.item i2.item)
            obtain ⟨Q1, q1, Q2, q2, Q3, q3, rfl⟩ := i2.form
            clear i2
            have E9 := Lib.hid (E8.out.box (.int .i64 yz.kind) (.string yz.text) (.slice Q1 yz.list.length q1) (.slice Q2 yz.pairs.length q2) (.slice Q3 yz.scores.length q3))
            obtain ⟨d0, d1, d2, d3, d4⟩ := five (E9.out.bl _ (.tail _ (.tail _ (.head _))))
            go_wp2_with fail
            refine (RG.out _ _ (E9.out.its _ (.tail _ (.tail _ (.head _))))).mono ?_
            rintro e w4 ⟨rfl, f4⟩
            have E10 := Lib.hid (E9.out.go f4)
            clear d0 d1 d2 d3 d4
            obtain ⟨d0, d1, d2, d3, d4⟩ := five (E10.out.bl _ (.head _))
            obtain ⟨g0, g1, g2, g3, g4⟩ := five (E10.out.bl _ (.tail _ (.head _)))
            go_wp2_with fail
            refine (A3c.out _ _ (E10.out.its _ (.tail _ (.head _))) (V.out.fr E10.out.f)).mono ?_
            rintro e w5 ⟨v3, rfl, i3, f5⟩
            have E11 := Lib.hid (E10.out.go f5)
            clear d0 d1 d2 d3 d4 g0 g1 g2 g3 g4
            have E12 := Lib.hid (E11.out.item i3.item)
            obtain ⟨R1, r1, R2, r2, R3, r3, rfl⟩ := i3.form
            clear i3
            have E13 := Lib.hid (E12.out.box (.int .i64 yb.kind) (.string yb.text) (.slice R1 yb.list.length r1) (.slice R2 yb.pairs.length r2) (.slice R3 yb.scores.length r3))
            go_wp2
            go_ret
            exact ⟨rfl, E13.out.f⟩
          · clear hmn hc
            go_enter Tryd.func3, Tryd.ntmps3
            go_wp2_with fail
            refine (textBegun_any _ (V.out.fr E2.out.f)).mono ?_
            rintro e w1 ⟨rfl, f1⟩
            have E3 := Lib.hid (E2.out.go f1)
            obtain ⟨d0, d1, d2, d3, d4⟩ := five (E3.out.bl _ (.head _))
            go_wp2_with fail
            refine (AD.out _ _ (E3.out.its _ (.head _)) (V.out.fr E3.out.f)).mono ?_
            rintro e w2 ⟨v1, rfl, i1, f2⟩
            have E4 := Lib.hid (E3.out.go f2)
            clear d0 d1 d2 d3 d4
            have E5 := Lib.hid (E4.out.item i1.item)
            obtain ⟨P1, p1, P2, p2, P3, p3, rfl⟩ := i1.form
            clear i1
            have E6 := Lib.hid (E5.out.box (.int .i64 ya.kind) (.string ya.text) (.slice P1 ya.list.length p1) (.slice P2 ya.pairs.length p2) (.slice P3 ya.scores.length p3))
            obtain ⟨d0, d1, d2, d3, d4⟩ := five (E6.out.bl _ (.head _))
            go_wp2_with fail
            refine (A2c.out _ _ (E6.out.its _ (.head _)) (V.out.fr E6.out.f)).mono ?_
            rintro e w3 ⟨v2, rfl, i2, f3⟩
            have E7 := Lib.hid (E6.out.go f3)
            clear d0 d1 d2 d3 d4
            have E8 := Lib.hid (E7.out.item i2.item)
            obtain ⟨Q1, q1, Q2, q2, Q3, q3, rfl⟩ := i2.form
            clear i2
            have E9 := Lib.hid (E8.out.box (.int .i64 yz.kind) (.string yz.text) (.slice Q1 yz.list.length q1) (.slice Q2 yz.pairs.length q2) (.slice Q3 yz.scores.length q3))
            obtain ⟨d0, d1, d2, d3, d4⟩ := five (E9.out.bl _ (.tail _ (.tail _ (.head _))))
            go_wp2_with fail
            refine (RG.out _ _ (E9.out.its _ (.tail _ (.tail _ (.head _))))).mono ?_
            rintro e w4 ⟨rfl, f4⟩
            have E10 := Lib.hid (E9.out.go f4)
            clear d0 d1 d2 d3 d4
            obtain ⟨d0, d1, d2, d3, d4⟩ := five (E10.out.bl _ (.head _))
            obtain ⟨g0, g1, g2, g3, g4⟩ := five (E10.out.bl _ (.tail _ (.head _)))
            go_wp2_with fail
            refine (A3c.out _ _ (E10.out.its _ (.tail _ (.head _))) (V.out.fr E10.out.f)).mono ?_
            rintro e w5 ⟨v3, rfl, i3, f5⟩
            have E11 := Lib.hid (E10.out.go f5)
            clear d0 d1 d2 d3 d4 g0 g1 g2 g3 g4
            have E12 := Lib.hid (E11.out.item i3.item)
            obtain ⟨R1, r1, R2, r2, R3, r3, rfl⟩ := i3.form
            clear i3
            have E13 := Lib.hid (E12.out.box (.int .i64 yb.kind) (.string yb.text) (.slice R1 yb.list.length r1) (.slice R2 yb.pairs.length r2) (.slice R3 yb.scores.length r3))
            go_wp2
            go_ret
            exact ⟨rfl, E13.out.f⟩
      · have r1 := C3.out.trans (if_neg hc)
        rw [r1] at A3c
        clear r1 C3 O3 hc TS A4c SI
        generalize adY ya n = yc at *
        go_enter Tryd.func3, Tryd.ntmps3
        go_wp2_with fail
        refine (textBegun_any _ (V.out.fr E2.out.f)).mono ?_
        rintro e w1 ⟨rfl, f1⟩
        have E3 := Lib.hid (E2.out.go f1)
        obtain ⟨d0, d1, d2, d3, d4⟩ := five (E3.out.bl _ (.head _))
        go_wp2_with fail
        refine (AD.out _ _ (E3.out.its _ (.head _)) (V.out.fr E3.out.f)).mono ?_
        rintro e w2 ⟨v1, rfl, i1, f2⟩
        have E4 := Lib.hid (E3.out.go f2)
        clear d0 d1 d2 d3 d4
        have E5 := Lib.hid (E4.out.item i1.item)
        obtain ⟨P1, p1, P2, p2, P3, p3, rfl⟩ := i1.form
        clear i1
        have E6 := Lib.hid (E5.out.box (.int .i64 ya.kind) (.string ya.text) (.slice P1 ya.list.length p1) (.slice P2 ya.pairs.length p2) (.slice P3 ya.scores.length p3))
        obtain ⟨d0, d1, d2, d3, d4⟩ := five (E6.out.bl _ (.head _))
        go_wp2_with fail
        refine (A2c.out _ _ (E6.out.its _ (.head _)) (V.out.fr E6.out.f)).mono ?_
        rintro e w3 ⟨v2, rfl, i2, f3⟩
        have E7 := Lib.hid (E6.out.go f3)
        clear d0 d1 d2 d3 d4
        have E8 := Lib.hid (E7.out.item i2.item)
        obtain ⟨Q1, q1, Q2, q2, Q3, q3, rfl⟩ := i2.form
        clear i2
        have E9 := Lib.hid (E8.out.box (.int .i64 yz.kind) (.string yz.text) (.slice Q1 yz.list.length q1) (.slice Q2 yz.pairs.length q2) (.slice Q3 yz.scores.length q3))
        obtain ⟨d0, d1, d2, d3, d4⟩ := five (E9.out.bl _ (.tail _ (.tail _ (.head _))))
        go_wp2_with fail
        refine (RG.out _ _ (E9.out.its _ (.tail _ (.tail _ (.head _))))).mono ?_
        rintro e w4 ⟨rfl, f4⟩
        have E10 := Lib.hid (E9.out.go f4)
        clear d0 d1 d2 d3 d4
        obtain ⟨d0, d1, d2, d3, d4⟩ := five (E10.out.bl _ (.head _))
        obtain ⟨g0, g1, g2, g3, g4⟩ := five (E10.out.bl _ (.tail _ (.head _)))
        go_wp2_with fail
        refine (A3c.out _ _ (E10.out.its _ (.tail _ (.head _))) (V.out.fr E10.out.f)).mono ?_
        rintro e w5 ⟨v3, rfl, i3, f5⟩
        have E11 := Lib.hid (E10.out.go f5)
        clear d0 d1 d2 d3 d4 g0 g1 g2 g3 g4
        have E12 := Lib.hid (E11.out.item i3.item)
        obtain ⟨R1, r1, R2, r2, R3, r3, rfl⟩ := i3.form
        clear i3
        have E13 := Lib.hid (E12.out.box (.int .i64 yc.kind) (.string yc.text) (.slice R1 yc.list.length r1) (.slice R2 yc.pairs.length r2) (.slice R3 yc.scores.length r3))
        go_wp2
        go_ret
        exact ⟨rfl, E13.out.f⟩
  · obtain ⟨r1, r2⟩ := N1.out he
    rw [r1, r2] at AD
    have q : (adCode x m != 0) = true := by simpa using he
    clear r1 r2 he N1 HX HS
    generalize adCode x m = c at *
    go_enter Tryd.func3, Tryd.ntmps3
    go_wp2_with fail
    refine (textBegun_any _ (V.out.fr E2.out.f)).mono ?_
    rintro e w1 ⟨rfl, f1⟩
    have E3 := Lib.hid (E2.out.go f1)
    obtain ⟨d0, d1, d2, d3, d4⟩ := five (E3.out.bl _ (.head _))
    go_wp2_with fail
    refine (AD.out _ _ (E3.out.its _ (.head _)) (V.out.fr E3.out.f)).mono ?_
    rintro e w2 ⟨v1, rfl, i1, f2⟩
    have E4 := Lib.hid (E3.out.go f2)
    clear d0 d1 d2 d3 d4
    have E5 := Lib.hid (E4.out.item i1.item)
    obtain ⟨P1, p1, P2, p2, P3, p3, rfl⟩ := i1.form
    clear i1
    have E6 := Lib.hid (E5.out.box (.int .i64 (newI 0).kind) (.string (newI 0).text) (.slice P1 (newI 0).list.length p1) (.slice P2 (newI 0).pairs.length p2) (.slice P3 (newI 0).scores.length p3))
    go_wp2
    go_ret
    exact ⟨rfl, E6.out.f⟩
end Go.Proofs.YtmlmiboihjibiaaDoor
