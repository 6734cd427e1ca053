/- The walks of the laws SpaceSwept and SpaceLast. -/
import Derived.Test.YtmlmiboihjibiaaSpR
set_option linter.unusedVariables false
set_option linter.unusedSimpArgs false
namespace Go.Proofs.Ytmlmiboihjibiaa
open Go.RowKit

set_option maxHeartbeats 8000000 in
set_option maxRecDepth 100000 in
theorem spaceSwept_any (l : List Ent) (A : Option Addr) (c : Nat) (now later : Int) (s p : ByteArray) (w : World) (B : Nat) (hB : B ≤ w.heap.size) (h : EntsV w B (.slice A l.length c) l) (hl : l.length ≤ 281474976710656) (hs : ∀ e ∈ l, e.Small) (hz : s.size ≤ 281474976710656) (hp : p.size ≤ 281474976710656) :
    Calls Try.prog 6 #[.slice A l.length c, .int .i64 now, .int .i64 later, .string s, .string p] w fun e w' => e = .returned (.bool true) ∧ Fr [] w w' := by
  have SW := Lib.hid (fun W (h : EntsV W W.heap.size (.slice A l.length c) l) => spaceSweep_any l _ now W _ hs hl (Nat.le_refl _) h)
  have GT := Lib.hid (fun W (h : EntsV W W.heap.size (.slice A l.length c) l) => spaceGet_any l _ later s W _ hs hl hz (Nat.le_refl _) h)
  have UT := Lib.hid (fun W (h : EntsV W W.heap.size (.slice A l.length c) l) => spaceUntil_any l _ later s W _ hs hl hz (Nat.le_refl _) h)
  have KE := Lib.hid (fun W (h : EntsV W W.heap.size (.slice A l.length c) l) => spaceKeys_any l _ later p W _ hs hl hp (Nat.le_refl _) h)
  have hs2 : ∀ e ∈ swL l now, e.Small := fun e he => hs e (swL_mem he)
  have hl2 : (swL l now).length ≤ 281474976710656 := Nat.le_trans (swL_len l now) hl
  have SW2 := Lib.hid (fun W v (h : EntsV W W.heap.size v (swL l now)) => spaceSweep_any (swL l now) v now W _ hs2 hl2 (Nat.le_refl _) h)
  have GT2 := Lib.hid (fun W v (h : EntsV W W.heap.size v (swL l now)) => spaceGet_any (swL l now) v later s W _ hs2 hl2 hz (Nat.le_refl _) h)
  have UT2 := Lib.hid (fun W v (h : EntsV W W.heap.size v (swL l now)) => spaceUntil_any (swL l now) v later s W _ hs2 hl2 hz (Nat.le_refl _) h)
  have KE2 := Lib.hid (fun W v (h : EntsV W W.heap.size v (swL l now)) => spaceKeys_any (swL l now) v later p W _ hs2 hl2 hp (Nat.le_refl _) h)
  have SP := Lib.hid (fun W v u (h : EntsV W W.heap.size v (swL l now)) (k : EntsV W W.heap.size u (swL l now)) => sameSpace_any (swL l now) v u W _ hs2 hl2 (Nat.le_refl _) h k)
  have GSM := Lib.hid (getI_small hs later s)
  have KLN := Lib.hid (keysR_len l later p)
  have SWI := Lib.hid (fun (h0 : atCode l now ⟨#[]⟩ = 0) (h : now ≤ later) => sweptI h0 h s p)
  have SN := Lib.hid (show swN l now = if atCode l now ⟨#[]⟩ = 0 then (l.length : Int) - (sweepL l now).length else 0 from rfl)
  have S0 := Lib.hid (SE.ents (es := []) ⟨Env.start w, fun p hp => by cases hp⟩ (h.more hB))
  clear h hs hs2
  go_enter Try.func6, Try.ntmps6
  go_wp2_with fail
  refine (spaceBegun_any _).mono ?_
  rintro e w1 ⟨rfl, f1⟩
  have S1 := Lib.hid (S0.out.go f1)
  clear f1 S0
  go_wp2_with fail
  refine (SW.out _ (S1.out.es _ (.head _))).mono ?_
  rintro e w2 ⟨u2, rfl, o2, f2⟩
  obtain ⟨A2, c2, rfl⟩ := o2.form
  have S2 := Lib.hid ((S1.out.go f2).ents o2.v)
  clear f2 o2 S1 SW
  by_cases he : atCode l now ⟨#[]⟩ = 0
  · by_cases hlt : now ≤ later
    · have T := SWI.out he hlt
      rw [T.ok, T.again, T.none] at SW2
      rw [T.get, T.at_] at GT2
      rw [T.til, T.tcode] at UT2
      rw [T.keys, T.kcode] at KE2
      clear T SWI SN
      rw [he]
      clear he
      generalize getI l later s = got at *
      generalize untilN l later s = un at *
      generalize untilC l later s = uc at *
      generalize keysR l later p = kr at *
      generalize keysC l later p = kc at *
      generalize swL l now = sl at *
      generalize swN l now = sn at *
      generalize atCode l later s = ea at *
      have qa : (ea == ea) = true := by simp
      have qk : (kc == kc) = true := by simp
      have qu : (uc == uc) = true := by simp
      have qn : (un == un) = true := by simp
      go_wp2_with fail
      refine (GT.out _ (S2.out.es _ (.tail _ (.head _)))).mono ?_
      rintro e w3 ⟨u3, rfl, o3, f3⟩
      obtain ⟨Y1, y1, Y2, y2, Y3, y3, rfl⟩ := o3.form
      have S3 := Lib.hid (((S2.out.go f3).item o3.item).box (.int .i64 got.kind) (.string got.text) (.slice Y1 got.list.length y1) (.slice Y2 got.pairs.length y2) (.slice Y3 got.scores.length y3))
      clear o3 f3 S2 GT
      go_wp2_with fail
      refine (GT2.out _ _ (S3.out.es _ (.head _))).mono ?_
      rintro e w4 ⟨u4, rfl, o4, f4⟩
      obtain ⟨Z1, z1, Z2, z2, Z3, z3, rfl⟩ := o4.form
      have S4 := Lib.hid (((S3.out.go f4).item o4.item).box (.int .i64 got.kind) (.string got.text) (.slice Z1 got.list.length z1) (.slice Z2 got.pairs.length z2) (.slice Z3 got.scores.length z3))
      clear o4 f4 S3 GT2
      go_wp2_with fail
      refine (KE.out _ (S4.out.es _ (.tail _ (.head _)))).mono ?_
      rintro e w5 ⟨A5, c5, rfl, o5, f5⟩
      have S5 := Lib.hid ((S4.out.go f5).row (own_sl o5))
      clear o5 f5 S4 KE
      go_wp2_with fail
      refine (KE2.out _ _ (S5.out.es _ (.head _))).mono ?_
      rintro e w6 ⟨A6, c6, rfl, o6, f6⟩
      have S6 := Lib.hid ((S5.out.go f6).row (own_sl o6))
      clear o6 f6 S5 KE2
      go_wp2_with fail
      refine (UT.out _ (S6.out.es _ (.tail _ (.head _)))).mono ?_
      rintro e w7 ⟨rfl, f7⟩
      have S7 := Lib.hid (S6.out.go f7)
      clear f7 S6 UT
      go_wp2_with fail
      refine (UT2.out _ _ (S7.out.es _ (.head _))).mono ?_
      rintro e w8 ⟨rfl, f8⟩
      have S8 := Lib.hid (S7.out.go f8)
      clear f8 S7 UT2
      go_wp2_with fail
      refine (SW2.out _ _ (S8.out.es _ (.head _))).mono ?_
      rintro e w9 ⟨u9, rfl, o9, f9⟩
      obtain ⟨A9, c9, rfl⟩ := o9.form
      have S9 := Lib.hid ((S8.out.go f9).ents o9.v)
      clear o9 f9 S8 SW2
      obtain ⟨a0, a1, a2, a3, a4⟩ := five (S9.out.env.bl _ (.tail _ (.head _)))
      obtain ⟨b0, b1, b2, b3, b4⟩ := five (S9.out.env.bl _ (.head _))
      have SI := Lib.hid (sameItem_any got got _ _ w9 w9.heap.size GSM.out GSM.out (Nat.le_refl _) (S9.out.env.its _ (.tail _ (.head _))) (S9.out.env.its _ (.head _)))
      rw [sameI_refl] at SI
      go_wp2_with fail
      refine SI.out.mono ?_
      rintro e w10 ⟨rfl, f10⟩
      have S10 := Lib.hid (S9.out.go f10)
      clear f10 S9 SI a0 a1 a2 a3 a4 b0 b1 b2 b3 b4
      have ST := Lib.hid (sameTexts_any kr kr _ _ _ _ w10.heap.size w10 (by have := KLN.out; omega) (by have := KLN.out; omega) (Nat.le_refl _) (S10.out.env.rs _ (.tail _ (.head _))) (S10.out.env.rs _ (.head _)))
      rw [show sameT kr kr = true from by unfold sameT; simp] at ST
      go_wp2_with fail
      refine ST.out.mono ?_
      rintro e w11 ⟨rfl, f11⟩
      have S11 := Lib.hid (S10.out.go f11)
      clear f11 S10 ST
      go_wp2_with fail
      refine (SP.out _ _ _ (S11.out.es _ (.tail _ (.head _))) (S11.out.es _ (.head _))).mono ?_
      rintro e w12 ⟨rfl, f12⟩
      have S12 := Lib.hid (S11.out.go f12)
      clear f12 S11 SP
      go_wp2
      go_ret
      exact ⟨rfl, S12.out.env.f⟩
    · clear SWI SN SW2 GT2 UT2 KE2 SP GT UT KE GSM KLN
      rw [he]
      clear he
      generalize swN l now = sn at *
      generalize swL l now = sl at *
      go_wp2
      go_ret
      exact ⟨rfl, S2.out.env.f⟩
  · have qn : swN l now = 0 := by rw [SN.out, if_neg he]
    rw [qn]
    have q1 : (atCode l now ⟨#[]⟩ == 0) = false := by simpa using he
    have q2 : (atCode l now ⟨#[]⟩ != 0) = true := by simpa using he
    clear qn SN SWI SW2 GT2 UT2 KE2 SP GT UT KE GSM KLN he
    generalize swL l now = sl at *
    generalize atCode l now ⟨#[]⟩ = eb at *
    go_wp2
    go_ret
    exact ⟨rfl, S2.out.env.f⟩

set_option maxHeartbeats 8000000 in
set_option maxRecDepth 100000 in
theorem spaceLast_any (l : List Ent) (A : Option Addr) (c : Nat) (now : Int) (s : ByteArray) (x : Itm) (xv : Value) (u : Int) (o : ByteArray) (w : World) (B : Nat) (hB : B ≤ w.heap.size) (h : EntsV w B (.slice A l.length c) l) (hl : l.length ≤ 281474976710656) (hs : ∀ e ∈ l, e.Small) (hz : s.size ≤ 281474976710656) (hsx : x.Small) (hx : ItemV w B xv x) (ho : o.size ≤ 281474976710656) (hu : -9223372036854775808 ≤ u ∧ u ≤ 9223372036854775807) :
    Calls Try.prog 7 #[.slice A l.length c, .int .i64 now, .string s, xv, .int .i64 u, .string o] w fun e w' => e = .returned (.bool true) ∧ Fr [] w w' := by
  have hs2 : ∀ e ∈ putLL l now s x u, e.Small := putLL_all (P := Ent.Small) hs ⟨hz, hsx, hu⟩
  have hl2 : (putLL l now s x u).length ≤ 281474976710656 := by
    by_cases he : putErr l now s x u = 0
    · have h1 := (spOk (atOk (putErr_zero he).1).1).le
      have h2 := putLL_len l now s x u
      omega
    · unfold putLL
      rw [if_neg he]
      simp
  have PU := Lib.hid (fun W xv (h : EntsV W W.heap.size (.slice A l.length c) l) (hx : ItemV W W.heap.size xv x) => spacePut_any l _ now s x xv u W _ hs hl hz hsx (Nat.le_refl _) h hx)
  have GB := Lib.hid (fun W (h : EntsV W W.heap.size (.slice A l.length c) l) => spaceGet_any l _ now o W _ hs hl ho (Nat.le_refl _) h)
  have GY := Lib.hid (fun W v (h : EntsV W W.heap.size v (putLL l now s x u)) => spaceGet_any (putLL l now s x u) v now s W _ hs2 hl2 hz (Nat.le_refl _) h)
  have GZ := Lib.hid (fun W v (h : EntsV W W.heap.size v (putLL l now s x u)) => spaceGet_any (putLL l now s x u) v 1000000 s W _ hs2 hl2 hz (Nat.le_refl _) h)
  have GC := Lib.hid (fun W v (h : EntsV W W.heap.size v (putLL l now s x u)) => spaceGet_any (putLL l now s x u) v now o W _ hs2 hl2 ho (Nat.le_refl _) h)
  have CH := Lib.hid (fun W v (h : EntsV W W.heap.size v (putLL l now s x u)) => spaceCheck_any (putLL l now s x u) v W _ hs2 hl2 (Nat.le_refl _) h)
  have ZS := Lib.hid (getI_small hs2 1000000 s)
  have BS := Lib.hid (getI_small hs now o)
  have LI := Lib.hid (fun (h0 : putCC l now s x u = 0) => lastI h0)
  have PN := Lib.hid (fun (h0 : putCC l now s x u ≠ 0) => put_no h0)
  have HSX := Lib.hid hsx
  obtain ⟨X1, x1, X2, x2, X3, x3, rfl⟩ := hx.form
  have S0 := Lib.hid ((SE.ents (es := []) ⟨Env.start w, fun p hp => by cases hp⟩ (h.more hB)).item (hx.more hB) |>.box (.int .i64 x.kind) (.string x.text) (.slice X1 x.list.length x1) (.slice X2 x.pairs.length x2) (.slice X3 x.scores.length x3))
  clear h hs hs2 hsx hx hu
  go_enter Try.func7, Try.ntmps7
  go_wp2_with fail
  refine (spaceBegun_any _).mono ?_
  rintro e w1 ⟨rfl, f1⟩
  have S1 := Lib.hid (S0.out.go f1)
  clear f1 S0
  obtain ⟨a0, a1, a2, a3, a4⟩ := five (S1.out.env.bl _ (.head _))
  go_wp2_with fail
  refine (PU.out _ _ (S1.out.es _ (.head _)) (S1.out.env.its _ (.head _))).mono ?_
  rintro e w2 ⟨u2, rfl, o2, f2⟩
  obtain ⟨A2, c2, rfl⟩ := o2.form
  have S2 := Lib.hid ((S1.out.go f2).ents o2.v)
  clear f2 o2 S1 PU a0 a1 a2 a3 a4
  by_cases he : putCC l now s x u = 0
  · have T := LI.out he
    rw [T.ok] at CH
    rw [T.at_, T.get] at GY
    rw [T.atM] at GZ
    have HZ := T.late
    have HO := Lib.hid T.other
    clear T LI PN
    rw [he]
    clear he
    generalize hzI : getI (putLL l now s x u) 1000000 s = zI at *
    clear hzI
    go_wp2_with fail
    refine (GY.out _ _ (S2.out.es _ (.head _))).mono ?_
    rintro e w3 ⟨u3, rfl, o3, f3⟩
    obtain ⟨Y1, y1, Y2, y2, Y3, y3, rfl⟩ := o3.form
    have S3 := Lib.hid (((S2.out.go f3).item o3.item).box (.int .i64 x.kind) (.string x.text) (.slice Y1 x.list.length y1) (.slice Y2 x.pairs.length y2) (.slice Y3 x.scores.length y3))
    clear o3 f3 S2 GY
    go_wp2_with fail
    refine (GZ.out _ _ (S3.out.es _ (.head _))).mono ?_
    rintro e w4 ⟨u4, rfl, o4, f4⟩
    obtain ⟨Z1, z1, Z2, z2, Z3, z3, rfl⟩ := o4.form
    have S4 := Lib.hid (((S3.out.go f4).item o4.item).box (.int .i64 zI.kind) (.string zI.text) (.slice Z1 zI.list.length z1) (.slice Z2 zI.pairs.length z2) (.slice Z3 zI.scores.length z3))
    clear o4 f4 S3 GZ
    obtain ⟨a0, a1, a2, a3, a4⟩ := five (S4.out.env.bl _ (.tail _ (.tail _ (.head _))))
    obtain ⟨b0, b1, b2, b3, b4⟩ := five (S4.out.env.bl _ (.tail _ (.head _)))
    obtain ⟨d0, d1, d2, d3, d4⟩ := five (S4.out.env.bl _ (.head _))
    have SI := Lib.hid (sameItem_any x x _ _ _ _ HSX.out HSX.out (Nat.le_refl _) (S4.out.env.its _ (.tail _ (.tail _ (.head _)))) (S4.out.env.its _ (.tail _ (.head _))))
    rw [sameI_refl] at SI
    go_wp2_with fail
    refine SI.out.mono ?_
    rintro e w5 ⟨rfl, f5⟩
    have S5 := Lib.hid (S4.out.go f5)
    clear f5 S4 SI a0 a1 a2 a3 a4 b0 b1 b2 b3 b4 d0 d1 d2 d3 d4
    obtain ⟨a0, a1, a2, a3, a4⟩ := five (S5.out.env.bl _ (.tail _ (.tail _ (.head _))))
    obtain ⟨b0, b1, b2, b3, b4⟩ := five (S5.out.env.bl _ (.tail _ (.head _)))
    obtain ⟨d0, d1, d2, d3, d4⟩ := five (S5.out.env.bl _ (.head _))
    have SZ := Lib.hid (sameItem_any zI x _ _ w5 w5.heap.size ZS.out HSX.out (Nat.le_refl _) (S5.out.env.its _ (.head _)) (S5.out.env.its _ (.tail _ (.tail _ (.head _)))))
    have HZ2 : sameI zI x = true ∨ (sameI zI x = false ∧ u ≠ 0 ∧ nothingI zI = true) := by
      rcases hm : sameI zI x with _ | _
      · rcases HZ with h | h
        · rw [h, sameI_refl] at hm; cases hm
        · exact .inr ⟨rfl, h⟩
      · exact .inl rfl
    clear HZ
    go_wp2_with fail
    refine SZ.out.mono ?_
    rintro e w6 ⟨rfl, f6⟩
    have S6 := Lib.hid (S5.out.go f6)
    clear f6 S5 SZ a0 a1 a2 a3 a4 b0 b1 b2 b3 b4 d0 d1 d2 d3 d4
    rcases HZ2 with hm | ⟨hm, hu0, hn⟩
    rotate_left
    · rw [hm]
      have q1 : (u == 0) = false := by simpa using hu0
      have IN := Lib.hid (isNothing_any zI _ w6 w6.heap.size ZS.out (Nat.le_refl _) (S6.out.env.its _ (.head _)))
      rw [hn] at IN
      clear hm hu0 hn
      obtain ⟨d0, d1, d2, d3, d4⟩ := five (S6.out.env.bl _ (.head _))
      go_wp2_with fail
      refine IN.out.mono ?_
      rintro e w7 ⟨rfl, f7⟩
      have S7 := Lib.hid (S6.out.go f7)
      clear f7 S6 IN d0 d1 d2 d3 d4
      go_wp2_with fail
      refine (CH.out _ _ (S7.out.es _ (.head _))).mono ?_
      rintro e w8 ⟨rfl, f8⟩
      have S8 := Lib.hid (S7.out.go f8)
      clear f8 S7 CH
      by_cases hok : o = s
      · subst hok
        have q2 := (eqqB o).1
        go_wp2
        go_ret
        exact ⟨rfl, S8.out.env.f⟩
      · have q2 : (o.toList == s.toList) = false := (neqB hok).1
        obtain ⟨t1, t2⟩ := HO.out o hok
        rw [t1, t2] at GC
        clear t1 t2 HO hok
        generalize getI l now o = bI at *
        generalize atCode l now o = ea at *
        have qa : (ea == ea) = true := by simp
        go_wp2_with fail
        refine (GB.out _ (S8.out.es _ (.tail _ (.head _)))).mono ?_
        rintro e w9 ⟨u9, rfl, o9, f9⟩
        obtain ⟨B1, b1, B2, b2, B3, b3, rfl⟩ := o9.form
        have S9 := Lib.hid (((S8.out.go f9).item o9.item).box (.int .i64 bI.kind) (.string bI.text) (.slice B1 bI.list.length b1) (.slice B2 bI.pairs.length b2) (.slice B3 bI.scores.length b3))
        clear o9 f9 S8 GB
        go_wp2_with fail
        refine (GC.out _ _ (S9.out.es _ (.head _))).mono ?_
        rintro e w10 ⟨u10, rfl, o10, f10⟩
        obtain ⟨C1, c1, C2, c2', C3, c3, rfl⟩ := o10.form
        have S10 := Lib.hid (((S9.out.go f10).item o10.item).box (.int .i64 bI.kind) (.string bI.text) (.slice C1 bI.list.length c1) (.slice C2 bI.pairs.length c2') (.slice C3 bI.scores.length c3))
        clear o10 f10 S9 GC
        obtain ⟨a0, a1, a2, a3, a4⟩ := five (S10.out.env.bl _ (.tail _ (.head _)))
        obtain ⟨d0, d1, d2, d3, d4⟩ := five (S10.out.env.bl _ (.head _))
        have SB := Lib.hid (sameItem_any bI bI _ _ _ _ BS.out BS.out (Nat.le_refl _) (S10.out.env.its _ (.tail _ (.head _))) (S10.out.env.its _ (.head _)))
        rw [sameI_refl] at SB
        go_wp2_with fail
        refine SB.out.mono ?_
        rintro e w11 ⟨rfl, f11⟩
        have S11 := Lib.hid (S10.out.go f11)
        go_wp2
        go_ret
        exact ⟨rfl, S11.out.env.f⟩
    · rw [hm]
      clear hm
      have S7 := S6
      clear S6
      go_wp2_with fail
      refine (CH.out _ _ (S7.out.es _ (.head _))).mono ?_
      rintro e w8 ⟨rfl, f8⟩
      have S8 := Lib.hid (S7.out.go f8)
      clear f8 S7 CH
      by_cases hok : o = s
      · subst hok
        have q2 := (eqqB o).1
        go_wp2
        go_ret
        exact ⟨rfl, S8.out.env.f⟩
      · have q2 : (o.toList == s.toList) = false := (neqB hok).1
        obtain ⟨t1, t2⟩ := HO.out o hok
        rw [t1, t2] at GC
        clear t1 t2 HO hok
        generalize getI l now o = bI at *
        generalize atCode l now o = ea at *
        have qa : (ea == ea) = true := by simp
        go_wp2_with fail
        refine (GB.out _ (S8.out.es _ (.tail _ (.head _)))).mono ?_
        rintro e w9 ⟨u9, rfl, o9, f9⟩
        obtain ⟨B1, b1, B2, b2, B3, b3, rfl⟩ := o9.form
        have S9 := Lib.hid (((S8.out.go f9).item o9.item).box (.int .i64 bI.kind) (.string bI.text) (.slice B1 bI.list.length b1) (.slice B2 bI.pairs.length b2) (.slice B3 bI.scores.length b3))
        clear o9 f9 S8 GB
        go_wp2_with fail
        refine (GC.out _ _ (S9.out.es _ (.head _))).mono ?_
        rintro e w10 ⟨u10, rfl, o10, f10⟩
        obtain ⟨C1, c1, C2, c2', C3, c3, rfl⟩ := o10.form
        have S10 := Lib.hid (((S9.out.go f10).item o10.item).box (.int .i64 bI.kind) (.string bI.text) (.slice C1 bI.list.length c1) (.slice C2 bI.pairs.length c2') (.slice C3 bI.scores.length c3))
        clear o10 f10 S9 GC
        obtain ⟨a0, a1, a2, a3, a4⟩ := five (S10.out.env.bl _ (.tail _ (.head _)))
        obtain ⟨d0, d1, d2, d3, d4⟩ := five (S10.out.env.bl _ (.head _))
        have SB := Lib.hid (sameItem_any bI bI _ _ _ _ BS.out BS.out (Nat.le_refl _) (S10.out.env.its _ (.tail _ (.head _))) (S10.out.env.its _ (.head _)))
        rw [sameI_refl] at SB
        go_wp2_with fail
        refine SB.out.mono ?_
        rintro e w11 ⟨rfl, f11⟩
        have S11 := Lib.hid (S10.out.go f11)
        go_wp2
        go_ret
        exact ⟨rfl, S11.out.env.f⟩
  · have hn := PN.out he
    have q1 : (putCC l now s x u == 0) = false := by simpa using he
    have q2 : (putCC l now s x u != 0) = true := by simpa using he
    rw [hn] at S2 ⊢
    clear hn LI PN GY GZ GC GB CH ZS BS HSX he
    generalize putCC l now s x u = pc at *
    go_wp2
    go_ret
    exact ⟨rfl, S2.out.env.f⟩
end Go.Proofs.Ytmlmiboihjibiaa
