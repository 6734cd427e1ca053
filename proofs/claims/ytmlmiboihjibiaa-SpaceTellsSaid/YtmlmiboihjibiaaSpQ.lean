/- The walk of the law SpaceTells. (Printed by spaces2.py.) -/
import Derived.Test.YtmlmiboihjibiaaSpP
set_option linter.unusedVariables false
set_option linter.unusedSimpArgs false
namespace Go.Proofs.Ytmlmiboihjibiaa
open Go.RowKit

def TF (b : Bool) (w : World) (sv : Value) (wx : World) : Prop := sv = .bool b ∧ Fr [] w wx
def NF (e : Int) (w : World) (sv : Value) (wx : World) : Prop := sv = .int .i64 e ∧ Fr [] w wx
def GM (y : Itm) (un uc : Int) (g : Nat) (w0 : World) (a b : Value) (wx : World) : Prop := a = .int .i64 uc ∧ b = .int .i64 un ∧ ∃ A1 c1 A2 c2 A3 c3, Whole wx g 26 [.int .i64 y.kind, .string y.text, .slice A1 y.list.length c1, .slice A2 y.pairs.length c2, .slice A3 y.scores.length c3] ∧ ItemV wx wx.heap.size (.agg #[.int .i64 y.kind, .string y.text, .slice A1 y.list.length c1, .slice A2 y.pairs.length c2, .slice A3 y.scores.length c3]) y ∧ Fr [] w0 wx
def PM (l : List Ent) (c : Int) (w : World) (a b : Value) (wx : World) : Prop := a = .int .i64 c ∧ (∃ A n k, b = .slice A n k ∧ (c = 0 → EntsV wx wx.heap.size (.slice A n k) l)) ∧ Fr [] w wx
def TM (r : List ByteArray) (w : World) (a : Value) (wx : World) : Prop := (∃ A k, a = .slice A r.length k ∧ Sl wx wx.heap.size 1 (.slice A r.length k) r.length (textsV r)) ∧ Fr [] w wx
def WM (l : List Ent) (n : Int) (w : World) (a b : Value) (wx : World) : Prop := (∃ A k, a = .slice A l.length k ∧ EntsV wx wx.heap.size (.slice A l.length k) l) ∧ b = .int .i64 n ∧ Fr [] w wx

set_option maxHeartbeats 16000000 in
set_option maxRecDepth 100000 in
theorem spaceTells_any (l : List Ent) (A : Option Addr) (c : Nat) (now : Int) (s : ByteArray) (x : Itm) (xv : Value) (u : Int) (p : ByteArray) (w : World) (B : Nat) (hB : B ≤ w.heap.size) (h : EntsV w B (.slice A l.length c) l) (hl : l.length ≤ 281474976710656) (hs : ∀ e ∈ l, e.Small) (hz : s.size ≤ 281474976710656) (hsx : x.Small) (hx : ItemV w B xv x) (hp : p.size ≤ 281474976710656) (hu : -9223372036854775808 ≤ u ∧ u ≤ 9223372036854775807) :
    Calls Try.prog 5 #[.slice A l.length c, .int .i64 now, .string s, xv, .int .i64 u, .string p] w fun e w' => e = .returned (.bool true) ∧ Fr [] w w' := by
  have GT := Lib.hid (fun W (h : EntsV W W.heap.size (.slice A l.length c) l) => spaceGet_any l _ now s W _ hs hl hz (Nat.le_refl _) h)
  have PU := Lib.hid (fun W xv (h : EntsV W W.heap.size (.slice A l.length c) l) (hx : ItemV W W.heap.size xv x) => spacePut_any l _ now s x xv u W _ hs hl hz hsx (Nat.le_refl _) h hx)
  have UT := Lib.hid (fun W (h : EntsV W W.heap.size (.slice A l.length c) l) => spaceUntil_any l _ now s W _ hs hl hz (Nat.le_refl _) h)
  have KE := Lib.hid (fun W (h : EntsV W W.heap.size (.slice A l.length c) l) => spaceKeys_any l _ now p W _ hs hl hp (Nat.le_refl _) h)
  have SW := Lib.hid (fun W (h : EntsV W W.heap.size (.slice A l.length c) l) => spaceSweep_any l _ now W _ hs hl (Nat.le_refl _) h)
  have CA := Lib.hid (fun W (h : EntsV W W.heap.size (.slice A l.length c) l) => checkAt_any l _ now s W _ hs hl hz (Nat.le_refl _) h)
  have CB := Lib.hid (fun W (h : EntsV W W.heap.size (.slice A l.length c) l) => checkAt_any l _ now ⟨#[]⟩ W _ hs hl (by decide) (Nat.le_refl _) h)
  have CH := Lib.hid (fun W (h : EntsV W W.heap.size (.slice A l.length c) l) => spaceCheck_any l _ W _ hs hl (Nat.le_refl _) h)
  have CS := Lib.hid (fun W (h : EntsV W W.heap.size (.slice A l.length c) l) => checkSpace_any l _ W _ hs hl (Nat.le_refl _) h)
  have LK := Lib.hid (fun W B (hB : B ≤ W.heap.size) (h : EntsV W B (.slice A l.length c) l) => refLook_any l _ now s W B hl hB h)
  have IN := Lib.hid (fun W xv (hx : ItemV W W.heap.size xv x) => isNothing_any x xv W _ hsx (Nat.le_refl _) hx)
  have CI := Lib.hid (fun W xv (hx : ItemV W W.heap.size xv x) => refCheck_any x xv W _ hsx (Nat.le_refl _) hx)
  have CG := Lib.hid (fun W => checkGlob_any p W hp)
  have AZ := Lib.hid (fun (hq : atCode l now s = 0) => spOk (atOk hq).1)
  have BZ := Lib.hid (fun (hq : atCode l now ⟨#[]⟩ = 0) => spOk (atOk hq).1)
  have PZ := Lib.hid (fun (hq : putErr l now s x u = 0) => putErr_zero hq)
  have GS := Lib.hid (lookE_small hs now s)
  have LC := Lib.hid (lookE_cases l now s)
  have GOT := Lib.hid (show getI l now s = if atCode l now s = 0 then (lookE l now s).item else newI 0 from rfl)
  have UN := Lib.hid (show untilN l now s = if atCode l now s = 0 then (if lookB l now s = true then (lookE l now s).til else 0) else 0 from rfl)
  have UC := Lib.hid (show untilC l now s = if atCode l now s = 0 then (if lookB l now s = true then 0 else 5) else atCode l now s from rfl)
  have E1 := Lib.hid (show putE1 l now s x = if tst1 l now s x = true then checkItm x else atCode l now s from rfl)
  have T1 := Lib.hid (show tst1 l now s x = if atCode l now s = 0 then !nothingI x else false from rfl)
  have EE := Lib.hid (show putErr l now s x u = if tst2 (putE1 l now s x) now u = true then 3 else putE1 l now s x from rfl)
  have T2 := Lib.hid (show tst2 (putE1 l now s x) now u = if putE1 l now s x = 0 then (if u = 0 then false else if u ≤ now then true else decide (1000000 < u)) else false from rfl)
  have PL := Lib.hid (show putLL l now s x u = if putErr l now s x u = 0 then putE l now s x u else [] from rfl)
  have PC := Lib.hid (show putCC l now s x u = if putErr l now s x u = 0 then putC l now s x u else putErr l now s x u from rfl)
  have KC := Lib.hid (show keysC l now p = if atCode l now ⟨#[]⟩ = 0 then checkGlob p else atCode l now ⟨#[]⟩ from rfl)
  have KR := Lib.hid (show keysR l now p = if keysC l now p = 0 then keysL l now p else [] from rfl)
  have SL := Lib.hid (show swL l now = if atCode l now ⟨#[]⟩ = 0 then sweepL l now else [] from rfl)
  have SN := Lib.hid (show swN l now = if atCode l now ⟨#[]⟩ = 0 then (l.length : Int) - (sweepL l now).length else 0 from rfl)
  have GSM := Lib.hid (getI_small hs now s)
  have PSM := Lib.hid (putLL_all (now := now) (s := s) (x := x) (u := u) (P := Ent.Small) hs ⟨hz, hsx, hu⟩)
  have PLN := Lib.hid (show (putLL l now s x u).length ≤ 281474976710656 from by
    by_cases he : putErr l now s x u = 0
    · have h1 := (spOk (atOk (putErr_zero he).1).1).le
      have h2 := putLL_len l now s x u
      omega
    · unfold putLL
      rw [if_neg he]
      simp)
  have SSM := Lib.hid (show ∀ e ∈ swL l now, e.Small from fun e he => hs e (swL_mem he))
  have SLN := Lib.hid (swL_len l now)
  have KLN := Lib.hid (keysR_len l now p)
  have HS := Lib.hid hs
  have HSX := Lib.hid hsx
  obtain ⟨X1, x1, X2, x2, X3, x3, rfl⟩ := hx.form
  have S0 := Lib.hid ((SE.ents (es := []) ⟨Env.start w, fun p hp => by cases hp⟩ (h.more hB)).item (hx.more hB) |>.box (.int .i64 x.kind) (.string x.text) (.slice X1 x.list.length x1) (.slice X2 x.pairs.length x2) (.slice X3 x.scores.length x3))
  clear h hs hsx hx
  generalize getI l now s = got at *
  generalize untilN l now s = un at *
  generalize untilC l now s = uc at *
  generalize putLL l now s x u = pl at *
  generalize putCC l now s x u = pc at *
  generalize putErr l now s x u = er at *
  generalize tst2 (putE1 l now s x) now u = t2 at *
  generalize putE1 l now s x = e1 at *
  generalize tst1 l now s x = t1 at *
  generalize keysR l now p = kr at *
  generalize keysC l now p = kc at *
  generalize swL l now = sl at *
  generalize swN l now = sn at *
  generalize atCode l now s = ea at *
  generalize atCode l now ⟨#[]⟩ = eb at *
  go_enter Try.func5, Try.ntmps5
  go_wp2_with fail
  refine (GT.out _ (S0.out.es _ (.head _))).mono ?_
  rintro e w1 ⟨u1, rfl, o1, f1⟩
  obtain ⟨Y1, y1, Y2, y2, Y3, y3, rfl⟩ := o1.form
  have S1 := Lib.hid (((S0.out.go f1).item o1.item).box (.int .i64 got.kind) (.string got.text) (.slice Y1 got.list.length y1) (.slice Y2 got.pairs.length y2) (.slice Y3 got.scores.length y3))
  clear o1 f1 S0
  obtain ⟨a0, a1, a2, a3, a4⟩ := five (S1.out.env.bl _ (.tail _ (.head _)))
  go_wp2_with fail
  refine (PU.out _ _ (S1.out.es _ (.head _)) (S1.out.env.its _ (.tail _ (.head _)))).mono ?_
  rintro e w2 ⟨u2, rfl, o2, f2⟩
  obtain ⟨A2, c2, rfl⟩ := o2.form
  have S2 := Lib.hid ((S1.out.go f2).ents o2.v)
  clear o2 f2 S1 a0 a1 a2 a3 a4
  go_wp2_with fail
  refine (UT.out _ (S2.out.es _ (.tail _ (.head _)))).mono ?_
  rintro e w3 ⟨rfl, f3⟩
  have S3 := Lib.hid (S2.out.go f3)
  clear f3 S2
  go_wp2_with fail
  refine (KE.out _ (S3.out.es _ (.tail _ (.head _)))).mono ?_
  rintro e w4 ⟨A4, c4, rfl, o4, f4⟩
  have S4 := Lib.hid ((S3.out.go f4).row (own_sl o4))
  clear f4 o4 S3
  go_wp2_with fail
  refine (SW.out _ (S4.out.es _ (.tail _ (.head _)))).mono ?_
  rintro e w5 ⟨u5, rfl, o5, f5⟩
  obtain ⟨A5, c5, rfl⟩ := o5.form
  have S5 := Lib.hid ((S4.out.go f5).ents o5.v)
  clear f5 o5 S4
  go_wp2_with fail
  refine (CA.out _ (S5.out.es _ (.tail _ (.tail _ (.head _))))).mono ?_
  rintro e w6 ⟨rfl, f6⟩
  have S6 := Lib.hid (S5.out.go f6)
  clear f6 S5
  go_wp2_with fail
  refine (CB.out _ (S6.out.es _ (.tail _ (.tail _ (.head _))))).mono ?_
  rintro e w7 ⟨rfl, f7⟩
  have S7 := Lib.hid (S6.out.go f7)
  clear f7 S6 GT PU UT KE SW CA CB
  obtain ⟨a0, a1, a2, a3, a4⟩ := five (S7.out.env.bl _ (.tail _ (.head _)))
  go_upto_region 9 with fail
  go_cut [89] from 83 to 88 (fun sv wx => TF t1 w7 sv wx)
  case first =>
    by_cases ha : ea = 0
    · rw [if_pos ha] at T1
      have q1 : (ea == 0) = true := by simpa using ha
      clear ha
      rcases hn : nothingI x with _ | _
      all_goals
        rw [hn] at IN T1
        go_wp2_with fail
        refine (IN.out _ _ (S7.out.env.its _ (.tail _ (.head _)))).mono ?_
        rintro e2 w8 ⟨rfl, f8⟩
        have F8 := Lib.hid f8
        clear f8
        go_wp2
        go_meet
        case rel => exact ⟨by rw [T1.out]; rfl, F8.out⟩
    · rw [if_neg ha] at T1
      have q1 : (ea == 0) = false := by simpa using ha
      clear ha
      go_wp2
      go_meet
      case rel => exact ⟨by rw [T1.out], Fr.refl _ _⟩
  obtain ⟨rfl, f8⟩ := hcut
  have S8 := Lib.hid (S7.out.go f8)
  clear f8 S7 T1 IN a0 a1 a2 a3 a4
  obtain ⟨w8, rfl⟩ : ∃ w8, w8 = wc := ⟨_, rfl⟩
  obtain ⟨a0, a1, a2, a3, a4⟩ := five (S8.out.env.bl _ (.tail _ (.head _)))
  go_upto_if 89 with fail
  go_cut [26] from 89 to 91 (fun sv wx => NF e1 w8 sv wx)
  case first =>
    rcases t1 with _ | _
    · go_wp2
      go_meet
      case rel => exact ⟨by rw [E1.out]; rfl, Fr.refl _ _⟩
    · go_wp2_with fail
      refine (CI.out _ _ (S8.out.env.its _ (.tail _ (.head _)))).mono ?_
      rintro e3 w9 ⟨rfl, f9⟩
      have F9 := Lib.hid f9
      clear f9
      go_wp2
      go_meet
      case rel => exact ⟨by rw [E1.out]; rfl, F9.out⟩
  obtain ⟨rfl, f9⟩ := hcut
  have S9 := Lib.hid (S8.out.go f9)
  clear f9 S8 E1 CI a0 a1 a2 a3 a4
  obtain ⟨w9, rfl⟩ : ∃ w9, w9 = wc := ⟨_, rfl⟩
  go_upto_region 11 with fail
  go_cut [106] from 92 to 105 (fun sv wx => TF t2 w9 sv wx)
  case first =>
    by_cases h1 : e1 = 0
    · rw [if_pos h1] at T2
      have q1 : (e1 == 0) = true := by simpa using h1
      clear h1
      by_cases h2 : u = 0
      · rw [if_pos h2] at T2
        have q2 : (u != 0) = false := by simpa using h2
        clear h2
        go_wp2
        go_meet
        case rel => exact ⟨by rw [T2.out], Fr.refl _ _⟩
      · rw [if_neg h2] at T2
        have q2 : (u != 0) = true := by simpa using h2
        by_cases h3 : u ≤ now
        · rw [if_pos h3] at T2
          go_wp2
          go_meet
          case rel => exact ⟨by rw [T2.out], Fr.refl _ _⟩
        · rw [if_neg h3] at T2
          go_wp2
          go_meet
          case rel => exact ⟨by rw [T2.out], Fr.refl _ _⟩
    · rw [if_neg h1] at T2
      have q1 : (e1 == 0) = false := by simpa using h1
      clear h1
      go_wp2
      go_meet
      case rel => exact ⟨by rw [T2.out], Fr.refl _ _⟩
  obtain ⟨rfl, f10⟩ := hcut
  have S10 := Lib.hid (S9.out.go f10)
  clear f10 S9 T2
  obtain ⟨w10, rfl⟩ : ∃ w10, w10 = wc := ⟨_, rfl⟩
  go_upto_if 106 with fail
  go_cut [26] from 106 to 106 (fun sv wx => NF er w10 sv wx)
  case first =>
    rcases t2 with _ | _
    all_goals
      go_wp2
      go_meet
      case rel => exact ⟨by rw [EE.out]; rfl, Fr.refl _ _⟩
  obtain ⟨rfl, f11⟩ := hcut
  have S11 := Lib.hid (S10.out.go f11)
  clear f11 S10 EE
  obtain ⟨w11, rfl⟩ : ∃ w11, w11 = wc := ⟨_, rfl⟩
  go_upto_region 13 with fail
  go_upto_if 108 with fail
  go_cut [28] from 107 to 110 (fun sv wx => NF kc w11 sv wx)
  case first =>
    by_cases hb : eb = 0
    · rw [if_pos hb] at KC
      have q1 : (eb == 0) = true := by simpa using hb
      clear hb
      go_wp2_with fail
      refine (CG.out _).mono ?_
      rintro e2 w12 ⟨rfl, n, rfl⟩
      go_wp2
      go_meet
      case rel => exact ⟨by rw [KC.out], (Fr.refl [] _).drewN n⟩
    · rw [if_neg hb] at KC
      have q1 : (eb == 0) = false := by simpa using hb
      clear hb
      go_wp2
      go_meet
      case rel => exact ⟨by rw [KC.out], Fr.refl _ _⟩
  obtain ⟨rfl, f12⟩ := hcut
  have S12 := Lib.hid (S11.out.go f12)
  clear f12 S11 CG
  obtain ⟨w12, rfl⟩ : ∃ w12, w12 = wc := ⟨_, rfl⟩
  have Z12 := Lib.hid (Whole.new w12 26 [.int .i64 0, .string ⟨#[]⟩, .slice none 0 0, .slice none 0 0, .slice none 0 0])
  have F12 := Lib.hid ((Fr.refl [] w12).alloc (.cells #[.int .i64 0, .string ⟨#[]⟩, .slice none 0 0, .slice none 0 0, .slice none 0 0] 26))
  have S12b := Lib.hid (S12.out.go F12.out)
  have HZI := Lib.hid (ItemO.nothing (w12.alloc (.cells #[.int .i64 0, .string ⟨#[]⟩, .slice none 0 0, .slice none 0 0, .slice none 0 0] 26)) 0).item
  go_upto_if 112 with fail
  go_cut [27, 32, 35] from 111 to 124 (fun sa sb _ wx => GM got un uc w12.heap.size w12 sa sb wx)
  case first =>
    by_cases ha : ea = 0
    · rw [if_pos ha] at GOT UN UC
      have ok := AZ.out ha
      have q1 : (ea == 0) = true := by simpa using ha
      have KQ := Lib.hid (show (lookB l now s = true ∧ ((lookE l now s).item.kind == 0) = false) ∨ (lookB l now s = false ∧ ((lookE l now s).item.kind == 0) = true ∧ (lookE l now s).til = 0) from by
        rcases LC.out with ⟨h1, h2⟩ | ⟨h1, h2, _⟩
        · exact .inr ⟨h2, by rw [h1]; decide, by rw [h1]; rfl⟩
        · refine .inl ⟨h2, ?_⟩
          have := (right_of (ok.items _ h1)).kind
          simpa using (show (lookE l now s).item.kind ≠ 0 by omega))
      have HA := Lib.hid ha
      clear ha LC ok
      generalize lookE l now s = y at *
      generalize lookB l now s = bb at *
      go_wp2_with fail
      refine (LK.out _ w12.heap.size F12.out.size ((S12.out.es _ (.tail _ (.tail _ (.head _)))).fr F12.out (Nat.le_refl _) (by simp))).mono ?_
      rintro e2 w13 ⟨cs, rfl, hc, f13⟩
      have F13 := Lib.hid (F12.out.trans f13)
      have Z13 := Lib.hid (Z12.out.fr f13 (by simp))
      have HC := Lib.hid hc
      obtain ⟨A1, c1, A2', c2', A3, c3, hcs, -⟩ := hc
      obtain rfl : cs = (ent7 y A1 c1 A2' c2' A3 c3).toArray := by rw [← hcs]
      clear f13 hcs
      have V14 := Lib.hid (Whole.new w13 58 [.string y.key, .int .i64 y.item.kind, .string y.item.text, .slice A1 y.item.list.length c1, .slice A2' y.item.pairs.length c2', .slice A3 y.item.scores.length c3, .int .i64 y.til])
      have K14 := Lib.hid ((Fr.refl [] w13).alloc (.cells #[.string y.key, .int .i64 y.item.kind, .string y.item.text, .slice A1 y.item.list.length c1, .slice A2' y.item.pairs.length c2', .slice A3 y.item.scores.length c3, .int .i64 y.til] 58))
      have F14 := Lib.hid (F13.out.trans K14.out)
      have Z14 := Lib.hid (Z13.out.fr K14.out (by simp))
      have hz14 := Z13.out.lt
      have IT14 := Lib.hid ((show EntC w13 w12.heap.size (ent7 y A1 c1 A2' c2' A3 c3) y from HC.out).fr K14.out F13.out.size (by simp)).item
      clear HC Z12 Z13 F13 K14
      generalize hW : w13.alloc (.cells #[.string y.key, .int .i64 y.item.kind, .string y.item.text, .slice A1 y.item.list.length c1, .slice A2' y.item.pairs.length c2', .slice A3 y.item.scores.length c3, .int .i64 y.til] 58) = W14 at V14 Z14 F14 IT14
      have HW := Lib.hid hW
      clear hW
      obtain ⟨v0, v1, v2, v3, v4, v5, v6⟩ := seven V14.out
      obtain ⟨z0, z1, z2, z3, z4⟩ := five Z14.out
      obtain ⟨b0, b1, b2, b3, b4⟩ := fiveF Z14.out
      have hne1 : ¬ w12.heap.size = w13.heap.size := by omega
      have hne2 : ¬ w13.heap.size = w12.heap.size := by omega
      unfold ent7
      go_upto_region 21 with fail
      rw [HW.out]
      go_region
      have KS := Lib.hid (((((((Fr.refl [w12.heap.size] W14).setCell (p := ⟨w12.heap.size, 0, none⟩) (.inl (by simp)) (.int .i64 y.item.kind)).setCell (p := ⟨w12.heap.size, 1, none⟩) (.inl (by simp)) (.string y.item.text)).setCell (p := ⟨w12.heap.size, 2, none⟩) (.inl (by simp)) (.slice A1 y.item.list.length c1)).setCell (p := ⟨w12.heap.size, 3, none⟩) (.inl (by simp)) (.slice A2' y.item.pairs.length c2')).setCell (p := ⟨w12.heap.size, 4, none⟩) (.inl (by simp)) (.slice A3 y.item.scores.length c3)).drew)
      have V15 := Lib.hid (V14.out.fr KS.out (by simp; omega))
      have F15 := Lib.hid (show Fr [] w12 _ from (fr_set5 F14.out (Nat.le_refl _) (.int .i64 y.item.kind) (.string y.item.text) (.slice A1 y.item.list.length c1) (.slice A2' y.item.pairs.length c2') (.slice A3 y.item.scores.length c3)).drew)
      have Z15 := Lib.hid ((whole_set5 (a' := .int .i64 y.item.kind) (b' := .string y.item.text) (c' := .slice A1 y.item.list.length c1) (d' := .slice A2' y.item.pairs.length c2') (e' := .slice A3 y.item.scores.length c3) Z14.out).fr ((Fr.refl [] _).drew) (by simp))
      have I15 := Lib.hid ((IT14.out.fr KS.out F14.out.size (fun k hk => by simp at hk; omega)).more F15.out.size)
      unfold set5 at F15 Z15 I15
      clear v0 v1 v2 v3 v4 v5 v6 z0 z1 z2 z3 z4 b0 b1 b2 b3 b4 KS V14 Z14 F14 IT14
      generalize hW2 : (World.drew _) = W15 at V15 F15 Z15 I15 ⊢
      clear hW2
      obtain ⟨v0, v1, v2, v3, v4, v5, v6⟩ := seven V15.out
      rcases KQ.out with ⟨rfl, qk⟩ | ⟨rfl, qk, qt⟩
      · go_wp2
        go_meet
        case rel =>
          refine ⟨by rw [UC.out, HA.out]; rfl, by rw [UN.out]; rfl, A1, c1, A2', c2', A3, c3, ?_, ?_, F15.out⟩
          · rw [GOT.out]; exact Z15.out
          · rw [GOT.out]; exact I15.out
      · go_wp2
        go_meet
        case rel =>
          refine ⟨by rw [UC.out]; rfl, by rw [UN.out]; rfl, A1, c1, A2', c2', A3, c3, ?_, ?_, F15.out⟩
          · rw [GOT.out]; exact Z15.out
          · rw [GOT.out]; exact I15.out
    · rw [if_neg ha] at GOT UN UC
      have q1 : (ea == 0) = false := by simpa using ha
      clear ha
      go_wp2
      go_meet
      case rel =>
        refine ⟨by rw [UC.out], by rw [UN.out], none, 0, none, 0, none, 0, ?_, ?_, F12.out⟩
        · rw [GOT.out]; exact Z12.out
        · rw [GOT.out]; exact HZI.out
  obtain ⟨rfl, rfl, G1, g1, G2, g2, G3, g3, hw13, hi13, f13⟩ := hcut
  have S13 := Lib.hid (((S12.out.go f13).put hw13).item hi13)
  clear f13 hw13 hi13 S12 S12b F12 Z12 GOT UN UC LK LC
  obtain ⟨w13, rfl⟩ : ∃ w13, w13 = wc := ⟨_, rfl⟩
  obtain ⟨a0, a1, a2, a3, a4⟩ := five (S13.out.env.bl _ (.tail _ (.tail _ (.head _))))
  go_upto_if 126 with fail
  go_cut [26, 30] from 125 to 135 (fun sa sb wx => PM pl pc w13 sa sb wx)
  case first =>
    by_cases he : er = 0
    · rw [if_pos he] at PL PC
      have q1 : (er == 0) = true := by simpa using he
      have pz := PZ.out he
      have ok := AZ.out (pz.1)
      have hk16 := ok.le
      have PO := Lib.hid (refPut_any l (.slice A l.length c) now s x (.agg #[.int .i64 x.kind, .string x.text, .slice X1 x.list.length x1, .slice X2 x.pairs.length x2, .slice X3 x.scores.length x3]) u w13 w13.heap.size (fun e he => (HS.out e he).key) hz ok.rise (by omega) (Nat.le_refl _) (S13.out.es _ (.tail _ (.tail _ (.head _)))) (S13.out.env.its _ (.tail _ (.tail _ (.head _)))) (pz.2.imp id (fun h => (right_of h).kind.1)))
      rw [← PL.out, ← PC.out] at PO
      clear he pz ok
      go_wp2_with fail
      refine PO.out.mono ?_
      rintro e2 w14 ⟨u2', rfl, o14, f14⟩
      have F14 := Lib.hid f14
      obtain ⟨A6, c6, rfl⟩ := o14.form
      have O14 := Lib.hid o14
      clear o14 f14
      go_wp2
      go_meet
      case rel => exact ⟨rfl, ⟨_, _, _, rfl, fun _ => O14.out⟩, F14.out⟩
    · rw [if_neg he] at PC
      have q1 : (er == 0) = false := by simpa using he
      have HE := Lib.hid he
      clear he
      go_wp2
      go_meet
      case rel => exact ⟨by rw [PC.out], ⟨_, _, _, rfl, fun h => absurd (PC.out.symm.trans h) HE.out⟩, Fr.refl _ _⟩
  obtain ⟨rfl, ⟨A6, n6, c6, rfl, o6⟩, f14⟩ := hcut
  have S14 := Lib.hid (S13.out.go f14)
  have O6 := Lib.hid o6
  clear f14 o6 S13 a0 a1 a2 a3 a4
  obtain ⟨w14, rfl⟩ : ∃ w14, w14 = wc := ⟨_, rfl⟩
  go_upto_if 137 with fail
  go_cut [34] from 136 to 141 (fun sa wx => TM kr w14 sa wx)
  case first =>
    by_cases hk : kc = 0
    · rw [if_pos hk] at KR
      have q1 : (kc == 0) = true := by simpa using hk
      have hb : eb = 0 := by
        by_cases hb : eb = 0
        · exact hb
        · have := KC.out; rw [if_neg hb] at this; exact absurd (this.symm.trans hk) hb
      have hg : checkGlob p = 0 := by
        have := KC.out
        rw [if_pos hb] at this
        exact this.symm.trans hk
      have ok := BZ.out hb
      have hk16 := ok.le
      have KO := Lib.hid (refKeys_any l (.slice A l.length c) now p w14 w14.heap.size ok.keys (by omega) hg (Nat.le_refl _) (S14.out.es _ (.tail _ (.tail _ (.head _)))))
      rw [← KR.out] at KO
      clear hk hb hg ok
      go_wp2_with fail
      refine KO.out.mono ?_
      rintro e2 w15 ⟨u3, rfl, o15, f15⟩
      have F15 := Lib.hid f15
      have O15 := Lib.hid o15
      obtain ⟨A7, c7, rfl, -⟩ := own_slice o15
      clear o15 f15
      go_wp2
      go_meet
      case rel => exact ⟨⟨_, _, rfl, own_sl O15.out⟩, F15.out⟩
    · rw [if_neg hk] at KR
      have q1 : (kc == 0) = false := by simpa using hk
      clear hk
      go_wp2
      go_meet
      case rel => exact ⟨⟨none, 0, by rw [KR.out]; rfl, by rw [KR.out]; exact Sl.nil _ _ _⟩, Fr.refl _ _⟩
  obtain ⟨⟨A7, c7, rfl, o7⟩, f15⟩ := hcut
  have S15 := Lib.hid ((S14.out.go f15).row o7)
  have G15 := Lib.hid f15
  clear f15 o7 S14
  obtain ⟨w15, rfl⟩ : ∃ w15, w15 = wc := ⟨_, rfl⟩
  go_upto_if 143 with fail
  go_cut [31, 33] from 142 to 151 (fun sa sb wx => WM sl sn w15 sa sb wx)
  case first =>
    by_cases hb : eb = 0
    · rw [if_pos hb] at SL SN
      have q1 : (eb == 0) = true := by simpa using hb
      have ok := BZ.out hb
      have hk16 := ok.le
      have hsw : (sweepL l now).length ≤ l.length := List.length_filter_le _ _
      have SO := Lib.hid (refSweep_any l (.slice A l.length c) now w15 w15.heap.size (by omega) (Nat.le_refl _) (S15.out.es _ (.tail _ (.tail _ (.head _)))))
      have HW := Lib.hid (show IntKind.i64.wrap ((l.length : Int) - ((sweepL l now).length : Int)) = (l.length : Int) - ((sweepL l now).length : Int) from IntWalk.i64_in _ (by omega))
      rw [← SL.out] at SO HW SN
      clear hb ok hsw
      go_wp2_with fail
      refine SO.out.mono ?_
      rintro e2 w16 ⟨u3, rfl, o16, f16⟩
      have F16 := Lib.hid f16
      have O16 := Lib.hid (o16.v f16.size)
      obtain ⟨A8, c8, rfl⟩ := o16.form
      clear o16 f16
      go_wp2
      go_meet
      case rel => exact ⟨⟨_, _, rfl, O16.out⟩, by rw [SN.out, IntWalk.wrap64_in _ (by have := SLN.out; omega)], F16.out⟩
    · rw [if_neg hb] at SL SN
      have q1 : (eb == 0) = false := by simpa using hb
      clear hb
      go_wp2
      go_meet
      case rel => exact ⟨⟨none, 0, by rw [SL.out]; rfl, by rw [SL.out]; exact EntsV.nil _ _⟩, by rw [SN.out], Fr.refl _ _⟩
  obtain ⟨⟨A8, c8, rfl, o8⟩, rfl, f16⟩ := hcut
  have S16 := Lib.hid ((S15.out.go f16).ents o8)
  have G16 := Lib.hid (G15.out.trans f16)
  clear f16 o8 S15 G15
  obtain ⟨w16, rfl⟩ : ∃ w16, w16 = wc := ⟨_, rfl⟩
  have PE0 := Lib.hid (show pc ≠ 0 → pl = [] from fun h => by
    by_cases he : er = 0
    · rw [if_pos he] at PL PC
      rw [PL.out]
      rw [PC.out] at h
      unfold putE putC at *
      by_cases hn : nothingI x = true
      · rw [if_pos hn] at h; exact absurd rfl h
      · rw [if_neg hn] at h ⊢
        by_cases h16 : 16 < (put2 l now s x u).length
        · rw [if_pos h16]
        · rw [if_neg h16] at h; exact absurd rfl h
    · rw [PL.out, if_neg he])
  have SE0 := Lib.hid (show eb ≠ 0 → sl = [] from fun h => by rw [SL.out, if_neg h])
  have O66 := Lib.hid (fun (hc : pc = 0) => (O6.out hc).go G16.out)
  clear PL PC SL SN KC KR AZ BZ PZ HS HSX GS G16 O6
  have qk : (kc == kc) = true := by simp
  have qu : (uc == uc) = true := by simp
  have qn : (un == un) = true := by simp
  have qs : (sn == sn) = true := by simp
  have qa : (ea == ea) = true := by simp
  have qp : (spCode l == spCode l) = true := by simp
  generalize spCode l = sc at *
  go_wp2_with fail
  refine (spaceBegun_any _).mono ?_
  rintro e1' w17 ⟨rfl, f17⟩
  have S17 := Lib.hid (S16.out.go f17)
  have G17 := Lib.hid f17
  clear f17 S16
  go_wp2_with fail
  refine (CH.out _ (S17.out.es _ (.tail _ (.tail _ (.tail _ (.head _)))))).mono ?_
  rintro e2 w18 ⟨rfl, f18⟩
  have S18 := Lib.hid (S17.out.go f18)
  have G18 := Lib.hid (G17.out.trans f18)
  clear f18 S17 G17
  go_wp2_with fail
  refine (CS.out _ (S18.out.es _ (.tail _ (.tail _ (.tail _ (.head _)))))).mono ?_
  rintro e3 w19 ⟨rfl, f19⟩
  have S19 := Lib.hid (S18.out.go f19)
  have G19 := Lib.hid (G18.out.trans f19)
  clear f19 S18 G18 CH CS
  obtain ⟨a0, a1, a2, a3, a4⟩ := five (S19.out.env.bl _ (.tail _ (.head _)))
  obtain ⟨b0, b1, b2, b3, b4⟩ := five (S19.out.env.bl _ (.head _))
  have SI := Lib.hid (sameItem_any got got _ _ w19 w19.heap.size GSM.out GSM.out (Nat.le_refl _) (S19.out.env.its _ (.tail _ (.head _))) (S19.out.env.its _ (.head _)))
  rw [sameI_refl] at SI
  go_wp2_with fail
  refine SI.out.mono ?_
  rintro e4 w20 ⟨rfl, f20⟩
  have S20 := Lib.hid (S19.out.go f20)
  have G20 := Lib.hid (G19.out.trans f20)
  clear f20 S19 G19 a0 a1 a2 a3 a4 b0 b1 b2 b3 b4 SI
  have I1 := Lib.hid (spaceIs_any pl _ (.slice A6 n6 c6) pc w20 w20.heap.size PSM.out PLN.out (Nat.le_refl _) (S20.out.es _ (.tail _ (.tail _ (.head _)))) (fun hc => (O66.out hc).go G20.out) PE0.out)
  go_wp2_with fail
  refine I1.out.mono ?_
  rintro e5 w21 ⟨rfl, f21⟩
  have S21 := Lib.hid (S20.out.go f21)
  clear f21 S20 I1
  have ST := Lib.hid (sameTexts_any kr kr _ _ _ _ w21.heap.size w21 (by have := KLN.out; omega) (by have := KLN.out; omega) (Nat.le_refl _) (S21.out.env.rs _ (.tail _ (.head _))) (S21.out.env.rs _ (.head _)))
  rw [show sameT kr kr = true from by unfold sameT; simp] at ST
  go_wp2_with fail
  refine ST.out.mono ?_
  rintro e6 w22 ⟨rfl, f22⟩
  have S22 := Lib.hid (S21.out.go f22)
  clear f22 S21 ST
  have I2 := Lib.hid (spaceIs_any sl _ (.slice A8 sl.length c8) eb w22 w22.heap.size SSM.out (by have := SLN.out; omega) (Nat.le_refl _) (S22.out.es _ (.tail _ (.head _))) (fun hc => S22.out.es _ (.head _)) SE0.out)
  go_wp2_with fail
  refine I2.out.mono ?_
  rintro e7 w23 ⟨rfl, f23⟩
  have S23 := Lib.hid (S22.out.go f23)
  clear f23 S22 I2
  go_wp2
  go_ret
  exact ⟨rfl, S23.out.env.f⟩
end Go.Proofs.Ytmlmiboihjibiaa
