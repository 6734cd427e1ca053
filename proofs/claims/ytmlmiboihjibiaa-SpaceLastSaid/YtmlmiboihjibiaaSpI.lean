/- The walk of space.Put. -/
import Derived.Test.YtmlmiboihjibiaaSpH
set_option linter.unusedVariables false
set_option linter.unusedSimpArgs false
namespace Go.Proofs.Ytmlmiboihjibiaa
open Go.RowKit

def tst1 (l : List Ent) (now : Int) (s : ByteArray) (x : Itm) : Bool := if atCode l now s = 0 then !nothingI x else false
def putE1 (l : List Ent) (now : Int) (s : ByteArray) (x : Itm) : Int := if tst1 l now s x = true then checkItm x else atCode l now s
def tst2 (e now u : Int) : Bool := if e = 0 then (if u = 0 then false else if u ≤ now then true else decide (1000000 < u)) else false
def putE2 (e now u : Int) : Int := if tst2 e now u = true then 3 else e
def putErr (l : List Ent) (now : Int) (s : ByteArray) (x : Itm) (u : Int) : Int := putE2 (putE1 l now s x) now u
def putLL (l : List Ent) (now : Int) (s : ByteArray) (x : Itm) (u : Int) : List Ent := if putErr l now s x u = 0 then putE l now s x u else []
def putCC (l : List Ent) (now : Int) (s : ByteArray) (x : Itm) (u : Int) : Int := if putErr l now s x u = 0 then putC l now s x u else putErr l now s x u
def SCP (l : List Ent) (c : Int) (w : World) (r : Ending) (w' : World) : Prop := ∃ u, r = .returned (.tuple #[u, .int .i64 c]) ∧ EntsO w' w.heap.size u l ∧ Fr [] w w'

theorem putErr_zero {l : List Ent} {now : Int} {s : ByteArray} {x : Itm} {u : Int} (h : putErr l now s x u = 0) : atCode l now s = 0 ∧ (nothingI x = true ∨ checkItm x = 0) := by
  unfold putErr putE2 at h
  have h1 : putE1 l now s x = 0 := by
    split at h
    · omega
    · exact h
  unfold putE1 tst1 at h1
  by_cases h2 : atCode l now s = 0
  · rw [if_pos h2] at h1
    refine ⟨h2, ?_⟩
    rcases h3 : nothingI x with _ | _
    · rw [h3] at h1; exact .inr h1
    · exact .inl rfl
  · rw [if_neg h2] at h1; exact absurd h1 h2

def TstMid (b : Bool) (cs : List Value) (w : World) (sv : Value) (wx : World) : Prop := sv = .bool b ∧ BX w cs wx
def PutMid (e : Int) (cs : List Value) (w : World) (sv : Value) (wx : World) : Prop := sv = .int .i64 e ∧ BX w cs wx

set_option maxHeartbeats 4000000 in
set_option maxRecDepth 100000 in
theorem spacePut_any (l : List Ent) (v : Value) (now : Int) (s : ByteArray) (x : Itm) (xv : Value) (u : Int) (w : World) (B : Nat) (hs : ∀ e ∈ l, e.Small) (hl : l.length ≤ 281474976710656) (hz : s.size ≤ 281474976710656) (hsx : x.Small) (hB : B ≤ w.heap.size) (h : EntsV w B v l) (hx : ItemV w B xv x) :
    Calls Try.prog 27 #[v, .int .i64 now, .string s, xv, .int .i64 u] w (SCP (putLL l now s x u) (putCC l now s x u) w) := by
  obtain ⟨A, c, rfl⟩ := h.form
  have HXV := Lib.hid hx
  obtain ⟨X1, x1, X2, x2, X3, x3, rfl⟩ := hx.form
  have D0 := Lib.hid (BX.new w (.int .i64 x.kind) (.string x.text) (.slice X1 x.list.length x1) (.slice X2 x.pairs.length x2) (.slice X3 x.scores.length x3))
  have RD := Lib.hid (fun W (hW : Fr [] w W) => spaceReady_any l _ now s W B hs hl hz (Nat.le_trans hB hW.size) (h.fr hW hB (by simp)))
  have NO := Lib.hid (fun W (hW : Fr [] w W) => nothing_any x _ W B hsx (Nat.le_trans hB hW.size) (HXV.out.fr hW hB (by simp)))
  have CK := Lib.hid (fun W (hW : Fr [] w W) => itemCheck_any x _ W B hsx (Nat.le_trans hB hW.size) (HXV.out.fr hW hB (by simp)))
  have HV := Lib.hid h
  have HS := Lib.hid hs
  have HSX := Lib.hid hsx
  have PZ := Lib.hid (fun (hq : putErr l now s x u = 0) => putErr_zero hq)
  have EL := Lib.hid (show putLL l now s x u = if putErr l now s x u = 0 then putE l now s x u else [] from rfl)
  have EC := Lib.hid (show putCC l now s x u = if putErr l now s x u = 0 then putC l now s x u else putErr l now s x u from rfl)
  have EE := Lib.hid (show putErr l now s x u = putE2 (putE1 l now s x) now u from rfl)
  have E1 := Lib.hid (show putE1 l now s x = if tst1 l now s x = true then checkItm x else atCode l now s from rfl)
  have T1 := Lib.hid (show tst1 l now s x = if atCode l now s = 0 then !nothingI x else false from rfl)
  clear h hs hx hsx
  generalize putLL l now s x u = LL at *
  generalize putCC l now s x u = CC at *
  generalize putErr l now s x u = er at *
  generalize putE1 l now s x = e1 at *
  generalize tst1 l now s x = t1 at *
  obtain ⟨d0, d1, d2, d3, d4⟩ := five D0.out.b
  go_enter Try.func27, Try.ntmps27
  go_wp2_with fail
  refine (RD.out _ D0.out.f).mono ?_
  rintro e w1 ⟨rfl, f1⟩
  have D1 := Lib.hid (D0.out.go f1)
  clear f1 d0 d1 d2 d3 d4
  obtain ⟨d0, d1, d2, d3, d4⟩ := five D1.out.b
  go_upto_region 2 with fail
  go_cut [23] (fun sv wx => TstMid t1 [.int .i64 x.kind, .string x.text, .slice X1 x.list.length x1, .slice X2 x.pairs.length x2, .slice X3 x.scores.length x3] w sv wx)
  case first =>
    by_cases ha : atCode l now s = 0
    · rw [if_pos ha] at T1
      have q1 : (atCode l now s == 0) = true := by simpa using ha
      clear ha
      generalize atCode l now s = r at *
      rcases hn : nothingI x with _ | _
      all_goals
        rw [hn] at NO T1
        go_wp2_with fail
        refine (NO.out _ D1.out.f).mono ?_
        rintro e2 w2 ⟨rfl, f2⟩
        have D2 := Lib.hid (D1.out.go f2)
        clear f2
        go_wp2
        go_meet
        case rel => exact ⟨by rw [T1.out]; rfl, D2.out⟩
    · rw [if_neg ha] at T1
      have q1 : (atCode l now s == 0) = false := by simpa using ha
      generalize atCode l now s = r at *
      go_wp2
      go_meet
      case rel => exact ⟨by rw [T1.out], D1.out⟩
  case rest =>
   obtain ⟨rfl, hD⟩ := hcut
   have D2 := Lib.hid hD
   clear hD d0 d1 d2 d3 d4 D1 T1
   obtain ⟨d0, d1, d2, d3, d4⟩ := five D2.out.b
   go_upto_if 23 with fail
   go_cut [12, 24, 25] (fun sv _ _ wx => PutMid e1 [.int .i64 x.kind, .string x.text, .slice X1 x.list.length x1, .slice X2 x.pairs.length x2, .slice X3 x.scores.length x3] w sv wx)
   case first =>
     rcases t1 with _ | _
     · go_wp2
       go_meet
       case rel => exact ⟨by rw [E1.out]; rfl, D2.out⟩
     · go_wp2_with fail
       refine (CK.out _ D2.out.f).mono ?_
       rintro e3 w3 ⟨rfl, f3⟩
       have D3 := Lib.hid (D2.out.go f3)
       clear f3
       go_wp2
       go_meet
       case rel => exact ⟨by rw [E1.out]; rfl, D3.out⟩
   case rest =>
    obtain ⟨rfl, hD⟩ := hcut
    have D2 := Lib.hid hD
    clear hD d0 d1 d2 d3 d4 E1
    obtain ⟨d0, d1, d2, d3, d4⟩ := five D2.out.b
    have T2 := Lib.hid (show tst2 e1 now u = if e1 = 0 then (if u = 0 then false else if u ≤ now then true else decide (1000000 < u)) else false from rfl)
    have E2 := Lib.hid (show putE2 e1 now u = if tst2 e1 now u = true then 3 else e1 from rfl)
    rw [E2.out] at EE
    clear E2
    generalize tst2 e1 now u = t2 at *
    go_upto_region 4 with fail
    go_cut [40] (fun sv wx => TstMid t2 [.int .i64 x.kind, .string x.text, .slice X1 x.list.length x1, .slice X2 x.pairs.length x2, .slice X3 x.scores.length x3] w sv wx)
    case first =>
      by_cases h1 : e1 = 0
      · rw [if_pos h1] at T2
        have q1 : (e1 == 0) = true := by simpa using h1
        clear h1
        by_cases h2 : u = 0
        · rw [if_pos h2] at T2
          have q2 : (u != 0) = false := by simpa using h2
          clear h2
          go_wp2
          go_meet
          case rel => exact ⟨by rw [T2.out], D2.out⟩
        · rw [if_neg h2] at T2
          have q2 : (u != 0) = true := by simpa using h2
          by_cases h3 : u ≤ now
          · rw [if_pos h3] at T2
            go_wp2
            go_meet
            case rel => exact ⟨by rw [T2.out], D2.out⟩
          · rw [if_neg h3] at T2
            go_wp2
            go_meet
            case rel => exact ⟨by rw [T2.out], D2.out⟩
      · rw [if_neg h1] at T2
        have q1 : (e1 == 0) = false := by simpa using h1
        go_wp2
        go_meet
        case rel => exact ⟨by rw [T2.out], D2.out⟩
    case rest =>
     obtain ⟨rfl, hD⟩ := hcut
     have D3 := Lib.hid hD
     clear hD d0 d1 d2 d3 d4 D2 T2
     obtain ⟨d0, d1, d2, d3, d4⟩ := five D3.out.b
     go_upto_if 40 with fail
     go_cut [12] (fun sv wx => PutMid er [.int .i64 x.kind, .string x.text, .slice X1 x.list.length x1, .slice X2 x.pairs.length x2, .slice X3 x.scores.length x3] w sv wx)
     case first =>
       rcases t2 with _ | _
       all_goals
         go_wp2
         go_meet
         case rel => exact ⟨by rw [EE.out]; rfl, D3.out⟩
     case rest =>
      obtain ⟨rfl, hD⟩ := hcut
      have D3 := Lib.hid hD
      clear hD d0 d1 d2 d3 d4 EE
      obtain ⟨d0, d1, d2, d3, d4⟩ := five D3.out.b
      by_cases h1 : er = 0
      · subst h1
        rw [if_pos rfl] at EL EC
        have ok := spOk (atOk (PZ.out rfl).1).1
        have hl16 := ok.le
        have HR := Lib.hid ok.rise
        have OW := Lib.hid (fun W (hW : Fr [] w W) => spaceOwn_any l _ W B HS.out (items_len ok) (by omega) (Nat.le_trans hB hW.size) (HV.out.fr hW hB (by simp)))
        have LN : x.list.length ≤ 1000000 ∧ x.pairs.length ≤ 1000000 ∧ x.scores.length ≤ 1000000 := (PZ.out rfl).2.elim len24n len24
        have OI := Lib.hid (fun W (hW : Fr [] w W) => itemOwn_any x _ W B HSX.out LN.1 LN.2.1 LN.2.2 (Nat.le_trans hB hW.size) (HXV.out.fr hW hB (by simp)))
        have RW := Lib.hid (fun W v xv base (h : EntsO W base v l) (hx : ItemO W base xv x) (hb : base ≤ W.heap.size) => spaceRaw_own l v now s x xv u base W HR.out (by omega) HSX.out h hx hb)
        clear ok PZ LN RD NO CK
        generalize putE l now s x u = L2 at *
        generalize putC l now s x u = c2 at *
        go_upto_region 8 with fail
        go_region_held3 (fun wx => wx.cell? ⟨w.heap.size, 0, none⟩ = some (.int .i64 x.kind) ∧ wx.cell? ⟨w.heap.size, 1, none⟩ = some (.string x.text) ∧ wx.cell? ⟨w.heap.size, 2, none⟩ = some (.slice X1 x.list.length x1) ∧ wx.cell? ⟨w.heap.size, 3, none⟩ = some (.slice X2 x.pairs.length x2) ∧ wx.cell? ⟨w.heap.size, 4, none⟩ = some (.slice X3 x.scores.length x3)) (go_keep) (first
          | (go_at_call 86; (refine (OW.out _ D3.out.f.drew).mono ?_); rintro e w5 ⟨u5, rfl, ho, f5⟩; have D5 := Lib.hid (D3.out.go (fr_predrew f5)); clear d0 d1 d2 d3 d4 f5; obtain ⟨d0, d1, d2, d3, d4⟩ := five D5.out.b; have HO5 := Lib.hid ho; obtain ⟨A5, c5, rfl⟩ := ho.form; clear ho)
          | (go_at_call 82; (refine (OI.out _ D5.out.f).mono ?_); rintro e w6 ⟨u6, rfl, hi, f6⟩; have D6 := Lib.hid (D5.out.go f6); have HO6 := Lib.hid (HO5.out.fr f6); have HI6 := Lib.hid hi; clear d0 d1 d2 d3 d4; obtain ⟨d0, d1, d2, d3, d4⟩ := five D6.out.b; obtain ⟨P1, p1, P2, p2, P3, p3, rfl⟩ := hi.form; clear hi f6)
          | (go_at_call 85; (refine (RW.out _ _ _ w.heap.size (HO6.out.base D3.out.f.size) (HI6.out.less D5.out.f.size) D6.out.f.size).mono ?_); rintro e w7 ⟨u7, rfl, ho, f7⟩; have F7 := Lib.hid (D6.out.f.step f7 (fun q hq => .inr (by
              obtain ⟨rs, _, _, hr⟩ := HO6.out
              have := ownL_base hr hq
              have hd : wc.drew.heap.size = wc.heap.size := rfl
              have := D3.out.f.size
              omega))); have HO7 := Lib.hid ho; obtain ⟨A7, c7, rfl⟩ := ho.form; have D7 := Lib.hid (show Whole w7 w.heap.size _ _ from D6.out.b.fr f7 (by
              intro hq
              obtain ⟨rs, _, _, hr⟩ := HO6.out
              have := ownL_base hr hq
              have hd : wc.drew.heap.size = wc.heap.size := rfl
              have := D3.out.b.lt
              omega)); clear d0 d1 d2 d3 d4; obtain ⟨d0, d1, d2, d3, d4⟩ := five D7.out; clear ho f7))
        go_wp2
        go_ret2
        rw [EL.out, EC.out]
        exact ⟨_, rfl, HO7.out, F7.out⟩
      · rw [if_neg h1] at EL EC
        have q1 : (er != 0) = true := by simpa using h1
        clear PZ
        go_wp2
        go_ret2
        rw [EL.out, EC.out]
        exact ⟨_, rfl, EntsO.nil _ _, D3.out.f⟩
end Go.Proofs.Ytmlmiboihjibiaa
