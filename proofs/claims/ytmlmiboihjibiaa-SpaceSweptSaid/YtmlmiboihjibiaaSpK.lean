/- A row of entries that read: its cells; two entries exchanged. The walk of the document's PutOf. -/
import Derived.Test.YtmlmiboihjibiaaSpJ
import Derived.Test.YtmlmiboihjibiaaItB
set_option linter.unusedVariables false
set_option linter.unusedSimpArgs false
namespace Go.Proofs.Ytmlmiboihjibiaa
open Go.RowKit

theorem Rel.set {P : List Value → Ent → Prop} {rs : List (List Value)} {l : List Ent} (h : Rel P rs l) {c : List Value} {e : Ent} (i : Nat) (hp : P c e) : Rel P (rs.set i c) (l.set i e) :=
  ⟨by simp [h.len], fun j x hx => by
    by_cases hij : i = j
    · subst hij
      have hlt : i < l.length := by have := (List.getElem?_eq_some_iff.1 hx).1; simpa using this
      rw [List.getElem?_set_self hlt] at hx
      cases hx
      exact ⟨c, by rw [List.getElem?_set_self (by rw [h.len]; exact hlt)], hp⟩
    · rw [List.getElem?_set_ne hij] at hx
      obtain ⟨d, h1, h2⟩ := h.at_ j x hx
      exact ⟨d, by rw [List.getElem?_set_ne hij]; exact h1, h2⟩⟩
theorem rel_all7 {w : World} {B : Nat} {rs : List (List Value)} {l : List Ent} (h : Rel (EntC w B) rs l) : ∀ c ∈ rs, c.length = 7 := fun c hc => by
  obtain ⟨e, _, he⟩ := h.mem hc
  exact he.len
theorem row_at7 {w : World} {base B n g c : Nat} {rs : List (List Value)} {l : List Ent} (hR : Rel (EntC w B) rs l) (ho : w.ownsRow base 58 7 (.slice (some ⟨g, 0, none⟩) n c) n rs.flatten) (hn : l.length = n) {i : Nat} {e : Ent} (he : l[i]? = some e) :
    ∃ A1 A2 A3 c1 c2 c3, rs[i]? = some (ent7 e A1 c1 A2 c2 A3 c3) ∧ At7 w B g (i * 7) e A1 A2 A3 c1 c2 c3 := by
  obtain ⟨cs, h1, h2⟩ := hR.at_ i e he
  obtain ⟨A1, c1, A2, c2, A3, c3, rfl, s1, s2, s3⟩ := h2
  have hi := (List.getElem?_eq_some_iff.1 he).1
  have a7 := rel_all7 hR
  have g : ∀ j u, j < 7 → (ent7 e A1 c1 A2 c2 A3 c3)[j]? = some u → w.cell? ⟨g, i * 7 + j, none⟩ = some u := fun j u hj hu =>
    (ho.cellAt (i * 7 + j) (by omega)).trans (by rw [flatN 7 rs i j _ a7 h1 hj]; exact hu)
  exact ⟨A1, A2, A3, c1, c2, c3, h1, g 0 _ (by decide) rfl, g 1 _ (by decide) rfl, g 2 _ (by decide) rfl, g 3 _ (by decide) rfl, g 4 _ (by decide) rfl, g 5 _ (by decide) rfl, g 6 _ (by decide) rfl, ⟨A1, c1, A2, c2, A3, c3, rfl, s1, s2, s3⟩⟩
/-- the world behind seven stores. -/
def st7 (w : World) (g o : Nat) (a b c d e f h : Value) : World := ((((((w.setCell ⟨g, o, none⟩ a).setCell ⟨g, o + 1, none⟩ b).setCell ⟨g, o + 2, none⟩ c).setCell ⟨g, o + 3, none⟩ d).setCell ⟨g, o + 4, none⟩ e).setCell ⟨g, o + 5, none⟩ f).setCell ⟨g, o + 6, none⟩ h
theorem st7_row {w : World} {base n g c i : Nat} {rs : List (List Value)} {a b d e f h k : Value} (ho : w.ownsRow base 58 7 (.slice (some ⟨g, 0, none⟩) n c) n rs.flatten) (h7 : ∀ c ∈ rs, c.length = 7) (hi : i < rs.length) : (st7 w g (i * 7) a b d e f h k).ownsRow base 58 7 (.slice (some ⟨g, 0, none⟩) n c) n (rs.set i [a, b, d, e, f, h, k]).flatten := by
  rw [flat_set7 a b d e f h k rs i h7 hi]
  have o0 := ho.stored (i * 7) a
  have o1 := o0.1.stored (i * 7 + 1) b
  have o2 := o1.1.stored (i * 7 + 2) d
  have o3 := o2.1.stored (i * 7 + 3) e
  have o4 := o3.1.stored (i * 7 + 4) f
  have o5 := o4.1.stored (i * 7 + 5) h
  have o6 := o5.1.stored (i * 7 + 6) k
  exact o6.1
theorem st7_fr {S : List Nat} {w W : World} {g o : Nat} {a b c d e f h : Value} (hf : Fr S w W) (hg : g ∈ S ∨ w.heap.size ≤ g) : Fr S w (st7 W g o a b c d e f h) :=
  ((((((hf.setCell (p := ⟨g, o, none⟩) hg a).setCell (p := ⟨g, o + 1, none⟩) hg b).setCell (p := ⟨g, o + 2, none⟩) hg c).setCell (p := ⟨g, o + 3, none⟩) hg d).setCell (p := ⟨g, o + 4, none⟩) hg e).setCell (p := ⟨g, o + 5, none⟩) hg f).setCell (p := ⟨g, o + 6, none⟩) hg h
def sw7 (w : World) (g j : Nat) (q e : Ent) (B1 : Option Addr) (e1 : Nat) (B2 : Option Addr) (e2 : Nat) (B3 : Option Addr) (e3 : Nat) (A1 : Option Addr) (c1 : Nat) (A2 : Option Addr) (c2 : Nat) (A3 : Option Addr) (c3 : Nat) : World := (st7 (st7 w g ((j + 1) * 7) (.string q.key) (.int .i64 q.item.kind) (.string q.item.text) (.slice B1 q.item.list.length e1) (.slice B2 q.item.pairs.length e2) (.slice B3 q.item.scores.length e3) (.int .i64 q.til)) g (j * 7) (.string e.key) (.int .i64 e.item.kind) (.string e.item.text) (.slice A1 e.item.list.length c1) (.slice A2 e.item.pairs.length c2) (.slice A3 e.item.scores.length c3) (.int .i64 e.til)).drew
/-- two entries exchanged. -/
theorem swap7 {w : World} {base B n g c j : Nat} {rs : List (List Value)} {lo : List Ent} {e q : Ent} {A1 A2 A3 B1 B2 B3 : Option Addr} {c1 c2 c3 e1 e2 e3 : Nat} (h1 : Rel (EntC w B) rs (insAt lo e (j + 1))) (h2 : w.ownsRow base 58 7 (.slice (some ⟨g, 0, none⟩) n c) n rs.flatten)
    (pe : EntC w B (ent7 e A1 c1 A2 c2 A3 c3) e) (qe : EntC w B (ent7 q B1 e1 B2 e2 B3 e3) q) (hsw : ((insAt lo e (j + 1)).set (j + 1) q).set j e = insAt lo e j) (hb : B ≤ g) (hBz : B ≤ w.heap.size) (hn : j + 1 < rs.length) :
    (∃ rs, Rel (EntC (sw7 w g j q e B1 e1 B2 e2 B3 e3 A1 c1 A2 c2 A3 c3) B) rs (insAt lo e j) ∧ (sw7 w g j q e B1 e1 B2 e2 B3 e3 A1 c1 A2 c2 A3 c3).ownsRow base 58 7 (.slice (some ⟨g, 0, none⟩) n c) n rs.flatten)
    ∧ Fr [g] w (sw7 w g j q e B1 e1 B2 e2 B3 e3 A1 c1 A2 c2 A3 c3) := by
  have hf : Fr [g] w (sw7 w g j q e B1 e1 B2 e2 B3 e3 A1 c1 A2 c2 A3 c3) :=
    (st7_fr (st7_fr (Fr.refl [g] w) (.inl (by simp))) (.inl (by simp))).drew
  have hS : ∀ k, k ∈ [g] → B ≤ k := fun k hk => by simp at hk; subst hk; exact hb
  have a7 := rel_all7 h1
  have R1 := (h1.set (j + 1) qe).set j pe
  rw [hsw] at R1
  have o := st7_row (i := j + 1) (a := .string q.key) (b := .int .i64 q.item.kind) (d := .string q.item.text) (e := .slice B1 q.item.list.length e1) (f := .slice B2 q.item.pairs.length e2) (h := .slice B3 q.item.scores.length e3) (k := .int .i64 q.til) h2 a7 hn
  have b7 : ∀ c ∈ rs.set (j + 1) (ent7 q B1 e1 B2 e2 B3 e3), c.length = 7 := fun c hc => by
    rcases List.mem_or_eq_of_mem_set hc with h | h
    · exact a7 c h
    · rw [h]; rfl
  have o2 := st7_row (i := j) (a := .string e.key) (b := .int .i64 e.item.kind) (d := .string e.item.text) (e := .slice A1 e.item.list.length c1) (f := .slice A2 e.item.pairs.length c2) (h := .slice A3 e.item.scores.length c3) (k := .int .i64 e.til) o b7 (by rw [List.length_set]; omega)
  exact ⟨⟨_, R1.imp (fun cs e he => he.fr hf hBz hS), own_fr o2 ((Fr.refl [] _).drew) (by simp)⟩, hf⟩
end Go.Proofs.Ytmlmiboihjibiaa

namespace Go.Proofs.Ytmlmiboihjibiaa
open Go.RowKit

theorem BX.stepX {w wr w1 : World} {cs : List Value} {S : List Nat} (h : BX w cs wr) (k : Fr S wr w1) (hS : ∀ g, g ∈ S → w.heap.size + 1 ≤ g) : BX w cs w1 :=
  ⟨h.b.fr k (fun hm => by have := hS _ hm; omega), h.f.step k (fun g hg => .inr (by have := hS g hg; omega))⟩
def RPP (l : List Ent) (c : Int) (w : World) (r : Ending) (w' : World) : Prop := ∃ u, r = .returned (.tuple #[u, .int .i64 c]) ∧ EntsV w' w'.heap.size u l ∧ Fr [] w w'
def RowMid (l : List Ent) (w : World) (sv : Value) (wx : World) : Prop := ∃ A c, sv = .slice A l.length c ∧ EntsV wx wx.heap.size (.slice A l.length c) l ∧ Fr [] w wx
def BubMid (b : Bool) (lo : List Ent) (e : Ent) (j g6 c6 B : Nat) (w : World) (sv : Value) (wx : World) : Prop := sv = .bool b ∧ (∃ rs, Rel (EntC wx B) rs (insAt lo e j) ∧ wx.ownsRow w.heap.size 58 7 (.slice (some ⟨g6, 0, none⟩) (lo.length + 1) c6) (lo.length + 1) rs.flatten) ∧ Fr [] w wx

set_option maxHeartbeats 8000000 in
set_option maxRecDepth 100000 in
theorem refPut_any (l : List Ent) (v : Value) (now : Int) (s : ByteArray) (x : Itm) (xv : Value) (u : Int) (w : World) (B : Nat) (hs : ∀ e ∈ l, e.key.size ≤ 281474976710656) (hz : s.size ≤ 281474976710656) (hr : rises (ltK Ent.key) l = true) (hl : l.length ≤ 100000) (hB : B ≤ w.heap.size) (h : EntsV w B v l) (hx : ItemV w B xv x) (hk : nothingI x = true ∨ 1 ≤ x.kind) :
    Calls Try.prog 36 #[v, .int .i64 now, .string s, xv, .int .i64 u] w (RPP (putE l now s x u) (putC l now s x u) w) := by
  obtain ⟨i0, hi, hz0, hz1, hz2⟩ := info_parts entInfo
  obtain ⟨A, c, rfl⟩ := h.form
  have HV := Lib.hid h
  have HXV := Lib.hid hx
  obtain ⟨X1, x1, X2, x2, X3, x3, rfl⟩ := hx.form
  have D0 := Lib.hid (BX.new w (.int .i64 x.kind) (.string x.text) (.slice X1 x.list.length x1) (.slice X2 x.pairs.length x2) (.slice X3 x.scores.length x3))
  have OFL := Lib.hid (show offE l s = l.filter (fun e => decide (e.key ≠ s)) from rfl)
  have OLE := off_len l s
  have HRO := Lib.hid (off_rises hr s)
  have HKS := Lib.hid (show ∀ e ∈ offE l s, e.key.size ≤ 281474976710656 ∧ e.key ≠ s from fun e he => by
    rw [OFL.out] at he
    have := List.mem_filter.1 he
    exact ⟨hs e this.1, by simpa using this.2⟩)
  have EL := Lib.hid (show putE l now s x u = if nothingI x = true then offE l s else if 16 < (put2 l now s x u).length then [] else put2 l now s x u from rfl)
  have EC := Lib.hid (show putC l now s x u = if nothingI x = true then 0 else if 16 < (put2 l now s x u).length then 2 else 0 from rfl)
  have EP := Lib.hid (show put2 l now s x u = if 16 < (insE (offE l s) ⟨s, x, u⟩).length then sweepL (insE (offE l s) ⟨s, x, u⟩) now else insE (offE l s) ⟨s, x, u⟩ from rfl)
  have NK := Lib.hid (show nothingI x = true ↔ x.kind = 0 from ⟨fun h => by rw [nothingI_iff] at h; simp at h; exact h.1, fun h => hk.elim id (fun h2 => absurd h2 (by omega))⟩)
  clear h hx hk hs
  generalize putE l now s x u = LL at *
  generalize putC l now s x u = CC at *
  generalize put2 l now s x u = P2 at *
  generalize hlo : offE l s = lo at *
  clear hlo
  go_enter Try.func36, Try.ntmps36
  go_wp2
  go_loopg [12, 13] l.length (fun g o i wr => ∃ (k : Nat) (cur : List Ent), g = l.length - k ∧ k ≤ l.length ∧ i = .int .i64 k ∧ Hid (cur = (l.take k).filter (fun e => decide (e.key ≠ s))) ∧ EntsR wr (w.heap.size + 1) B o cur ∧ BX w [.int .i64 x.kind, .string x.text, .slice X1 x.list.length x1, .slice X2 x.pairs.length x2, .slice X3 x.scores.length x3] wr)
  case atStart => exact ⟨0, [], rfl, Nat.zero_le _, rfl, Lib.hid (by simp), EntsR.nil _ _ _, D0.out⟩
  case round =>
    obtain ⟨k, cur, rfl, hk, rfl, hcur, hO, hD⟩ := hrel
    have D1 := Lib.hid hD
    have HO := Lib.hid hO
    obtain ⟨Ao, co, rfl⟩ := hO.form
    have hcl : cur.length ≤ l.length := by rw [hcur.out]; exact filter_take_le _ _
    clear hD hO
    by_cases hlt : k < l.length
    · obtain ⟨b, off, rfl, hb, hc, hmx, hat⟩ := HV.out.at_ (by omega)
      obtain ⟨e, he⟩ : ∃ e, l[k]? = some e := ⟨_, List.getElem?_eq_getElem hlt⟩
      obtain ⟨A1, A2, A3, c1, c2, c3, h7⟩ := hat k e he
      have P7 := Lib.hid (h7.fr D1.out.f hb hB (by simp))
      obtain ⟨x0, x1', x2', x3', x4, x5, x6, -⟩ := P7.out
      have ET := Lib.hid (filter_step (fun e => decide (e.key ≠ s)) he)
      clear hat h7 he
      by_cases hks : e.key = s
      · have ET2 := Lib.hid (ET.out.trans (by rw [if_neg (by simp [hks]), List.append_nil, ← hcur.out]))
        have q1 : (e.key.toList == s.toList) = true := by rw [hks]; simp
        clear ET hks
        go_wp2
        go_roundg (l.length - (k + 1))
        case measure => omega
        case rel => exact ⟨k + 1, cur, rfl, by omega, by go_num, Lib.hid ET2.out.symm, HO.out, D1.out⟩
      · have ET2 := Lib.hid (ET.out.trans (by rw [if_pos (by simp [hks]), ← hcur.out]))
        have q1 : (e.key.toList == s.toList) = false := (neqB hks).1
        clear ET hks
        obtain ⟨rs, hr1, hr3⟩ := HO.out
        have HR := Lib.hid (hr3.alloc (.cells #[.string e.key, .int .i64 e.item.kind, .string e.item.text, .slice A1 e.item.list.length c1, .slice A2 e.item.pairs.length c2, .slice A3 e.item.scores.length c3, .int .i64 e.til] 58))
        have G2 := Lib.hid ((Fr.refl [] wr).alloc (.cells #[.string e.key, .int .i64 e.item.kind, .string e.item.text, .slice A1 e.item.list.length c1, .slice A2 e.item.pairs.length c2, .slice A3 e.item.scores.length c3, .int .i64 e.til] 58))
        have HR1 := Lib.hid (hr1.imp (fun cs e he => he.fr G2.out (Nat.le_trans hB D1.out.f.size) (by simp)))
        have HE := Lib.hid (P7.out.ent.fr G2.out (Nat.le_trans hB D1.out.f.size) (by simp))
        have hzz : w.heap.size < wr.heap.size := D1.out.b.lt
        have hO1 := Lib.hid (own_sl (World.ownsRow_lit (base := wr.heap.size) (e := 58) (size := 7) wr #[.string e.key, .int .i64 e.item.kind, .string e.item.text, .slice A1 e.item.list.length c1, .slice A2 e.item.pairs.length c2, .slice A3 e.item.scores.length c3, .int .i64 e.til] 1 (Nat.le_refl _) (by decide) rfl))
        clear hr1 hr3
        go_wp2_with (at_builtin; refine wpList_append_sl _ rfl _ _ 44 rfl (w.heap.size + 1) 58 i0 _ 7 120 Try.underlying44 hi hz0 hz1 hz2 rfl (by decide) _ _ _ rfl HR.out _ _ 1 _ rfl hO1.out (ent7_one e A1 A2 A3 c1 c2 c3) ?c1 ?c2 ?c3 ?_)
        case c1 => unfold maxLen; omega
        case c2 => omega
        case c3 => first | omega | (simp; omega)
        intro v' w5 hown hgrow hat5
        have HE5 := Lib.hid (show EntsR w5 (w.heap.size + 1) B v' ((l.take (k + 1)).filter (fun e => decide (e.key ≠ s))) from by
          rw [ET2.out]
          exact entsR_snoc HR1.out HE.out rfl (Nat.le_trans hB (Nat.le_trans D1.out.f.size G2.out.size)) (Nat.le_succ_of_le hB) HR.out hgrow hown)
        have D5 := Lib.hid ((D1.out.go G2.out).stepX (fr_ownL hgrow) (fun q hq => ownL_base HR.out hq))
        clear hown hgrow hat5
        go_wp2
        go_roundg (l.length - (k + 1))
        case measure => omega
        case rel => exact ⟨k + 1, _, rfl, by omega, by go_num, Lib.hid rfl, HE5.out, D5.out⟩
    · obtain rfl : k = l.length := by omega
      have hcur2 := hcur.out
      rw [List.take_length, ← OFL.out] at hcur2
      have hcur3 := hcur2.symm
      clear hcur2
      subst hcur3
      clear hcur OFL hcl
      obtain ⟨d0, d1, d2, d3, d4⟩ := five D1.out.b
      by_cases hn : nothingI x = true
      · rw [if_pos hn] at EL EC
        have qk : x.kind = 0 := NK.out.1 hn
        have qk1 : (x.kind == 0) = true := by simpa using qk
        clear hn EP NK qk
        go_wp2
        go_ret2
        rw [EL.out, EC.out]
        exact ⟨_, rfl, HO.out.v (Nat.le_trans hB D1.out.f.size), D1.out.f⟩
      · rw [if_neg hn] at EL EC
        have qk : ¬ x.kind = 0 := fun h => hn (NK.out.2 h)
        have qk1 : (x.kind == 0) = false := by simpa using qk
        clear hn NK qk
        have hlolen : lo.length ≤ l.length := OLE
        obtain ⟨rs, hr1, hr3⟩ := HO.out
        have HR := Lib.hid (hr3.alloc (.cells #[.string s, .int .i64 x.kind, .string x.text, .slice X1 x.list.length x1, .slice X2 x.pairs.length x2, .slice X3 x.scores.length x3, .int .i64 u] 58))
        have G2 := Lib.hid ((Fr.refl [] wr).alloc (.cells #[.string s, .int .i64 x.kind, .string x.text, .slice X1 x.list.length x1, .slice X2 x.pairs.length x2, .slice X3 x.scores.length x3, .int .i64 u] 58))
        have HR1 := Lib.hid (hr1.imp (fun cs e he => he.fr G2.out (Nat.le_trans hB D1.out.f.size) (by simp)))
        have HE := Lib.hid (show EntC (wr.alloc (.cells #[.string s, .int .i64 x.kind, .string x.text, .slice X1 x.list.length x1, .slice X2 x.pairs.length x2, .slice X3 x.scores.length x3, .int .i64 u] 58)) B (ent7 ⟨s, x, u⟩ X1 x1 X2 x2 X3 x3) ⟨s, x, u⟩ from by
          have hi := HXV.out.fr (D1.out.f.trans G2.out) hB (by simp)
          obtain ⟨L1, m1, L2, m2, L3, m3, hv, o1, o2, o3⟩ := hi
          cases hv
          exact ⟨_, _, _, _, _, _, rfl, o1, o2, o3⟩)
        have hzz : w.heap.size < wr.heap.size := D1.out.b.lt
        have hO1 := Lib.hid (own_sl (World.ownsRow_lit (base := wr.heap.size) (e := 58) (size := 7) wr #[.string s, .int .i64 x.kind, .string x.text, .slice X1 x.list.length x1, .slice X2 x.pairs.length x2, .slice X3 x.scores.length x3, .int .i64 u] 1 (Nat.le_refl _) (by decide) rfl))
        clear hr1 hr3
        go_wp2_with (at_builtin; refine wpList_append_sl _ rfl _ _ 44 rfl (w.heap.size + 1) 58 i0 _ 7 120 Try.underlying44 hi hz0 hz1 hz2 rfl (by decide) _ _ _ rfl HR.out _ _ 1 _ rfl hO1.out (ent7_one ⟨s, x, u⟩ X1 X2 X3 x1 x2 x3) ?c1 ?c2 ?c3 ?_)
        case c1 => unfold maxLen; omega
        case c2 => omega
        case c3 => first | omega | (simp; omega)
        intro v6 w6 hown hgrow hat6
        have HO6 := Lib.hid (entsR_snoc HR1.out HE.out rfl (Nat.le_trans hB (Nat.le_trans D1.out.f.size G2.out.size)) (Nat.le_succ_of_le hB) HR.out hgrow hown)
        rw [← insAt_end] at HO6
        have F6 := Lib.hid (D1.out.f.trans G2.out |>.grown hgrow (fun j hj => .inr (by have := (HR.out.lt j hj).1; omega)))
        clear hown hgrow hat6 HE hO1 HR HR1 d0 d1 d2 d3 d4 D1 HO
        obtain ⟨A6, c6, hA6⟩ := HO6.out.form
        rw [insAt_length lo _ (Nat.le_refl _)] at hA6
        subst hA6
        obtain ⟨g6, rfl⟩ : ∃ g6, A6 = some ⟨g6, 0, none⟩ := by
          obtain ⟨rs, _, ho⟩ := HO6.out
          rw [insAt_length lo _ (Nat.le_refl _)] at ho
          obtain ⟨A7, c7, hv, hA7, hc7, hm7⟩ := own_slice ho
          cases hv
          rcases hA7 with rfl | ⟨gb, rfl⟩
          · exfalso
            rcases ho.2 with ⟨_, h0⟩ | ⟨g', cap', cur', h', _⟩
            · omega
            · cases h'
          · exact ⟨gb, rfl⟩
        have HO7 := Lib.hid (show ∃ rs, Rel (EntC w6 B) rs (insAt lo ⟨s, x, u⟩ lo.length) ∧ w6.ownsRow w.heap.size 58 7 (.slice (some ⟨g6, 0, none⟩) (lo.length + 1) c6) (lo.length + 1) rs.flatten from by
          obtain ⟨rs, h1, h2⟩ := HO6.out
          refine ⟨rs, h1, ?_⟩
          have h3 := own_base h2 (Nat.le_succ w.heap.size)
          rw [insAt_length lo _ (Nat.le_refl _)] at h3
          exact h3)
        have hlow := lowK_le Ent.key lo s
        have HGB := Lib.hid (show w.heap.size ≤ g6 from by
          obtain ⟨rs, h1, h2⟩ := HO7.out
          exact (h2.lt g6 rfl).1)
        clear HO6
        go_wp2
        go_loopg [14] (2 * lo.length) (fun g kk wq => ∃ (j : Nat), g = 2 * j ∧ kk = .int .i64 j ∧ lowK Ent.key lo s ≤ j ∧ j ≤ lo.length ∧ (∃ rs, Rel (EntC wq B) rs (insAt lo ⟨s, x, u⟩ j) ∧ wq.ownsRow w.heap.size 58 7 (.slice (some ⟨g6, 0, none⟩) (lo.length + 1) c6) (lo.length + 1) rs.flatten) ∧ Fr [] w wq)
        case atStart => exact ⟨lo.length, rfl, by go_num, hlow, Nat.le_refl _, HO7.out, F6.out⟩
        case round =>
          obtain ⟨j, rfl, rfl, hlj, hjc, hO, hF⟩ := hrel
          have HO8 := Lib.hid hO
          have F8 := Lib.hid hF
          clear hO hF HO7 F6
          obtain ⟨bb, hbb⟩ : ∃ bb : Bool, bb = decide (lowK Ent.key lo s < j) := ⟨_, rfl⟩
          have ix2 : (j : Int) < (lo.length : Int) + 1 := by omega
          go_upto_region 11 with fail
          go_cut [65] (fun sv wx => BubMid bb lo ⟨s, x, u⟩ j g6 c6 B w sv wx)
          case first =>
            rcases j with _ | j
            · have hb0 : bb = false := by rw [hbb]; exact decide_eq_false (by omega)
              subst hb0
              clear hbb
              go_quiet (fail)
              go_wp2
              go_meet
              case rel =>
                refine ⟨rfl, ?_, ?_⟩
                · obtain ⟨rs, h1, h2⟩ := HO8.out
                  first
                    | exact ⟨rs, h1, h2⟩
                    | exact ⟨rs, h1.imp (fun cs e he => he.fr ((Fr.refl [] _).drewN _) (Nat.le_trans hB F8.out.size) (by simp)), own_fr h2 ((Fr.refl [] _).drewN _) (by simp)⟩
                · first | exact F8.out | exact F8.out.drew | exact F8.out.drewN _
            · obtain ⟨q, hq⟩ : ∃ q, lo[j]? = some q := ⟨_, List.getElem?_eq_getElem (by omega)⟩
              have hp0 := insAt_at lo (⟨s, x, u⟩ : Ent) hjc
              have hq0 : (insAt lo ⟨s, x, u⟩ (j + 1))[j]? = some q := (insAt_before lo _ hjc (Nat.lt_succ_self j)).trans hq
              obtain ⟨rs, h1, h2⟩ := HO8.out
              have hgg := h2.lt g6 rfl
              obtain ⟨A1, A2, A3, c1, c2, c3, -, P⟩ := row_at7 h1 h2 (insAt_length lo _ hjc) hp0
              obtain ⟨B1, B2, B3, e1, e2, e3, -, Q⟩ := row_at7 h1 h2 (insAt_length lo _ hjc) hq0
              have y1 := P.k0
              have y2 := Q.k0
              have hqs := HKS.out q (List.mem_of_getElem? hq)
              have TO := Lib.hid (fun W => textOrder_any s q.key W hz hqs.1)
              have hw1 : IntKind.i64.wrap (((j + 1 : Nat) : Int) - 1) = (j : Int) := by rw [IntKind.wrap_i64]; omega
              have hw2 : IntKind.i64.wrap ((j : Int) + 1 - 1) = (j : Int) := by rw [IntKind.wrap_i64]; omega
              have hb0 : bb = decide (ordB s q.key < 0) := by
                rw [hbb]
                refine decide_eq_decide.2 ⟨fun h => ?_, fun h => ?_⟩
                · have g1 := lowK_ge Ent.key HRO.out (show lowK Ent.key lo s ≤ j by omega) hq
                  have g2 := ordB_anti s q.key
                  rcases Int.lt_trichotomy (ordB s q.key) 0 with g3 | g3 | g3
                  · exact g3
                  · exact absurd (ordB_eq g3).symm hqs.2
                  · omega
                · rcases Nat.lt_or_ge (lowK Ent.key lo s) (j + 1) with g3 | g3
                  · exact g3
                  · have g1 := lowK_lt Ent.key (show j < lowK Ent.key lo s by omega) hq
                    have g2 := ordB_anti s q.key
                    omega
              clear hp0 hq0 hq P Q hbb
              generalize ordB s q.key = od at *
              by_cases ho : od < 0
              · have qd : bb = true := hb0.trans (decide_eq_true ho)
                clear hb0
                subst qd
                go_quiet ((go_at_call 91; exact Calls.quiet_of (TO.out _)))
                go_wp2
                go_meet
                case rel =>
                  refine ⟨rfl, ?_, ?_⟩
                  · obtain ⟨rs, h1, h2⟩ := HO8.out
                    first
                      | exact ⟨rs, h1, h2⟩
                      | exact ⟨rs, h1.imp (fun cs e he => he.fr ((Fr.refl [] _).drewN _) (Nat.le_trans hB F8.out.size) (by simp)), own_fr h2 ((Fr.refl [] _).drewN _) (by simp)⟩
                  · first | exact F8.out | exact F8.out.drew | exact F8.out.drewN _
              · have qd : bb = false := hb0.trans (decide_eq_false ho)
                clear hb0
                subst qd
                go_quiet ((go_at_call 91; exact Calls.quiet_of (TO.out _)))
                go_wp2
                go_meet
                case rel =>
                  refine ⟨rfl, ?_, ?_⟩
                  · obtain ⟨rs, h1, h2⟩ := HO8.out
                    first
                      | exact ⟨rs, h1, h2⟩
                      | exact ⟨rs, h1.imp (fun cs e he => he.fr ((Fr.refl [] _).drewN _) (Nat.le_trans hB F8.out.size) (by simp)), own_fr h2 ((Fr.refl [] _).drewN _) (by simp)⟩
                  · first | exact F8.out | exact F8.out.drew | exact F8.out.drewN _
          case rest =>
            obtain ⟨rfl, hO, hF⟩ := hcut
            have F9 := Lib.hid hF
            have HO9 := Lib.hid hO
            clear hO hF HO8 F8
            by_cases hlt9 : lowK Ent.key lo s < j
            · have hb1 : bb = true := hbb.trans (decide_eq_true hlt9)
              clear hbb
              subst hb1
              rcases j with _ | j
              · omega
              · obtain ⟨q, hq⟩ : ∃ q, lo[j]? = some q := ⟨_, List.getElem?_eq_getElem (by omega)⟩
                have hp0 := insAt_at lo (⟨s, x, u⟩ : Ent) hjc
                have hq0 : (insAt lo ⟨s, x, u⟩ (j + 1))[j]? = some q := (insAt_before lo _ hjc (Nat.lt_succ_self j)).trans hq
                obtain ⟨rs, h1, h2⟩ := HO9.out
                have hgg := h2.lt g6 rfl
                obtain ⟨A1, A2, A3, c1, c2, c3, hr1, P⟩ := row_at7 h1 h2 (insAt_length lo _ hjc) hp0
                obtain ⟨B1, B2, B3, e1, e2, e3, hr2, Q⟩ := row_at7 h1 h2 (insAt_length lo _ hjc) hq0
                obtain ⟨p0, p1, p2, p3, p4, p5, p6, pe⟩ := P
                obtain ⟨q0, q1, q2, q3, q4, q5, q6, qe⟩ := Q
                have z0 : ∀ k, wc.frozen? ⟨g6, k, none⟩ = false := fun k => h2.frozenAt k
                have y0 := z0 ((j + 1) * 7)
                have y1 := z0 ((j + 1) * 7 + 1)
                have y2 := z0 ((j + 1) * 7 + 2)
                have y3 := z0 ((j + 1) * 7 + 3)
                have y4 := z0 ((j + 1) * 7 + 4)
                have y5 := z0 ((j + 1) * 7 + 5)
                have y6 := z0 ((j + 1) * 7 + 6)
                have u0 := z0 (j * 7)
                have u1 := z0 (j * 7 + 1)
                have u2 := z0 (j * 7 + 2)
                have u3 := z0 (j * 7 + 3)
                have u4 := z0 (j * 7 + 4)
                have u5 := z0 (j * 7 + 5)
                have u6 := z0 (j * 7 + 6)
                have SW := Lib.hid (insAt_swap (p := (⟨s, x, u⟩ : Ent)) hq)
                have LS := Lib.hid (show rs.length = lo.length + 1 from by rw [h1.len, insAt_length lo _ hjc])
                have H1 := Lib.hid h1
                have H2 := Lib.hid h2
                have PE := Lib.hid pe
                have QE := Lib.hid qe
                have hw1 : IntKind.i64.wrap (((j + 1 : Nat) : Int) - 1) = (j : Int) := by rw [IntKind.wrap_i64]; omega
                have hw2 : IntKind.i64.wrap ((j : Int) + 1 - 1) = (j : Int) := by rw [IntKind.wrap_i64]; omega
                have hw3 : IntKind.i64.wrap (j : Int) = (j : Int) := by rw [IntKind.wrap_i64]; omega
                have ix0 : (0 : Int) ≤ (j : Int) := by omega
                have ix1 : (j : Int) < (lo.length : Int) := by omega
                have ix2 : (j : Int) < (lo.length : Int) + 1 := by omega
                have ix3 : (0 : Int) ≤ (j : Int) + 1 := by omega
                have ix4 : ((j : Int) + 1).toNat = j + 1 := by omega
                clear hp0 hq0 hq hr1 hr2 h1 h2 pe qe z0
                go_wp2
                go_region
                go_wp2
                go_roundg (2 * j)
                case measure => omega
                case rel =>
                  have K := swap7 H1.out H2.out PE.out QE.out SW.out (Nat.le_trans hB HGB.out) (Nat.le_trans hB F9.out.size) (by have := LS.out; omega)
                  unfold sw7 st7 at K
                  exact ⟨j, rfl, by go_num, by omega, by omega, K.1, F9.out.step K.2 (fun q hq => .inr (by simp at hq; subst hq; exact HGB.out))⟩
            · have hb1 : bb = false := hbb.trans (decide_eq_false hlt9)
              clear hbb
              subst hb1
              have hj : j = lowK Ent.key lo s := by omega
              have EI := Lib.hid (show insAt lo ⟨s, x, u⟩ j = insE lo ⟨s, x, u⟩ from by rw [hj]; rfl)
              have HL := Lib.hid (show (insE lo ⟨s, x, u⟩).length = lo.length + 1 from insAt_length _ _ (lowK_le _ _ _))
              have HOV := Lib.hid (show EntsV wc wc.heap.size (.slice (some ⟨g6, 0, none⟩) (insE lo ⟨s, x, u⟩).length c6) (insE lo ⟨s, x, u⟩) from by
                obtain ⟨rs, h1, h2⟩ := HO9.out
                rw [EI.out] at h1
                rw [← HL.out] at h2
                exact EntsR.v ⟨rs, h1, h2⟩ (Nat.le_trans hB F9.out.size))
              rw [← HL.out]
              have hl2 : (insE lo ⟨s, x, u⟩).length ≤ 100001 := by have := HL.out; omega
              clear hj EI HL hlow hlj hjc HO9 ix2 hlt9
              generalize insE lo ⟨s, x, u⟩ = L2 at *
              go_upto_if 86 with fail
              go_cut [12] (fun sv wx => RowMid P2 w sv wx)
              case first =>
                by_cases h16 : 16 < L2.length
                · have E3 := Lib.hid (EP.out.trans (if_pos h16))
                  have SW := Lib.hid (refSweep_any L2 _ now wc wc.heap.size (by omega) (Nat.le_refl _) HOV.out)
                  rw [← E3.out] at SW
                  have q16 : (L2.length : Int) > 16 := by omega
                  clear h16 E3
                  go_wp2_with fail
                  refine SW.out.mono ?_
                  rintro e5 w5 ⟨v5, rfl, ho5, f5⟩
                  obtain ⟨A5, c5, rfl⟩ := ho5.form
                  have HH := Lib.hid (show RowMid P2 w (.slice A5 P2.length c5) w5 from ⟨A5, c5, rfl, ho5.v f5.size, F9.out.trans f5⟩)
                  clear ho5 f5
                  go_wp2
                  go_meet
                  case rel => exact HH.out
                · have E3 := Lib.hid (EP.out.trans (if_neg h16))
                  have q16 : ¬ (L2.length : Int) > 16 := by omega
                  clear h16
                  go_wp2
                  go_meet
                  case rel =>
                    rw [E3.out]
                    exact ⟨_, _, rfl, HOV.out, F9.out⟩
              case rest =>
                obtain ⟨A5, c5, rfl, ho5, f5⟩ := hcut
                have HO5 := Lib.hid ho5
                have F5 := Lib.hid f5
                clear ho5 f5 EP
                by_cases h17 : 16 < P2.length
                · have E3 := Lib.hid (EL.out.trans (if_pos h17))
                  have E4 := Lib.hid (EC.out.trans (if_pos h17))
                  have q17 : (P2.length : Int) > 16 := by omega
                  clear h17
                  go_wp2
                  go_ret2
                  rw [E3.out, E4.out]
                  exact ⟨_, rfl, EntsV.nil _ _, F5.out⟩
                · have E3 := Lib.hid (EL.out.trans (if_neg h17))
                  have E4 := Lib.hid (EC.out.trans (if_neg h17))
                  have q17 : ¬ (P2.length : Int) > 16 := by omega
                  clear h17
                  go_wp2
                  go_ret2
                  rw [E3.out, E4.out]
                  exact ⟨_, rfl, HO5.out, F5.out⟩
end Go.Proofs.Ytmlmiboihjibiaa
