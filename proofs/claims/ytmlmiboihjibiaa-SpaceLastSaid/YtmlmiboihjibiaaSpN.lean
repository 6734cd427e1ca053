/- The walks of the document's KeysOf and of SameSpace (at equal spaces). The walks of the laws' some and spaceBegun. -/
import Derived.Test.YtmlmiboihjibiaaSpL
import Derived.Test.YtmlmiboihjibiaaSpI
import Derived.Test.YtmlmiboihjibiaaSpK
import Derived.Test.YtmlmiboihjibiaaRow
set_option linter.unusedVariables false
set_option linter.unusedSimpArgs false
namespace Go.Proofs.Ytmlmiboihjibiaa
open Go.RowKit

theorem isMatch_ok (p s : ByteArray) (W : World) (hc : checkGlob p = 0) (hs : s.size ≤ 60) : Calls Try.prog 94 #[.string p, .string s] W fun e w' => e = .returned (.bool (matchAns p s)) ∧ Fr [] W w' := by
  have hp60 : p.size ≤ 60 := by
    unfold checkGlob at hc
    split at hc
    · cases hc
    · omega
  have hE : matchCode p s = 0 := by unfold matchCode; rw [if_neg (fun h => by omega), hc]
  obtain ⟨l, hl⟩ : ∃ l, partsFrom p 0 = some l := by
    unfold checkGlob okAt at hc
    rw [if_neg (by omega)] at hc
    cases h : partsFrom p 0 with
    | none => rw [h] at hc; cases hc
    | some l => exact ⟨l, rfl⟩
  have hA : matchAns p s = backRow (l.map (·.2)) s 0 := by unfold matchAns; rw [hE, hl, ← match_same]; simp
  rw [hA]
  exact isMatch_any p s l W hp60 hs hl

set_option maxHeartbeats 4000000 in
set_option maxRecDepth 100000 in
theorem refKeys_any (l : List Ent) (v : Value) (now : Int) (p : ByteArray) (w : World) (B : Nat) (hs : ∀ e ∈ l, e.key.size ≤ 60) (hl : l.length ≤ 1000000) (hc : checkGlob p = 0) (hB : B ≤ w.heap.size) (h : EntsV w B v l) :
    Calls Try.prog 37 #[v, .int .i64 now, .string p] w (RowPost 9 1 (keysL l now p).length (textsV (keysL l now p)) w) := by
  obtain ⟨i0, hi, hz0, hz1, hz2⟩ := info_parts stringInfo
  obtain ⟨A, c, rfl⟩ := h.form
  have HV := Lib.hid h
  have HS := Lib.hid hs
  have HC := Lib.hid hc
  clear h hs hc
  go_enter Try.func37, Try.ntmps37
  go_wp2
  go_loopg [7, 8] l.length (fun g o i wr => ∃ (k : Nat) (cur : List ByteArray), g = l.length - k ∧ k ≤ l.length ∧ i = .int .i64 k ∧ Hid (cur = keysL (l.take k) now p) ∧ wr.ownsRow w.heap.size 9 1 o cur.length (textsV cur) ∧ Fr [] w wr)
  case atStart => exact ⟨0, [], rfl, Nat.zero_le _, rfl, Lib.hid rfl, World.ownsRow_nil _ _ _ _, Fr.refl _ _⟩
  case round =>
    obtain ⟨k, cur, rfl, hk, rfl, hcur, hO, hf⟩ := hrel
    have HF := Lib.hid hf
    have HO := Lib.hid hO
    have hzz := hf.size
    obtain ⟨Ao, co, rfl, -⟩ := own_slice hO
    have hcl : cur.length ≤ l.length := by rw [hcur.out]; exact keys_len _ _ _ _
    clear hf hO
    by_cases hlt : k < l.length
    · obtain ⟨b, off, rfl, hb, hc, hmx, hat⟩ := HV.out.at_ (by omega)
      obtain ⟨e, he⟩ : ∃ e, l[k]? = some e := ⟨_, List.getElem?_eq_getElem hlt⟩
      obtain ⟨A1, A2, A3, c1, c2, c3, h7⟩ := hat k e he
      have hes := HS.out e (List.mem_of_getElem? he)
      have P7 := Lib.hid (h7.fr HF.out hb hB (by simp))
      obtain ⟨x0, x1, x2, x3, x4, x5, x6, -⟩ := P7.out
      have ET := Lib.hid (keys_step now p he)
      have IG := Lib.hid (fun W => isGone_any (.string e.key) (.int .i64 e.item.kind) (.string e.item.text) (.slice A1 e.item.list.length c1) (.slice A2 e.item.pairs.length c2) (.slice A3 e.item.scores.length c3) e.til now W)
      have IM := Lib.hid (fun W => isMatch_ok p e.key W HC.out hes)
      have KM := Lib.hid (show keyM p now e = (matchAns p e.key && !goneB e.til now) from rfl)
      clear hat h7 he hes
      rw [KM.out, ← hcur.out] at ET
      rcases hg : goneB e.til now with _ | _
      · rw [hg] at IG
        rcases hm : matchAns p e.key with _ | _
        · rw [hm] at IM ET
          have ET2 := Lib.hid (ET.out.trans (by rw [Bool.false_and, if_neg (by decide), List.append_nil]))
          clear hm hg ET KM
          go_wp2_with fail
          refine (IG.out _).mono ?_
          rintro e2 w2 ⟨rfl, f2⟩
          have P72 := Lib.hid (P7.out.fr f2 hb (Nat.le_trans hB HF.out.size) (by simp))
          clear x0 x1 x2 x3 x4 x5 x6
          obtain ⟨x0, x1, x2, x3, x4, x5, x6, -⟩ := P72.out
          have G2 := Lib.hid f2
          clear f2
          go_wp2_with fail
          refine (IM.out _).mono ?_
          rintro e3 w3 ⟨rfl, f3⟩
          have G3 := Lib.hid (G2.out.trans f3)
          clear f3
          go_wp2
          go_roundg (l.length - (k + 1))
          case measure => omega
          case rel => exact ⟨k + 1, cur, rfl, by omega, by go_num, Lib.hid ET2.out.symm, own_fr HO.out G3.out (by simp), HF.out.trans G3.out⟩
        · rw [hm, hg] at ET
          rw [hm] at IM
          have ET2 := Lib.hid (ET.out.trans (by rw [show (true && !false) = true from rfl, if_pos rfl]))
          clear hm hg ET KM
          go_wp2_with fail
          refine (IG.out _).mono ?_
          rintro e2 w2 ⟨rfl, f2⟩
          have P72 := Lib.hid (P7.out.fr f2 hb (Nat.le_trans hB HF.out.size) (by simp))
          clear x0 x1 x2 x3 x4 x5 x6
          obtain ⟨x0, x1, x2, x3, x4, x5, x6, -⟩ := P72.out
          have G2 := Lib.hid f2
          clear f2
          go_wp2_with fail
          refine (IM.out _).mono ?_
          rintro e3 w3 ⟨rfl, f3⟩
          have G3 := Lib.hid (G2.out.trans f3)
          have P73 := Lib.hid (P72.out.fr f3 hb (Nat.le_trans hB (HF.out.trans G2.out).size) (by simp))
          clear x0 x1 x2 x3 x4 x5 x6 f3
          obtain ⟨x0, x1, x2, x3, x4, x5, x6, -⟩ := P73.out
          have HO2 := Lib.hid ((own_fr HO.out G3.out (by simp)).alloc (.cells #[.string e.key] 9))
          have hz3 := (HF.out.trans G3.out).size
          have hO1 := Lib.hid (own_sl (World.ownsRow_lit (base := w3.heap.size) (e := 9) (size := 1) w3 #[.string e.key] 1 (Nat.le_refl _) (by decide) rfl))
          have h1 : ∀ u ∈ [Value.string e.key], u.oneCell' = true := fun u hu => by simp at hu; subst hu; rfl
          go_wp2_with (at_builtin; refine wpList_append_sl _ rfl _ _ 22 rfl w.heap.size 9 i0 _ 1 16 Try.underlying22 hi hz0 hz1 hz2 rfl (by decide) _ _ _ rfl HO2.out _ _ 1 _ rfl hO1.out h1 ?c1 ?c2 ?c3 ?_)
          case c1 => unfold maxLen; omega
          case c2 => omega
          case c3 => first | omega | (simp; omega)
          intro v' w5 hown hgrow hat5
          have HO5 := Lib.hid hown
          have F5 := Lib.hid ((HF.out.trans (G3.out.alloc (.cells #[.string e.key] 9))).grown hgrow (fun j hj => .inr (HO2.out.lt j hj).1))
          clear hown hgrow hat5
          go_wp2
          go_roundg (l.length - (k + 1))
          case measure => omega
          case rel => exact ⟨k + 1, _, rfl, by omega, by go_num, Lib.hid rfl, by rw [ET2.out, textsV_append, List.length_append]; exact HO5.out, F5.out⟩
      · rw [hg] at IG ET
        have ET2 := Lib.hid (ET.out.trans (by rw [show (!true) = false from rfl, Bool.and_false, if_neg (by decide), List.append_nil]))
        clear hg ET KM
        go_wp2_with fail
        refine (IG.out _).mono ?_
        rintro e2 w2 ⟨rfl, f2⟩
        have G2 := Lib.hid f2
        clear f2
        go_wp2
        go_roundg (l.length - (k + 1))
        case measure => omega
        case rel => exact ⟨k + 1, cur, rfl, by omega, by go_num, Lib.hid ET2.out.symm, own_fr HO.out G2.out (by simp), HF.out.trans G2.out⟩
    · obtain rfl : k = l.length := by omega
      have hc2 := hcur.out
      rw [List.take_length] at hc2
      go_wp2
      go_ret
      rw [← hc2]
      exact ⟨_, rfl, HO.out, HF.out⟩

set_option maxHeartbeats 4000000 in
set_option maxRecDepth 100000 in
theorem sameSpace_any (l : List Ent) (v u : Value) (w : World) (B : Nat) (hs : ∀ e ∈ l, e.Small) (hl : l.length ≤ 281474976710656) (hB : B ≤ w.heap.size) (h : EntsV w B v l) (k : EntsV w B u l) :
    Calls Try.prog 44 #[v, u] w fun e w' => e = .returned (.bool true) ∧ Fr [] w w' := by
  obtain ⟨A, c, rfl⟩ := h.form
  obtain ⟨A', c', rfl⟩ := k.form
  have HV := Lib.hid h
  have KV := Lib.hid k
  have HS := Lib.hid hs
  clear h k hs
  go_enter Try.func44, Try.ntmps44
  go_wp2
  go_loopg [5] l.length (fun g i wr => ∃ (k : Nat), g = l.length - k ∧ k ≤ l.length ∧ i = .int .i64 k ∧ Fr [] w wr)
  case atStart => exact ⟨0, rfl, Nat.zero_le _, rfl, Fr.refl _ _⟩
  case round =>
    obtain ⟨k, rfl, hk, rfl, hf⟩ := hrel
    have HF := Lib.hid hf
    clear hf
    by_cases hlt : k < l.length
    · obtain ⟨b, off, rfl, hb, hc, hmx, hat⟩ := HV.out.at_ (by omega)
      obtain ⟨b2, off2, rfl, hb2, hc2, hmx2, hat2⟩ := KV.out.at_ (by omega)
      obtain ⟨e, he⟩ : ∃ e, l[k]? = some e := ⟨_, List.getElem?_eq_getElem hlt⟩
      obtain ⟨A1, A2, A3, c1, c2, c3, h7⟩ := hat k e he
      obtain ⟨B1, B2, B3, e1, e2, e3, k7⟩ := hat2 k e he
      have P7 := Lib.hid (h7.fr HF.out hb hB (by simp))
      have Q7 := Lib.hid (k7.fr HF.out hb2 hB (by simp))
      have hem := HS.out e (List.mem_of_getElem? he)
      have SI := Lib.hid (show Calls Try.prog 42 #[.agg #[.int .i64 e.item.kind, .string e.item.text, .slice A1 e.item.list.length c1, .slice A2 e.item.pairs.length c2, .slice A3 e.item.scores.length c3], .agg #[.int .i64 e.item.kind, .string e.item.text, .slice B1 e.item.list.length e1, .slice B2 e.item.pairs.length e2, .slice B3 e.item.scores.length e3]] wr.drew fun e w' => e = .returned (.bool true) ∧ Fr [] wr.drew w' from by
        have := sameItem_any e.item e.item _ _ wr.drew B hem.item hem.item (Nat.le_trans hB HF.out.size) (P7.out.ent.fr (Fr.refl [] _).drew (Nat.le_trans hB HF.out.size) (by simp)).item (Q7.out.ent.fr (Fr.refl [] _).drew (Nat.le_trans hB HF.out.size) (by simp)).item
        rw [sameI_refl] at this
        exact this)
      obtain ⟨x0, x1, x2, x3, x4, x5, x6, -⟩ := P7.out
      obtain ⟨y0, y1, y2, y3, y4, y5, y6, -⟩ := Q7.out
      have q1 := eqqB e.key
      have q2 := q1.1
      have q3 := q1.2
      clear hat hat2 h7 k7 he hem q1
      go_wp2
      go_region_held3 (fun wx => wx.cell? ⟨b, off + k * 7, none⟩ = some (.string e.key) ∧ wx.cell? ⟨b, off + k * 7 + 1, none⟩ = some (.int .i64 e.item.kind) ∧ wx.cell? ⟨b, off + k * 7 + 2, none⟩ = some (.string e.item.text) ∧ wx.cell? ⟨b, off + k * 7 + 3, none⟩ = some (.slice A1 e.item.list.length c1) ∧ wx.cell? ⟨b, off + k * 7 + 4, none⟩ = some (.slice A2 e.item.pairs.length c2) ∧ wx.cell? ⟨b, off + k * 7 + 5, none⟩ = some (.slice A3 e.item.scores.length c3) ∧ wx.cell? ⟨b, off + k * 7 + 6, none⟩ = some (.int .i64 e.til) ∧ wx.cell? ⟨b2, off2 + k * 7, none⟩ = some (.string e.key) ∧ wx.cell? ⟨b2, off2 + k * 7 + 1, none⟩ = some (.int .i64 e.item.kind) ∧ wx.cell? ⟨b2, off2 + k * 7 + 2, none⟩ = some (.string e.item.text) ∧ wx.cell? ⟨b2, off2 + k * 7 + 3, none⟩ = some (.slice B1 e.item.list.length e1) ∧ wx.cell? ⟨b2, off2 + k * 7 + 4, none⟩ = some (.slice B2 e.item.pairs.length e2) ∧ wx.cell? ⟨b2, off2 + k * 7 + 5, none⟩ = some (.slice B3 e.item.scores.length e3) ∧ wx.cell? ⟨b2, off2 + k * 7 + 6, none⟩ = some (.int .i64 e.til)) (go_keep) ((go_at_call 42; refine SI.out.mono ?_; rintro e9 w2 ⟨rfl, f2⟩; have G2 := Lib.hid (fr_predrew f2); have P72 := Lib.hid (P7.out.fr G2.out hb (Nat.le_trans hB HF.out.size) (by simp)); have Q72 := Lib.hid (Q7.out.fr G2.out hb2 (Nat.le_trans hB HF.out.size) (by simp)); clear f2 x0 x1 x2 x3 x4 x5 x6 y0 y1 y2 y3 y4 y5 y6; obtain ⟨x0, x1, x2, x3, x4, x5, x6, -⟩ := P72.out; obtain ⟨y0, y1, y2, y3, y4, y5, y6, -⟩ := Q72.out))
      go_wp2
      go_roundg (l.length - (k + 1))
      case measure => omega
      case rel => exact ⟨k + 1, rfl, by omega, by go_num, HF.out.trans G2.out⟩
    · obtain rfl : k = l.length := by omega
      go_wp2
      go_ret
      exact ⟨rfl, HF.out⟩
end Go.Proofs.Ytmlmiboihjibiaa

namespace Go.Proofs.Ytmlmiboihjibiaa
open Go.RowKit

def sevI : Itm := ⟨1, ⟨#[55]⟩, [], [], []⟩
def someE : List Ent := [⟨⟨#[108]⟩, rowI, 0⟩, ⟨⟨#[116]⟩, sevI, 10⟩]
theorem sevI_small : sevI.Small := ⟨by show -9223372036854775808 ≤ (1 : Int) ∧ (1 : Int) ≤ 9223372036854775807; omega, by show (⟨#[55]⟩ : ByteArray).size ≤ _; decide, by show 0 ≤ _; omega, by show 0 ≤ _; omega, by show 0 ≤ _; omega, (fun p hp => by cases hp), (fun p hp => by cases hp), (fun p hp => by cases hp)⟩
theorem some_small : ∀ e ∈ someE, e.Small := fun e he => by
  simp [someE] at he
  rcases he with rfl | rfl
  · exact ⟨by show (⟨#[108]⟩ : ByteArray).size ≤ _; decide, row_small, by show -9223372036854775808 ≤ (0 : Int) ∧ _; decide⟩
  · exact ⟨by show (⟨#[116]⟩ : ByteArray).size ≤ _; decide, sevI_small, by show -9223372036854775808 ≤ (10 : Int) ∧ _; decide⟩
theorem sb_check : spCode someE = 0 := by kernel_rfl
theorem sb_get9 : atCode someE 9 ⟨#[116]⟩ = 0 ∧ getI someE 9 ⟨#[116]⟩ = sevI := ⟨by kernel_rfl, by kernel_rfl⟩
theorem sb_get10 : atCode someE 10 ⟨#[116]⟩ = 0 ∧ getI someE 10 ⟨#[116]⟩ = newI 0 := ⟨by kernel_rfl, by kernel_rfl⟩
theorem sb_put : putCC someE 5 ⟨#[107]⟩ rowI 0 = 0 ∧ putLL someE 5 ⟨#[107]⟩ rowI 0 = [⟨⟨#[107]⟩, rowI, 0⟩, ⟨⟨#[108]⟩, rowI, 0⟩, ⟨⟨#[116]⟩, sevI, 10⟩] := ⟨by kernel_rfl, by kernel_rfl⟩
theorem sb_until : untilC someE 9 ⟨#[116]⟩ = 0 ∧ untilN someE 9 ⟨#[116]⟩ = 10 := ⟨by kernel_rfl, by kernel_rfl⟩
theorem sb_keys : keysC someE 10 ⟨#[42]⟩ = 0 ∧ keysR someE 10 ⟨#[42]⟩ = [⟨#[108]⟩] := ⟨by kernel_rfl, by kernel_rfl⟩
theorem sb_sweep : atCode someE 10 ⟨#[]⟩ = 0 ∧ swL someE 10 = [⟨⟨#[108]⟩, rowI, 0⟩] ∧ swN someE 10 = 1 := ⟨by kernel_rfl, by kernel_rfl, by kernel_rfl⟩

def SomeS (l : List Ent) (w : World) (r : Ending) (w' : World) : Prop := ∃ u, r = .returned u ∧ EntsO w' w.heap.size u l ∧ Fr [] w w'

set_option maxRecDepth 100000 in
theorem some_any (w : World) : Calls Try.prog 95 #[] w (SomeS someE w) := by
  go_enter Try.func95, Try.ntmps95
  go_wp2_with fail
  refine (row_any _).mono ?_
  rintro e w1 ⟨v, rfl, hi, f1⟩
  obtain ⟨A1, c1, A2, c2, A3, c3, rfl⟩ := hi.form
  have HI := Lib.hid hi
  have F1 := Lib.hid f1
  have LT := Lib.hid (World.ownsRow_lit (base := w1.heap.size) (e := 58) (size := 7) w1 #[.string ⟨#[108]⟩, .int .i64 rowI.kind, .string rowI.text, .slice A1 rowI.list.length c1, .slice A2 rowI.pairs.length c2, .slice A3 rowI.scores.length c3, .int .i64 0, .string ⟨#[116]⟩, .int .i64 1, .string ⟨#[55]⟩, .slice none 0 0, .slice none 0 0, .slice none 0 0, .int .i64 10] 2 (Nat.le_refl _) (by decide) rfl)
  clear hi f1
  go_wp2
  go_ret
  have FA := (Fr.refl [] w1).alloc (.cells #[.string ⟨#[108]⟩, .int .i64 rowI.kind, .string rowI.text, .slice A1 rowI.list.length c1, .slice A2 rowI.pairs.length c2, .slice A3 rowI.scores.length c3, .int .i64 0, .string ⟨#[116]⟩, .int .i64 1, .string ⟨#[55]⟩, .slice none 0 0, .slice none 0 0, .slice none 0 0, .int .i64 10] 58)
  refine ⟨_, rfl, ⟨[ent7 ⟨⟨#[108]⟩, rowI, 0⟩ A1 c1 A2 c2 A3 c3, ent7 ⟨⟨#[116]⟩, sevI, 10⟩ none 0 none 0 none 0], rfl, fun i e he => ?_, own_base LT.out F1.out.size⟩, F1.out.trans FA⟩
  match i, he with
  | 0, he =>
    cases he
    refine ⟨_, rfl, ?_⟩
    obtain ⟨L1, L2, L3, hv, o1, o2, o3⟩ := HI.out.go FA
    cases hv
    exact ⟨_, _, _, _, _, _, rfl, o1, o2, o3⟩
  | 1, he =>
    cases he
    exact ⟨_, rfl, _, _, _, _, _, _, rfl, World.ownsRow_nil _ _ _ _, World.ownsRow_nil _ _ _ _, World.ownsRow_nil _ _ _ _⟩
  | i + 2, he => simp [someE] at he
end Go.Proofs.Ytmlmiboihjibiaa
