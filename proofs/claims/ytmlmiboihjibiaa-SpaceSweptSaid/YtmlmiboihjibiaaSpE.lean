/- The walks of space.Own and of space.sweep on a space of one's own. -/
import Derived.Test.YtmlmiboihjibiaaSpC
import Derived.Test.YtmlmiboihjibiaaSpA
import Derived.Test.YtmlmiboihjibiaaSpD
import Derived.Test.YtmlmiboihjibiaaDelFE
import Derived.Test.YtmlmiboihjibiaaEntI
set_option linter.unusedVariables false
set_option linter.unusedSimpArgs false
namespace Go.Proofs.Ytmlmiboihjibiaa
open Go.RowKit

theorem ent7_one (e : Ent) (A1 A2 A3 : Option Addr) (c1 c2 c3 : Nat) : ∀ u ∈ ent7 e A1 c1 A2 c2 A3 c3, u.oneCell' = true := fun u hu => by
  simp [ent7] at hu
  rcases hu with rfl | rfl | rfl | rfl | rfl | rfl | rfl <;> rfl
theorem entO_typesNe : 9 ≠ 58 ∧ 106 ≠ 58 ∧ 36 ≠ 58 := by decide
theorem EntsO.snoc {w' : World} {base : Nat} {v' : Value} {l : List Ent} {e : Ent} {cs : List Value} {rs : List (List Value)} (hl : rs.length = l.length) (h : ∀ (i : Nat) (e : Ent), l[i]? = some e → ∃ cs : List Value, rs[i]? = some cs ∧ EntCO w' base cs e) (he : EntCO w' base cs e) (ho : w'.ownsRow base 58 7 v' (l.length + 1) (rs.flatten ++ cs)) : EntsO w' base v' (l ++ [e]) := by
  refine ⟨rs ++ [cs], by simp [hl], fun i x hx => ?_, by simpa using ho⟩
  rcases Nat.lt_or_ge i l.length with h1 | h1
  · rw [List.getElem?_append_left h1] at hx
    obtain ⟨d, h2, h3⟩ := h i x hx
    exact ⟨d, by rw [List.getElem?_append_left (by omega)]; exact h2, h3⟩
  · have : i = l.length := by have := (List.getElem?_eq_some_iff.1 hx).1; simp at this; omega
    subst this
    rw [List.getElem?_append_right (Nat.le_refl _), Nat.sub_self] at hx
    simp at hx
    subst hx
    exact ⟨cs, by rw [List.getElem?_append_right (by omega), hl, Nat.sub_self]; rfl, he⟩

def OwnS (base : Nat) (l : List Ent) (w : World) (r : Ending) (w' : World) : Prop := ∃ u, r = .returned u ∧ EntsO w' base u l ∧ Fr [] w w'

set_option maxHeartbeats 4000000 in
set_option maxRecDepth 100000 in
theorem spaceOwn_any (l : List Ent) (v : Value) (w : World) (B : Nat) (hs : ∀ e ∈ l, e.Small) (h24 : ∀ e ∈ l, e.item.list.length ≤ 1000000 ∧ e.item.pairs.length ≤ 1000000 ∧ e.item.scores.length ≤ 1000000) (hl : l.length ≤ 1000000) (hB : B ≤ w.heap.size) (h : EntsV w B v l) :
    Calls Try.prog 86 #[v] w (OwnS w.heap.size l w) := by
  obtain ⟨i0, hi, hz0, hz1, hz2⟩ := info_parts entInfo
  obtain ⟨A, c, rfl⟩ := h.form
  have HV := Lib.hid h
  have HS := Lib.hid hs
  have H24 := Lib.hid h24
  clear h hs h24
  go_enter Try.func86, Try.ntmps86
  go_wp2
  go_loopg [3, 8] l.length (fun g o i wr => ∃ (k : Nat), g = l.length - k ∧ k ≤ l.length ∧ i = .int .i64 k ∧ EntsO wr w.heap.size o (l.take k) ∧ Fr [] w wr)
  case atStart => exact ⟨0, rfl, Nat.zero_le _, rfl, by rw [List.take_zero]; exact EntsO.nil _ _, Fr.refl _ _⟩
  case round =>
    obtain ⟨k, rfl, hk, rfl, hO, hf⟩ := hrel
    have HF := Lib.hid hf
    have HO := Lib.hid hO
    have hlt0 : (l.take k).length = k := by rw [List.length_take]; omega
    obtain ⟨Ao, co, hv⟩ := hO.form
    rw [hlt0] at hv
    subst hv
    clear hf hO hlt0
    by_cases hlt : k < l.length
    · obtain ⟨b, off, rfl, hb, hc, hmx, hat⟩ := HV.out.at_ (by omega)
      obtain ⟨e, he⟩ : ∃ e, l[k]? = some e := ⟨_, List.getElem?_eq_getElem hlt⟩
      obtain ⟨A1, A2, A3, c1, c2, c3, h7⟩ := hat k e he
      have hem := List.mem_of_getElem? he
      have P7 := Lib.hid (h7.fr HF.out hb hB (by simp))
      obtain ⟨x0, x1, x2, x3, x4, x5, x6, -⟩ := P7.out
      have ET := Lib.hid (show l.take (k + 1) = l.take k ++ [e] from by rw [List.take_add_one, he]; rfl)
      have LT := Lib.hid (show (l.take k).length = k from by rw [List.length_take]; omega)
      have V1 := Lib.hid (Whole.new wr 58 [.string e.key, .int .i64 e.item.kind, .string e.item.text, .slice A1 e.item.list.length c1, .slice A2 e.item.pairs.length c2, .slice A3 e.item.scores.length c3, .int .i64 e.til])
      have F1 := Lib.hid ((Fr.refl [] wr).alloc (.cells #[.string e.key, .int .i64 e.item.kind, .string e.item.text, .slice A1 e.item.list.length c1, .slice A2 e.item.pairs.length c2, .slice A3 e.item.scores.length c3, .int .i64 e.til] 58))
      obtain ⟨n1, n2, n3⟩ := H24.out e hem
      have OW := Lib.hid (itemOwn_any e.item _ _ B (HS.out e hem).item n1 n2 n3 (Nat.le_trans hB (Nat.le_trans HF.out.size F1.out.size)) ((P7.out.ent.fr F1.out (Nat.le_trans hB HF.out.size) (by simp)).item))
      clear hat h7 he hem n1 n2 n3
      go_wp2_with fail
      refine OW.out.mono ?_
      rintro e2 w2 ⟨u, rfl, hi2, f2⟩
      have V2 := Lib.hid (V1.out.fr f2 (by simp))
      have G2 := Lib.hid (F1.out.trans f2)
      have HI2 := Lib.hid hi2
      obtain ⟨P1, p1, P2, p2, P3, p3, rfl⟩ := hi2.form
      have hzw2 := V2.out.lt
      clear hi2 f2 x0 x1 x2 x3 x4 x5 x6
      obtain ⟨y0, y1, y2, y3, y4, y5, y6⟩ := seven V2.out
      obtain ⟨z0, z1, z2, z3, z4, z5, z6⟩ := sevenF V2.out
      obtain ⟨W3, hW3⟩ : ∃ W3, W3 = ((((w2.setCell ⟨wr.heap.size, 1, none⟩ (.int .i64 e.item.kind)).setCell ⟨wr.heap.size, 2, none⟩ (.string e.item.text)).setCell ⟨wr.heap.size, 3, none⟩ (.slice P1 e.item.list.length p1)).setCell ⟨wr.heap.size, 4, none⟩ (.slice P2 e.item.pairs.length p2)).setCell ⟨wr.heap.size, 5, none⟩ (.slice P3 e.item.scores.length p3) := ⟨_, rfl⟩
      have G3 := Lib.hid (show Fr [] wr W3 from by
        rw [hW3]
        exact ((((G2.out.setCell (p := ⟨wr.heap.size, 1, none⟩) (.inr (Nat.le_refl _)) _).setCell (p := ⟨wr.heap.size, 2, none⟩) (.inr (Nat.le_refl _)) _).setCell (p := ⟨wr.heap.size, 3, none⟩) (.inr (Nat.le_refl _)) _).setCell (p := ⟨wr.heap.size, 4, none⟩) (.inr (Nat.le_refl _)) _).setCell (p := ⟨wr.heap.size, 5, none⟩) (.inr (Nat.le_refl _)) _)
      have V3 := Lib.hid (show Whole W3 wr.heap.size 58 [.string e.key, .int .i64 e.item.kind, .string e.item.text, .slice P1 e.item.list.length p1, .slice P2 e.item.pairs.length p2, .slice P3 e.item.scores.length p3, .int .i64 e.til] from by
        rw [hW3]
        exact ((((V2.out.set_ 1 _).set_ 2 _).set_ 3 _).set_ 4 _).set_ 5 _)
      have HI3 := Lib.hid (show EntCO W3 w.heap.size (ent7 e P1 p1 P2 p2 P3 p3) e from by
        rw [hW3]
        obtain ⟨L1, L2, L3, hv, o1, o2, o3⟩ := HI2.out
        cases hv
        have hbz : wr.heap.size < (wr.alloc (.cells #[.string e.key, .int .i64 e.item.kind, .string e.item.text, .slice A1 e.item.list.length c1, .slice A2 e.item.pairs.length c2, .slice A3 e.item.scores.length c3, .int .i64 e.til] 58)).heap.size := by simp
        have hwz := HF.out.size
        exact ⟨_, _, _, _, _, _, rfl, own_base (own_later (own_later (own_later (own_later (own_later o1 hbz _) hbz _) hbz _) hbz _) hbz _) (by omega), own_base (own_later (own_later (own_later (own_later (own_later o2 hbz _) hbz _) hbz _) hbz _) hbz _) (by omega), own_base (own_later (own_later (own_later (own_later (own_later o3 hbz _) hbz _) hbz _) hbz _) hbz _) (by omega)⟩)
      have HO3 := Lib.hid (HO.out.fr G3.out)
      have HW3 := Lib.hid hW3
      clear hW3
      go_upto_region 6 with fail
      rw [← HW3.out]
      clear HW3 y0 y1 y2 y3 y4 y5 y6 z0 z1 z2 z3 z4 z5 z6
      obtain ⟨y0, y1, y2, y3, y4, y5, y6⟩ := seven V3.out
      obtain ⟨rs, hr1, hr2, hr3⟩ := HO3.out
      have HR3 := Lib.hid (show W3.ownsRow w.heap.size 58 7 (.slice Ao k co) k rs.flatten from by have := hr3; rw [LT.out] at this; exact this)
      have HR1 := Lib.hid hr1
      have HR2 := Lib.hid hr2
      have hzz : w.heap.size ≤ W3.heap.size := Nat.le_trans HF.out.size G3.out.size
      have hO1 := Lib.hid (own_sl (World.ownsRow_lit (base := W3.heap.size) (e := 58) (size := 7) W3 #[.string e.key, .int .i64 e.item.kind, .string e.item.text, .slice P1 e.item.list.length p1, .slice P2 e.item.pairs.length p2, .slice P3 e.item.scores.length p3, .int .i64 e.til] 1 (Nat.le_refl _) (by decide) rfl))
      clear hr1 hr2 hr3
      go_wp2_with (at_builtin; refine wpList_append_sl _ rfl _ _ 44 rfl w.heap.size 58 i0 _ 7 120 Try.underlying44 hi hz0 hz1 hz2 rfl (by decide) _ _ _ rfl (HR3.out.alloc _) _ _ 1 _ rfl hO1.out (ent7_one e P1 P2 P3 p1 p2 p3) ?c1 ?c2 ?c3 ?_)
      case c1 => unfold maxLen; omega
      case c2 => omega
      case c3 => first | omega | (simp; omega)
      intro v' w5 hown hgrow hat5
      have HO5 := Lib.hid hown
      have HG5 := Lib.hid hgrow
      clear hown hgrow hat5
      have F5 := Lib.hid (HF.out.trans (G3.out.alloc (.cells #[.string e.key, .int .i64 e.item.kind, .string e.item.text, .slice P1 e.item.list.length p1, .slice P2 e.item.pairs.length p2, .slice P3 e.item.scores.length p3, .int .i64 e.til] 58)))
      have HE := Lib.hid (show EntsO w5 w.heap.size v' (l.take (k + 1)) from by
        rw [ET.out]
        have ff := fr_ownL HG5.out
        have oa := HR3.out.alloc (.cells #[.string e.key, .int .i64 e.item.kind, .string e.item.text, .slice P1 e.item.list.length p1, .slice P2 e.item.pairs.length p2, .slice P3 e.item.scores.length p3, .int .i64 e.til] 58)
        refine EntsO.snoc HR1.out (fun i x hx => ?_) ((HI3.out.fr ((Fr.refl [] W3).alloc _)).row oa entO_typesNe ff) (by rw [LT.out]; exact HO5.out)
        obtain ⟨d, h3, h4⟩ := HR2.out i x hx
        exact ⟨d, h3, (h4.fr ((Fr.refl [] W3).alloc _)).row oa entO_typesNe ff⟩)
      have F6 := Lib.hid (F5.out.grown HG5.out (fun j hj => .inr (HR3.out.lt j hj).1))
      go_wp2
      go_roundg (l.length - (k + 1))
      case measure => omega
      case rel => exact ⟨k + 1, rfl, by omega, by go_num, HE.out, F6.out⟩
    · obtain rfl : k = l.length := by omega
      rw [List.take_length] at HO
      go_wp2
      go_ret
      exact ⟨_, rfl, HO.out, HF.out⟩
end Go.Proofs.Ytmlmiboihjibiaa
