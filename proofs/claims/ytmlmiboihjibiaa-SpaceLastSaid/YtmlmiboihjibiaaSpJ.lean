/- Rows of entries that read: the document's SweepOf. -/
import Derived.Test.YtmlmiboihjibiaaSpG
set_option linter.unusedVariables false
set_option linter.unusedSimpArgs false
namespace Go.Proofs.Ytmlmiboihjibiaa
open Go.RowKit

/-- a row of one's own of entries that read. -/
def EntsR (w : World) (base B : Nat) (v : Value) (l : List Ent) : Prop :=
  ∃ rs : List (List Value), Rel (EntC w B) rs l ∧ w.ownsRow base 58 7 v l.length rs.flatten
theorem EntsR.form {w : World} {base B : Nat} {v : Value} {l : List Ent} (h : EntsR w base B v l) : ∃ A c, v = .slice A l.length c := by
  obtain ⟨rs, _, ho⟩ := h
  obtain ⟨A, c, rfl, -⟩ := own_slice ho
  exact ⟨A, c, rfl⟩
theorem EntsR.nil (w : World) (base B : Nat) : EntsR w base B (.slice none 0 0) [] := ⟨[], Rel.nil, World.ownsRow_nil _ _ _ _⟩
theorem EntsR.v {w : World} {base B : Nat} {v : Value} {l : List Ent} (h : EntsR w base B v l) (hB : B ≤ w.heap.size) : EntsV w w.heap.size v l := by
  obtain ⟨rs, h1, h3⟩ := h
  obtain ⟨A, c, rfl, -⟩ := own_slice h3
  exact ⟨A, c, rs, rfl, h1.len, fun i e he => by
    obtain ⟨cs, h4, h5⟩ := h1.at_ i e he
    exact ⟨cs, h4, h5.more hB⟩, own_sl h3⟩
theorem EntsR.fr {w w' : World} {base B : Nat} {v : Value} {l : List Ent} (h : EntsR w base B v l) (hf : Fr [] w w') (hB : B ≤ w.heap.size) : EntsR w' base B v l := by
  obtain ⟨rs, h1, h3⟩ := h
  exact ⟨rs, h1.imp (fun cs e he => he.fr hf hB (by simp)), own_fr h3 hf (by simp)⟩
theorem EntsR.base {w : World} {base base' B : Nat} {v : Value} {l : List Ent} (h : EntsR w base B v l) (hb : base' ≤ base) : EntsR w base' B v l := by
  obtain ⟨rs, h1, h3⟩ := h
  exact ⟨rs, h1, own_base h3 hb⟩
theorem entsR_snoc {w w' : World} {base B n : Nat} {v v' : Value} {l : List Ent} {e : Ent} {cs : List Value} {rs : List (List Value)} (h : Rel (EntC w B) rs l) (he : EntC w B cs e) (hn : l.length = n) (hB : B ≤ w.heap.size) (hbB : B ≤ base) (ho : w.ownsRow base 58 7 v n rs.flatten) (hg : w.grownBy w' v.ownBlock) (h' : w'.ownsRow base 58 7 v' (n + 1) (rs.flatten ++ cs)) : EntsR w' base B v' (l ++ [e]) := by
  subst hn
  have ff := fr_ownL hg
  have hS : ∀ k, k ∈ ownL v → B ≤ k := fun k hk => Nat.le_trans hbB (ownL_base ho hk)
  refine ⟨rs ++ [cs], (h.imp (fun cs e he => he.fr ff hB hS)).append (Rel.cons (he.fr ff hB hS) Rel.nil), ?_⟩
  simpa using h'
theorem filter_step {l : List Ent} {k : Nat} {e : Ent} (q : Ent → Bool) (h : l[k]? = some e) : (l.take (k + 1)).filter q = (l.take k).filter q ++ (if q e = true then [e] else []) := by
  rw [List.take_add_one, h, List.filter_append]
  congr 1
  simp [List.filter_cons]
theorem filter_take_le {l : List Ent} (k : Nat) (q : Ent → Bool) : ((l.take k).filter q).length ≤ l.length := Nat.le_trans (List.length_filter_le _ _) (List.length_take_le' _ _)

def ERP (l : List Ent) (B : Nat) (w : World) (r : Ending) (w' : World) : Prop := ∃ u, r = .returned u ∧ EntsR w' w.heap.size B u l ∧ Fr [] w w'

set_option maxHeartbeats 4000000 in
set_option maxRecDepth 100000 in
theorem refSweep_any (l : List Ent) (v : Value) (now : Int) (w : World) (B : Nat) (hl : l.length ≤ 1000000) (hB : B ≤ w.heap.size) (h : EntsV w B v l) :
    Calls Try.prog 38 #[v, .int .i64 now] w (ERP (sweepL l now) B w) := by
  obtain ⟨i0, hi, hz0, hz1, hz2⟩ := info_parts entInfo
  obtain ⟨A, c, rfl⟩ := h.form
  have HV := Lib.hid h
  have SWL := Lib.hid (show sweepL l now = l.filter (fun e => !goneB e.til now) from rfl)
  rw [SWL.out]
  clear h
  go_enter Try.func38, Try.ntmps38
  go_wp2
  go_loopg [5, 6] l.length (fun g o i wr => ∃ (k : Nat) (cur : List Ent), g = l.length - k ∧ k ≤ l.length ∧ i = .int .i64 k ∧ Hid (cur = (l.take k).filter (fun e => !goneB e.til now)) ∧ EntsR wr w.heap.size B o cur ∧ Fr [] w wr)
  case atStart => exact ⟨0, [], rfl, Nat.zero_le _, rfl, Lib.hid (by simp), EntsR.nil _ _ _, Fr.refl _ _⟩
  case round =>
    obtain ⟨k, cur, rfl, hk, rfl, hcur, hO, hf⟩ := hrel
    have HF := Lib.hid hf
    have HO := Lib.hid hO
    obtain ⟨Ao, co, rfl⟩ := hO.form
    have hcl : cur.length ≤ l.length := by rw [hcur.out]; exact filter_take_le _ _
    clear hf hO
    by_cases hlt : k < l.length
    · obtain ⟨b, off, rfl, hb, hc, hmx, hat⟩ := HV.out.at_ (by omega)
      obtain ⟨e, he⟩ : ∃ e, l[k]? = some e := ⟨_, List.getElem?_eq_getElem hlt⟩
      obtain ⟨A1, A2, A3, c1, c2, c3, h7⟩ := hat k e he
      have P7 := Lib.hid (h7.fr HF.out hb hB (by simp))
      obtain ⟨x0, x1, x2, x3, x4, x5, x6, -⟩ := P7.out
      have ET := Lib.hid (filter_step (fun e => !goneB e.til now) he)
      have IG := Lib.hid (fun W => isGone_any (.string e.key) (.int .i64 e.item.kind) (.string e.item.text) (.slice A1 e.item.list.length c1) (.slice A2 e.item.pairs.length c2) (.slice A3 e.item.scores.length c3) e.til now W)
      clear hat h7 he
      rcases hg : goneB e.til now with _ | _
      · have ET2 := Lib.hid (ET.out.trans (by rw [show (!goneB e.til now) = true from by rw [hg]; rfl, if_pos rfl, ← hcur.out]))
        rw [hg] at IG
        clear hg ET
        go_wp2_with fail
        refine (IG.out _).mono ?_
        rintro e2 w2 ⟨rfl, f2⟩
        have F2 := Lib.hid (HF.out.trans f2)
        have P72 := Lib.hid (P7.out.fr f2 hb (Nat.le_trans hB HF.out.size) (by simp))
        have HO2 := Lib.hid (HO.out.fr f2 (Nat.le_trans hB HF.out.size))
        clear f2 x0 x1 x2 x3 x4 x5 x6
        obtain ⟨x0, x1, x2, x3, x4, x5, x6, -⟩ := P72.out
        obtain ⟨rs, hr1, hr3⟩ := HO2.out
        have HR := Lib.hid (hr3.alloc (.cells #[.string e.key, .int .i64 e.item.kind, .string e.item.text, .slice A1 e.item.list.length c1, .slice A2 e.item.pairs.length c2, .slice A3 e.item.scores.length c3, .int .i64 e.til] 58))
        have G2 := Lib.hid ((Fr.refl [] w2).alloc (.cells #[.string e.key, .int .i64 e.item.kind, .string e.item.text, .slice A1 e.item.list.length c1, .slice A2 e.item.pairs.length c2, .slice A3 e.item.scores.length c3, .int .i64 e.til] 58))
        have HR1 := Lib.hid (hr1.imp (fun cs e he => he.fr G2.out (Nat.le_trans hB F2.out.size) (by simp)))
        have HE := Lib.hid (P72.out.ent.fr G2.out (Nat.le_trans hB F2.out.size) (by simp))
        have hzz : w.heap.size ≤ w2.heap.size := F2.out.size
        have hO1 := Lib.hid (own_sl (World.ownsRow_lit (base := w2.heap.size) (e := 58) (size := 7) w2 #[.string e.key, .int .i64 e.item.kind, .string e.item.text, .slice A1 e.item.list.length c1, .slice A2 e.item.pairs.length c2, .slice A3 e.item.scores.length c3, .int .i64 e.til] 1 (Nat.le_refl _) (by decide) rfl))
        clear hr1 hr3
        go_wp2_with (at_builtin; refine wpList_append_sl _ rfl _ _ 44 rfl w.heap.size 58 i0 _ 7 120 Try.underlying44 hi hz0 hz1 hz2 rfl (by decide) _ _ _ rfl HR.out _ _ 1 _ rfl hO1.out (ent7_one e A1 A2 A3 c1 c2 c3) ?c1 ?c2 ?c3 ?_)
        case c1 => unfold maxLen; omega
        case c2 => omega
        case c3 => first | omega | (simp; omega)
        intro v' w5 hown hgrow hat5
        have HE5 := Lib.hid (show EntsR w5 w.heap.size B v' ((l.take (k + 1)).filter (fun e => !goneB e.til now)) from by
          rw [ET2.out]
          exact entsR_snoc HR1.out HE.out rfl (Nat.le_trans hB (Nat.le_trans F2.out.size G2.out.size)) hB HR.out hgrow hown)
        have F5 := Lib.hid ((F2.out.trans G2.out).grown hgrow (fun j hj => .inr (HR.out.lt j hj).1))
        clear hown hgrow hat5
        go_wp2
        go_roundg (l.length - (k + 1))
        case measure => omega
        case rel => exact ⟨k + 1, _, rfl, by omega, by go_num, Lib.hid rfl, HE5.out, F5.out⟩
      · have ET2 := Lib.hid (ET.out.trans (by rw [show (!goneB e.til now) = false from by rw [hg]; rfl, if_neg (by decide), List.append_nil, ← hcur.out]))
        rw [hg] at IG
        clear hg ET
        go_wp2_with fail
        refine (IG.out _).mono ?_
        rintro e2 w2 ⟨rfl, f2⟩
        have F2 := Lib.hid (HF.out.trans f2)
        have HO2 := Lib.hid (HO.out.fr f2 (Nat.le_trans hB HF.out.size))
        clear f2
        go_wp2
        go_roundg (l.length - (k + 1))
        case measure => omega
        case rel => exact ⟨k + 1, cur, rfl, by omega, by go_num, Lib.hid ET2.out.symm, HO2.out, F2.out⟩
    · obtain rfl : k = l.length := by omega
      have hcur2 := hcur.out
      rw [List.take_length] at hcur2
      go_wp2
      go_ret
      rw [← hcur2]
      exact ⟨_, rfl, HO.out, HF.out⟩
end Go.Proofs.Ytmlmiboihjibiaa
