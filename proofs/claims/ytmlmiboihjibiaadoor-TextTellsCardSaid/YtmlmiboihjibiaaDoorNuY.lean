/- Texts and numbers, plain: what the calls answer behind one another; the walk of the law's textBegun. (Printed by numbers2.py.) -/
import Derived.Test.YtmlmiboihjibiaaDoorNuX
import Derived.Test.YtmlmiboihjibiaaDoorNuP
import Derived.Test.YtmlmiboihjibiaaDoorBo
set_option linter.unusedVariables false
set_option linter.unusedSimpArgs false
namespace Go.Proofs.YtmlmiboihjibiaaDoor
open Go.RowKit

theorem check_text {s : ByteArray} (h : s.size ≤ 60) : checkItm (textI s) = 0 := by
  unfold checkItm bareB textI
  simp
  omega
theorem as_text {s : ByteArray} (h : s.size ≤ 60) : asCode 1 (textI s) = 0 := by
  unfold asCode
  rw [if_neg (by unfold nothingI textI; simp), if_pos (check_text h), if_pos (show (textI s).kind = 1 from rfl)]
theorem size_itoa {v : Int} (h : isInt v = true) : (⟨(Lib.itoa v).toArray⟩ : ByteArray).size ≤ 10 := by
  have := (itoa_len h).2
  show (Lib.itoa v).toArray.size ≤ 10
  simpa using this
theorem ba_eq {a b : ByteArray} (h : a.data.toList = b.data.toList) : a = b := by
  cases a with | mk a => cases b with | mk b => exact congrArg ByteArray.mk (Array.toList_inj.1 h)
theorem rg_of {x : Itm} (f t : Int) (h : asCode 1 x = 0) : (rgS x f t).data.toList = rangeOf x.text.data.toList f t := by
  unfold rgS
  rw [if_pos h]
  exact extract_range _ _ _
theorem rangeOf_all {α : Type} (l : List α) : rangeOf l 0 (-1) = l := by
  unfold rangeOf spanA spanB
  simp only [Int.lt_irrefl, if_false, show ((-1 : Int) < 0) from by decide, if_true]
  by_cases h : l.length = 0
  · rw [List.eq_nil_of_length_eq_zero h]; simp
  · rw [if_neg (by omega), if_neg (by omega)]
    rw [List.take_of_length_le (by omega)]
    rfl
theorem rangeOf_to {α : Type} (l : List α) (c : Nat) (h : c < l.length) : rangeOf l 0 c = l.take (c + 1) := by
  unfold rangeOf spanA spanB
  simp only [Int.lt_irrefl, if_false, show ¬ ((c : Int) < 0) from by omega]
  rw [if_neg (by omega), if_neg (by omega)]
  have e : (min (c : Int) ((l.length : Int) - 1) + 1).toNat = c + 1 := by omega
  rw [e]
  rfl
theorem rangeOf_neg {α : Type} (l : List α) (c : Nat) (h : c < l.length) : rangeOf l 0 ((c : Int) - l.length) = l.take (c + 1) := by
  unfold rangeOf spanA spanB
  simp only [Int.lt_irrefl, if_false, show ((c : Int) - (l.length : Int) < 0) from by omega, if_true]
  rw [if_neg (by omega), if_neg (by omega)]
  have e : (min ((c : Int) - (l.length : Int) + (l.length : Int)) ((l.length : Int) - 1) + 1).toNat = c + 1 := by omega
  rw [e]
  rfl
theorem rangeOf_from {α : Type} (l : List α) (c : Nat) (h : c + 1 < l.length) : rangeOf l ((c : Int) + 1) (-1) = l.drop (c + 1) := by
  unfold rangeOf spanA spanB
  simp only [show ¬ ((c : Int) + 1 < 0) from by omega, if_false, show ((-1 : Int) < 0) from by decide, if_true]
  rw [if_neg (by omega), if_neg (by omega)]
  rw [List.take_of_length_le (by omega)]
  have e : ((c : Int) + 1).toNat = c + 1 := by omega
  rw [e]
theorem rg_all {x : Itm} (h : asCode 1 x = 0) : rgS x 0 (-1) = x.text := ba_eq (by rw [rg_of _ _ h, rangeOf_all])
theorem rg_all_text {s : ByteArray} (h : s.size ≤ 60) : rgS (textI s) 0 (-1) = s := rg_all (as_text h)

theorem ad_ok {x : Itm} {n : Int} (h : adCode x n = 0) : asCode 1 x = 0 ∧ isInt n = true ∧ isInt (adWas x + n) = true ∧ (x.kind ≠ 0 → intL x.text.data.toList = some (adWas x)) ∧ isInt (adWas x) = true ∧ adY x n = textI ⟨(Lib.itoa (adWas x + n)).toArray⟩ ∧ adN x n = adWas x + n := by
  have hy : adY x n = textI ⟨(Lib.itoa (adWas x + n)).toArray⟩ := by unfold adY; rw [if_pos h]
  have hn : adN x n = adWas x + n := by unfold adN; rw [if_pos h]
  unfold adCode at h
  by_cases h1 : asCode 1 x = 0
  · rw [if_neg (by simpa using h1)] at h
    by_cases h2 : x.kind ≠ 0 ∧ intL x.text.data.toList = none
    · rw [if_pos h2] at h; cases h
    · rw [if_neg h2] at h
      by_cases h3 : isInt n = true ∧ isInt (adWas x + n) = true
      · have h4 : x.kind ≠ 0 → intL x.text.data.toList = some (adWas x) := fun hk => by
          cases hL : intL x.text.data.toList with
          | none => exact absurd ⟨hk, hL⟩ h2
          | some u => unfold adWas; rw [if_neg hk, hL]; rfl
        refine ⟨h1, h3.1, h3.2, h4, ?_, hy, hn⟩
        by_cases hk : x.kind = 0
        · unfold adWas; rw [if_pos hk]; decide
        · exact (intL_iff.1 (h4 hk)).1
      · rw [if_neg h3] at h; cases h
  · rw [if_pos h1] at h; exact absurd h h1
theorem was_text {v : Int} (h : isInt v = true) : adWas (textI ⟨(Lib.itoa v).toArray⟩) = v ∧ intL (textI ⟨(Lib.itoa v).toArray⟩).text.data.toList = some v := by
  have hL : intL (textI ⟨(Lib.itoa v).toArray⟩).text.data.toList = some v := intL_iff.2 ⟨h, by simp [textI]⟩
  exact ⟨by unfold adWas; rw [if_neg (by show ¬ ((1 : Int) = 0); decide), hL]; rfl, hL⟩
/-- a number added to the text of a number. -/
theorem ad_text {v n : Int} (h : isInt v = true) : adCode (textI ⟨(Lib.itoa v).toArray⟩) n = if isInt n = true ∧ isInt (v + n) = true then 0 else 3 := by
  obtain ⟨h1, h2⟩ := was_text h
  unfold adCode
  rw [if_neg (by rw [as_text (by have := size_itoa h; omega)]; decide), if_neg (fun hh => by rw [h2] at hh; cases hh.2), h1]
theorem ad_text_ok {v n : Int} (h : isInt v = true) (hn : isInt n = true) (hs : isInt (v + n) = true) : adCode (textI ⟨(Lib.itoa v).toArray⟩) n = 0 ∧ adY (textI ⟨(Lib.itoa v).toArray⟩) n = textI ⟨(Lib.itoa (v + n)).toArray⟩ ∧ adN (textI ⟨(Lib.itoa v).toArray⟩) n = v + n := by
  have hc := ad_text (n := n) h
  rw [if_pos ⟨hn, hs⟩] at hc
  exact ⟨hc, ad_yes hc (by rw [(was_text h).1])⟩
theorem ap_ok {x : Itm} {s : ByteArray} (h : apCode x s = 0) : asCode 1 x = 0 ∧ x.text.size + s.size ≤ 60 ∧ apY x s = textI (x.text ++ s) ∧ apN x s = ((x.text.size + s.size : Nat) : Int) := by
  have hy : apY x s = textI (x.text ++ s) := by unfold apY; rw [if_pos h]
  have hn : apN x s = ((x.text.size + s.size : Nat) : Int) := by unfold apN; rw [if_pos h]
  unfold apCode at h
  by_cases h1 : asCode 1 x = 0
  · rw [if_neg (by simpa using h1)] at h
    by_cases h2 : 60 < x.text.size + s.size
    · rw [if_pos h2] at h; cases h
    · exact ⟨h1, by omega, hy, hn⟩
  · rw [if_pos h1] at h; exact absurd h h1
theorem ap_no {x : Itm} {s : ByteArray} (h : apCode x s ≠ 0) : apY x s = newI 0 ∧ apN x s = 0 :=
  ⟨by unfold apY; rw [if_neg h], by unfold apN; rw [if_neg h]⟩
theorem bare_empty {x : Itm} (h : asCode 1 x = 0) (hk : x.kind = 0) : x.text.size = 0 := by
  have hb := (asOk_of h).bare
  unfold bareB at hb
  rw [hk] at hb
  simp at hb
  have := hb.1.1.1
  first | exact this | (rw [this]; rfl)

def t41 : ByteArray := ⟨#[52, 49]⟩
def t42 : ByteArray := ⟨#[52, 50]⟩
def tHello : ByteArray := ⟨#[104, 101, 108, 108, 111]⟩
theorem itoa41 : Lib.itoa 41 = [52, 49] := by simp [Lib.itoa, Lib.decDigits]
theorem itoa42 : Lib.itoa 42 = [52, 50] := by simp [Lib.itoa, Lib.decDigits]
theorem as_new0 : asCode 1 (newI 0) = 0 := by unfold asCode; rw [if_pos (by unfold nothingI bareB newI; simp)]
theorem tb_app : apCode (newI 0) t41 = 0 ∧ apY (newI 0) t41 = textI t41 ∧ apN (newI 0) t41 = 2 := by
  have hc : apCode (newI 0) t41 = 0 := by
    unfold apCode
    rw [if_neg (by rw [as_new0]; decide), if_neg (by decide)]
  obtain ⟨_, _, hy, hn⟩ := ap_ok hc
  exact ⟨hc, by rw [hy]; exact congrArg textI (by decide), by rw [hn]; rfl⟩
theorem tb_add : adCode (textI t41) 1 = 0 ∧ adY (textI t41) 1 = textI t42 ∧ adN (textI t41) 1 = 42 := by
  have e : t41 = ⟨(Lib.itoa 41).toArray⟩ := by rw [itoa41]; rfl
  have := ad_text_ok (v := 41) (n := 1) (by decide) (by decide) (by decide)
  rw [← e] at this
  refine ⟨this.1, this.2.1.trans ?_, this.2.2⟩
  show textI ⟨(Lib.itoa 42).toArray⟩ = textI t42
  rw [itoa42]
  rfl
theorem tb_range : rgS (textI tHello) (-3) (-1) = ⟨#[108, 108, 111]⟩ := by
  unfold rgS
  rw [if_pos (as_text (by decide))]
  decide

set_option maxHeartbeats 4000000 in
set_option maxRecDepth 100000 in
theorem textBegun_any (w : World) (hv : Vars w) : Calls Tryd.prog 6 #[] w fun e w' => e = .returned (.bool true) ∧ Fr [] w w' := by
  have AP := Lib.hid (fun (W : World) v (h : ItemV W W.heap.size v (newI 0)) => (show Calls Tryd.prog 10 #[v, .string ⟨#[52, 49]⟩] W (INPost 2 0 (textI t41) W) from by
    have := tappend_any (newI 0) v t41 W W.heap.size (newI_small 0 (by decide)) (Nat.le_refl _) h (by decide)
    rw [tb_app.1, tb_app.2.1, tb_app.2.2] at this
    exact this))
  have AD := Lib.hid (fun (W : World) v (h : ItemV W W.heap.size v (textI t41)) (hV : Vars W) => (show Calls Tryd.prog 7 #[v, .int .i64 1] W (INPost 42 0 (textI t42) W) from by
    have := tadd_any (textI t41) v 1 W W.heap.size (textI_small (by decide)) (Nat.le_refl _) h (by decide) hV
    rw [tb_add.1, tb_add.2.1, tb_add.2.2] at this
    exact this))
  have RG := Lib.hid (fun (W : World) v (h : ItemV W W.heap.size v (textI tHello)) => (show Calls Tryd.prog 8 #[v, .int .i64 (-3), .int .i64 (-1)] W (SEPost ⟨#[108, 108, 111]⟩ 0 W) from by
    have := trange_any (textI tHello) v (-3) (-1) W W.heap.size (textI_small (by decide)) (Nat.le_refl _) h (by decide) (by decide)
    rw [tb_range, as_text (by decide)] at this
    exact this))
  have ZI := Lib.hid (fun (W : World) => (show ItemV W W.heap.size (.agg #[.int .i64 0, .string ⟨#[]⟩, .slice none 0 0, .slice none 0 0, .slice none 0 0]) (newI 0) from ⟨none, 0, none, 0, none, 0, rfl, Sl.nil _ _ _, Sl.nil _ _ _, Sl.nil _ _ _⟩))
  have HI := Lib.hid (fun (W : World) => (show ItemV W W.heap.size (.agg #[.int .i64 1, .string ⟨#[104, 101, 108, 108, 111]⟩, .slice none 0 0, .slice none 0 0, .slice none 0 0]) (textI tHello) from ⟨none, 0, none, 0, none, 0, rfl, Sl.nil _ _ _, Sl.nil _ _ _, Sl.nil _ _ _⟩))
  have V := Lib.hid hv
  clear hv
  have qa : ((textI t42).text.toList == ([52, 50] : List UInt8)) = true := by simp [textI, t42, ByteArray.toList_eq]
  have qb : ((⟨#[108, 108, 111]⟩ : ByteArray).toList == (⟨#[108, 108, 111]⟩ : ByteArray).toList) = true := by simp
  have E0 := Lib.hid (Env.start w)
  go_enter Tryd.func6, Tryd.ntmps6
  go_wp2_with fail
  refine (AP.out _ _ (ZI.out _)).mono ?_
  rintro e w1 ⟨v1, rfl, i1, f1⟩
  have E1 := Lib.hid (E0.out.go f1)
  have E2 := Lib.hid (E1.out.item i1.item)
  obtain ⟨P1, p1, P2, p2, P3, p3, rfl⟩ := i1.form
  clear i1
  have E3 := Lib.hid (E2.out.box (.int .i64 (textI t41).kind) (.string (textI t41).text) (.slice P1 (textI t41).list.length p1) (.slice P2 (textI t41).pairs.length p2) (.slice P3 (textI t41).scores.length p3))
  obtain ⟨d0, d1, d2, d3, d4⟩ := five (E3.out.bl _ (.head _))
  go_wp2_with fail
  refine (AD.out _ _ (E3.out.its _ (.head _)) (V.out.fr E3.out.f)).mono ?_
  rintro e w2 ⟨v2, rfl, i2, f2⟩
  have E4 := Lib.hid (E3.out.go f2)
  clear d0 d1 d2 d3 d4
  have E5 := Lib.hid (E4.out.item i2.item)
  obtain ⟨Q1, q1, Q2, q2, Q3, q3, rfl⟩ := i2.form
  clear i2
  have E6 := Lib.hid (E5.out.box (.int .i64 (textI t42).kind) (.string (textI t42).text) (.slice Q1 (textI t42).list.length q1) (.slice Q2 (textI t42).pairs.length q2) (.slice Q3 (textI t42).scores.length q3))
  go_wp2_with fail
  refine (RG.out _ _ (HI.out _)).mono ?_
  rintro e w3 ⟨rfl, f3⟩
  have E7 := Lib.hid (E6.out.go f3)
  obtain ⟨d0, d1, d2, d3, d4⟩ := five (E7.out.bl _ (.head _))
  go_wp2
  go_ret
  exact ⟨rfl, E7.out.f⟩
end Go.Proofs.YtmlmiboihjibiaaDoor
