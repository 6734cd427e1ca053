/- The walk of the law ItemBack. (Printed by itemback.py.) -/
import Derived.Test.YtfkfdmonnebmmaaItemZ
set_option linter.unusedVariables false
set_option linter.unusedSimpArgs false
namespace Go.Proofs.Ytfkfdmonnebmmaa
open Go.RowKit

theorem right_small {x : Itm} (h : RightI x) : x.Small := by
  have hm := h.many
  unfold many at hm
  have hk := h.kind
  refine ⟨by omega, by have := h.text; omega, by omega, by omega, by omega, fun s hs => by have := h.texts s hs; omega, fun p hp => by have := h.fields p hp; omega, fun p hp => ?_⟩
  have := h.members p hp
  have hi := this.1
  simp only [isInt, Bool.and_eq_true, decide_eq_true_eq] at hi
  omega

theorem dec_ne {s : ByteArray} (h : decCode s ≠ 0) : decAns s = newI 0 := by
  unfold decCode at h
  unfold decAns
  cases hd : decItm s with
  | none => rfl
  | some x =>
    rw [hd] at h
    exact if_neg h
theorem dec_eq {s : ByteArray} (h : decCode s = 0) : checkItm (decAns s) = 0 ∧ encAns (decAns s) = s := by
  cases hd : decItm s with
  | none => unfold decCode at h; rw [hd] at h; cases h
  | some x =>
    have hc : checkItm x = 0 := by unfold decCode at h; rw [hd] at h; exact h
    have ha := (dec_ok hd hc).2
    rw [ha]
    refine ⟨hc, ?_⟩
    unfold encAns
    rw [if_pos hc]
    exact enc_dec hd
theorem enc_ok {x : Itm} (h : checkItm x = 0) : decCode (encAns x) = 0 ∧ decAns (encAns x) = x := by
  have e : encAns x = toB (encItm x) := by unfold encAns; rw [if_pos h]; rfl
  rw [e]
  exact dec_ok (dec_enc (right_of h)) h

theorem enc_size {x : Itm} (h : RightI x) : (⟨(encItm x).toArray⟩ : ByteArray).size ≤ 281474976710656 := by
  have hm := h.many
  unfold many at hm
  have hs : (⟨(encItm x).toArray⟩ : ByteArray).size = (encItm x).length := toB_size _
  rw [hs]
  have h1 := flat_le encText 61 x.list (fun y hy => by rw [encText_length]; have := h.texts y hy; omega)
  have h2 := flat_le encPair 130 x.pairs (fun y hy => by have := h.fields y hy; simp only [encPair, List.length_append, encText_length]; omega)
  have h3 := flat_le encScore 130 x.scores (fun y hy => by have := h.members y hy; simp only [encScore, List.length_append, encText_length, encNum_length]; omega)
  have ht := h.text
  have hl : x.text.data.toList.length = x.text.size := by simp
  unfold encItm
  split <;> simp only [List.length_cons, List.length_append] <;> omega

/-- an item of this world, wherever. -/
theorem ItemV.at_ {w W : World} {B : Nat} {v : Value} {x : Itm} (h : ItemV w B v x) (hB : B ≤ w.heap.size) (hf : Fr [] w W) : ItemV W W.heap.size v x :=
  (h.fr hf hB (by simp)).more (Nat.le_trans hB hf.size)

def CodeOf (c : Int) : Bool := decide (c = 0)

set_option maxHeartbeats 2000000 in
set_option maxRecDepth 100000 in
theorem itemBack_any (x : Itm) (v : Value) (s : ByteArray) (w : World) (B : Nat) (hs : x.Small) (hB : B ≤ w.heap.size) (h : ItemV w B v x) (hsz : s.size ≤ 281474976710656) :
    Calls Try.prog 7 #[v, .string s] w fun e w' => e = .returned (.bool true) ∧ Fr [] w w' := by
  have EN := Lib.hid (fun W (hf : Fr [] w W) => encode_any x v W W.heap.size hs (Nat.le_refl _) (h.at_ hB hf))
  have HH := Lib.hid (fun W (hf : Fr [] w W) => h.at_ hB hf)
  obtain ⟨A1, c1, A2, c2, A3, c3, rfl, h1, h2, h3⟩ := h
  clear h1 h2 h3
  have F0 : Fr [] w (w.alloc (.cells #[.int .i64 x.kind, .string x.text, .slice A1 x.list.length c1, .slice A2 x.pairs.length c2, .slice A3 x.scores.length c3] 33)) := (Fr.refl [] w).alloc _
  have V0 := Lib.hid (show Whole (w.alloc (.cells #[.int .i64 x.kind, .string x.text, .slice A1 x.list.length c1, .slice A2 x.pairs.length c2, .slice A3 x.scores.length c3] 33)) w.heap.size 33 [.int .i64 x.kind, .string x.text, .slice A1 x.list.length c1, .slice A2 x.pairs.length c2, .slice A3 x.scores.length c3] from Whole.new w _ _)
  have HSM := Lib.hid hs
  clear hs
  by_cases hd : decCode s = 0
  · obtain ⟨hy1, hy2⟩ := dec_eq hd
    have DS := Lib.hid (fun W => (show Calls Try.prog 18 #[.string s] W fun e w' => ∃ z, e = .returned (.tuple #[z, .int .i64 0]) ∧ ItemO w' W.heap.size z (decAns s) ∧ Fr [] W w' from by have := decode_any s W hsz; unfold DecPost at this; rw [hd] at this; exact this))
    have EY := Lib.hid (fun W z (hz : ItemV W W.heap.size z (decAns s)) => (show Calls Try.prog 17 #[z] W fun e w' => e = .returned (.tuple #[.string s, .int .i64 0]) ∧ Fr [] W w' from by have := encode_any (decAns s) z W W.heap.size (right_small (right_of hy1)) (Nat.le_refl _) hz; rw [hy1, hy2] at this; exact this))
    clear hy1 hy2 hd
    generalize decAns s = y at *
    by_cases hc : checkItm x = 0
    · obtain ⟨hx1, hx2⟩ := enc_ok hc
      have hsz2 : (encAns x).size ≤ 281474976710656 := by unfold encAns; rw [if_pos hc]; exact enc_size (right_of hc)
      have D1 := Lib.hid (fun W => (show Calls Try.prog 18 #[.string (encAns x)] W fun e w' => ∃ z, e = .returned (.tuple #[z, .int .i64 0]) ∧ ItemO w' W.heap.size z x ∧ Fr [] W w' from by have := decode_any (encAns x) W hsz2; unfold DecPost at this; rw [hx1, hx2] at this; exact this))
      rw [hc] at EN
      clear hx1 hx2 hsz2 hc
      generalize encAns x = t at *
      go_enter Try.func7, Try.ntmps7
      go_wp2_with fail
      refine (itemBegun_any _).mono ?_
      rintro e w1 ⟨rfl, f1⟩
      have F1 := F0.trans f1
      have V1 := Lib.hid (V0.out.fr f1 (by simp))
      obtain ⟨d0, d1, d2, d3, d4⟩ := five V1.out
      go_wp2_with fail
      refine (EN.out _ F1).mono ?_
      rintro e w2 ⟨rfl, f2⟩
      have F2 := F1.trans f2
      have V2 := Lib.hid (V1.out.fr f2 (by simp))
      clear d0 d1 d2 d3 d4
      go_wp2_with fail
      refine (D1.out _).mono ?_
      rintro e w3 ⟨y, rfl, hy, f3⟩
      have HY := Lib.hid hy
      obtain ⟨y1, y2, y3, rfl, o1, o2, o3⟩ := hy
      obtain ⟨P1, p1, rfl⟩ := sl_form (own_sl o1)
      obtain ⟨P2, p2, rfl⟩ := sl_form (own_sl o2)
      obtain ⟨P3, p3, rfl⟩ := sl_form (own_sl o3)
      clear o1 o2 o3
      have F3 := (F2.trans f3)
      have g3 : Fr [] w3 (w3.alloc (.cells #[.int .i64 x.kind, .string x.text, .slice P1 x.list.length p1, .slice P2 x.pairs.length p2, .slice P3 x.scores.length p3] 33)) := (Fr.refl [] w3).alloc _
      have V3 := Lib.hid (((V2.out.fr f3 (by simp))).fr g3 (by simp))
      obtain ⟨d0, d1, d2, d3, d4⟩ := five V3.out
      have HI := Lib.hid (sameItem_any x x _ _ _ _ HSM.out HSM.out (Nat.le_refl _) (HH.out _ (F3.trans g3)) (HY.out.fr0 g3).item)
      rw [sameI_refl] at HI
      go_wp2_with fail
      refine HI.out.mono ?_
      rintro e w4 ⟨rfl, f4⟩
      have F4 := (F3.trans g3).trans f4
      clear d0 d1 d2 d3 d4
      go_wp2_with fail
      refine (DS.out _).mono ?_
      rintro e w5 ⟨z, rfl, hz, f5⟩
      have HZ := Lib.hid hz
      obtain ⟨z1, z2, z3, rfl, o1, o2, o3⟩ := hz
      obtain ⟨Q1, q1, rfl⟩ := sl_form (own_sl o1)
      obtain ⟨Q2, q2, rfl⟩ := sl_form (own_sl o2)
      obtain ⟨Q3, q3, rfl⟩ := sl_form (own_sl o3)
      clear o1 o2 o3
      have F5 := F4.trans f5
      have g5 : Fr [] w5 (w5.alloc (.cells #[.int .i64 y.kind, .string y.text, .slice Q1 y.list.length q1, .slice Q2 y.pairs.length q2, .slice Q3 y.scores.length q3] 33)) := (Fr.refl [] w5).alloc _
      have E2 := Lib.hid (EY.out _ _ (HZ.out.fr0 g5).item)
      go_wp2_with fail
      refine E2.out.mono ?_
      rintro e w6 ⟨rfl, f6⟩
      have F6 := (F5.trans g5).trans f6
      go_wp2
      go_ret
      exact ⟨rfl, F6⟩
    · have qc : (checkItm x == 0) = false := by simpa using hc
      clear hc
      generalize checkItm x = c at *
      generalize encAns x = t at *
      go_enter Try.func7, Try.ntmps7
      go_wp2_with fail
      refine (itemBegun_any _).mono ?_
      rintro e w1 ⟨rfl, f1⟩
      have F1 := F0.trans f1
      have V1 := Lib.hid (V0.out.fr f1 (by simp))
      obtain ⟨d0, d1, d2, d3, d4⟩ := five V1.out
      go_wp2_with fail
      refine (EN.out _ F1).mono ?_
      rintro e w2 ⟨rfl, f2⟩
      have F2 := F1.trans f2
      have V2 := Lib.hid (V1.out.fr f2 (by simp))
      clear d0 d1 d2 d3 d4
      go_wp2_with fail
      refine (DS.out _).mono ?_
      rintro e w5 ⟨z, rfl, hz, f5⟩
      have HZ := Lib.hid hz
      obtain ⟨z1, z2, z3, rfl, o1, o2, o3⟩ := hz
      obtain ⟨Q1, q1, rfl⟩ := sl_form (own_sl o1)
      obtain ⟨Q2, q2, rfl⟩ := sl_form (own_sl o2)
      obtain ⟨Q3, q3, rfl⟩ := sl_form (own_sl o3)
      clear o1 o2 o3
      have F5 := F2.trans f5
      have g5 : Fr [] w5 (w5.alloc (.cells #[.int .i64 y.kind, .string y.text, .slice Q1 y.list.length q1, .slice Q2 y.pairs.length q2, .slice Q3 y.scores.length q3] 33)) := (Fr.refl [] w5).alloc _
      have E2 := Lib.hid (EY.out _ _ (HZ.out.fr0 g5).item)
      go_wp2_with fail
      refine E2.out.mono ?_
      rintro e w6 ⟨rfl, f6⟩
      have F6 := (F5.trans g5).trans f6
      go_wp2
      go_ret
      exact ⟨rfl, F6⟩
  · have hn := dec_ne hd
    have DS := Lib.hid (fun W => (show Calls Try.prog 18 #[.string s] W fun e w' => ∃ z, e = .returned (.tuple #[z, .int .i64 (decCode s)]) ∧ ItemO w' W.heap.size z (newI 0) ∧ Fr [] W w' from by have := decode_any s W hsz; unfold DecPost at this; rw [hn] at this; exact this))
    have qd : (decCode s != 0) = true := by simpa using hd
    clear hn hd
    generalize decCode s = d at *
    by_cases hc : checkItm x = 0
    · obtain ⟨hx1, hx2⟩ := enc_ok hc
      have hsz2 : (encAns x).size ≤ 281474976710656 := by unfold encAns; rw [if_pos hc]; exact enc_size (right_of hc)
      have D1 := Lib.hid (fun W => (show Calls Try.prog 18 #[.string (encAns x)] W fun e w' => ∃ z, e = .returned (.tuple #[z, .int .i64 0]) ∧ ItemO w' W.heap.size z x ∧ Fr [] W w' from by have := decode_any (encAns x) W hsz2; unfold DecPost at this; rw [hx1, hx2] at this; exact this))
      rw [hc] at EN
      clear hx1 hx2 hsz2 hc
      generalize encAns x = t at *
      go_enter Try.func7, Try.ntmps7
      go_wp2_with fail
      refine (itemBegun_any _).mono ?_
      rintro e w1 ⟨rfl, f1⟩
      have F1 := F0.trans f1
      have V1 := Lib.hid (V0.out.fr f1 (by simp))
      obtain ⟨d0, d1, d2, d3, d4⟩ := five V1.out
      go_wp2_with fail
      refine (EN.out _ F1).mono ?_
      rintro e w2 ⟨rfl, f2⟩
      have F2 := F1.trans f2
      have V2 := Lib.hid (V1.out.fr f2 (by simp))
      clear d0 d1 d2 d3 d4
      go_wp2_with fail
      refine (D1.out _).mono ?_
      rintro e w3 ⟨y, rfl, hy, f3⟩
      have HY := Lib.hid hy
      obtain ⟨y1, y2, y3, rfl, o1, o2, o3⟩ := hy
      obtain ⟨P1, p1, rfl⟩ := sl_form (own_sl o1)
      obtain ⟨P2, p2, rfl⟩ := sl_form (own_sl o2)
      obtain ⟨P3, p3, rfl⟩ := sl_form (own_sl o3)
      clear o1 o2 o3
      have F3 := (F2.trans f3)
      have g3 : Fr [] w3 (w3.alloc (.cells #[.int .i64 x.kind, .string x.text, .slice P1 x.list.length p1, .slice P2 x.pairs.length p2, .slice P3 x.scores.length p3] 33)) := (Fr.refl [] w3).alloc _
      have V3 := Lib.hid (((V2.out.fr f3 (by simp))).fr g3 (by simp))
      obtain ⟨d0, d1, d2, d3, d4⟩ := five V3.out
      have HI := Lib.hid (sameItem_any x x _ _ _ _ HSM.out HSM.out (Nat.le_refl _) (HH.out _ (F3.trans g3)) (HY.out.fr0 g3).item)
      rw [sameI_refl] at HI
      go_wp2_with fail
      refine HI.out.mono ?_
      rintro e w4 ⟨rfl, f4⟩
      have F4 := (F3.trans g3).trans f4
      clear d0 d1 d2 d3 d4
      go_wp2_with fail
      refine (DS.out _).mono ?_
      rintro e w5 ⟨z, rfl, hz, f5⟩
      have HZ := Lib.hid hz
      obtain ⟨z1, z2, z3, rfl, o1, o2, o3⟩ := hz
      obtain ⟨Q1, q1, rfl⟩ := sl_form (own_sl o1)
      obtain ⟨Q2, q2, rfl⟩ := sl_form (own_sl o2)
      obtain ⟨Q3, q3, rfl⟩ := sl_form (own_sl o3)
      clear o1 o2 o3
      have F5 := F4.trans f5
      go_wp2
      go_ret
      exact ⟨rfl, F5.alloc _⟩
    · have qc : (checkItm x == 0) = false := by simpa using hc
      clear hc
      generalize checkItm x = c at *
      generalize encAns x = t at *
      go_enter Try.func7, Try.ntmps7
      go_wp2_with fail
      refine (itemBegun_any _).mono ?_
      rintro e w1 ⟨rfl, f1⟩
      have F1 := F0.trans f1
      have V1 := Lib.hid (V0.out.fr f1 (by simp))
      obtain ⟨d0, d1, d2, d3, d4⟩ := five V1.out
      go_wp2_with fail
      refine (EN.out _ F1).mono ?_
      rintro e w2 ⟨rfl, f2⟩
      have F2 := F1.trans f2
      have V2 := Lib.hid (V1.out.fr f2 (by simp))
      clear d0 d1 d2 d3 d4
      go_wp2_with fail
      refine (DS.out _).mono ?_
      rintro e w5 ⟨z, rfl, hz, f5⟩
      have HZ := Lib.hid hz
      obtain ⟨z1, z2, z3, rfl, o1, o2, o3⟩ := hz
      obtain ⟨Q1, q1, rfl⟩ := sl_form (own_sl o1)
      obtain ⟨Q2, q2, rfl⟩ := sl_form (own_sl o2)
      obtain ⟨Q3, q3, rfl⟩ := sl_form (own_sl o3)
      clear o1 o2 o3
      have F5 := F2.trans f5
      go_wp2
      go_ret
      exact ⟨rfl, F5.alloc _⟩
end Go.Proofs.Ytfkfdmonnebmmaa
