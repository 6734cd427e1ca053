/- The walks of space.Look and the reference's LookOf: the entry of a key. -/
import Derived.Test.YtmlmiboihjibiaaSpA
set_option linter.unusedVariables false
set_option linter.unusedSimpArgs false
namespace Go.Proofs.Ytmlmiboihjibiaa
open Go.RowKit

/-- the entry of a key, if it is there and not gone. -/
def lookO (l : List Ent) (now : Int) (s : ByteArray) : Option Ent := l.find? fun e => decide (e.key = s) && !goneB e.til now
def lookE (l : List Ent) (now : Int) (s : ByteArray) : Ent := (lookO l now s).getD newE
def lookB (l : List Ent) (now : Int) (s : ByteArray) : Bool := (lookO l now s).isSome
theorem key_one {l : List Ent} (hr : rises (ltK Ent.key) l = true) {i j : Nat} {a b : Ent} (ha : l[i]? = some a) (hb : l[j]? = some b) (h : a.key = b.key) : a = b := by
  have h1 := hit_of Ent.key hr ha
  have h2 := hit_of Ent.key hr hb
  rw [h] at h1
  have : i = j := by rw [← h1, ← h2]
  subst this
  rw [ha] at hb
  exact Option.some.inj hb
theorem look_hit {l : List Ent} (hr : rises (ltK Ent.key) l = true) {i : Nat} {e : Ent} (he : l[i]? = some e) (now : Int) : lookO l now e.key = if goneB e.til now = true then none else some e := by
  unfold lookO
  by_cases hg : goneB e.til now = true
  · rw [if_pos hg, List.find?_eq_none]
    intro x hx hp
    obtain ⟨j, hj⟩ := List.getElem?_of_mem hx
    simp at hp
    have := key_one hr hj he hp.1
    rw [this, hg] at hp
    exact absurd hp.2 (by decide)
  · rw [if_neg hg]
    rcases hf : l.find? (fun x => decide (x.key = e.key) && !goneB x.til now) with _ | x
    · have := List.find?_eq_none.1 hf e (List.mem_of_getElem? he)
      simp at this
      exact absurd this hg
    · have h1 := List.find?_some hf
      have h2 := List.mem_of_find?_eq_some hf
      obtain ⟨j, hj⟩ := List.getElem?_of_mem h2
      simp at h1
      rw [hf, key_one hr hj he h1.1]
theorem look_no {l : List Ent} (hr : rises (ltK Ent.key) l = true) {s : ByteArray} (h : hitK Ent.key l s = false) (now : Int) : lookO l now s = none := by
  unfold lookO
  rw [List.find?_eq_none]
  intro x hx hp
  simp at hp
  obtain ⟨j, hj⟩ := List.getElem?_of_mem hx
  have := hit_there Ent.key hr hj
  rw [hp.1, h] at this
  cases this

def LookPost (e : Ent) (b : Bool) (B : Nat) (w : World) (r : Ending) (w' : World) : Prop := ∃ cs, r = .returned (.tuple #[.agg cs, .bool b]) ∧ EntC w' B cs.toList e ∧ Fr [] w w'
def LookPost1 (e : Ent) (B : Nat) (w : World) (r : Ending) (w' : World) : Prop := ∃ cs, r = .returned (.agg cs) ∧ EntC w' B cs.toList e ∧ Fr [] w w'
theorem newE_c (w : World) (B : Nat) : EntC w B [.string ⟨#[]⟩, .int .i64 0, .string ⟨#[]⟩, .slice none 0 0, .slice none 0 0, .slice none 0 0, .int .i64 0] newE := ⟨none, 0, none, 0, none, 0, rfl, Sl.nil _ _ _, Sl.nil _ _ _, Sl.nil _ _ _⟩
def Z7 : List Value := [.string ⟨#[]⟩, .int .i64 0, .string ⟨#[]⟩, .slice none 0 0, .slice none 0 0, .slice none 0 0, .int .i64 0]
def set7 (w : World) (o : Nat) (a b c d e f g : Value) : World := ((((((w.setCell ⟨o, 0, none⟩ a).setCell ⟨o, 1, none⟩ b).setCell ⟨o, 2, none⟩ c).setCell ⟨o, 3, none⟩ d).setCell ⟨o, 4, none⟩ e).setCell ⟨o, 5, none⟩ f).setCell ⟨o, 6, none⟩ g
theorem fr_set7 {w wr : World} {o : Nat} (h : Fr [] w wr) (ho : w.heap.size ≤ o) (a b c d e f g : Value) : Fr [] w (set7 wr o a b c d e f g) :=
  ((((((h.setCell (p := ⟨o, 0, none⟩) (.inr ho) _).setCell (p := ⟨o, 1, none⟩) (.inr ho) _).setCell (p := ⟨o, 2, none⟩) (.inr ho) _).setCell (p := ⟨o, 3, none⟩) (.inr ho) _).setCell (p := ⟨o, 4, none⟩) (.inr ho) _).setCell (p := ⟨o, 5, none⟩) (.inr ho) _).setCell (p := ⟨o, 6, none⟩) (.inr ho) _

set_option maxHeartbeats 2000000 in
set_option maxRecDepth 100000 in
theorem spaceLook_any (l : List Ent) (v : Value) (now : Int) (s : ByteArray) (w : World) (B : Nat) (hr : rises (ltK Ent.key) l = true) (hl : l.length ≤ 281474976710656) (hB : B ≤ w.heap.size) (h : EntsV w B v l) :
    Calls Try.prog 81 #[v, .int .i64 now, .string s] w (LookPost (lookE l now s) (lookB l now s) B w) := by
  obtain ⟨A, c, rfl⟩ := h.form
  have F0 := Lib.hid ((Fr.refl [] w).alloc (.cells #[.string ⟨#[]⟩, .int .i64 0, .string ⟨#[]⟩, .slice none 0 0, .slice none 0 0, .slice none 0 0, .int .i64 0] 58))
  have W0 := Lib.hid (Whole.new w 58 [.string ⟨#[]⟩, .int .i64 0, .string ⟨#[]⟩, .slice none 0 0, .slice none 0 0, .slice none 0 0, .int .i64 0])
  have FD := Lib.hid (fun W (hW : Fr [] w W) => findE_any l s A c B W hr hl (Nat.le_trans hB hW.size) (h.fr hW hB (by simp)))
  have HV := Lib.hid h
  have HR := Lib.hid hr
  unfold FindPost at FD
  clear h hr
  by_cases hh : hitK Ent.key l s = true
  · obtain ⟨e, he, hk⟩ := (hitK_iff Ent.key).1 hh
    subst hk
    have hlt := (List.getElem?_eq_some_iff.1 he).1
    obtain ⟨b, off, rfl, hb, hc, hmx, hat⟩ := HV.out.at_ (by omega)
    obtain ⟨A1, A2, A3, c1, c2, c3, h7⟩ := hat _ e he
    have H7 := Lib.hid h7
    have EL := Lib.hid (look_hit HR.out he now)
    have GO := Lib.hid (fun W => gone_any e.til now W)
    rw [hh] at FD
    clear hat h7 he hh
    generalize lowK Ent.key l e.key = k at *
    have ix0 : (0 : Int) ≤ (k : Int) := by omega
    have ix1 : (k : Int) < (l.length : Int) := by omega
    unfold maxLen at hmx
    by_cases hg : goneB e.til now = true
    · have E1 := Lib.hid (show lookO l now e.key = none from EL.out.trans (if_pos hg))
      rw [hg] at GO
      clear EL hg
      go_enter Try.func81, Try.ntmps81
      go_wp2_with fail
      refine (FD.out _ F0.out).mono ?_
      rintro e1 w1 ⟨rfl, f1⟩
      have F1 := Lib.hid (F0.out.trans f1)
      have W1 := Lib.hid (W0.out.fr f1 (by simp))
      have P7 := Lib.hid (H7.out.fr F1.out hb hB (by simp))
      obtain ⟨x0, x1, x2, x3, x4, x5, x6, -⟩ := P7.out
      clear f1
      go_wp2_with fail
      refine (GO.out _).mono ?_
      rintro e2 w2 ⟨rfl, rfl⟩
      obtain ⟨a0, a1, a2, a3, a4, a5, a6⟩ := seven W1.out
      obtain ⟨b0, b1, b2, b3, b4, b5, b6⟩ := sevenF W1.out
      go_wp2
      refine bodyPost_ret (v := .tuple #[.agg #[.string ⟨#[]⟩, .int .i64 0, .string ⟨#[]⟩, .slice none 0 0, .slice none 0 0, .slice none 0 0, .int .i64 0], .bool false]) (by simp [results, Try.results81, go_sem, a0, a1, a2, a3, a4, a5, a6]) rfl ?_
      unfold lookE lookB
      rw [E1.out]
      exact ⟨_, rfl, newE_c _ _, fr_set7 F1.out (Nat.le_refl _) _ _ _ _ _ _ _⟩
    · have hg' : goneB e.til now = false := by simpa using hg
      have E1 := Lib.hid (show lookO l now e.key = some e from EL.out.trans (if_neg hg))
      rw [hg'] at GO
      clear EL hg hg'
      go_enter Try.func81, Try.ntmps81
      go_wp2_with fail
      refine (FD.out _ F0.out).mono ?_
      rintro e1 w1 ⟨rfl, f1⟩
      have F1 := Lib.hid (F0.out.trans f1)
      have W1 := Lib.hid (W0.out.fr f1 (by simp))
      have P7 := Lib.hid (H7.out.fr F1.out hb hB (by simp))
      obtain ⟨x0, x1, x2, x3, x4, x5, x6, -⟩ := P7.out
      clear f1
      go_wp2_with fail
      refine (GO.out _).mono ?_
      rintro e2 w2 ⟨rfl, rfl⟩
      obtain ⟨a0, a1, a2, a3, a4, a5, a6⟩ := seven W1.out
      obtain ⟨b0, b1, b2, b3, b4, b5, b6⟩ := sevenF W1.out
      go_wp2
      refine bodyPost_ret (v := .tuple #[.agg (ent7 e A1 c1 A2 c2 A3 c3).toArray, .bool true]) (by simp [results, Try.results81, go_sem, ent7, a0, a1, a2, a3, a4, a5, a6]) rfl ?_
      unfold lookE lookB
      rw [E1.out]
      exact ⟨_, rfl, H7.out.ent.fr (fr_set7 F1.out (Nat.le_refl _) _ _ _ _ _ _ _) hB (by simp), fr_set7 F1.out (Nat.le_refl _) _ _ _ _ _ _ _⟩
  · have hh' : hitK Ent.key l s = false := by simpa using hh
    have E1 := Lib.hid (look_no HR.out hh' now)
    rw [hh'] at FD
    clear hh hh'
    generalize lowK Ent.key l s = k at *
    go_enter Try.func81, Try.ntmps81
    go_wp2_with fail
    refine (FD.out _ F0.out).mono ?_
    rintro e1 w1 ⟨rfl, f1⟩
    have F1 := Lib.hid (F0.out.trans f1)
    have W1 := Lib.hid (W0.out.fr f1 (by simp))
    clear f1
    obtain ⟨a0, a1, a2, a3, a4, a5, a6⟩ := seven W1.out
    obtain ⟨b0, b1, b2, b3, b4, b5, b6⟩ := sevenF W1.out
    go_wp2
    refine bodyPost_ret (v := .tuple #[.agg #[.string ⟨#[]⟩, .int .i64 0, .string ⟨#[]⟩, .slice none 0 0, .slice none 0 0, .slice none 0 0, .int .i64 0], .bool false]) (by simp [results, Try.results81, go_sem, a0, a1, a2, a3, a4, a5, a6]) rfl ?_
    unfold lookE lookB
    rw [E1.out]
    exact ⟨_, rfl, newE_c _ _, fr_set7 F1.out (Nat.le_refl _) _ _ _ _ _ _ _⟩

theorem find_drop {l : List Ent} {k : Nat} {e : Ent} (h : l[k]? = some e) (p : Ent → Bool) : (l.drop k).find? p = if p e = true then some e else (l.drop (k + 1)).find? p := by
  have hk := (List.getElem?_eq_some_iff.1 h).1
  have e1 : l.drop k = e :: l.drop (k + 1) := by
    rw [List.drop_eq_getElem_cons hk]
    congr 1
    rw [List.getElem?_eq_getElem hk] at h
    exact Option.some.inj h
  rw [e1, List.find?_cons]
  rcases hp : p e with _ | _
  · rw [if_neg (by decide)]
  · rw [if_pos rfl]
set_option maxHeartbeats 2000000 in
set_option maxRecDepth 100000 in
theorem refLook_any (l : List Ent) (v : Value) (now : Int) (s : ByteArray) (w : World) (B : Nat) (hl : l.length ≤ 281474976710656) (hB : B ≤ w.heap.size) (h : EntsV w B v l) :
    Calls Try.prog 35 #[v, .int .i64 now, .string s] w (LookPost1 (lookE l now s) B w) := by
  obtain ⟨A, c, rfl⟩ := h.form
  have F0 := Lib.hid ((Fr.refl [] w).alloc (.cells #[.string ⟨#[]⟩, .int .i64 0, .string ⟨#[]⟩, .slice none 0 0, .slice none 0 0, .slice none 0 0, .int .i64 0] 58))
  have W0 := Lib.hid (Whole.new w 58 [.string ⟨#[]⟩, .int .i64 0, .string ⟨#[]⟩, .slice none 0 0, .slice none 0 0, .slice none 0 0, .int .i64 0])
  have HV := Lib.hid h
  clear h
  go_enter Try.func35, Try.ntmps35
  go_wp2
  go_loopg [7] l.length (fun g i wr => ∃ (k : Nat), g = l.length - k ∧ k ≤ l.length ∧ i = .int .i64 k ∧ Hid (lookO l now s = (l.drop k).find? fun e => decide (e.key = s) && !goneB e.til now) ∧ Whole wr w.heap.size 58 [.string ⟨#[]⟩, .int .i64 0, .string ⟨#[]⟩, .slice none 0 0, .slice none 0 0, .slice none 0 0, .int .i64 0] ∧ Fr [] w wr)
  case atStart => exact ⟨0, rfl, Nat.zero_le _, rfl, Lib.hid rfl, W0.out, F0.out⟩
  case round =>
    obtain ⟨k, rfl, hk, rfl, HE, hW, hf⟩ := hrel
    have HF := Lib.hid hf
    have HW := Lib.hid hW
    clear hf hW
    by_cases hlt : k < l.length
    · obtain ⟨b, off, rfl, hb, hc, hmx, hat⟩ := HV.out.at_ (by omega)
      obtain ⟨e, he⟩ : ∃ e, l[k]? = some e := ⟨_, List.getElem?_eq_getElem hlt⟩
      obtain ⟨A1, A2, A3, c1, c2, c3, h7⟩ := hat k e he
      have P7 := Lib.hid (h7.fr HF.out hb hB (by simp))
      obtain ⟨x0, x1, x2, x3, x4, x5, x6, -⟩ := P7.out
      have ST := Lib.hid (HE.out.trans (find_drop he _))
      have ix0 : (0 : Int) ≤ (k : Int) := by omega
      have ix1 : (k : Int) < (l.length : Int) := by omega
      unfold maxLen at hmx
      clear hat he HE
      by_cases hks : e.key = s
      · have q1 : (e.key.toList == s.toList) = true := by rw [hks]; exact (eqqB s).1
        have GO := Lib.hid (fun W => isGone_any (.string e.key) (.int .i64 e.item.kind) (.string e.item.text) (.slice A1 e.item.list.length c1) (.slice A2 e.item.pairs.length c2) (.slice A3 e.item.scores.length c3) e.til now W)
        by_cases hg : goneB e.til now = true
        · have NX := Lib.hid (ST.out.trans (if_neg (by rw [hg]; simp)))
          rw [hg] at GO
          clear ST hks hg
          go_wp2_with fail
          refine (GO.out _).mono ?_
          rintro e1 w1 ⟨rfl, f1⟩
          go_wp2
          go_roundg (l.length - (k + 1))
          case measure => omega
          case rel => exact ⟨k + 1, rfl, by omega, by go_num, NX, HW.out.fr f1 (by simp), HF.out.trans f1⟩
        · have hg' : goneB e.til now = false := by simpa using hg
          have E1 := Lib.hid (ST.out.trans (if_pos (by rw [hg', decide_eq_true hks]; rfl)))
          rw [hg'] at GO
          clear ST hks hg hg'
          go_wp2_with fail
          refine (GO.out _).mono ?_
          rintro e1 w1 ⟨rfl, f1⟩
          have F1 := Lib.hid (HF.out.trans f1)
          have W1 := Lib.hid (HW.out.fr f1 (by simp))
          have Q7 := Lib.hid (P7.out.fr f1 hb (Nat.le_trans hB HF.out.size) (by simp))
          clear x0 x1 x2 x3 x4 x5 x6 f1
          obtain ⟨x0, x1, x2, x3, x4, x5, x6, -⟩ := Q7.out
          obtain ⟨a0, a1, a2, a3, a4, a5, a6⟩ := seven W1.out
          obtain ⟨b0, b1, b2, b3, b4, b5, b6⟩ := sevenF W1.out
          go_wp2
          refine bodyPost_ret (v := .agg (ent7 e A1 c1 A2 c2 A3 c3).toArray) (by simp [results, Try.results35, go_sem, ent7, a0, a1, a2, a3, a4, a5, a6]) rfl ?_
          unfold lookE
          rw [E1.out]
          exact ⟨_, rfl, h7.ent.fr (fr_set7 F1.out (Nat.le_refl _) _ _ _ _ _ _ _) hB (by simp), fr_set7 F1.out (Nat.le_refl _) _ _ _ _ _ _ _⟩
      · have q1 : (e.key.toList == s.toList) = false := (neqB hks).1
        have NX := Lib.hid (ST.out.trans (if_neg (by rw [decide_eq_false hks]; simp)))
        clear ST hks
        go_wp2
        go_roundg (l.length - (k + 1))
        case measure => omega
        case rel => exact ⟨k + 1, rfl, by omega, by go_num, NX, HW.out, HF.out⟩
    · obtain rfl : k = l.length := by omega
      have E1 := Lib.hid (show lookO l now s = none from by rw [HE.out, List.drop_length]; rfl)
      obtain ⟨a0, a1, a2, a3, a4, a5, a6⟩ := seven HW.out
      obtain ⟨b0, b1, b2, b3, b4, b5, b6⟩ := sevenF HW.out
      go_wp2
      refine bodyPost_ret (v := .agg #[.string ⟨#[]⟩, .int .i64 0, .string ⟨#[]⟩, .slice none 0 0, .slice none 0 0, .slice none 0 0, .int .i64 0]) (by simp [results, Try.results35, go_sem, a0, a1, a2, a3, a4, a5, a6]) rfl ?_
      unfold lookE
      rw [E1.out]
      exact ⟨_, rfl, newE_c _ _, fr_set7 HF.out (Nat.le_refl _) _ _ _ _ _ _ _⟩
end Go.Proofs.Ytmlmiboihjibiaa
