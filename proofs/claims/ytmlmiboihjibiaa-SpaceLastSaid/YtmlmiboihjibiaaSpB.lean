/- The walks of space.Check, ready and of the reference's CheckSpace, CheckAt. (Printed by spaces.py.) -/
import Derived.Test.YtmlmiboihjibiaaSpA
import Derived.Test.YtmlmiboihjibiaaItR
import Derived.Test.YtmlmiboihjibiaaScL
import Derived.BigQuiet
import Derived.Deep.QuietTactic
set_option linter.unusedVariables false
set_option linter.unusedSimpArgs false
namespace Go.Proofs.Ytmlmiboihjibiaa
open Go.RowKit

theorem ordB_three (a b : ByteArray) : (ordB a b < 0 ∧ ltS a b = true) ∨ (a = b ∧ ltS a b = false) ∨ (ordB b a < 0 ∧ ltS a b = false) := by
  have h2 := ordB_anti a b
  rcases Int.lt_trichotomy (ordB a b) 0 with h | h | h
  · exact .inl ⟨h, decide_eq_true h⟩
  · exact .inr (.inl ⟨ordB_eq h, decide_eq_false (by omega)⟩)
  · exact .inr (.inr ⟨by omega, decide_eq_false (by omega)⟩)
theorem lessT {a b : ByteArray} (h : ordB a b < 0) : Op.bytesLess a.toList b.toList = true := by rw [less_ordL]; exact decide_eq_true h
theorem prevK_succ {l : List Ent} {j : Nat} (h : j < l.length) : ∃ p, l[j]? = some p ∧ prevK l (j + 1) = some p.key := by
  refine ⟨_, List.getElem?_eq_getElem h, ?_⟩
  unfold prevK
  rw [if_neg (by omega), Nat.add_sub_cancel, List.getElem?_eq_getElem h]
  rfl
theorem badPrev_none (s : ByteArray) : badPrev none s = false := rfl
theorem badPrev_some (k s : ByteArray) : badPrev (some k) s = !ltS k s := rfl
theorem entLong {p : Option ByteArray} {e : Ent} (h : 60 < e.key.size) : entCode p e = 2 := if_pos h
theorem entItem {p : Option ByteArray} {e : Ent} (h : ¬ 60 < e.key.size) (h2 : checkItm e.item ≠ 0) : entCode p e = checkItm e.item := by unfold entCode; rw [if_neg h, if_pos h2]
theorem entTime {p : Option ByteArray} {e : Ent} (h : ¬ 60 < e.key.size) (h2 : checkItm e.item = 0) (h3 : timeB e.til = false) : entCode p e = 3 := by unfold entCode; rw [if_neg h, if_neg (fun hn => hn h2), if_pos h3]
theorem entPrev {p : Option ByteArray} {e : Ent} (h : ¬ 60 < e.key.size) (h2 : checkItm e.item = 0) (h3 : timeB e.til = true) : entCode p e = if badPrev p e.key = true then 4 else 0 := by unfold entCode; rw [if_neg h, if_neg (fun hn => hn h2), if_neg (by rw [h3]; decide)]
def atCode (l : List Ent) (n : Int) (s : ByteArray) : Int := if spCode l ≠ 0 then spCode l else if timeB n = false then 3 else if 60 < s.size then 2 else 0
theorem atOk {l : List Ent} {n : Int} {s : ByteArray} (h : atCode l n s = 0) : spCode l = 0 ∧ (0 ≤ n ∧ n ≤ 1000000) ∧ s.size ≤ 60 := by
  unfold atCode at h
  split at h
  · rename_i h1; exact absurd h h1
  · rename_i h1
    split at h
    · cases h
    · rename_i h2
      split at h
      · cases h
      · have h2' : timeB n = true := by simpa using h2
        unfold timeB at h2'
        exact ⟨by simpa using h1, by simpa using h2', by omega⟩

set_option maxHeartbeats 4000000 in
set_option maxRecDepth 100000 in
theorem spaceCheck_any (l : List Ent) (v : Value) (w : World) (B : Nat) (hs : ∀ e ∈ l, e.Small) (hl : l.length ≤ 281474976710656) (hB : B ≤ w.heap.size) (h : EntsV w B v l) :
    Calls Try.prog 40 #[v] w fun e w' => e = .returned (.int .i64 (spCode l)) ∧ Fr [] w w' := by
  obtain ⟨A, c, rfl⟩ := h.form
  by_cases h16 : 16 < l.length
  · have E : spCode l = 2 := if_pos h16
    have q : (l.length : Int) > 16 := by omega
    rw [E]
    clear E h16 h
    go_enter Try.func40, Try.ntmps40
    go_wp2
    go_ret
    exact ⟨rfl, Fr.refl _ _⟩
  · have q : ¬ (l.length : Int) > 16 := by omega
    have HV := Lib.hid h
    have HS := Lib.hid hs
    have E0 := Lib.hid (show spCode l = goSp (prevK l 0) (l.drop 0) from if_neg h16)
    have hl16 : l.length ≤ 16 := by omega
    clear h hs h16
    go_enter Try.func40, Try.ntmps40
    go_wp2
    go_loopg [11] l.length (fun g i wr => ∃ (k : Nat), g = l.length - k ∧ k ≤ l.length ∧ i = .int .i64 k ∧ Hid (spCode l = goSp (prevK l k) (l.drop k)) ∧ Fr [] w wr)
    case atStart => exact ⟨0, rfl, Nat.zero_le _, rfl, E0, Fr.refl _ _⟩
    case round =>
      obtain ⟨k, rfl, hk, rfl, HE, hf⟩ := hrel
      have HF := Lib.hid hf
      clear hf
      by_cases hlt : k < l.length
      · obtain ⟨b, off, rfl, hb, hc, hmx, hat⟩ := HV.out.at_ (by omega)
        obtain ⟨e, he⟩ : ∃ e, l[k]? = some e := ⟨_, List.getElem?_eq_getElem hlt⟩
        obtain ⟨A1, A2, A3, c1, c2, c3, h7⟩ := hat k e he
        have hem := List.mem_of_getElem? he
        have P7 := Lib.hid (h7.fr HF.out hb hB (by simp))
        obtain ⟨x0, x1, x2, x3, x4, x5, x6, -⟩ := P7.out
        have hes := (HS.out e hem)
        have hek := hes.key
        have ST := Lib.hid (HE.out.trans (goSp_step he))
        have IC := Lib.hid (fun W (hW : Fr [] wr W) => itemCheck_any e.item _ W B hes.item (Nat.le_trans hB (Nat.le_trans HF.out.size hW.size)) ((P7.out.ent.fr hW (Nat.le_trans hB HF.out.size) (by simp)).item))
        have HAT := Lib.hid (fun (j : Nat) (p : Ent) (hj : l[j]? = some p) => (show wr.cell? ⟨b, off + j * 7, none⟩ = some (.string p.key) from by
          obtain ⟨_, _, _, _, _, _, g7⟩ := hat j p hj
          exact (g7.fr HF.out hb hB (by simp)).k0))
        have HSZ := Lib.hid (fun (j : Nat) (p : Ent) (hj : l[j]? = some p) => (HS.out p (List.mem_of_getElem? hj)).key)
        unfold maxLen at hmx
        clear hat h7 he hes HE
        have V1 := Lib.hid (Whole.new wr 58 [.string e.key, .int .i64 e.item.kind, .string e.item.text, .slice A1 e.item.list.length c1, .slice A2 e.item.pairs.length c2, .slice A3 e.item.scores.length c3, .int .i64 e.til])
        have F1 := Lib.hid ((Fr.refl [] wr).alloc (.cells #[.string e.key, .int .i64 e.item.kind, .string e.item.text, .slice A1 e.item.list.length c1, .slice A2 e.item.pairs.length c2, .slice A3 e.item.scores.length c3, .int .i64 e.til] 58))
        by_cases h1 : 60 < e.key.size
        · have E := Lib.hid (show spCode l = 2 from by rw [ST.out, entLong h1, if_pos (by decide)])
          clear ST IC HAT HSZ
          have q1 : decide (60 < e.key.size) = true := decide_eq_true h1
          go_wp2_with fail
          refine (long_any e.key _).mono ?_
          rintro e9 w9 ⟨rfl, hw9⟩
          subst hw9
          go_wp2
          go_ret
          rw [E.out]
          exact ⟨rfl, HF.out.trans F1.out⟩
        · have q1 : decide (60 < e.key.size) = false := decide_eq_false h1
          by_cases h2 : checkItm e.item = 0
          · rw [h2] at IC
            by_cases h3 : timeB e.til = true
            · have EC := Lib.hid (entPrev (p := prevK l k) h1 h2 h3)
              have q3 := h3
              clear h1 h2 h3
              go_wp2_with fail
              refine (long_any e.key _).mono ?_
              rintro e9 w9 ⟨rfl, hw9⟩
              subst hw9
              go_wp2_with fail
              refine (IC.out _ F1.out).mono ?_
              rintro e2 w2 ⟨rfl, f2⟩
              have V2 := Lib.hid (V1.out.fr f2 (by simp))
              have G2 := Lib.hid (F1.out.trans f2)
              obtain ⟨y0, y1, y2, y3, y4, y5, y6⟩ := seven V2.out
              clear f2
              go_wp2_with fail
              refine (time_any e.til _).mono ?_
              rintro e3 w3 ⟨rfl, rfl⟩
              rw [q3]
              clear q3
              rcases Nat.eq_zero_or_pos k with hk0 | hk0
              · subst hk0
                have NX : Hid (spCode l = goSp (prevK l (0 + 1)) (l.drop (0 + 1))) := Lib.hid (by rw [ST.out, EC.out, if_neg (show ¬ badPrev (prevK l 0) e.key = true by rw [prevK_zero, badPrev_none]; decide), if_neg (by decide)])
                clear ST EC IC HAT HSZ
                go_wp2
                go_quiet (fail)
                go_wp2
                go_roundg (l.length - (0 + 1))
                case measure => omega
                case rel => exact ⟨0 + 1, rfl, by omega, by go_num, NX, by first | exact HF.out.trans G2.out | exact (HF.out.trans G2.out).drewN _ | exact ((HF.out.trans G2.out).drewN _).drewN _⟩
              · obtain ⟨j, rfl⟩ : ∃ j, k = j + 1 := ⟨k - 1, by omega⟩
                obtain ⟨p, hp, hpk⟩ := prevK_succ (show j < l.length by omega)
                have m1 := G2.out.cell (HAT.out j p hp) (by simp)
                have hps := HSZ.out j p hp
                skip
                have hw1 : IntKind.i64.wrap (((j + 1 : Nat) : Int) - 1) = (j : Int) := by rw [IntKind.wrap_i64]; omega
                have hw2 : IntKind.i64.wrap ((j : Int) + 1 - 1) = (j : Int) := by rw [IntKind.wrap_i64]; omega
                have hw3 : IntKind.i64.wrap (j : Int) = (j : Int) := by rw [IntKind.wrap_i64]; omega
                have jx0 : (0 : Int) ≤ (j : Int) := by omega
                have jx1 : (j : Int) < (l.length : Int) := by omega
                have jx2 : (0 : Int) ≤ (j : Int) + 1 := by omega
                have jx3 : (j : Int) + 1 < (l.length : Int) := by omega
                have jx4 : ((j : Int) + 1).toNat = j + 1 := by omega
                have jx5 : decide ((0 : Int) < (j : Int) + 1) = true := decide_eq_true (by omega)
                rcases ordB_three p.key e.key with ⟨ho, hlt3⟩ | ⟨ho, hlt3⟩ | ⟨ho, hlt3⟩
                · have NX : Hid (spCode l = goSp (prevK l (j + 1 + 1)) (l.drop (j + 1 + 1))) := Lib.hid (by rw [ST.out, EC.out, if_neg (show ¬ badPrev (prevK l (j + 1)) e.key = true by rw [hpk, badPrev_some, hlt3]; decide), if_neg (by decide)])
                  obtain ⟨z1, z2⟩ := not_leqL ho
                  clear ST EC IC HAT HSZ hp hpk ho hlt3
                  go_wp2
                  go_quiet (fail)
                  go_wp2
                  go_roundg (l.length - (j + 1 + 1))
                  case measure => omega
                  case rel => exact ⟨j + 1 + 1, rfl, by omega, by go_num, NX, by first | exact HF.out.trans G2.out | exact (HF.out.trans G2.out).drewN _ | exact ((HF.out.trans G2.out).drewN _).drewN _⟩
                · have E := Lib.hid (show spCode l = 4 from by rw [ST.out, EC.out, if_pos (show badPrev (prevK l (j + 1)) e.key = true by rw [hpk, badPrev_some, hlt3]; rfl), if_pos (by decide)])
                  have z1 : (e.key.toList == p.key.toList) = true := by rw [ho]; exact (eqqB e.key).1
                  clear ST EC IC HAT HSZ hp hpk ho hlt3
                  go_wp2
                  go_quiet (fail)
                  go_wp2
                  go_ret
                  rw [E.out]
                  exact ⟨rfl, by first | exact HF.out.trans G2.out | exact (HF.out.trans G2.out).drewN _ | exact ((HF.out.trans G2.out).drewN _).drewN _⟩
                · have E := Lib.hid (show spCode l = 4 from by rw [ST.out, EC.out, if_pos (show badPrev (prevK l (j + 1)) e.key = true by rw [hpk, badPrev_some, hlt3]; rfl), if_pos (by decide)])
                  have z1 := lessT ho
                  clear ST EC IC HAT HSZ hp hpk ho hlt3
                  go_wp2
                  go_quiet (fail)
                  go_wp2
                  go_ret
                  rw [E.out]
                  exact ⟨rfl, by first | exact HF.out.trans G2.out | exact (HF.out.trans G2.out).drewN _ | exact ((HF.out.trans G2.out).drewN _).drewN _⟩
            · have h3' : timeB e.til = false := by simpa using h3
              have E := Lib.hid (show spCode l = 3 from by rw [ST.out, entTime h1 h2 h3', if_pos (by decide)])
              have q3 := h3'
              clear ST HAT HSZ h1 h2 h3 h3'
              go_wp2_with fail
              refine (long_any e.key _).mono ?_
              rintro e9 w9 ⟨rfl, hw9⟩
              subst hw9
              go_wp2_with fail
              refine (IC.out _ F1.out).mono ?_
              rintro e2 w2 ⟨rfl, f2⟩
              have V2 := Lib.hid (V1.out.fr f2 (by simp))
              have G2 := Lib.hid (F1.out.trans f2)
              obtain ⟨y0, y1, y2, y3, y4, y5, y6⟩ := seven V2.out
              clear f2
              go_wp2_with fail
              refine (time_any e.til _).mono ?_
              rintro e3 w3 ⟨rfl, rfl⟩
              rw [q3]
              clear q3
              go_wp2
              go_ret
              rw [E.out]
              exact ⟨rfl, HF.out.trans G2.out⟩
          · have E := Lib.hid (show spCode l = checkItm e.item from by rw [ST.out, entItem h1 h2, if_pos h2])
            have q2 : (checkItm e.item != 0) = true := by simpa using h2
            clear ST HAT HSZ h1 h2
            generalize checkItm e.item = r at *
            go_wp2_with fail
            refine (long_any e.key _).mono ?_
            rintro e9 w9 ⟨rfl, hw9⟩
            subst hw9
            go_wp2_with fail
            refine (IC.out _ F1.out).mono ?_
            rintro e2 w2 ⟨rfl, f2⟩
            have V2 := Lib.hid (V1.out.fr f2 (by simp))
            have G2 := Lib.hid (F1.out.trans f2)
            obtain ⟨y0, y1, y2, y3, y4, y5, y6⟩ := seven V2.out
            clear f2
            go_wp2
            go_ret
            rw [E.out]
            exact ⟨rfl, HF.out.trans G2.out⟩
      · obtain rfl : k = l.length := by omega
        have E := Lib.hid (show spCode l = 0 from by rw [HE.out, List.drop_length]; rfl)
        go_wp2
        go_ret
        rw [E.out]
        exact ⟨rfl, HF.out⟩

set_option maxHeartbeats 4000000 in
set_option maxRecDepth 100000 in
theorem checkSpace_any (l : List Ent) (v : Value) (w : World) (B : Nat) (hs : ∀ e ∈ l, e.Small) (hl : l.length ≤ 281474976710656) (hB : B ≤ w.heap.size) (h : EntsV w B v l) :
    Calls Try.prog 41 #[v] w fun e w' => e = .returned (.int .i64 (spCode l)) ∧ Fr [] w w' := by
  obtain ⟨A, c, rfl⟩ := h.form
  by_cases h16 : 16 < l.length
  · have E : spCode l = 2 := if_pos h16
    have q : (l.length : Int) > 16 := by omega
    rw [E]
    clear E h16 h
    go_enter Try.func41, Try.ntmps41
    go_wp2
    go_ret
    exact ⟨rfl, Fr.refl _ _⟩
  · have q : ¬ (l.length : Int) > 16 := by omega
    have HV := Lib.hid h
    have HS := Lib.hid hs
    have E0 := Lib.hid (show spCode l = goSp (prevK l 0) (l.drop 0) from if_neg h16)
    have hl16 : l.length ≤ 16 := by omega
    clear h hs h16
    go_enter Try.func41, Try.ntmps41
    go_wp2
    go_loopg [3] l.length (fun g i wr => ∃ (k : Nat), g = l.length - k ∧ k ≤ l.length ∧ i = .int .i64 k ∧ Hid (spCode l = goSp (prevK l k) (l.drop k)) ∧ Fr [] w wr)
    case atStart => exact ⟨0, rfl, Nat.zero_le _, rfl, E0, Fr.refl _ _⟩
    case round =>
      obtain ⟨k, rfl, hk, rfl, HE, hf⟩ := hrel
      have HF := Lib.hid hf
      clear hf
      by_cases hlt : k < l.length
      · obtain ⟨b, off, rfl, hb, hc, hmx, hat⟩ := HV.out.at_ (by omega)
        obtain ⟨e, he⟩ : ∃ e, l[k]? = some e := ⟨_, List.getElem?_eq_getElem hlt⟩
        obtain ⟨A1, A2, A3, c1, c2, c3, h7⟩ := hat k e he
        have hem := List.mem_of_getElem? he
        have P7 := Lib.hid (h7.fr HF.out hb hB (by simp))
        obtain ⟨x0, x1, x2, x3, x4, x5, x6, -⟩ := P7.out
        have hes := (HS.out e hem)
        have hek := hes.key
        have ST := Lib.hid (HE.out.trans (goSp_step he))
        have IC := Lib.hid (fun W (hW : Fr [] wr W) => refCheck_any e.item _ W B hes.item (Nat.le_trans hB (Nat.le_trans HF.out.size hW.size)) ((P7.out.ent.fr hW (Nat.le_trans hB HF.out.size) (by simp)).item))
        have HAT := Lib.hid (fun (j : Nat) (p : Ent) (hj : l[j]? = some p) => (show wr.cell? ⟨b, off + j * 7, none⟩ = some (.string p.key) from by
          obtain ⟨_, _, _, _, _, _, g7⟩ := hat j p hj
          exact (g7.fr HF.out hb hB (by simp)).k0))
        have HSZ := Lib.hid (fun (j : Nat) (p : Ent) (hj : l[j]? = some p) => (HS.out p (List.mem_of_getElem? hj)).key)
        unfold maxLen at hmx
        clear hat h7 he hes HE
        by_cases h1 : 60 < e.key.size
        · have E := Lib.hid (show spCode l = 2 from by rw [ST.out, entLong h1, if_pos (by decide)])
          clear ST IC HAT HSZ
          have q1 : (e.key.size : Int) > 60 := by omega
          go_wp2
          go_ret
          rw [E.out]
          exact ⟨rfl, HF.out⟩
        · have q1 : ¬ (e.key.size : Int) > 60 := by omega
          by_cases h2 : checkItm e.item = 0
          · rw [h2] at IC
            by_cases h3 : timeB e.til = true
            · have EC := Lib.hid (entPrev (p := prevK l k) h1 h2 h3)
              have q3 : (decide (0 ≤ e.til) && decide (e.til ≤ 1000000)) = true := h3
              clear h1 h2 h3
              go_wp2_with fail
              refine (IC.out _ (Fr.refl _ _)).mono ?_
              rintro e2 w2 ⟨rfl, f2⟩
              have G2 := Lib.hid f2
              have x0 := f2.cell x0 (by simp)
              have x1 := f2.cell x1 (by simp)
              have x2 := f2.cell x2 (by simp)
              have x3 := f2.cell x3 (by simp)
              have x4 := f2.cell x4 (by simp)
              have x5 := f2.cell x5 (by simp)
              have x6 := f2.cell x6 (by simp)
              clear f2
              go_wp2_with fail
              refine (between_any e.til 0 1000000 _).mono ?_
              rintro e3 w3 ⟨rfl, rfl⟩
              rw [q3]
              clear q3
              rcases Nat.eq_zero_or_pos k with hk0 | hk0
              · subst hk0
                have NX : Hid (spCode l = goSp (prevK l (0 + 1)) (l.drop (0 + 1))) := Lib.hid (by rw [ST.out, EC.out, if_neg (show ¬ badPrev (prevK l 0) e.key = true by rw [prevK_zero, badPrev_none]; decide), if_neg (by decide)])
                clear ST EC IC HAT HSZ
                go_wp2
                go_quiet (fail)
                go_wp2
                go_roundg (l.length - (0 + 1))
                case measure => omega
                case rel => exact ⟨0 + 1, rfl, by omega, by go_num, NX, by first | exact HF.out.trans G2.out | exact (HF.out.trans G2.out).drewN _ | exact ((HF.out.trans G2.out).drewN _).drewN _⟩
              · obtain ⟨j, rfl⟩ : ∃ j, k = j + 1 := ⟨k - 1, by omega⟩
                obtain ⟨p, hp, hpk⟩ := prevK_succ (show j < l.length by omega)
                have m1 := G2.out.cell (HAT.out j p hp) (by simp)
                have hps := HSZ.out j p hp
                have TO := Lib.hid (fun W => textOrder_any p.key e.key W hps hek)
                have hw1 : IntKind.i64.wrap (((j + 1 : Nat) : Int) - 1) = (j : Int) := by rw [IntKind.wrap_i64]; omega
                have hw2 : IntKind.i64.wrap ((j : Int) + 1 - 1) = (j : Int) := by rw [IntKind.wrap_i64]; omega
                have hw3 : IntKind.i64.wrap (j : Int) = (j : Int) := by rw [IntKind.wrap_i64]; omega
                have jx0 : (0 : Int) ≤ (j : Int) := by omega
                have jx1 : (j : Int) < (l.length : Int) := by omega
                have jx2 : (0 : Int) ≤ (j : Int) + 1 := by omega
                have jx3 : (j : Int) + 1 < (l.length : Int) := by omega
                have jx4 : ((j : Int) + 1).toNat = j + 1 := by omega
                have jx5 : decide ((0 : Int) < (j : Int) + 1) = true := decide_eq_true (by omega)
                rcases ordB_three p.key e.key with ⟨ho, hlt3⟩ | ⟨ho, hlt3⟩ | ⟨ho, hlt3⟩
                · have NX : Hid (spCode l = goSp (prevK l (j + 1 + 1)) (l.drop (j + 1 + 1))) := Lib.hid (by rw [ST.out, EC.out, if_neg (show ¬ badPrev (prevK l (j + 1)) e.key = true by rw [hpk, badPrev_some, hlt3]; decide), if_neg (by decide)])
                  have z1 : decide (0 ≤ ordB p.key e.key) = false := decide_eq_false (by omega)
                  clear ST EC IC HAT HSZ hp hpk ho hlt3
                  generalize ordB p.key e.key = oo at *
                  go_wp2
                  go_quiet ((go_at_call 91; exact Calls.quiet_of (TO.out _)))
                  go_wp2
                  go_roundg (l.length - (j + 1 + 1))
                  case measure => omega
                  case rel => exact ⟨j + 1 + 1, rfl, by omega, by go_num, NX, by first | exact HF.out.trans G2.out | exact (HF.out.trans G2.out).drewN _ | exact ((HF.out.trans G2.out).drewN _).drewN _⟩
                · have E := Lib.hid (show spCode l = 4 from by rw [ST.out, EC.out, if_pos (show badPrev (prevK l (j + 1)) e.key = true by rw [hpk, badPrev_some, hlt3]; rfl), if_pos (by decide)])
                  have z1 : decide (0 ≤ ordB p.key e.key) = true := decide_eq_true (by rw [ho, ordB_refl]; omega)
                  clear ST EC IC HAT HSZ hp hpk ho hlt3
                  generalize ordB p.key e.key = oo at *
                  go_wp2
                  go_quiet ((go_at_call 91; exact Calls.quiet_of (TO.out _)))
                  go_wp2
                  go_ret
                  rw [E.out]
                  exact ⟨rfl, by first | exact HF.out.trans G2.out | exact (HF.out.trans G2.out).drewN _ | exact ((HF.out.trans G2.out).drewN _).drewN _⟩
                · have E := Lib.hid (show spCode l = 4 from by rw [ST.out, EC.out, if_pos (show badPrev (prevK l (j + 1)) e.key = true by rw [hpk, badPrev_some, hlt3]; rfl), if_pos (by decide)])
                  have z1 : decide (0 ≤ ordB p.key e.key) = true := decide_eq_true (by have := ordB_anti e.key p.key; omega)
                  clear ST EC IC HAT HSZ hp hpk ho hlt3
                  generalize ordB p.key e.key = oo at *
                  go_wp2
                  go_quiet ((go_at_call 91; exact Calls.quiet_of (TO.out _)))
                  go_wp2
                  go_ret
                  rw [E.out]
                  exact ⟨rfl, by first | exact HF.out.trans G2.out | exact (HF.out.trans G2.out).drewN _ | exact ((HF.out.trans G2.out).drewN _).drewN _⟩
            · have h3' : timeB e.til = false := by simpa using h3
              have E := Lib.hid (show spCode l = 3 from by rw [ST.out, entTime h1 h2 h3', if_pos (by decide)])
              have q3 : (decide (0 ≤ e.til) && decide (e.til ≤ 1000000)) = false := h3'
              clear ST HAT HSZ h1 h2 h3 h3'
              go_wp2_with fail
              refine (IC.out _ (Fr.refl _ _)).mono ?_
              rintro e2 w2 ⟨rfl, f2⟩
              have G2 := Lib.hid f2
              have x0 := f2.cell x0 (by simp)
              have x1 := f2.cell x1 (by simp)
              have x2 := f2.cell x2 (by simp)
              have x3 := f2.cell x3 (by simp)
              have x4 := f2.cell x4 (by simp)
              have x5 := f2.cell x5 (by simp)
              have x6 := f2.cell x6 (by simp)
              clear f2
              go_wp2_with fail
              refine (between_any e.til 0 1000000 _).mono ?_
              rintro e3 w3 ⟨rfl, rfl⟩
              rw [q3]
              clear q3
              go_wp2
              go_ret
              rw [E.out]
              exact ⟨rfl, HF.out.trans G2.out⟩
          · have E := Lib.hid (show spCode l = checkItm e.item from by rw [ST.out, entItem h1 h2, if_pos h2])
            have q2 : (checkItm e.item != 0) = true := by simpa using h2
            clear ST HAT HSZ h1 h2
            generalize checkItm e.item = r at *
            go_wp2_with fail
            refine (IC.out _ (Fr.refl _ _)).mono ?_
            rintro e2 w2 ⟨rfl, f2⟩
            have G2 := Lib.hid f2
            have x0 := f2.cell x0 (by simp)
            have x1 := f2.cell x1 (by simp)
            have x2 := f2.cell x2 (by simp)
            have x3 := f2.cell x3 (by simp)
            have x4 := f2.cell x4 (by simp)
            have x5 := f2.cell x5 (by simp)
            have x6 := f2.cell x6 (by simp)
            clear f2
            go_wp2
            go_ret
            rw [E.out]
            exact ⟨rfl, HF.out.trans G2.out⟩
      · obtain rfl : k = l.length := by omega
        have E := Lib.hid (show spCode l = 0 from by rw [HE.out, List.drop_length]; rfl)
        go_wp2
        go_ret
        rw [E.out]
        exact ⟨rfl, HF.out⟩

set_option maxRecDepth 100000 in
theorem spaceReady_any (l : List Ent) (v : Value) (n : Int) (s : ByteArray) (w : World) (B : Nat) (hs : ∀ e ∈ l, e.Small) (hl : l.length ≤ 281474976710656) (hz : s.size ≤ 281474976710656) (hB : B ≤ w.heap.size) (h : EntsV w B v l) :
    Calls Try.prog 80 #[v, .int .i64 n, .string s] w fun e w' => e = .returned (.int .i64 (atCode l n s)) ∧ Fr [] w w' := by
  have CS := Lib.hid (spaceCheck_any l v w B hs hl hB h)
  have EA := Lib.hid (show atCode l n s = if spCode l ≠ 0 then spCode l else if timeB n = false then 3 else if 60 < s.size then 2 else 0 from rfl)
  obtain ⟨A, c, rfl⟩ := h.form
  clear h hs
  by_cases h1 : spCode l = 0
  · rw [h1] at CS EA
    rw [if_neg (by decide)] at EA
    by_cases h2 : timeB n = true
    · rw [if_neg (by rw [h2]; decide)] at EA
      by_cases h3 : 60 < s.size
      · have E := Lib.hid (EA.out.trans (if_pos h3))
        have q2 := h2
        have q3 : decide (60 < s.size) = true := decide_eq_true h3
        rw [E.out]
        clear E EA h1 h2 h3
        go_enter Try.func80, Try.ntmps80
        go_wp2_with fail
        refine CS.out.mono ?_
        rintro e w1 ⟨rfl, f1⟩
        go_wp2_with fail
        refine (time_any n _).mono ?_
        rintro e w2 ⟨rfl, rfl⟩
        rw [q2]
        go_wp2_with fail
        refine (long_any s _).mono ?_
        rintro e w3 ⟨rfl, hw3⟩
        subst hw3
        go_wp2
        go_ret
        exact ⟨rfl, f1⟩
      · have E := Lib.hid (EA.out.trans (if_neg h3))
        have q2 := h2
        have q3 : decide (60 < s.size) = false := decide_eq_false h3
        rw [E.out]
        clear E EA h1 h2 h3
        go_enter Try.func80, Try.ntmps80
        go_wp2_with fail
        refine CS.out.mono ?_
        rintro e w1 ⟨rfl, f1⟩
        go_wp2_with fail
        refine (time_any n _).mono ?_
        rintro e w2 ⟨rfl, rfl⟩
        rw [q2]
        go_wp2_with fail
        refine (long_any s _).mono ?_
        rintro e w3 ⟨rfl, hw3⟩
        subst hw3
        go_wp2
        go_ret
        exact ⟨rfl, f1⟩
    · have h2' : timeB n = false := by simpa using h2
      have E := Lib.hid (EA.out.trans (if_pos h2'))
      have q2 := h2'
      rw [E.out]
      clear E EA h1 h2 h2'
      go_enter Try.func80, Try.ntmps80
      go_wp2_with fail
      refine CS.out.mono ?_
      rintro e w1 ⟨rfl, f1⟩
      go_wp2_with fail
      refine (time_any n _).mono ?_
      rintro e w2 ⟨rfl, rfl⟩
      rw [q2]
      go_wp2
      go_ret
      exact ⟨rfl, f1⟩
  · have E := Lib.hid (EA.out.trans (if_pos h1))
    have q1 : (spCode l != 0) = true := by simpa using h1
    have q1' : (spCode l == 0) = false := by simpa using h1
    rw [E.out]
    clear E EA h1
    generalize spCode l = r at *
    go_enter Try.func80, Try.ntmps80
    go_wp2_with fail
    refine CS.out.mono ?_
    rintro e w1 ⟨rfl, f1⟩
    go_wp2
    go_ret
    exact ⟨rfl, f1⟩

set_option maxRecDepth 100000 in
theorem checkAt_any (l : List Ent) (v : Value) (n : Int) (s : ByteArray) (w : World) (B : Nat) (hs : ∀ e ∈ l, e.Small) (hl : l.length ≤ 281474976710656) (hz : s.size ≤ 281474976710656) (hB : B ≤ w.heap.size) (h : EntsV w B v l) :
    Calls Try.prog 31 #[v, .int .i64 n, .string s] w fun e w' => e = .returned (.int .i64 (atCode l n s)) ∧ Fr [] w w' := by
  have CS := Lib.hid (checkSpace_any l v w B hs hl hB h)
  have EA := Lib.hid (show atCode l n s = if spCode l ≠ 0 then spCode l else if timeB n = false then 3 else if 60 < s.size then 2 else 0 from rfl)
  obtain ⟨A, c, rfl⟩ := h.form
  clear h hs
  by_cases h1 : spCode l = 0
  · rw [h1] at CS EA
    rw [if_neg (by decide)] at EA
    by_cases h2 : timeB n = true
    · rw [if_neg (by rw [h2]; decide)] at EA
      by_cases h3 : 60 < s.size
      · have E := Lib.hid (EA.out.trans (if_pos h3))
        have q2 : (decide (0 ≤ n) && decide (n ≤ 1000000)) = true := h2
        have q3 : decide (60 < s.size) = true := decide_eq_true h3
        rw [E.out]
        clear E EA h1 h2 
        go_enter Try.func31, Try.ntmps31
        go_wp2_with fail
        refine CS.out.mono ?_
        rintro e w1 ⟨rfl, f1⟩
        go_wp2_with fail
        refine (between_any n 0 1000000 _).mono ?_
        rintro e w2 ⟨rfl, rfl⟩
        rw [q2]
        skip
        go_wp2
        go_ret
        exact ⟨rfl, f1⟩
      · have E := Lib.hid (EA.out.trans (if_neg h3))
        have q2 : (decide (0 ≤ n) && decide (n ≤ 1000000)) = true := h2
        have q3 : decide (60 < s.size) = false := decide_eq_false h3
        rw [E.out]
        clear E EA h1 h2 
        go_enter Try.func31, Try.ntmps31
        go_wp2_with fail
        refine CS.out.mono ?_
        rintro e w1 ⟨rfl, f1⟩
        go_wp2_with fail
        refine (between_any n 0 1000000 _).mono ?_
        rintro e w2 ⟨rfl, rfl⟩
        rw [q2]
        skip
        go_wp2
        go_ret
        exact ⟨rfl, f1⟩
    · have h2' : timeB n = false := by simpa using h2
      have E := Lib.hid (EA.out.trans (if_pos h2'))
      have q2 : (decide (0 ≤ n) && decide (n ≤ 1000000)) = false := h2'
      rw [E.out]
      clear E EA h1 h2 h2'
      go_enter Try.func31, Try.ntmps31
      go_wp2_with fail
      refine CS.out.mono ?_
      rintro e w1 ⟨rfl, f1⟩
      go_wp2_with fail
      refine (between_any n 0 1000000 _).mono ?_
      rintro e w2 ⟨rfl, rfl⟩
      rw [q2]
      go_wp2
      go_ret
      exact ⟨rfl, f1⟩
  · have E := Lib.hid (EA.out.trans (if_pos h1))
    have q1 : (spCode l != 0) = true := by simpa using h1
    have q1' : (spCode l == 0) = false := by simpa using h1
    rw [E.out]
    clear E EA h1
    generalize spCode l = r at *
    go_enter Try.func31, Try.ntmps31
    go_wp2_with fail
    refine CS.out.mono ?_
    rintro e w1 ⟨rfl, f1⟩
    go_wp2
    go_ret
    exact ⟨rfl, f1⟩
end Go.Proofs.Ytmlmiboihjibiaa
