/- The walk of the reference's IntOf. (Printed by intof.py.) -/
import Derived.Test.YtoabjcnacnojbaaDoorNuD
import Derived.Test.YtoabjcnacnojbaaDoorItC
set_option linter.unusedVariables false
set_option linter.unusedSimpArgs false
namespace Go.Proofs.YtoabjcnacnojbaaDoor
open Go.RowKit

attribute [local go_sem] byteAt_eq

theorem head_byte {d : ByteArray} (h : 0 < d.size) (c : UInt8) : (d.data.toList.head? = some c) ↔ byteAt d 0 = c.toNat := by
  obtain ⟨l⟩ := d
  obtain ⟨l⟩ := l
  cases l with
  | nil => exact absurd h (by decide)
  | cons x r =>
    show (some x = some c) ↔ x.toNat = c.toNat
    rw [Option.some.injEq, UInt8.toNat_inj]
theorem drop_one (s : ByteArray) : (s.extract 1 s.size).data.toList = s.data.toList.drop 1 := by
  simp only [ByteArray.data_extract, Array.toList_extract, List.extract_eq_take_drop]
  rw [List.take_of_length_le]
  simp
theorem intL_neg {s : ByteArray} (h : 0 < s.size) (h45 : byteAt s 0 = 45) : intL s.data.toList = (magL true (s.extract 1 s.size).data.toList).map (fun u : Nat => -(u : Int)) := by
  unfold intL
  rw [if_pos ((head_byte h 45).2 h45), drop_one]
theorem intL_pos {s : ByteArray} (h45 : ¬ (0 < s.size ∧ byteAt s 0 = 45)) : intL s.data.toList = (magL false s.data.toList).map (fun u : Nat => (u : Int)) := by
  unfold intL
  rw [if_neg]
  intro h
  have h0 : 0 < s.size := by
    rcases Nat.eq_zero_or_pos s.size with h0 | h0
    · rw [nilOf h0] at h; simp at h
    · exact h0
  exact h45 ⟨h0, (head_byte h0 45).1 h⟩
theorem mag_no {neg : Bool} {d : ByteArray} (h : d.size = 0 ∨ 9 < d.size ∨ (byteAt d 0 = 48 ∧ (1 < d.size ∨ neg = true))) : magL neg d.data.toList = none := by
  unfold magL
  have e : d.data.toList.length = d.size := by simp
  rw [if_pos]
  rcases h with h | h | ⟨h1, h2⟩
  · exact .inl (by omega)
  · exact .inr (.inl (by omega))
  · rcases Nat.eq_zero_or_pos d.size with h0 | h0
    · exact .inl (by omega)
    · exact .inr (.inr ⟨(head_byte h0 48).2 h1, by rw [e]; exact h2⟩)
theorem mag_go {neg : Bool} {d : ByteArray} (h : ¬ (d.size = 0 ∨ 9 < d.size ∨ (byteAt d 0 = 48 ∧ (1 < d.size ∨ neg = true)))) : magL neg d.data.toList = if d.data.toList.all digB = true then some (valD d.data.toList) else none := by
  unfold magL
  have e : d.data.toList.length = d.size := by simp
  rw [if_neg]
  rintro (h1 | h1 | ⟨h1, h2⟩)
  · exact h (.inl (by omega))
  · exact h (.inr (.inl (by omega)))
  · rcases Nat.eq_zero_or_pos d.size with h0 | h0
    · exact h (.inl h0)
    · exact h (.inr (.inr ⟨(head_byte h0 48).1 h1, by rw [e] at h2; exact h2⟩))
theorem take_byte {d : ByteArray} {k : Nat} (h : k < d.size) : ∃ c : UInt8, d.data.toList[k]? = some c ∧ c.toNat = byteAt d k := by
  have hl : k < d.data.toList.length := by simpa using h
  refine ⟨d.data.toList[k], List.getElem?_eq_getElem hl, ?_⟩
  unfold byteAt
  rw [List.getD_eq_getElem?_getD, List.getElem?_eq_getElem hl]
  rfl
theorem val_take {d : ByteArray} {k : Nat} (h : k < d.size) : valD (d.data.toList.take (k + 1)) = valD (d.data.toList.take k) * 10 + (byteAt d k - 48) := by
  obtain ⟨c, hc, e⟩ := take_byte h
  unfold valD
  rw [List.take_add_one, hc, Option.toList_some, valF_snoc, e]
/-- digits so far. -/
def digsTo (d : ByteArray) (k : Nat) : Prop := ∀ c ∈ d.data.toList.take k, digB c = true
theorem digs_step {d : ByteArray} {k : Nat} (h : k < d.size) (hd : digsTo d k) (hb : 48 ≤ byteAt d k ∧ byteAt d k ≤ 57) : digsTo d (k + 1) := by
  obtain ⟨c, hc, e⟩ := take_byte h
  intro q hq
  rw [List.take_add_one, hc, Option.toList_some] at hq
  rcases List.mem_append.1 hq with hq | hq
  · exact hd q hq
  · rw [List.mem_singleton] at hq
    subst hq
    unfold digB
    simp
    omega
theorem digs_no {d : ByteArray} {k : Nat} (h : k < d.size) (hb : ¬ (48 ≤ byteAt d k ∧ byteAt d k ≤ 57)) : d.data.toList.all digB = false := by
  obtain ⟨c, hc, e⟩ := take_byte h
  rw [← Bool.not_eq_true, List.all_eq_true]
  intro ha
  have := ha c (List.mem_of_getElem? hc)
  unfold digB at this
  simp at this
  omega
theorem digs_all {d : ByteArray} (h : digsTo d d.size) : d.data.toList.all digB = true := by
  rw [List.all_eq_true]
  intro c hc
  refine h c ?_
  rw [List.take_of_length_le (by simp)]
  exact hc
theorem val_small {d : ByteArray} {k : Nat} (h : digsTo d k) (hk : k ≤ 9) : valD (d.data.toList.take k) < 1000000000 := by
  have h1 := valF_lt (d.data.toList.take k) 0 h
  have h2 : (d.data.toList.take k).length ≤ 9 := by rw [List.length_take]; omega
  have h3 : (10 : Nat) ^ (d.data.toList.take k).length ≤ 10 ^ 9 := Nat.pow_le_pow_right (by decide) h2
  unfold valD
  omega

set_option maxHeartbeats 2000000 in
set_option maxRecDepth 100000 in
theorem intOf_any (s : ByteArray) (w : World) (hs : s.size ≤ 281474976710656) :
    Calls Tryd.prog 30 #[.string s] w fun e w' => e = .returned (.tuple #[.int .i64 ((intL s.data.toList).getD 0), .bool (intL s.data.toList).isSome]) ∧ Fr [] w w' := by
  by_cases h0 : s.size = 0
  · have e := nilOf h0
    subst e
    have E : intL (⟨#[]⟩ : ByteArray).data.toList = none := by rfl
    rw [E]
    go_enter Tryd.func30, Tryd.ntmps30
    go_wp2
    go_ret2
    exact ⟨rfl, Fr.refl _ _⟩
  · obtain ⟨n1, n2⟩ := neNil h0
    have h0' : 0 < s.size := by omega
    by_cases h45 : byteAt s 0 = 45
    · have EI := Lib.hid (intL_neg h0' h45)
      have HD := Lib.hid (show (s.extract 1 s.size).size ≤ 281474976710656 from by rw [size_extract' s 1 s.size (Nat.le_refl _)]; omega)
      go_enter Tryd.func30, Tryd.ntmps30
      go_wp2
      go_quiet (fail)
      generalize s.extract 1 s.size = d at *
      have hd := HD.out
      by_cases hd0 : d.size = 0
      · have E := Lib.hid (EI.out.trans (by rw [mag_no (.inl hd0)]; rfl) : intL s.data.toList = none)
        have e := nilOf hd0
        subst e
        clear HD
        go_wp2
        go_ret2
        rw [E.out]
        exact ⟨rfl, by first | exact Fr.refl _ _ | exact (Fr.refl [] w).drewN _ | exact (Fr.refl [] w).drew⟩
      · obtain ⟨m1, m2⟩ := neNil hd0
        by_cases h9 : 9 < d.size
        · have E := Lib.hid (EI.out.trans (by rw [mag_no (.inr (.inl h9))]; rfl) : intL s.data.toList = none)
          go_wp2
          go_ret2
          rw [E.out]
          exact ⟨rfl, by first | exact Fr.refl _ _ | exact (Fr.refl [] w).drewN _ | exact (Fr.refl [] w).drew⟩
        · by_cases h48 : byteAt d 0 = 48
          · have E := Lib.hid (EI.out.trans (by rw [mag_no (.inr (.inr ⟨h48, .inr rfl⟩))]; rfl) : intL s.data.toList = none)
            by_cases h1 : 1 < d.size
            · go_wp2
              go_ret2
              rw [E.out]
              exact ⟨rfl, by first | exact Fr.refl _ _ | exact (Fr.refl [] w).drewN _ | exact (Fr.refl [] w).drew⟩
            · go_wp2
              go_ret2
              rw [E.out]
              exact ⟨rfl, by first | exact Fr.refl _ _ | exact (Fr.refl [] w).drewN _ | exact (Fr.refl [] w).drew⟩
          · have hc : ¬ (d.size = 0 ∨ 9 < d.size ∨ (byteAt d 0 = 48 ∧ (1 < d.size ∨ true = true))) := by rintro (h | h | ⟨h, _⟩) <;> contradiction
            have EM := Lib.hid (EI.out.trans (by rw [mag_go hc]))
            clear hc
            go_wp2
            go_loopg [6, 7] d.size (fun g n i wr => ∃ (k : Nat), g = d.size - k ∧ k ≤ d.size ∧ n = .int .i64 (valD (d.data.toList.take k) : Nat) ∧ i = .int .i64 k ∧ Hid (digsTo d k) ∧ Fr [] w wr)
            case atStart => exact ⟨0, rfl, Nat.zero_le _, rfl, rfl, Lib.hid (fun c h => by simp at h), by first | exact Fr.refl _ _ | exact (Fr.refl [] w).drewN _ | exact (Fr.refl [] w).drew⟩
            case round =>
              obtain ⟨k, rfl, hk, rfl, rfl, HG, hf⟩ := hrel
              have HF := Lib.hid hf
              have hv := val_small HG.out (by omega)
              clear hf
              by_cases hlt : k < d.size
              · have BT := Lib.hid (fun W => (between_any (byteAt d k : Int) 48 57 W).mono fun e w' h => (show e = _ ∧ W = w' from ⟨h.1, h.2.symm⟩))
                have hb0 := byteAt_lt d k
                have VT := Lib.hid (val_take hlt)
                by_cases hb : 48 ≤ byteAt d k ∧ byteAt d k ≤ 57
                · obtain ⟨hb1, hb2⟩ := hb
                  have hbt : (decide ((48 : Int) ≤ (byteAt d k : Int)) && decide ((byteAt d k : Int) ≤ 57)) = true := by simp; omega
                  rw [hbt] at BT
                  have HG2 := Lib.hid (digs_step hlt HG.out ⟨hb1, hb2⟩)
                  clear hbt
                  generalize hvv : valD (d.data.toList.take k) = vv at *
                  have HVV := Lib.hid hvv
                  clear hvv
                  go_wp2_with fail
                  refine (BT.out _).mono ?_
                  rintro e w1 ⟨rfl, rfl⟩
                  go_wp2
                  go_roundg (d.size - (k + 1))
                  case measure => omega
                  case rel => exact ⟨k + 1, rfl, by omega, by rw [VT.out]; congr 1; omega, by go_num, HG2, HF.out⟩
                · have hbt : (decide ((48 : Int) ≤ (byteAt d k : Int)) && decide ((byteAt d k : Int) ≤ 57)) = false := by
                    rw [Bool.and_eq_false_iff]
                    rcases Nat.lt_or_ge (byteAt d k) 48 with h | h
                    · exact .inl (decide_eq_false (by omega))
                    · exact .inr (decide_eq_false (by omega))
                  rw [hbt] at BT
                  have E := Lib.hid (EM.out.trans (by rw [digs_no hlt hb]; rfl) : intL s.data.toList = none)
                  clear hbt hb
                  go_wp2_with fail
                  refine (BT.out _).mono ?_
                  rintro e w1 ⟨rfl, rfl⟩
                  go_wp2
                  go_ret2
                  rw [E.out]
                  exact ⟨rfl, HF.out⟩
              · obtain rfl : k = d.size := by omega
                have E := Lib.hid (EM.out.trans (by rw [digs_all HG.out]; rfl) : intL s.data.toList = some (-((valD d.data.toList : Nat) : Int)))
                rw [show d.data.toList.take d.size = d.data.toList from List.take_of_length_le (by simp)] at hv ⊢
                generalize valD d.data.toList = vv at *
                go_wp2
                go_ret2
                rw [E.out]
                exact ⟨by simp, HF.out⟩
    · have EI := Lib.hid (intL_pos (fun h => h45 h.2))
      have hd0 : ¬ s.size = 0 := h0
      go_enter Tryd.func30, Tryd.ntmps30
      by_cases h9 : 9 < s.size
      · have E := Lib.hid (EI.out.trans (by rw [mag_no (.inr (.inl h9))]; rfl) : intL s.data.toList = none)
        go_wp2
        go_ret2
        rw [E.out]
        exact ⟨rfl, by first | exact Fr.refl _ _ | exact (Fr.refl [] w).drewN _ | exact (Fr.refl [] w).drew⟩
      · by_cases h48 : byteAt s 0 = 48
        · by_cases h1 : 1 < s.size
          · have E := Lib.hid (EI.out.trans (by rw [mag_no (.inr (.inr ⟨h48, .inl h1⟩))]; rfl) : intL s.data.toList = none)
            go_wp2
            go_ret2
            rw [E.out]
            exact ⟨rfl, by first | exact Fr.refl _ _ | exact (Fr.refl [] w).drewN _ | exact (Fr.refl [] w).drew⟩
          · have hc : ¬ (s.size = 0 ∨ 9 < s.size ∨ (byteAt s 0 = 48 ∧ (1 < s.size ∨ false = true))) := by rintro (h | h | ⟨_, h | h⟩) <;> first | contradiction | omega
            have EM := Lib.hid (EI.out.trans (by rw [mag_go hc]))
            clear hc
            go_wp2
            go_loopg [6, 7] s.size (fun g n i wr => ∃ (k : Nat), g = s.size - k ∧ k ≤ s.size ∧ n = .int .i64 (valD (s.data.toList.take k) : Nat) ∧ i = .int .i64 k ∧ Hid (digsTo s k) ∧ Fr [] w wr)
            case atStart => exact ⟨0, rfl, Nat.zero_le _, rfl, rfl, Lib.hid (fun c h => by simp at h), by first | exact Fr.refl _ _ | exact (Fr.refl [] w).drewN _ | exact (Fr.refl [] w).drew⟩
            case round =>
              obtain ⟨k, rfl, hk, rfl, rfl, HG, hf⟩ := hrel
              have HF := Lib.hid hf
              have hv := val_small HG.out (by omega)
              clear hf
              by_cases hlt : k < s.size
              · have BT := Lib.hid (fun W => (between_any (byteAt s k : Int) 48 57 W).mono fun e w' h => (show e = _ ∧ W = w' from ⟨h.1, h.2.symm⟩))
                have hb0 := byteAt_lt s k
                have VT := Lib.hid (val_take hlt)
                by_cases hb : 48 ≤ byteAt s k ∧ byteAt s k ≤ 57
                · obtain ⟨hb1, hb2⟩ := hb
                  have hbt : (decide ((48 : Int) ≤ (byteAt s k : Int)) && decide ((byteAt s k : Int) ≤ 57)) = true := by simp; omega
                  rw [hbt] at BT
                  have HG2 := Lib.hid (digs_step hlt HG.out ⟨hb1, hb2⟩)
                  clear hbt
                  generalize hvv : valD (s.data.toList.take k) = vv at *
                  have HVV := Lib.hid hvv
                  clear hvv
                  go_wp2_with fail
                  refine (BT.out _).mono ?_
                  rintro e w1 ⟨rfl, rfl⟩
                  go_wp2
                  go_roundg (s.size - (k + 1))
                  case measure => omega
                  case rel => exact ⟨k + 1, rfl, by omega, by rw [VT.out]; congr 1; omega, by go_num, HG2, HF.out⟩
                · have hbt : (decide ((48 : Int) ≤ (byteAt s k : Int)) && decide ((byteAt s k : Int) ≤ 57)) = false := by
                    rw [Bool.and_eq_false_iff]
                    rcases Nat.lt_or_ge (byteAt s k) 48 with h | h
                    · exact .inl (decide_eq_false (by omega))
                    · exact .inr (decide_eq_false (by omega))
                  rw [hbt] at BT
                  have E := Lib.hid (EM.out.trans (by rw [digs_no hlt hb]; rfl) : intL s.data.toList = none)
                  clear hbt hb
                  go_wp2_with fail
                  refine (BT.out _).mono ?_
                  rintro e w1 ⟨rfl, rfl⟩
                  go_wp2
                  go_ret2
                  rw [E.out]
                  exact ⟨rfl, HF.out⟩
              · obtain rfl : k = s.size := by omega
                have E := Lib.hid (EM.out.trans (by rw [digs_all HG.out]; rfl) : intL s.data.toList = some (((valD s.data.toList : Nat) : Int)))
                rw [show s.data.toList.take s.size = s.data.toList from List.take_of_length_le (by simp)] at hv ⊢
                generalize valD s.data.toList = vv at *
                go_wp2
                go_ret2
                rw [E.out]
                exact ⟨by simp, HF.out⟩
        · have hc : ¬ (s.size = 0 ∨ 9 < s.size ∨ (byteAt s 0 = 48 ∧ (1 < s.size ∨ false = true))) := by rintro (h | h | ⟨h, _⟩) <;> first | contradiction | omega
          have EM := Lib.hid (EI.out.trans (by rw [mag_go hc]))
          clear hc
          go_wp2
          go_loopg [6, 7] s.size (fun g n i wr => ∃ (k : Nat), g = s.size - k ∧ k ≤ s.size ∧ n = .int .i64 (valD (s.data.toList.take k) : Nat) ∧ i = .int .i64 k ∧ Hid (digsTo s k) ∧ Fr [] w wr)
          case atStart => exact ⟨0, rfl, Nat.zero_le _, rfl, rfl, Lib.hid (fun c h => by simp at h), by first | exact Fr.refl _ _ | exact (Fr.refl [] w).drewN _ | exact (Fr.refl [] w).drew⟩
          case round =>
            obtain ⟨k, rfl, hk, rfl, rfl, HG, hf⟩ := hrel
            have HF := Lib.hid hf
            have hv := val_small HG.out (by omega)
            clear hf
            by_cases hlt : k < s.size
            · have BT := Lib.hid (fun W => (between_any (byteAt s k : Int) 48 57 W).mono fun e w' h => (show e = _ ∧ W = w' from ⟨h.1, h.2.symm⟩))
              have hb0 := byteAt_lt s k
              have VT := Lib.hid (val_take hlt)
              by_cases hb : 48 ≤ byteAt s k ∧ byteAt s k ≤ 57
              · obtain ⟨hb1, hb2⟩ := hb
                have hbt : (decide ((48 : Int) ≤ (byteAt s k : Int)) && decide ((byteAt s k : Int) ≤ 57)) = true := by simp; omega
                rw [hbt] at BT
                have HG2 := Lib.hid (digs_step hlt HG.out ⟨hb1, hb2⟩)
                clear hbt
                generalize hvv : valD (s.data.toList.take k) = vv at *
                have HVV := Lib.hid hvv
                clear hvv
                go_wp2_with fail
                refine (BT.out _).mono ?_
                rintro e w1 ⟨rfl, rfl⟩
                go_wp2
                go_roundg (s.size - (k + 1))
                case measure => omega
                case rel => exact ⟨k + 1, rfl, by omega, by rw [VT.out]; congr 1; omega, by go_num, HG2, HF.out⟩
              · have hbt : (decide ((48 : Int) ≤ (byteAt s k : Int)) && decide ((byteAt s k : Int) ≤ 57)) = false := by
                  rw [Bool.and_eq_false_iff]
                  rcases Nat.lt_or_ge (byteAt s k) 48 with h | h
                  · exact .inl (decide_eq_false (by omega))
                  · exact .inr (decide_eq_false (by omega))
                rw [hbt] at BT
                have E := Lib.hid (EM.out.trans (by rw [digs_no hlt hb]; rfl) : intL s.data.toList = none)
                clear hbt hb
                go_wp2_with fail
                refine (BT.out _).mono ?_
                rintro e w1 ⟨rfl, rfl⟩
                go_wp2
                go_ret2
                rw [E.out]
                exact ⟨rfl, HF.out⟩
            · obtain rfl : k = s.size := by omega
              have E := Lib.hid (EM.out.trans (by rw [digs_all HG.out]; rfl) : intL s.data.toList = some (((valD s.data.toList : Nat) : Int)))
              rw [show s.data.toList.take s.size = s.data.toList from List.take_of_length_le (by simp)] at hv ⊢
              generalize valD s.data.toList = vv at *
              go_wp2
              go_ret2
              rw [E.out]
              exact ⟨by simp, HF.out⟩
end Go.Proofs.YtoabjcnacnojbaaDoor
