/- The walk of the reader's word. -/
import Derived.Test.YtlmaiiloihabdaaDoorFdB
set_option linter.unusedVariables false
set_option linter.unusedSimpArgs false
namespace Go.Proofs.YtlmaiiloihabdaaDoor
open Go.RowKit
attribute [local go_sem] byteAt_eq

theorem line_need (w l : List UInt8) : (needL [13, 10] l = 0 ∧ lineL w l = (w, l.drop 2, 0) ∧ 2 ≤ l.length) ∨ (needL [13, 10] l ≠ 0 ∧ lineL w l = ([], [], needL [13, 10] l)) := by
  match l with
  | [] => exact .inr ⟨by show (8 : Int) ≠ 0; decide, rfl⟩
  | [x] =>
    by_cases h : x.toNat = 13
    · have e : needL [13, 10] [x] = 8 := if_pos h
      exact .inr ⟨by rw [e]; decide, by rw [e]; exact if_pos h⟩
    · have e : needL [13, 10] [x] = 1 := if_neg h
      exact .inr ⟨by rw [e]; decide, by rw [e]; exact if_neg h⟩
  | x :: y :: u =>
    by_cases h : x.toNat = 13
    · have e : needL [13, 10] (x :: y :: u) = needL [10] (y :: u) := if_pos h
      have e2 : lineL w (x :: y :: u) = if y.toNat = 10 then (w, u, 0) else ([], [], 1) := if_pos h
      by_cases h2 : y.toNat = 10
      · have e3 : needL [10] (y :: u) = 0 := if_pos h2
        rw [e, e2, e3, if_pos h2]
        exact .inl ⟨rfl, rfl, by simp⟩
      · have e3 : needL [10] (y :: u) = 1 := if_neg h2
        rw [e, e2, e3, if_neg h2]
        exact .inr ⟨by decide, rfl⟩
    · have e : needL [13, 10] (x :: y :: u) = 1 := if_neg h
      have e2 : lineL w (x :: y :: u) = ([], [], 1) := if_neg h
      rw [e, e2]
      exact .inr ⟨by decide, rfl⟩
theorem extract_toB (s : ByteArray) (p n : Nat) : s.extract p (p + n) = toB ((s.data.toList.drop p).take n) := by
  apply ByteArray.ext
  apply Array.ext'
  simp [toB, List.extract_eq_take_drop]
def WordP (r : List UInt8 × List UInt8 × Int) (g : Nat) (s : ByteArray) (w : World) (e : Ending) (w' : World) : Prop :=
  ((r.2.2 = 0 ∧ e = .returned (.string (toB r.1)) ∧ ∃ a, a ≤ s.size ∧ s.data.toList.drop a = r.2.1 ∧ Rd g s a w') ∨ (r.2.2 ≠ 0 ∧ e = .panicked (PanV r.2.2))) ∧ Fr [g] w w'

set_option maxHeartbeats 4000000 in
set_option maxRecDepth 100000 in
theorem word_any (g : Nat) (s : ByteArray) (a : Nat) (w : World) (hs : s.size ≤ 4611686018427387904) (ha : a ≤ s.size) (h : Rd g s a w) :
    Calls Tryd.prog 44 #[.pointer (some ⟨g, 0, none⟩)] w (WordP (wordL (s.data.toList.drop a)) g s w) := by
  have NM := Lib.hid (number_any 36 60 g s a w hs ha (by decide) (by decide) h)
  have hmo := countMost 36 60 (s.data.toList.drop a)
  clear h
  have WL : ∃ R, R = wordL (s.data.toList.drop a) := ⟨_, rfl⟩
  obtain ⟨R, hR⟩ := WL
  rw [← hR]
  unfold wordL at hR
  unfold NumP at NM
  generalize countL 36 60 (s.data.toList.drop a) = C at *
  obtain ⟨n, r, code⟩ := C
  simp only at NM hR hmo
  by_cases hc : code = 0
  · subst hc
    rw [if_pos rfl] at hR
    have HR := Lib.hid hR
    clear hR
    go_enter Tryd.func44, Tryd.ntmps44
    go_wp2_with fail
    refine NM.out.mono ?_
    rintro e w1 ⟨⟨h0, rfl, p, hp, hd, r1⟩ | ⟨h0, rfl⟩, f1⟩
    rotate_left
    · exact absurd rfl h0
    have HD := Lib.hid hd
    have R1 := Lib.hid r1
    have F1 := Lib.hid f1
    have c1 : w1.cell? ⟨g, 1, none⟩ = some (.int .i64 p) := Whole.cell r1 1
    clear hd r1 f1 h0 NM
    go_wp2
    go_loopg [13] n (fun x i wr => ∃ (k : Nat), x = n - k ∧ k ≤ n ∧ i = .int .i64 k ∧ p + k ≤ s.size ∧ Rd g s (p + k) wr ∧ Fr [g] w wr)
    case atStart => exact ⟨0, rfl, Nat.zero_le _, rfl, by omega, R1.out, F1.out⟩
    case round =>
      obtain ⟨k, rfl, hk, rfl, hpk, hRd, hf⟩ := hrel
      have RR := Lib.hid hRd
      have HF := Lib.hid hf
      clear hRd hf c1
      by_cases hlt : k < n
      · by_cases he : p + k < s.size
        · have NY := Lib.hid (next_yes g s (p + k) wr hs he RR.out)
          generalize byteAt s (p + k) = y at *
          go_wp2_with fail
          refine NY.out.mono ?_
          rintro e w2 ⟨rfl, r2, f2⟩
          have R2 := Lib.hid r2
          clear r2
          go_wp2
          go_roundg (n - (k + 1))
          case measure => omega
          case rel => exact ⟨k + 1, rfl, by omega, by go_num, by omega, R2.out, HF.out.trans f2⟩
        · have hz : p + k = s.size := by omega
          have hr := RR.out
          rw [hz] at hr
          have NN := Lib.hid (next_no g s wr hs hr)
          have EX := Lib.hid (show R = ([], [], 8) from by
            rw [HR.out, ← HD.out]
            unfold tailL
            have hl : s.data.toList.length = s.size := by simp
            rw [List.drop_of_length_le (l := s.data.toList.drop p) (by rw [List.length_drop]; omega)]
            rfl)
          clear hz hr
          go_wp2_with fail
          refine NN.out.mono ?_
          rintro e w2 ⟨rfl, f2⟩
          go_wp2
          rw [EX.out]
          exact ⟨rfl, .inr ⟨by decide, rfl⟩, HF.out.trans f2⟩
      · obtain rfl : k = n := by omega
        have c0 : wr.cell? ⟨g, 0, none⟩ = some (.string s) := Whole.cell RR.out 0
        have c1 : wr.cell? ⟨g, 1, none⟩ = some (.int .i64 (p + k : Nat)) := Whole.cell RR.out 1
        have hg := Whole.lt RR.out
        have ET := extract_toB s p k
        have hb0 : (0 : Int) ≤ (p : Int) := by omega
        have hb1 : (p : Int) ≤ ((p + k : Nat) : Int) := by omega
        have hb2 : ((p + k : Nat) : Int) ≤ (s.size : Int) := by omega
        have ND := Lib.hid (fun (W : World) (hW : Rd g s (p + k) W) => need_any [13, 10] g W.heap.size s (p + k) (W.alloc (.cells #[.int .u8 13, .int .u8 10] 5)) hs hpk (by decide) (by have := Whole.lt hW; omega) (hW.fr ((Fr.refl [] W).alloc _)) (Whole.new W _ _))
        have F2 := Lib.hid (fun (n : Nat) => ((HF.out.drewN n).alloc (.cells #[.int .u8 13, .int .u8 10] 5)))
        go_wp2
        go_quiet (fail)
        rw [ET]
        have LN := line_need (r.take k) (r.drop k)
        have hdd : s.data.toList.drop (p + k) = r.drop k := by rw [← HD.out, List.drop_drop]
        have EX := Lib.hid (show R = lineL (r.take k) (r.drop k) from HR.out)
        rw [hdd] at ND
        rw [HD.out]
        have HT := Lib.hid hdd
        unfold NeedP at ND
        clear ET hdd
        rcases LN with ⟨hn, hln, hl2⟩ | ⟨hn, hln⟩
        · rw [hn] at ND
          rw [hln] at EX
          clear hn hln
          go_wp2_with fail
          refine (ND.out _ (RR.out.fr ((Fr.refl [] wr).drewN _))).mono ?_
          rintro e w2 ⟨⟨h0, rfl, r2⟩ | ⟨h0, rfl⟩, f2⟩
          · have R2 := Lib.hid r2
            have hl3 : r.length - k = s.size - (p + k) := by
              have := congrArg List.length HT.out
              rw [List.length_drop, List.length_drop] at this
              simp at this
              omega
            have HL := Lib.hid (show p + k + 2 ≤ s.size from by rw [List.length_drop] at hl2; omega)
            have HV := Lib.hid (show s.data.toList.drop (p + k + 2) = (r.drop k).drop 2 from by rw [← HT.out, List.drop_drop])
            have FF := Lib.hid ((F2.out _).trans f2)
            clear r2 hl3 hl2 f2
            go_wp2
            go_ret
            rw [EX.out]
            exact ⟨.inl ⟨rfl, rfl, p + k + 2, HL.out, HV.out, R2.out⟩, FF.out⟩
          · exact absurd rfl h0
        · rw [hln] at EX
          have HN := Lib.hid hn
          generalize needL [13, 10] (r.drop k) = code at *
          clear hn hln
          go_wp2_with fail
          refine (ND.out _ (RR.out.fr ((Fr.refl [] wr).drewN _))).mono ?_
          rintro e w2 ⟨⟨h0, rfl, r2⟩ | ⟨h0, rfl⟩, f2⟩
          · exact absurd h0 HN.out
          · have FF := Lib.hid ((F2.out _).trans f2)
            clear f2
            go_wp2
            rw [EX.out]
            exact ⟨rfl, .inr ⟨HN.out, rfl⟩, FF.out⟩
  · rw [if_neg hc] at hR
    have HR := Lib.hid hR
    clear hR
    go_enter Tryd.func44, Tryd.ntmps44
    go_wp2_with fail
    refine NM.out.mono ?_
    rintro e w1 ⟨⟨h0, rfl, p, hp, hd, r1⟩ | ⟨h0, rfl⟩, f1⟩
    · exact absurd h0 hc
    · have HC := Lib.hid hc
      clear hc h0
      go_wp2
      rw [HR.out]
      exact ⟨rfl, .inr ⟨HC.out, rfl⟩, f1⟩
end Go.Proofs.YtlmaiiloihabdaaDoor
