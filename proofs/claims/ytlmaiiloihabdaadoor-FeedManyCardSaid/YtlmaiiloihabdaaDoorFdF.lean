/- The walk of the document's countAt. -/
import Derived.Test.YtlmaiiloihabdaaDoorFdC
set_option linter.unusedVariables false
set_option linter.unusedSimpArgs false
namespace Go.Proofs.YtlmaiiloihabdaaDoor
open Go.RowKit
attribute [local go_sem] byteAt_eq

def CntP (r : Nat × List UInt8 × Int) (s : ByteArray) (w : World) (e : Ending) (w' : World) : Prop :=
  ∃ x : Int, e = .returned (.tuple #[.int .i64 r.1, .int .i64 x, .int .i64 r.2.2]) ∧ (r.2.2 = 0 → ∃ a : Nat, x = a ∧ a ≤ s.size ∧ s.data.toList.drop a = r.2.1) ∧ Fr [] w w'
theorem cntP_no {c : Int} (hc : c ≠ 0) (s : ByteArray) {w w' : World} (x : Int) (h : Fr [] w w') : CntP (0, [], c) s w (.returned (.tuple #[.int .i64 0, .int .i64 x, .int .i64 c])) w' := ⟨x, rfl, fun h0 => absurd h0 hc, h⟩

set_option maxHeartbeats 4000000 in
set_option maxRecDepth 100000 in
theorem countAt_any (s : ByteArray) (a sign most : Nat) (w : World) (hs : s.size ≤ 4611686018427387904) (ha : a ≤ s.size) (hsg : sign < 256) (hm : most ≤ 100) :
    Calls Tryd.prog 45 #[.string s, .int .i64 a, .int .u8 sign, .int .i64 most] w (CntP (countL sign most (s.data.toList.drop a)) s w) := by
  obtain ⟨R, hR⟩ : ∃ R, R = countL sign most (s.data.toList.drop a) := ⟨_, rfl⟩
  rw [← hR]
  by_cases he : a < s.size
  · obtain ⟨x, hx, ex⟩ := drop_byte s a he
    rw [hx] at hR
    have HX := Lib.hid ex
    have q0 : ((a : Int) == (s.size : Int)) = false := by simp; omega
    clear ex
    by_cases hsig : byteAt s a = sign
    · have E0 := Lib.hid (show R = cntL most (s.data.toList.drop (a + 1)) 0 0 from by rw [hR]; exact if_pos (HX.out.trans hsig))
      have q1 : ((byteAt s a : Int) != (sign : Int)) = false := by simp; omega
      clear hR hx hsig
      generalize hy0 : byteAt s a = y0 at *
      have HY0 := Lib.hid hy0
      clear hy0
      go_enter Tryd.func45, Tryd.ntmps45
      have hy0 := HY0.out
      go_wp2
      clear hy0 q0 q1
      go_loopg [1, 11, 12] (s.size - (a + 1)) (fun x va vn vd wr => ∃ (p n d : Nat), x = s.size - p ∧ a + 1 ≤ p ∧ p ≤ s.size ∧ va = .int .i64 p ∧ vn = .int .i64 n ∧ vd = .int .i64 d ∧ n ≤ most ∧ d ≤ p ∧ Hid (R = cntL most (s.data.toList.drop p) n d) ∧ Fr [] w wr)
      case atStart => exact ⟨a + 1, 0, 0, rfl, Nat.le_refl _, by omega, by go_num, rfl, rfl, Nat.zero_le _, Nat.zero_le _, E0, Fr.refl _ _⟩
      case round =>
        obtain ⟨p, n, d, rfl, hp1, hp, rfl, rfl, rfl, hnm, hdp, HE, hf⟩ := hrel
        have HF := Lib.hid hf
        clear hf E0
        by_cases hlt : p < s.size
        · obtain ⟨x, hx, ex⟩ := drop_byte s p hlt
          rw [hx] at HE
          have hdg := digB_no ex
          have hy := byteAt_lt s p
          have BW := Lib.hid (fun (y : Int) W => between_any y 48 57 W)
          have HX := Lib.hid ex
          generalize hyy : byteAt s p = y at *
          have HYY := Lib.hid hyy
          clear ex
          by_cases h13 : y = 13
          · have q13 : ((y : Int) == 13) = true := by simp; omega
            by_cases hd : 0 < d
            · have EX := Lib.hid (show R = endL n (s.data.toList.drop (p + 1)) from by rw [HE.out, cntL, if_pos ⟨by rw [HX.out]; exact h13, hd⟩])
              clear h13 hdg hx
              by_cases hl2 : p + 1 < s.size
              · have q2 : (((p + 1 : Nat) : Int) == (s.size : Int)) = false := by simp; omega
                have q3 : (((p : Int) + 1) == (s.size : Int)) = false := q2
                obtain ⟨x2, hx2, ex2⟩ := drop_byte s (p + 1) hl2
                rw [hx2] at EX
                by_cases h10 : byteAt s (p + 1) = 10
                · have EY := Lib.hid (show R = (n, s.data.toList.drop (p + 1 + 1), 0) from EX.out.trans (if_pos (ex2.trans h10)))
                  have q4 : ((byteAt s (p + 1) : Int) != 10) = false := by simp; omega
                  clear EX hx2 ex2 h10
                  generalize hzz : byteAt s (p + 1) = z at *
                  go_wp2
                  go_ret3
                  rw [EY.out]
                  exact ⟨((p + 1 + 1 : Nat) : Int), by go_num, fun _ => ⟨p + 1 + 1, rfl, by omega, rfl⟩, HF.out⟩
                · have EY := Lib.hid (show R = (0, [], 1) from EX.out.trans (if_neg (fun h => h10 (ex2.symm.trans h))))
                  have q4 : ((byteAt s (p + 1) : Int) != 10) = true := by simp; omega
                  clear EX hx2 ex2 h10
                  generalize hzz : byteAt s (p + 1) = z at *
                  go_wp2
                  go_ret3
                  rw [EY.out]
                  exact cntP_no (by decide) s _ HF.out
              · have EY := Lib.hid (show R = (0, [], 8) from by
                  rw [EX.out, List.drop_of_length_le (by simp; omega)]
                  rfl)
                have q2 : (((p + 1 : Nat) : Int) == (s.size : Int)) = true := by simp; omega
                have q3 : (((p : Int) + 1) == (s.size : Int)) = true := q2
                clear EX hl2
                go_wp2
                go_ret3
                rw [EY.out]
                exact cntP_no (by decide) s _ HF.out
            · obtain rfl : d = 0 := by omega
              have EY := Lib.hid (show R = (0, [], 1) from by
                rw [HE.out, cntL, if_neg (fun h => absurd h.2 (Nat.lt_irrefl 0)), if_pos (.inl (by rw [hdg, h13]; rfl))])
              clear hdg hx
              subst h13
              go_wp2_with fail
              refine (BW.out _ _).mono ?_
              rintro e w2 ⟨rfl, hw2⟩
              subst hw2
              go_wp2
              go_ret3
              rw [EY.out]
              exact cntP_no (by decide) s _ HF.out
          · have q13 : ((y : Int) == 13) = false := by simp; omega
            have NE13 := Lib.hid (show ¬ (x.toNat = 13 ∧ 0 < d) from fun h => h13 (by rw [← HX.out]; exact h.1))
            by_cases hdig : 48 ≤ y ∧ y ≤ 57
            · have hd1 : digB x = true := by rw [hdg, decide_eq_true hdig.1, decide_eq_true hdig.2]; rfl
              obtain ⟨k, rfl⟩ : ∃ k, y = 48 + k := ⟨y - 48, by omega⟩
              have hk : k ≤ 9 := by omega
              have b1 : decide ((48 : Int) ≤ ((48 + k : Nat) : Int)) = true := decide_eq_true (by omega)
              have b2 : decide (((48 + k : Nat) : Int) ≤ 57) = true := decide_eq_true (by omega)
              have BW2 := Lib.hid (fun W => (show Calls Tryd.prog 50 #[.int .i64 ((48 + k : Nat) : Int), .int .i64 48, .int .i64 57] W fun e w' => e = .returned (.bool true) ∧ w' = W from by
                have := BW.out ((48 + k : Nat) : Int) W
                rw [b1, b2] at this
                exact this))
              clear BW b1 b2
              by_cases hz : 0 < d ∧ n = 0
              · have EY := Lib.hid (show R = (0, [], 1) from by rw [HE.out, cntL, if_neg NE13.out, if_pos (.inr hz)])
                obtain ⟨hz1, rfl⟩ := hz
                clear hdg hx hd1 h13
                go_wp2_with fail
                refine (BW2.out _).mono ?_
                rintro e w2 ⟨rfl, hw2⟩
                subst hw2
                go_wp2
                go_ret3
                rw [EY.out]
                exact cntP_no (by decide) s _ HF.out
              · obtain ⟨m, hmk⟩ : ∃ m, m = 10 * n + k := ⟨_, rfl⟩
                have EX := Lib.hid (show R = if most < m then (0, [], 2) else cntL most (s.data.toList.drop (p + 1)) m (d + 1) from by
                  rw [HE.out, cntL, if_neg NE13.out, if_neg (by rw [hd1]; rintro (h | h); cases h; exact hz h), HX.out, hmk, show 48 + k - 48 = k by omega])
                have hw3 : 10 * (n : Int) + ((48 + k : Nat) : Int) - 48 = (m : Int) := by omega
                have hw4 : 10 * (n : Int) + (48 + (k : Int)) - 48 = (m : Int) := by omega
                have hdz : d = 0 ∨ (0 < d ∧ ¬ n = 0) := by omega
                have HM := Lib.hid hmk
                have hmm : m ≤ 1009 := by omega
                clear hdg hx hd1 h13 hz hmk
                by_cases hbig : most < m
                · rw [if_pos hbig] at EX
                  rcases hdz with rfl | ⟨hdp0, hn0⟩
                  · go_wp2_with fail
                    refine (BW2.out _).mono ?_
                    rintro e w2 ⟨rfl, hw2⟩
                    subst hw2
                    go_wp2
                    go_ret3
                    rw [EX.out]
                    exact cntP_no (by decide) s _ HF.out
                  · have qn : ((n : Int) == 0) = false := by simp; omega
                    go_wp2_with fail
                    refine (BW2.out _).mono ?_
                    rintro e w2 ⟨rfl, hw2⟩
                    subst hw2
                    go_wp2
                    go_ret3
                    rw [EX.out]
                    exact cntP_no (by decide) s _ HF.out
                · rw [if_neg hbig] at EX
                  rcases hdz with rfl | ⟨hdp0, hn0⟩
                  · go_wp2_with fail
                    refine (BW2.out _).mono ?_
                    rintro e w2 ⟨rfl, hw2⟩
                    subst hw2
                    go_wp2
                    go_roundg (s.size - (p + 1))
                    case measure => omega
                    case rel => exact ⟨p + 1, m, 0 + 1, rfl, by omega, by omega, by go_num, by go_num, by go_num, by omega, by omega, EX, HF.out⟩
                  · have qn : ((n : Int) == 0) = false := by simp; omega
                    go_wp2_with fail
                    refine (BW2.out _).mono ?_
                    rintro e w2 ⟨rfl, hw2⟩
                    subst hw2
                    go_wp2
                    go_roundg (s.size - (p + 1))
                    case measure => omega
                    case rel => exact ⟨p + 1, m, d + 1, rfl, by omega, by omega, by go_num, by go_num, by go_num, by omega, by omega, EX, HF.out⟩
            · have hbb : (decide (48 ≤ y) && decide (y ≤ 57)) = false := by
                by_cases h48 : 48 ≤ y
                · rw [decide_eq_false (show ¬ y ≤ 57 from fun h => hdig ⟨h48, h⟩), Bool.and_false]
                · rw [decide_eq_false h48, Bool.false_and]
              have EY := Lib.hid (show R = (0, [], 1) from by
                rw [HE.out, cntL, if_neg NE13.out, if_pos (.inl (by rw [hdg]; exact hbb))])
              have BW2 := Lib.hid (fun W => (show Calls Tryd.prog 50 #[.int .i64 (y : Int), .int .i64 48, .int .i64 57] W fun e w' => e = .returned (.bool false) ∧ w' = W from by
                have := BW.out (y : Int) W
                rw [show (decide ((48 : Int) ≤ (y : Int)) && decide ((y : Int) ≤ 57)) = false from by
                  rw [← hbb]
                  congr 1
                  · exact decide_eq_decide.2 (by omega)
                  · exact decide_eq_decide.2 (by omega)] at this
                exact this))
              clear hdg hx h13 hdig hbb BW
              go_wp2_with fail
              refine (BW2.out _).mono ?_
              rintro e w2 ⟨rfl, hw2⟩
              subst hw2
              go_wp2
              go_ret3
              rw [EY.out]
              exact cntP_no (by decide) s _ HF.out
        · have hz : p = s.size := by omega
          have EY := Lib.hid (show R = (0, [], 8) from by
            rw [HE.out, List.drop_of_length_le (by simp; omega)]
            rfl)
          clear hz
          go_wp2
          go_ret3
          rw [EY.out]
          exact cntP_no (by decide) s _ HF.out
    · have EY := Lib.hid (show R = (0, [], 1) from by rw [hR]; exact if_neg (fun h => hsig (HX.out.symm.trans h)))
      have q1 : ((byteAt s a : Int) != (sign : Int)) = true := by simp; omega
      clear hR hx hsig
      generalize hy0 : byteAt s a = y0 at *
      have HY0 := Lib.hid hy0
      clear hy0
      go_enter Tryd.func45, Tryd.ntmps45
      have hy0 := HY0.out
      go_wp2
      go_ret3
      rw [EY.out]
      exact cntP_no (by decide) s _ (Fr.refl _ _)
  · have EY := Lib.hid (show R = (0, [], 8) from by
      rw [hR, List.drop_of_length_le (by simp; omega)]
      rfl)
    have hz : a = s.size := by omega
    subst hz
    have q0 : ((s.size : Int) == (s.size : Int)) = true := by simp
    clear hR he
    go_enter Tryd.func45, Tryd.ntmps45
    go_wp2
    go_ret3
    rw [EY.out]
    exact cntP_no (by decide) s _ (Fr.refl _ _)
end Go.Proofs.YtlmaiiloihabdaaDoor
