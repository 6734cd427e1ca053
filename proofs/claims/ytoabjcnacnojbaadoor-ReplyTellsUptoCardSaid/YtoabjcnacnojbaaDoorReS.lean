/- The walk of the document's CheckOne. -/
import Derived.Test.YtoabjcnacnojbaaDoorReD
import Derived.IntWalk
set_option linter.unusedVariables false
set_option linter.unusedSimpArgs false
namespace Go.Proofs.YtoabjcnacnojbaaDoor
open Go.RowKit
attribute [local go_sem] byteAt_eq

theorem between_b {n a b : Int} {t : Bool} (h : (decide (a ≤ n) && decide (n ≤ b)) = t) (w : World) : Calls Tryd.prog 27 #[.int .i64 n, .int .i64 a, .int .i64 b] w fun e w' => e = .returned (.bool t) ∧ w' = w :=
  h ▸ between_any n a b w

set_option maxHeartbeats 4000000 in
set_option maxRecDepth 100000 in
theorem dOne_any (x : Rp1) (A : Option Addr) (c : Nat) (w : World) (hs : x.sub ≤ 281474976710656) (ht : x.text.size ≤ 281474976710656) : Calls Tryd.prog 15 #[.agg #[.int .i64 x.kind, .string x.text, .int .i64 x.n, .slice A x.sub c]] w fun e w' => e = .returned (.int .i64 (oneCode x)) ∧ Fr [] w w' := by
  have F1 := Lib.hid ((Fr.refl [] w).alloc (.cells #[.int .i64 x.kind, .string x.text, .int .i64 x.n, .slice A x.sub c] 24))
  have K7 := Lib.hid (@one_kind x)
  have K1 := Lib.hid (@one_bare x)
  have KR := Lib.hid (@one_rest x)
  have KB : bareR x = (decide (x.kind = 1 ∨ x.kind = 4 ∨ x.text.size = 0) && decide (x.kind = 2 ∨ x.kind = 3 ∨ x.n = 0) && decide (x.kind = 6 ∨ x.sub = 0)) := rfl
  rw [KB] at K1 KR
  clear KB
  obtain ⟨q0, q0'⟩ := emptyT x.text
  obtain ⟨k, t, n, m⟩ := x
  simp only at *
  obtain ⟨R, hR⟩ : ∃ R, R = oneCode ⟨k, t, n, m⟩ := ⟨_, rfl⟩
  rw [← hR] at K7 K1 KR ⊢
  clear hR
  by_cases hin : (decide ((1 : Int) ≤ k) && decide (k ≤ 5)) = false
  · have WI := Lib.hid (fun W => between_b hin W)
    have EC := Lib.hid (K7.out hin)
    clear K7 K1 KR
    go_enter Tryd.func15, Tryd.ntmps15
    go_wp2_with fail
    refine (WI.out _).mono ?_
    rintro e w1 ⟨rfl, hw1⟩
    subst hw1
    go_wp2
    go_ret
    exact ⟨by rw [EC.out]; rfl, F1.out⟩
  have hin' : (decide ((1 : Int) ≤ k) && decide (k ≤ 5)) = true := by simpa using hin
  have WI := Lib.hid (fun W => between_b hin' W)
  have hd : k = 1 ∨ k = 2 ∨ k = 3 ∨ k = 4 ∨ k = 5 := by
    rw [Bool.and_eq_true, decide_eq_true_eq, decide_eq_true_eq] at hin'
    omega
  have K1 := Lib.hid (K1.out hin')
  have KR := Lib.hid (KR.out hin')
  clear K7 hin hin'
  rcases hd with rfl | rfl | rfl | rfl | rfl
  · by_cases hn0 : n = 0
    rotate_left
    · have EC := Lib.hid (show R = 1 from K1.out (by simp [hn0]))
      have qn : (n == 0) = false := beq_eq_false_iff_ne.2 hn0
      clear K1 KR
      go_enter Tryd.func15, Tryd.ntmps15
      go_wp2_with fail
      refine (WI.out _).mono ?_
      rintro e w1 ⟨rfl, hw1⟩
      subst hw1
      go_wp2
      go_ret
      exact ⟨by rw [EC.out]; rfl, F1.out⟩
    subst hn0
    by_cases hm0 : m = 0
    rotate_left
    · have EC := Lib.hid (show R = 1 from K1.out (by simp [hm0]))
      have qm : (m : Int) > 0 := by omega
      clear K1 KR
      go_enter Tryd.func15, Tryd.ntmps15
      go_wp2_with fail
      refine (WI.out _).mono ?_
      rintro e w1 ⟨rfl, hw1⟩
      subst hw1
      go_wp2
      go_ret
      exact ⟨by rw [EC.out]; rfl, F1.out⟩
    subst hm0
    have EK := KR.out (by simp)
    clear K1 KR
    rw [if_pos rfl] at EK
    by_cases h20 : 20 < t.size
    · rw [if_pos h20] at EK
      have EC := Lib.hid EK
      clear EK
      go_enter Tryd.func15, Tryd.ntmps15
      go_wp2_with fail
      refine (WI.out _).mono ?_
      rintro e w1 ⟨rfl, hw1⟩
      subst hw1
      go_wp2
      go_ret
      exact ⟨by rw [EC.out]; rfl, F1.out⟩
    rw [if_neg h20] at EK
    by_cases hz : t.size = 0
    · rw [if_pos hz] at EK
      rw [decide_eq_true hz] at q0 q0'
      have EC := Lib.hid EK
      clear EK hz
      go_enter Tryd.func15, Tryd.ntmps15
      go_wp2_with fail
      refine (WI.out _).mono ?_
      rintro e w1 ⟨rfl, hw1⟩
      subst hw1
      go_wp2
      go_ret
      exact ⟨by rw [EC.out]; rfl, F1.out⟩
    rw [if_neg hz] at EK
    rw [decide_eq_false hz] at q0 q0'
    have E0 := Lib.hid (show R = if (t.data.toList.drop 0).all (fun c => wordB c.toNat) = true then 0 else 1 from EK)
    clear EK hz
    go_enter Tryd.func15, Tryd.ntmps15
    go_wp2_with fail
    refine (WI.out _).mono ?_
    rintro e w1 ⟨rfl, hw1⟩
    subst hw1
    go_wp2
    go_loopg [4] t.size (fun x i wr => ∃ (k : Nat), x = t.size - k ∧ k ≤ t.size ∧ i = .int .i64 k ∧ Hid (R = if (t.data.toList.drop k).all (fun c => wordB c.toNat) = true then 0 else 1) ∧ wr = w.alloc (.cells #[.int .i64 1, .string t, .int .i64 0, .slice A 0 c] 24))
    case atStart => exact ⟨0, rfl, Nat.zero_le _, rfl, E0, rfl⟩
    case round =>
      obtain ⟨k, rfl, hk, rfl, HE, rfl⟩ := hrel
      clear E0
      by_cases hlt : k < t.size
      · obtain ⟨x, ex, hx⟩ := all_drop (p := fun c => wordB c.toNat) hlt
        have ST := HE.out
        rw [hx] at ST
        have hy := byteAt_lt t k
        simp only [ex] at ST
        clear hx ex x HE
        obtain ⟨y, ey⟩ : ∃ y, y = byteAt t k := ⟨_, rfl⟩
        rw [← ey] at ST hy
        have hwr : wrap64 (byteAt t k : Int) = (y : Int) := by rw [← ey]; exact IntWalk.wrap64_in _ (by omega)
        have W1 := Lib.hid (fun W => between_any (y : Int) 97 122 W)
        have W2 := Lib.hid (fun W => between_any (y : Int) 65 90 W)
        have W3 := Lib.hid (fun W => between_any (y : Int) 48 57 W)
        have d1 : (decide ((97 : Int) ≤ (y : Int)) && decide ((y : Int) ≤ 122)) = (decide (97 ≤ y) && decide (y ≤ 122)) := by congr 1 <;> exact decide_eq_decide.2 (by omega)
        have d2 : (decide ((65 : Int) ≤ (y : Int)) && decide ((y : Int) ≤ 90)) = (decide (65 ≤ y) && decide (y ≤ 90)) := by congr 1 <;> exact decide_eq_decide.2 (by omega)
        have d3 : (decide ((48 : Int) ≤ (y : Int)) && decide ((y : Int) ≤ 57)) = (decide (48 ≤ y) && decide (y ≤ 57)) := by congr 1 <;> exact decide_eq_decide.2 (by omega)
        rw [d1, ← hwr] at W1
        rw [d2, ← hwr] at W2
        rw [d3, ← hwr] at W3
        have EB : wordB y = ((decide (97 ≤ y) && decide (y ≤ 122)) || (decide (65 ≤ y) && decide (y ≤ 90)) || (decide (48 ≤ y) && decide (y ≤ 57)) || decide (y = 32)) := rfl
        rw [EB] at ST
        have hq : (wrap64 (byteAt t k : Int) == 32) = decide (y = 32) := by
          rw [hwr]
          by_cases h : y = 32
          · subst h; rfl
          · rw [decide_eq_false h]; exact beq_eq_false_iff_ne.2 (by omega)
        clear d1 d2 d3 EB hwr
        generalize (decide (97 ≤ y) && decide (y ≤ 122)) = b1 at *
        generalize (decide (65 ≤ y) && decide (y ≤ 90)) = b2 at *
        generalize (decide (48 ≤ y) && decide (y ≤ 57)) = b3 at *
        generalize decide (y = 32) = b4 at *
        clear ey hy y
        have ST := Lib.hid ST
        cases b1
        rotate_left
        · have NX := Lib.hid (show R = if (t.data.toList.drop (k + 1)).all (fun c => wordB c.toNat) = true then 0 else 1 from by rw [ST.out]; simp)
          clear hq ST
          go_wp2_with fail
          refine (W1.out _).mono ?_
          rintro e w9 ⟨rfl, hw9⟩
          subst hw9
          go_wp2
          go_roundg (t.size - (k + 1))
          case measure => omega
          case rel => exact ⟨k + 1, rfl, by omega, by go_num, NX, rfl⟩
        cases b2
        rotate_left
        · have NX := Lib.hid (show R = if (t.data.toList.drop (k + 1)).all (fun c => wordB c.toNat) = true then 0 else 1 from by rw [ST.out]; simp)
          clear hq ST
          go_wp2_with fail
          refine (W1.out _).mono ?_
          rintro e w9 ⟨rfl, hw9⟩
          subst hw9
          go_wp2_with fail
          refine (W2.out _).mono ?_
          rintro e w9 ⟨rfl, hw9⟩
          subst hw9
          go_wp2
          go_roundg (t.size - (k + 1))
          case measure => omega
          case rel => exact ⟨k + 1, rfl, by omega, by go_num, NX, rfl⟩
        cases b3
        rotate_left
        · have NX := Lib.hid (show R = if (t.data.toList.drop (k + 1)).all (fun c => wordB c.toNat) = true then 0 else 1 from by rw [ST.out]; simp)
          clear hq ST
          go_wp2_with fail
          refine (W1.out _).mono ?_
          rintro e w9 ⟨rfl, hw9⟩
          subst hw9
          go_wp2_with fail
          refine (W2.out _).mono ?_
          rintro e w9 ⟨rfl, hw9⟩
          subst hw9
          go_wp2_with fail
          refine (W3.out _).mono ?_
          rintro e w9 ⟨rfl, hw9⟩
          subst hw9
          go_wp2
          go_roundg (t.size - (k + 1))
          case measure => omega
          case rel => exact ⟨k + 1, rfl, by omega, by go_num, NX, rfl⟩
        cases b4
        · have NX := Lib.hid (show R = 1 from by rw [ST.out]; simp)
          clear ST
          go_wp2_with fail
          refine (W1.out _).mono ?_
          rintro e w9 ⟨rfl, hw9⟩
          subst hw9
          go_wp2_with fail
          refine (W2.out _).mono ?_
          rintro e w9 ⟨rfl, hw9⟩
          subst hw9
          go_wp2_with fail
          refine (W3.out _).mono ?_
          rintro e w9 ⟨rfl, hw9⟩
          subst hw9
          go_wp2
          go_ret
          exact ⟨by rw [NX.out]; rfl, F1.out⟩
        · have NX := Lib.hid (show R = if (t.data.toList.drop (k + 1)).all (fun c => wordB c.toNat) = true then 0 else 1 from by rw [ST.out]; simp)
          clear ST
          go_wp2_with fail
          refine (W1.out _).mono ?_
          rintro e w9 ⟨rfl, hw9⟩
          subst hw9
          go_wp2_with fail
          refine (W2.out _).mono ?_
          rintro e w9 ⟨rfl, hw9⟩
          subst hw9
          go_wp2_with fail
          refine (W3.out _).mono ?_
          rintro e w9 ⟨rfl, hw9⟩
          subst hw9
          go_wp2
          go_roundg (t.size - (k + 1))
          case measure => omega
          case rel => exact ⟨k + 1, rfl, by omega, by go_num, NX, rfl⟩
      · obtain rfl : k = t.size := by omega
        have NX := Lib.hid (show R = 0 from by rw [HE.out, List.drop_of_length_le (by simp)]; rfl)
        go_wp2
        go_ret
        exact ⟨by rw [NX.out]; rfl, F1.out⟩
  · by_cases ht0 : t.size = 0
    rotate_left
    · have EC := Lib.hid (show R = 1 from K1.out (by simp [ht0]))
      rw [decide_eq_false ht0] at q0 q0'
      clear K1 KR
      go_enter Tryd.func15, Tryd.ntmps15
      go_wp2_with fail
      refine (WI.out _).mono ?_
      rintro e w1 ⟨rfl, hw1⟩
      subst hw1
      go_wp2
      go_ret
      exact ⟨by rw [EC.out]; rfl, F1.out⟩
    rw [decide_eq_true ht0] at q0 q0'
    by_cases hm0 : m = 0
    rotate_left
    · have EC := Lib.hid (show R = 1 from K1.out (by simp [hm0]))
      have qm : (m : Int) > 0 := by omega
      clear K1 KR
      go_enter Tryd.func15, Tryd.ntmps15
      go_wp2_with fail
      refine (WI.out _).mono ?_
      rintro e w1 ⟨rfl, hw1⟩
      subst hw1
      go_wp2
      go_ret
      exact ⟨by rw [EC.out]; rfl, F1.out⟩
    subst hm0
    have EK := KR.out (by simp [ht0])
    clear K1 KR
    rw [if_neg (show ¬ (2 : Int) = 1 by decide), if_pos rfl] at EK
    cases hw : (decide ((1 : Int) ≤ n) && decide (n ≤ 8))
    · have EC := Lib.hid (show R = 3 from by rw [EK]; exact if_neg (fun hn => by rw [decide_eq_true hn.1, decide_eq_true hn.2] at hw; cases hw))
      have RW := Lib.hid (fun W => between_b hw W)
      clear EK hw
      go_enter Tryd.func15, Tryd.ntmps15
      go_wp2_with fail
      refine (WI.out _).mono ?_
      rintro e w1 ⟨rfl, hw1⟩
      subst hw1
      go_wp2_with fail
      refine (RW.out _).mono ?_
      rintro e w2 ⟨rfl, hw2⟩
      subst hw2
      go_wp2
      go_ret
      exact ⟨by rw [EC.out]; rfl, F1.out⟩
    · have EC := Lib.hid (show R = 0 from by rw [EK]; rw [Bool.and_eq_true, decide_eq_true_eq, decide_eq_true_eq] at hw; exact if_pos hw)
      have RW := Lib.hid (fun W => between_b hw W)
      clear EK hw
      go_enter Tryd.func15, Tryd.ntmps15
      go_wp2_with fail
      refine (WI.out _).mono ?_
      rintro e w1 ⟨rfl, hw1⟩
      subst hw1
      go_wp2_with fail
      refine (RW.out _).mono ?_
      rintro e w2 ⟨rfl, hw2⟩
      subst hw2
      go_wp2
      go_ret
      exact ⟨by rw [EC.out]; rfl, F1.out⟩
  · by_cases ht0 : t.size = 0
    rotate_left
    · have EC := Lib.hid (show R = 1 from K1.out (by simp [ht0]))
      rw [decide_eq_false ht0] at q0 q0'
      clear K1 KR
      go_enter Tryd.func15, Tryd.ntmps15
      go_wp2_with fail
      refine (WI.out _).mono ?_
      rintro e w1 ⟨rfl, hw1⟩
      subst hw1
      go_wp2
      go_ret
      exact ⟨by rw [EC.out]; rfl, F1.out⟩
    rw [decide_eq_true ht0] at q0 q0'
    by_cases hm0 : m = 0
    rotate_left
    · have EC := Lib.hid (show R = 1 from K1.out (by simp [hm0]))
      have qm : (m : Int) > 0 := by omega
      clear K1 KR
      go_enter Tryd.func15, Tryd.ntmps15
      go_wp2_with fail
      refine (WI.out _).mono ?_
      rintro e w1 ⟨rfl, hw1⟩
      subst hw1
      go_wp2
      go_ret
      exact ⟨by rw [EC.out]; rfl, F1.out⟩
    subst hm0
    have EK := KR.out (by simp [ht0])
    clear K1 KR
    rw [if_neg (show ¬ (3 : Int) = 1 by decide), if_neg (show ¬ (3 : Int) = 2 by decide), if_pos rfl] at EK
    have RW := Lib.hid (fun W => refInt_any n W)
    cases hw : isInt n
    · rw [hw] at RW EK
      have EC := Lib.hid (show R = 3 from EK)
      clear EK hw
      go_enter Tryd.func15, Tryd.ntmps15
      go_wp2_with fail
      refine (WI.out _).mono ?_
      rintro e w1 ⟨rfl, hw1⟩
      subst hw1
      go_wp2_with fail
      refine (RW.out _).mono ?_
      rintro e w2 ⟨rfl, hw2⟩
      subst hw2
      go_wp2
      go_ret
      exact ⟨by rw [EC.out]; rfl, F1.out⟩
    · rw [hw] at RW EK
      have EC := Lib.hid (show R = 0 from EK)
      clear EK hw
      go_enter Tryd.func15, Tryd.ntmps15
      go_wp2_with fail
      refine (WI.out _).mono ?_
      rintro e w1 ⟨rfl, hw1⟩
      subst hw1
      go_wp2_with fail
      refine (RW.out _).mono ?_
      rintro e w2 ⟨rfl, hw2⟩
      subst hw2
      go_wp2
      go_ret
      exact ⟨by rw [EC.out]; rfl, F1.out⟩
  · by_cases hn0 : n = 0
    rotate_left
    · have EC := Lib.hid (show R = 1 from K1.out (by simp [hn0]))
      have qn : (n == 0) = false := beq_eq_false_iff_ne.2 hn0
      clear K1 KR
      go_enter Tryd.func15, Tryd.ntmps15
      go_wp2_with fail
      refine (WI.out _).mono ?_
      rintro e w1 ⟨rfl, hw1⟩
      subst hw1
      go_wp2
      go_ret
      exact ⟨by rw [EC.out]; rfl, F1.out⟩
    subst hn0
    by_cases hm0 : m = 0
    rotate_left
    · have EC := Lib.hid (show R = 1 from K1.out (by simp [hm0]))
      have qm : (m : Int) > 0 := by omega
      clear K1 KR
      go_enter Tryd.func15, Tryd.ntmps15
      go_wp2_with fail
      refine (WI.out _).mono ?_
      rintro e w1 ⟨rfl, hw1⟩
      subst hw1
      go_wp2
      go_ret
      exact ⟨by rw [EC.out]; rfl, F1.out⟩
    subst hm0
    have EK := KR.out (by simp)
    clear K1 KR
    rw [if_neg (show ¬ (4 : Int) = 1 by decide), if_neg (show ¬ (4 : Int) = 2 by decide), if_neg (show ¬ (4 : Int) = 3 by decide), if_pos rfl] at EK
    by_cases h60 : 60 < t.size
    · rw [if_pos h60] at EK
      have EC := Lib.hid EK
      clear EK
      go_enter Tryd.func15, Tryd.ntmps15
      go_wp2_with fail
      refine (WI.out _).mono ?_
      rintro e w1 ⟨rfl, hw1⟩
      subst hw1
      go_wp2
      go_ret
      exact ⟨by rw [EC.out]; rfl, F1.out⟩
    · rw [if_neg h60] at EK
      have EC := Lib.hid EK
      clear EK
      go_enter Tryd.func15, Tryd.ntmps15
      go_wp2_with fail
      refine (WI.out _).mono ?_
      rintro e w1 ⟨rfl, hw1⟩
      subst hw1
      go_wp2
      go_ret
      exact ⟨by rw [EC.out]; rfl, F1.out⟩
  · by_cases ht0 : t.size = 0
    rotate_left
    · have EC := Lib.hid (show R = 1 from K1.out (by simp [ht0]))
      rw [decide_eq_false ht0] at q0 q0'
      clear K1 KR
      go_enter Tryd.func15, Tryd.ntmps15
      go_wp2_with fail
      refine (WI.out _).mono ?_
      rintro e w1 ⟨rfl, hw1⟩
      subst hw1
      go_wp2
      go_ret
      exact ⟨by rw [EC.out]; rfl, F1.out⟩
    rw [decide_eq_true ht0] at q0 q0'
    by_cases hn0 : n = 0
    rotate_left
    · have EC := Lib.hid (show R = 1 from K1.out (by simp [hn0]))
      have qn : (n == 0) = false := beq_eq_false_iff_ne.2 hn0
      clear K1 KR
      go_enter Tryd.func15, Tryd.ntmps15
      go_wp2_with fail
      refine (WI.out _).mono ?_
      rintro e w1 ⟨rfl, hw1⟩
      subst hw1
      go_wp2
      go_ret
      exact ⟨by rw [EC.out]; rfl, F1.out⟩
    subst hn0
    by_cases hm0 : m = 0
    rotate_left
    · have EC := Lib.hid (show R = 1 from K1.out (by simp [hm0]))
      have qm : (m : Int) > 0 := by omega
      clear K1 KR
      go_enter Tryd.func15, Tryd.ntmps15
      go_wp2_with fail
      refine (WI.out _).mono ?_
      rintro e w1 ⟨rfl, hw1⟩
      subst hw1
      go_wp2
      go_ret
      exact ⟨by rw [EC.out]; rfl, F1.out⟩
    subst hm0
    have EK := KR.out (by simp [ht0])
    clear K1 KR
    have EC := Lib.hid (show R = 0 from EK)
    clear EK
    go_enter Tryd.func15, Tryd.ntmps15
    go_wp2_with fail
    refine (WI.out _).mono ?_
    rintro e w1 ⟨rfl, hw1⟩
    subst hw1
    go_wp2
    go_ret
    exact ⟨by rw [EC.out]; rfl, F1.out⟩
end Go.Proofs.YtoabjcnacnojbaaDoor
