/- The walk of reply.one. -/
import Derived.Test.YtoabjcnacnojbaaDoorReC
set_option linter.unusedVariables false
set_option linter.unusedSimpArgs false
namespace Go.Proofs.YtoabjcnacnojbaaDoor
open Go.RowKit

theorem one_kind {x : Rp1} (h : (decide ((1 : Int) ≤ x.kind) && decide (x.kind ≤ 5)) = false) : oneCode x = 7 := by
  unfold oneCode
  rw [if_pos (fun hn => by rw [decide_eq_true hn.1, decide_eq_true hn.2] at h; cases h)]
theorem one_bare {x : Rp1} (h : (decide ((1 : Int) ≤ x.kind) && decide (x.kind ≤ 5)) = true) (hb : bareR x = false) : oneCode x = 1 := by
  rw [Bool.and_eq_true, decide_eq_true_eq, decide_eq_true_eq] at h
  unfold oneCode
  rw [if_neg (fun hn => hn h), if_pos]
  unfold bareR txtB numB at hb
  rw [Bool.and_eq_false_iff, Bool.and_eq_false_iff, decide_eq_false_iff_not, decide_eq_false_iff_not, decide_eq_false_iff_not] at hb
  omega
theorem one_rest {x : Rp1} (h : (decide ((1 : Int) ≤ x.kind) && decide (x.kind ≤ 5)) = true) (hb : bareR x = true) : oneCode x = (if x.kind = 1 then (if 20 < x.text.size then 2 else if x.text.size = 0 then 1 else if wordS x.text = true then 0 else 1)
  else if x.kind = 2 then (if 1 ≤ x.n ∧ x.n ≤ 8 then 0 else 3)
  else if x.kind = 3 then (if isInt x.n = true then 0 else 3)
  else if x.kind = 4 then (if 60 < x.text.size then 2 else 0)
  else 0) := by
  rw [Bool.and_eq_true, decide_eq_true_eq, decide_eq_true_eq] at h
  unfold bareR txtB numB at hb
  rw [Bool.and_eq_true, Bool.and_eq_true, decide_eq_true_eq, decide_eq_true_eq, decide_eq_true_eq] at hb
  conv => lhs; unfold oneCode
  rw [if_neg (fun hn => hn h), if_neg (by omega)]
def repT (x : Rp1) (A : Option Addr) (c : Nat) : List Value := [.int .i64 x.kind, .string x.text, .int .i64 x.n, .slice A x.sub c]

set_option maxHeartbeats 4000000 in
set_option maxRecDepth 100000 in
theorem rOne_any (x : Rp1) (A : Option Addr) (c : Nat) (w : World) (hs : x.sub ≤ 281474976710656) (ht : x.text.size ≤ 281474976710656) : Calls Tryd.prog 18 #[.agg #[.int .i64 x.kind, .string x.text, .int .i64 x.n, .slice A x.sub c]] w fun e w' => e = .returned (.int .i64 (oneCode x)) ∧ Fr [] w w' := by
  have F1 := Lib.hid ((Fr.refl [] w).alloc (.cells #[.int .i64 x.kind, .string x.text, .int .i64 x.n, .slice A x.sub c] 24))
  have V1 := Lib.hid (Whole.new w 24 [.int .i64 x.kind, .string x.text, .int .i64 x.n, .slice A x.sub c])
  have RB := Lib.hid (fun W => rBare_any x A c W hs)
  have K7 := Lib.hid (@one_kind x)
  have K1 := Lib.hid (@one_bare x)
  have KR := Lib.hid (@one_rest x)
  obtain ⟨bb, hbb⟩ : ∃ b, b = bareR x := ⟨_, rfl⟩
  rw [← hbb] at RB K1 KR
  clear hbb
  obtain ⟨k, t, n, m⟩ := x
  simp only at *
  obtain ⟨R, hR⟩ : ∃ R, R = oneCode ⟨k, t, n, m⟩ := ⟨_, rfl⟩
  rw [← hR] at K7 K1 KR ⊢
  clear hR
  by_cases hin : (decide ((1 : Int) ≤ k) && decide (k ≤ 5)) = false
  · have WI := Lib.hid (fun W => rWithin_b hin W)
    have EC := Lib.hid (K7.out hin)
    clear K7 K1 KR RB
    go_enter Tryd.func18, Tryd.ntmps18
    go_wp2_with fail
    refine (WI.out _).mono ?_
    rintro e w1 ⟨rfl, hw1⟩
    subst hw1
    go_wp2
    go_ret
    exact ⟨by rw [EC.out]; rfl, F1.out⟩
  have hin' : (decide ((1 : Int) ≤ k) && decide (k ≤ 5)) = true := by simpa using hin
  have WI := Lib.hid (fun W => rWithin_b hin' W)
  cases bb
  · have EC := Lib.hid (K1.out hin' rfl)
    clear K7 K1 KR
    go_enter Tryd.func18, Tryd.ntmps18
    go_wp2_with fail
    refine (WI.out _).mono ?_
    rintro e w1 ⟨rfl, hw1⟩
    subst hw1
    go_wp2_with fail
    refine (RB.out _).mono ?_
    rintro e w1 ⟨rfl, f1⟩
    go_wp2
    go_ret
    exact ⟨by rw [EC.out]; rfl, F1.out.trans f1⟩
  have hd : k = 1 ∨ k = 2 ∨ k = 3 ∨ k = 4 ∨ k = 5 := by
    rw [Bool.and_eq_true, decide_eq_true_eq, decide_eq_true_eq] at hin'
    omega
  have EK := KR.out hin' rfl
  clear K7 K1 KR hin hin'
  rcases hd with rfl | rfl | rfl | rfl | rfl
  · rw [if_pos rfl] at EK
    by_cases h20 : 20 < t.size
    · rw [if_pos h20] at EK
      have EC := Lib.hid EK
      clear EK
      go_enter Tryd.func18, Tryd.ntmps18
      go_wp2_with fail
      refine (WI.out _).mono ?_
      rintro e w1 ⟨rfl, hw1⟩
      subst hw1
      go_wp2_with fail
      refine (RB.out _).mono ?_
      rintro e w1 ⟨rfl, f1⟩
      have f2 := Lib.hid (F1.out.trans f1)
      obtain ⟨c0, c1, c2, c3⟩ := four (V1.out.fr f1 (by simp))
      clear f1
      go_wp2
      go_ret
      exact ⟨by rw [EC.out]; rfl, f2.out⟩
    rw [if_neg h20] at EK
    cases hw : (wordS t && decide (t.size ≠ 0))
    · have EC := Lib.hid (show R = 1 from by
        rw [EK]
        rw [Bool.and_eq_false_iff, decide_eq_false_iff_not, Decidable.not_not] at hw
        rcases hw with hw | hw
        · rw [hw]; simp
        · rw [if_pos hw])
      have RW := Lib.hid (fun W => rWord_any t W ht)
      rw [hw] at RW
      clear EK hw
      go_enter Tryd.func18, Tryd.ntmps18
      go_wp2_with fail
      refine (WI.out _).mono ?_
      rintro e w1 ⟨rfl, hw1⟩
      subst hw1
      go_wp2_with fail
      refine (RB.out _).mono ?_
      rintro e w1 ⟨rfl, f1⟩
      have f2 := Lib.hid (F1.out.trans f1)
      obtain ⟨c0, c1, c2, c3⟩ := four (V1.out.fr f1 (by simp))
      clear f1
      go_wp2_with fail
      refine (RW.out _).mono ?_
      rintro e w2 ⟨rfl, hw2⟩
      subst hw2
      go_wp2
      go_ret
      exact ⟨by rw [EC.out]; rfl, f2.out⟩
    · have EC := Lib.hid (show R = 0 from by
        rw [EK]
        rw [Bool.and_eq_true, decide_eq_true_eq] at hw
        rw [if_neg hw.2, if_pos hw.1])
      have RW := Lib.hid (fun W => rWord_any t W ht)
      rw [hw] at RW
      clear EK hw
      go_enter Tryd.func18, Tryd.ntmps18
      go_wp2_with fail
      refine (WI.out _).mono ?_
      rintro e w1 ⟨rfl, hw1⟩
      subst hw1
      go_wp2_with fail
      refine (RB.out _).mono ?_
      rintro e w1 ⟨rfl, f1⟩
      have f2 := Lib.hid (F1.out.trans f1)
      obtain ⟨c0, c1, c2, c3⟩ := four (V1.out.fr f1 (by simp))
      clear f1
      go_wp2_with fail
      refine (RW.out _).mono ?_
      rintro e w2 ⟨rfl, hw2⟩
      subst hw2
      go_wp2
      go_ret
      exact ⟨by rw [EC.out]; rfl, f2.out⟩
  · rw [if_neg (show ¬ (2 : Int) = 1 by decide), if_pos rfl] at EK
    cases hw : (decide ((1 : Int) ≤ n) && decide (n ≤ 8))
    · have EC := Lib.hid (show R = 3 from by rw [EK]; exact if_neg (fun hn => by rw [decide_eq_true hn.1, decide_eq_true hn.2] at hw; cases hw))
      have RW := Lib.hid (fun W => rWithin_b hw W)
      clear EK hw
      go_enter Tryd.func18, Tryd.ntmps18
      go_wp2_with fail
      refine (WI.out _).mono ?_
      rintro e w1 ⟨rfl, hw1⟩
      subst hw1
      go_wp2_with fail
      refine (RB.out _).mono ?_
      rintro e w1 ⟨rfl, f1⟩
      have f2 := Lib.hid (F1.out.trans f1)
      obtain ⟨c0, c1, c2, c3⟩ := four (V1.out.fr f1 (by simp))
      clear f1
      go_wp2_with fail
      refine (RW.out _).mono ?_
      rintro e w2 ⟨rfl, hw2⟩
      subst hw2
      go_wp2
      go_ret
      exact ⟨by rw [EC.out]; rfl, f2.out⟩
    · have EC := Lib.hid (show R = 0 from by rw [EK]; rw [Bool.and_eq_true, decide_eq_true_eq, decide_eq_true_eq] at hw; exact if_pos hw)
      have RW := Lib.hid (fun W => rWithin_b hw W)
      clear EK hw
      go_enter Tryd.func18, Tryd.ntmps18
      go_wp2_with fail
      refine (WI.out _).mono ?_
      rintro e w1 ⟨rfl, hw1⟩
      subst hw1
      go_wp2_with fail
      refine (RB.out _).mono ?_
      rintro e w1 ⟨rfl, f1⟩
      have f2 := Lib.hid (F1.out.trans f1)
      obtain ⟨c0, c1, c2, c3⟩ := four (V1.out.fr f1 (by simp))
      clear f1
      go_wp2_with fail
      refine (RW.out _).mono ?_
      rintro e w2 ⟨rfl, hw2⟩
      subst hw2
      go_wp2
      go_ret
      exact ⟨by rw [EC.out]; rfl, f2.out⟩
  · rw [if_neg (show ¬ (3 : Int) = 1 by decide), if_neg (show ¬ (3 : Int) = 2 by decide), if_pos rfl] at EK
    cases hw : (decide ((-999999999 : Int) ≤ n) && decide (n ≤ 999999999))
    · have EC := Lib.hid (show R = 3 from by rw [EK]; exact if_neg (fun hn => by unfold isInt at hn; rw [hw] at hn; cases hn))
      have RW := Lib.hid (fun W => rWithin_b hw W)
      clear EK hw
      go_enter Tryd.func18, Tryd.ntmps18
      go_wp2_with fail
      refine (WI.out _).mono ?_
      rintro e w1 ⟨rfl, hw1⟩
      subst hw1
      go_wp2_with fail
      refine (RB.out _).mono ?_
      rintro e w1 ⟨rfl, f1⟩
      have f2 := Lib.hid (F1.out.trans f1)
      obtain ⟨c0, c1, c2, c3⟩ := four (V1.out.fr f1 (by simp))
      clear f1
      go_wp2_with fail
      refine (RW.out _).mono ?_
      rintro e w2 ⟨rfl, hw2⟩
      subst hw2
      go_wp2
      go_ret
      exact ⟨by rw [EC.out]; rfl, f2.out⟩
    · have EC := Lib.hid (show R = 0 from by rw [EK]; exact if_pos hw)
      have RW := Lib.hid (fun W => rWithin_b hw W)
      clear EK hw
      go_enter Tryd.func18, Tryd.ntmps18
      go_wp2_with fail
      refine (WI.out _).mono ?_
      rintro e w1 ⟨rfl, hw1⟩
      subst hw1
      go_wp2_with fail
      refine (RB.out _).mono ?_
      rintro e w1 ⟨rfl, f1⟩
      have f2 := Lib.hid (F1.out.trans f1)
      obtain ⟨c0, c1, c2, c3⟩ := four (V1.out.fr f1 (by simp))
      clear f1
      go_wp2_with fail
      refine (RW.out _).mono ?_
      rintro e w2 ⟨rfl, hw2⟩
      subst hw2
      go_wp2
      go_ret
      exact ⟨by rw [EC.out]; rfl, f2.out⟩
  · rw [if_neg (show ¬ (4 : Int) = 1 by decide), if_neg (show ¬ (4 : Int) = 2 by decide), if_neg (show ¬ (4 : Int) = 3 by decide), if_pos rfl] at EK
    by_cases h60 : 60 < t.size
    · rw [if_pos h60] at EK
      have EC := Lib.hid EK
      clear EK
      go_enter Tryd.func18, Tryd.ntmps18
      go_wp2_with fail
      refine (WI.out _).mono ?_
      rintro e w1 ⟨rfl, hw1⟩
      subst hw1
      go_wp2_with fail
      refine (RB.out _).mono ?_
      rintro e w1 ⟨rfl, f1⟩
      have f2 := Lib.hid (F1.out.trans f1)
      obtain ⟨c0, c1, c2, c3⟩ := four (V1.out.fr f1 (by simp))
      clear f1
      go_wp2
      go_ret
      exact ⟨by rw [EC.out]; rfl, f2.out⟩
    · rw [if_neg h60] at EK
      have EC := Lib.hid EK
      clear EK
      go_enter Tryd.func18, Tryd.ntmps18
      go_wp2_with fail
      refine (WI.out _).mono ?_
      rintro e w1 ⟨rfl, hw1⟩
      subst hw1
      go_wp2_with fail
      refine (RB.out _).mono ?_
      rintro e w1 ⟨rfl, f1⟩
      have f2 := Lib.hid (F1.out.trans f1)
      obtain ⟨c0, c1, c2, c3⟩ := four (V1.out.fr f1 (by simp))
      clear f1
      go_wp2
      go_ret
      exact ⟨by rw [EC.out]; rfl, f2.out⟩
  · have EC := Lib.hid EK
    clear EK
    go_enter Tryd.func18, Tryd.ntmps18
    go_wp2_with fail
    refine (WI.out _).mono ?_
    rintro e w1 ⟨rfl, hw1⟩
    subst hw1
    go_wp2_with fail
    refine (RB.out _).mono ?_
    rintro e w1 ⟨rfl, f1⟩
    have f2 := Lib.hid (F1.out.trans f1)
    obtain ⟨c0, c1, c2, c3⟩ := four (V1.out.fr f1 (by simp))
    clear f1
    go_wp2
    go_ret
    exact ⟨by rw [EC.out]; rfl, f2.out⟩
end Go.Proofs.YtoabjcnacnojbaaDoor
