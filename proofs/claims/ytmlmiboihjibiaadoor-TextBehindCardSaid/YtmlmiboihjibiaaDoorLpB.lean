/- The walks of text.Span, R.InRange, R.RangeList, clamped. -/
import Derived.Test.YtmlmiboihjibiaaDoorLpA
import Derived.Test.YtmlmiboihjibiaaDoorSlA
import Derived.Test.YtmlmiboihjibiaaDoorItf
import Derived.WalkLawsBesides
set_option linter.unusedVariables false
set_option linter.unusedSimpArgs false
namespace Go.Proofs.YtmlmiboihjibiaaDoor
open Go.RowKit

theorem tup2 {a b c d : Int} (h1 : a = b) (h2 : c = d) : Ending.returned (.tuple #[.int .i64 a, .int .i64 c]) = .returned (.tuple #[.int .i64 b, .int .i64 d]) := by rw [h1, h2]

theorem spanH1 (a b : Int) (h : 0 ≤ a) : ((if a > b then 0 else a.toNat : Nat) : Int) = if a > b then 0 else a := by split <;> omega
theorem spanH2 (a b : Int) (h : 0 ≤ a) : ((if a > b then 0 else (b + 1).toNat : Nat) : Int) = if a > b then 0 else b + 1 := by split <;> omega

theorem span_any (n : Nat) (f t : Int) (w : World) (hn : n ≤ 281474976710656) (hf : -9223372036854775808 ≤ f ∧ f ≤ 9223372036854775807) (ht : -9223372036854775808 ≤ t ∧ t ≤ 9223372036854775807) :
    Calls Tryd.prog 24 #[.int .i64 n, .int .i64 f, .int .i64 t] w fun e w' => e = .returned (.tuple #[.int .i64 (spanA n f t : Nat), .int .i64 (spanB n f t : Nat)]) ∧ w = w' := by
  have SA := Lib.hid (show (spanA n f t : Int) = if (if f < 0 then max 0 (f + n) else f) > min (if t < 0 then t + n else t) ((n : Int) - 1) then 0 else (if f < 0 then max 0 (f + n) else f) from spanH1 _ _ (by split <;> omega))
  have SB := Lib.hid (show (spanB n f t : Int) = if (if f < 0 then max 0 (f + n) else f) > min (if t < 0 then t + n else t) ((n : Int) - 1) then 0 else min (if t < 0 then t + n else t) ((n : Int) - 1) + 1 from spanH2 _ _ (by split <;> omega))
  obtain ⟨hf1, hf2⟩ := hf
  obtain ⟨ht1, ht2⟩ := ht
  by_cases h1 : f < 0 <;> by_cases h2 : t < 0
  all_goals
    go_enter Tryd.func24, Tryd.ntmps24
    go_wp2
    all_goals
      go_ret2
      refine ⟨tup2 ?_ ?_, rfl⟩
      · rw [SA.out]
        (repeat' split) <;> omega
      · rw [SB.out]
        (repeat' split) <;> omega

theorem inRange_any (i n : Nat) (f t : Int) (w : World) (hi : i ≤ 281474976710656) (hn : n ≤ 281474976710656) (hf : -1000000 ≤ f ∧ f ≤ 1000000) (ht : -1000000 ≤ t ∧ t ≤ 1000000) :
    Calls Tryd.prog 30 #[.int .i64 i, .int .i64 n, .int .i64 f, .int .i64 t] w fun e w' => e = .returned (.bool (inR i n f t)) ∧ w = w' := by
  have HE := Lib.hid (show inR i n f t = (decide ((if f < 0 then f + (n : Int) else f) ≤ (i : Int)) && decide ((i : Int) ≤ (if t < 0 then t + (n : Int) else t))) from rfl)
  obtain ⟨hf1, hf2⟩ := hf
  obtain ⟨ht1, ht2⟩ := ht
  by_cases h1 : f < 0 <;> by_cases h2 : t < 0
  all_goals
    go_enter Tryd.func30, Tryd.ntmps30
    go_wp2
    all_goals
      go_ret
      refine ⟨?_, rfl⟩
      rw [HE.out]
      refine congrArg (fun b => Ending.returned (.bool b)) ?_
      rw [Bool.eq_iff_iff]
      simp only [Bool.and_eq_true, decide_eq_true_eq, Bool.false_eq_true, false_iff, not_and]
      (repeat' split) <;> omega

theorem clamped_any (n : Int) (w : World) (hn : -9223372036854775808 ≤ n ∧ n ≤ 9223372036854775807) :
    Calls Tryd.prog 16 #[.int .i64 n] w fun e w' => e = .returned (.int .i64 (clampI n)) ∧ w = w' := by
  have HE := Lib.hid (show clampI n = if 1000 < n then 1000 else if n < -1000 then -1000 else n from rfl)
  obtain ⟨h1, h2⟩ := hn
  go_enter Tryd.func16, Tryd.ntmps16
  go_wp2
  all_goals
    go_ret
    refine ⟨?_, rfl⟩
    rw [HE.out]
    refine congrArg (fun b => Ending.returned (.int .i64 b)) ?_
    (repeat' split) <;> omega

theorem clampI_le (n : Int) : -1000000 ≤ clampI n ∧ clampI n ≤ 1000000 := by unfold clampI; (repeat' split) <;> omega

end Go.Proofs.YtmlmiboihjibiaaDoor
