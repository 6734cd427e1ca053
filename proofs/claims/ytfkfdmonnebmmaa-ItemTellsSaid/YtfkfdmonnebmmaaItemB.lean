/- The walks of small functions that only read: the order of texts; bounds. -/
import Derived.Test.YtfkfdmonnebmmaaProg
import Derived.Test.YtfkfdmonnebmmaaItemA
import Derived.Test.YtfkfdmonnebmmaaByt
import Derived.Laws.AppendOwn
import Derived.Maps.AppendAt
import Derived.Deep.LoopGhost
import Derived.Deep.DeepCutAuto
import Derived.IntWalk
set_option linter.unusedVariables false
set_option linter.unusedSimpArgs false
namespace Go.Proofs.Ytfkfdmonnebmmaa
open Go.RowKit
attribute [local go_sem] byteAt_eq

theorem between_any (n a b : Int) (w : World) : Calls Try.prog 57 #[.int .i64 n, .int .i64 a, .int .i64 b] w fun e w' => e = .returned (.bool (decide (a ≤ n) && decide (n ≤ b))) ∧ w' = w := by
  by_cases h : a ≤ n
  · go_enter Try.func57, Try.ntmps57
    go_wp2
    go_ret
    simp [h]
  · go_enter Try.func57, Try.ntmps57
    go_wp2
    go_ret
    simp [h]
    try omega

theorem within_any (n a b : Int) (w : World) : Calls Try.prog 55 #[.int .i64 n, .int .i64 a, .int .i64 b] w fun e w' => e = .returned (.bool (decide (a ≤ n) && decide (n ≤ b))) ∧ w' = w := by
  by_cases h : a ≤ n
  · go_enter Try.func55, Try.ntmps55
    go_wp2
    go_ret
    simp [h]
  · go_enter Try.func55, Try.ntmps55
    go_wp2
    go_ret
    simp [h]
    try omega

theorem refInt_any (n : Int) (w : World) : Calls Try.prog 59 #[.int .i64 n] w fun e w' => e = .returned (.bool (isInt n)) ∧ w' = w := by
  go_enter Try.func59, Try.ntmps59
  go_wp2_with fail
  refine (between_any _ _ _ _).mono ?_
  rintro e w1 ⟨rfl, rfl⟩
  go_wp2
  go_ret
  exact ⟨rfl, rfl⟩

theorem itemInt_any (n : Int) (w : World) : Calls Try.prog 114 #[.int .i64 n] w fun e w' => e = .returned (.bool (isInt n)) ∧ w' = w := by
  go_enter Try.func114, Try.ntmps114
  go_wp2_with fail
  refine (within_any _ _ _ _).mono ?_
  rintro e w1 ⟨rfl, rfl⟩
  go_wp2
  go_ret
  exact ⟨rfl, rfl⟩

theorem long_any (s : ByteArray) (w : World) : Calls Try.prog 67 #[.string s] w fun e w' => e = .returned (.bool (decide (60 < s.size))) ∧ w' = w := by
  have hi : (60 < (s.size : Int)) ↔ 60 < s.size := by omega
  go_enter Try.func67, Try.ntmps67
  go_wp2
  go_ret
  simp [hi]

set_option maxRecDepth 100000 in
theorem cmpString_any (a b : ByteArray) (w : World) : Calls Try.prog 113 #[.string a, .string b] w fun e w' => e = .returned (.int .i64 (ordB a b)) ∧ w' = w := by
  go_enter Try.func113, Try.ntmps113
  go_wp2
  rw [run_callFunc_extern Try.func130 (by kernel_rfl) (by kernel_rfl) (by kernel_rfl) (e := Extern.BytealgCompare.compare) (by kernel_rfl), Lib.run_compareString]
  simp only [Result.andThen]
  rw [Oper.upon_value]
  go_wp2
  go_ret
  exact ⟨rfl, rfl⟩

theorem compare_any (a b : ByteArray) (w : World) : Calls Try.prog 71 #[.string a, .string b] w fun e w' => e = .returned (.int .i64 (ordB a b)) ∧ w' = w := by
  go_enter Try.func71, Try.ntmps71
  go_wp2_with fail
  refine (cmpString_any _ _ _).mono ?_
  rintro e w1 ⟨rfl, rfl⟩
  go_wp2
  go_ret
  exact ⟨rfl, rfl⟩

set_option maxHeartbeats 400000 in
theorem textOrder_any (a b : ByteArray) (w : World) (ha : a.size ≤ 281474976710656) (hb : b.size ≤ 281474976710656) :
    Calls Try.prog 58 #[.string a, .string b] w fun e w' => e = .returned (.int .i64 (ordB a b)) ∧ ∃ n, w' = w.drewN n := by
  go_enter Try.func58, Try.ntmps58
  go_wp2
  go_loopg [5] a.size (fun g i wr => ∃ (k n : Nat), g = a.size - k ∧ k ≤ a.size ∧ k ≤ b.size ∧ i = .int .i64 k ∧ ordAt a b k = ordB a b ∧ wr = w.drewN n)
  case atStart => exact ⟨0, 0, rfl, Nat.zero_le _, Nat.zero_le _, rfl, ordAt_zero a b, rfl⟩
  case round =>
    obtain ⟨k, n, rfl, hka, hkb, rfl, hR, rfl⟩ := hrel
    by_cases h : k < a.size ∧ k < b.size
    · obtain ⟨h1, h2⟩ := h
      rw [ordAt_step a b k h1 h2] at hR
      by_cases c1 : byteAt a k < byteAt b k
      · rw [if_pos c1] at hR
        have HR := Lib.hid hR
        clear hR
        go_wp2
        go_quiet (fail)
        go_wp2
        go_ret
        rw [← HR.out]
        exact ⟨rfl, _, World.drewN_drewN _ _ _⟩
      · rw [if_neg c1] at hR
        by_cases c2 : byteAt b k < byteAt a k
        · rw [if_pos c2] at hR
          have HR := Lib.hid hR
          clear hR
          go_wp2
          go_quiet (fail)
          go_wp2
          go_quiet (fail)
          go_wp2
          go_ret
          rw [← HR.out]
          exact ⟨rfl, _, (World.drewN_drewN _ _ _).trans (by rw [World.drewN_drewN])⟩
        · rw [if_neg c2] at hR
          have HR := Lib.hid hR
          clear hR
          go_wp2
          go_quiet (fail)
          go_wp2
          go_quiet (fail)
          go_wp2
          go_roundg (a.size - (k + 1))
          case measure => omega
          case rel => exact ⟨k + 1, _, rfl, by omega, by omega, rfl, HR.out, rfl⟩
    · rw [ordAt_end a b k hka hkb h] at hR
      have hab : a.size < b.size ∨ b.size < a.size ∨ a.size = b.size := by omega
      have hk : ¬ k < a.size ∨ (k < a.size ∧ ¬ k < b.size) := by omega
      rcases hab with hab | hab | hab
      · rw [if_pos hab] at hR
        have HR := Lib.hid hR
        clear hR h
        rcases hk with hk | ⟨hk, hk2⟩
        · go_wp2
          go_ret
          rw [← HR.out]
          exact ⟨rfl, _, rfl⟩
        · omega
      · rw [if_neg (by omega), if_pos hab] at hR
        have HR := Lib.hid hR
        clear hR h
        rcases hk with hk | ⟨hk, hk2⟩
        · omega
        · go_wp2
          go_ret
          rw [← HR.out]
          exact ⟨rfl, _, rfl⟩
      · rw [if_neg (by omega), if_neg (by omega)] at hR
        have HR := Lib.hid hR
        clear hR h
        rcases hk with hk | ⟨hk, hk2⟩
        · go_wp2
          go_ret
          rw [← HR.out]
          exact ⟨rfl, _, rfl⟩
        · omega
end Go.Proofs.Ytfkfdmonnebmmaa
