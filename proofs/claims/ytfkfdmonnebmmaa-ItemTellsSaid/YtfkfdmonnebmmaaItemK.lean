/- The walk of the reference's scoreLess. -/
import Derived.Test.YtfkfdmonnebmmaaItemJ
set_option linter.unusedVariables false
set_option linter.unusedSimpArgs false
namespace Go.Proofs.Ytfkfdmonnebmmaa
open Go.RowKit

/-- the reference's order of scores. -/
def ltR (a b : Int × ByteArray) : Bool := decide (a.1 < b.1) || (a.1 == b.1 && decide (ordB a.2 b.2 < 0))

theorem ltR_eq {a b : Int × ByteArray} : ltR a b = ltC a b := by
  unfold ltR ltC ordC
  by_cases h : a.1 = b.1
  · have h2 : ¬ a.1 < b.1 := by omega
    simp [h]
  · rw [if_neg h, Bool.eq_iff_iff]
    simp [h]
    omega

theorem scoreLess_any (a b : Int × ByteArray) (w : World) (ha : a.2.size ≤ 281474976710656) (hb : b.2.size ≤ 281474976710656) :
    Calls Try.prog 60 #[.agg #[.int .i64 a.1, .string a.2], .agg #[.int .i64 b.1, .string b.2]] w fun e w' => e = .returned (.bool (ltR a b)) ∧ Fr [] w w' := by
  obtain ⟨n, s⟩ := a
  obtain ⟨m, t⟩ := b
  have T := Lib.hid (fun W => textOrder_any s t W ha hb)
  by_cases h : n < m
  · have E := Lib.hid (show ltR (n, s) (m, t) = true by unfold ltR; simp [h])
    go_enter Try.func60, Try.ntmps60
    go_wp2
    go_ret
    rw [E.out]
    exact ⟨rfl, ((Fr.refl [] w).alloc _).alloc _⟩
  · by_cases h2 : n = m
    · subst h2
      have E := Lib.hid (show ltR (n, s) (n, t) = decide (ordB s t < 0) by unfold ltR; simp)
      go_enter Try.func60, Try.ntmps60
      go_wp2_with fail
      refine (T.out _).mono ?_
      rintro e w1 ⟨rfl, k, rfl⟩
      go_wp2
      go_ret
      rw [E.out]
      exact ⟨by simp, (((Fr.refl [] w).alloc _).alloc _).drewN _⟩
    · have E := Lib.hid (show ltR (n, s) (m, t) = false by unfold ltR; simp [h2]; omega)
      have q : (n == m) = false := by simpa using h2
      clear h2
      go_enter Try.func60, Try.ntmps60
      go_wp2
      go_ret
      rw [E.out]
      exact ⟨rfl, ((Fr.refl [] w).alloc _).alloc _⟩
end Go.Proofs.Ytfkfdmonnebmmaa
