/- The walks of reply.bare, one and Check. -/
import Derived.Test.YtoabjcnacnojbaaDoorReB
set_option linter.unusedVariables false
set_option linter.unusedSimpArgs false
namespace Go.Proofs.YtoabjcnacnojbaaDoor
open Go.RowKit

def txtB (x : Rp1) : Bool := decide (x.kind = 1 ∨ x.kind = 4 ∨ x.text.size = 0)
def numB (x : Rp1) : Bool := decide (x.kind = 2 ∨ x.kind = 3 ∨ x.n = 0)
def bareR (x : Rp1) : Bool := txtB x && numB x && decide (x.kind = 6 ∨ x.sub = 0)
set_option maxHeartbeats 4000000 in
set_option maxRecDepth 100000 in
theorem rBare_any (x : Rp1) (A : Option Addr) (c : Nat) (w : World) (hs : x.sub ≤ 281474976710656) : Calls Tryd.prog 19 #[.agg #[.int .i64 x.kind, .string x.text, .int .i64 x.n, .slice A x.sub c]] w fun e w' => e = .returned (.bool (bareR x)) ∧ Fr [] w w' := by
  have F1 := Lib.hid ((Fr.refl [] w).alloc (.cells #[.int .i64 x.kind, .string x.text, .int .i64 x.n, .slice A x.sub c] 24))
  obtain ⟨q0, q0'⟩ := emptyT x.text
  have E : bareR x = (txtB x && numB x && decide (x.kind = 6 ∨ x.sub = 0)) := rfl
  have hT : txtB x = decide (x.kind = 1 ∨ x.kind = 4 ∨ x.text.size = 0) := rfl
  have hN : numB x = decide (x.kind = 2 ∨ x.kind = 3 ∨ x.n = 0) := rfl
  obtain ⟨k, t, n, m⟩ := x
  simp only at *
  rw [E, hT, hN]
  have hk : k = 1 ∨ k = 4 ∨ k = 2 ∨ k = 3 ∨ k = 6 ∨ (¬ k = 1 ∧ ¬ k = 4 ∧ ¬ k = 2 ∧ ¬ k = 3 ∧ ¬ k = 6) := by omega
  clear E hT hN
  rcases hk with rfl | rfl | rfl | rfl | rfl | ⟨h1, h4, h2, h3, h6⟩
  · -- a text
    by_cases hn : n = 0
    · subst hn
      by_cases hm : m = 0
      · subst hm
        go_enter Tryd.func19, Tryd.ntmps19
        go_wp2
        go_ret
        exact ⟨by simp, F1.out⟩
      · have qm : ((m : Int) == 0) = false := beq_eq_false_iff_ne.2 (by omega)
        go_enter Tryd.func19, Tryd.ntmps19
        go_wp2
        go_ret
        exact ⟨by simp [hm], F1.out⟩
    · have qn : (n == 0) = false := beq_eq_false_iff_ne.2 hn
      go_enter Tryd.func19, Tryd.ntmps19
      go_wp2
      go_ret
      exact ⟨by simp [hn], F1.out⟩
  · by_cases hn : n = 0
    · subst hn
      by_cases hm : m = 0
      · subst hm
        go_enter Tryd.func19, Tryd.ntmps19
        go_wp2
        go_ret
        exact ⟨by simp, F1.out⟩
      · have qm : ((m : Int) == 0) = false := beq_eq_false_iff_ne.2 (by omega)
        go_enter Tryd.func19, Tryd.ntmps19
        go_wp2
        go_ret
        exact ⟨by simp [hm], F1.out⟩
    · have qn : (n == 0) = false := beq_eq_false_iff_ne.2 hn
      go_enter Tryd.func19, Tryd.ntmps19
      go_wp2
      go_ret
      exact ⟨by simp [hn], F1.out⟩
  · by_cases ht : t.size = 0
    · rw [decide_eq_true ht] at q0 q0'
      by_cases hm : m = 0
      · subst hm
        have HT := Lib.hid ht
        clear ht
        go_enter Tryd.func19, Tryd.ntmps19
        go_wp2
        go_ret
        exact ⟨by simp [HT.out], F1.out⟩
      · have qm : ((m : Int) == 0) = false := beq_eq_false_iff_ne.2 (by omega)
        have HT := Lib.hid ht
        clear ht
        go_enter Tryd.func19, Tryd.ntmps19
        go_wp2
        go_ret
        exact ⟨by simp [hm, HT.out], F1.out⟩
    · rw [decide_eq_false ht] at q0 q0'
      have HT := Lib.hid ht
      clear ht
      go_enter Tryd.func19, Tryd.ntmps19
      go_wp2
      go_ret
      exact ⟨by simp [HT.out], F1.out⟩
  · by_cases ht : t.size = 0
    · rw [decide_eq_true ht] at q0 q0'
      by_cases hm : m = 0
      · subst hm
        have HT := Lib.hid ht
        clear ht
        go_enter Tryd.func19, Tryd.ntmps19
        go_wp2
        go_ret
        exact ⟨by simp [HT.out], F1.out⟩
      · have qm : ((m : Int) == 0) = false := beq_eq_false_iff_ne.2 (by omega)
        have HT := Lib.hid ht
        clear ht
        go_enter Tryd.func19, Tryd.ntmps19
        go_wp2
        go_ret
        exact ⟨by simp [hm, HT.out], F1.out⟩
    · rw [decide_eq_false ht] at q0 q0'
      have HT := Lib.hid ht
      clear ht
      go_enter Tryd.func19, Tryd.ntmps19
      go_wp2
      go_ret
      exact ⟨by simp [HT.out], F1.out⟩
  · by_cases ht : t.size = 0
    · rw [decide_eq_true ht] at q0 q0'
      have HT := Lib.hid ht
      clear ht
      by_cases hn : n = 0
      · subst hn
        go_enter Tryd.func19, Tryd.ntmps19
        go_wp2
        go_ret
        exact ⟨by simp [HT.out], F1.out⟩
      · have qn : (n == 0) = false := beq_eq_false_iff_ne.2 hn
        go_enter Tryd.func19, Tryd.ntmps19
        go_wp2
        go_ret
        exact ⟨by simp [hn, HT.out], F1.out⟩
    · rw [decide_eq_false ht] at q0 q0'
      have HT := Lib.hid ht
      clear ht
      go_enter Tryd.func19, Tryd.ntmps19
      go_wp2
      go_ret
      exact ⟨by simp [HT.out], F1.out⟩
  · have k1 : (k == 1) = false := beq_eq_false_iff_ne.2 h1
    have k2 : (k == 2) = false := beq_eq_false_iff_ne.2 h2
    have k3 : (k == 3) = false := beq_eq_false_iff_ne.2 h3
    have k4 : (k == 4) = false := beq_eq_false_iff_ne.2 h4
    have k6 : (k == 6) = false := beq_eq_false_iff_ne.2 h6
    by_cases ht : t.size = 0
    · rw [decide_eq_true ht] at q0 q0'
      have HT := Lib.hid ht
      clear ht
      by_cases hn : n = 0
      · subst hn
        by_cases hm : m = 0
        · subst hm
          go_enter Tryd.func19, Tryd.ntmps19
          go_wp2
          go_ret
          exact ⟨by simp [HT.out], F1.out⟩
        · have qm : ((m : Int) == 0) = false := beq_eq_false_iff_ne.2 (by omega)
          go_enter Tryd.func19, Tryd.ntmps19
          go_wp2
          go_ret
          exact ⟨by simp [hm, h6, HT.out], F1.out⟩
      · have qn : (n == 0) = false := beq_eq_false_iff_ne.2 hn
        go_enter Tryd.func19, Tryd.ntmps19
        go_wp2
        go_ret
        exact ⟨by simp [hn, h2, h3, HT.out], F1.out⟩
    · rw [decide_eq_false ht] at q0 q0'
      have HT := Lib.hid ht
      clear ht
      go_enter Tryd.func19, Tryd.ntmps19
      go_wp2
      go_ret
      exact ⟨by simp [h1, h4, HT.out], F1.out⟩
end Go.Proofs.YtoabjcnacnojbaaDoor
