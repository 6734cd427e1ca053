/- The walk of the reference's CheckItem, first: where its form tells. (Printed by refcheck.py.) -/
import Derived.Test.YtfkfdmonnebmmaaItemP
set_option linter.unusedVariables false
set_option linter.unusedSimpArgs false
namespace Go.Proofs.Ytfkfdmonnebmmaa
open Go.RowKit

theorem nilOf {t : ByteArray} (h : t.size = 0) : t = ⟨#[]⟩ := by
  cases t with
  | mk d =>
    congr 1
    exact Array.eq_empty_of_size_eq_zero h
theorem neNil {t : ByteArray} (h : ¬ t.size = 0) : (t.toList != []) = true ∧ t.toList.isEmpty = false := by
  have := eqNil t
  rw [show ByteArray.toList ⟨#[]⟩ = [] from by decide +kernel, decide_eq_false h] at this
  have h2 : t.toList ≠ [] := by simpa using this
  exact ⟨by simpa using h2, by simpa using h2⟩

set_option maxHeartbeats 2000000 in
set_option maxRecDepth 100000 in
theorem refCheck_form (k : Int) (t : ByteArray) (A1 A2 A3 : Option Addr) (n1 c1 n2 c2 n3 c3 : Nat) (w : World) (s1 : n1 ≤ 281474976710656) (s2 : n2 ≤ 281474976710656) (s3 : n3 ≤ 281474976710656)
    (h : ((k == 1 || t.size == 0) && (k == 2 || k == 3 || n1 == 0) && (k == 4 || n2 == 0) && (k == 5 || n3 == 0)) = false) (hk : 1 ≤ k ∧ k ≤ 5) :
    Calls Try.prog 19 #[.agg #[.int .i64 k, .string t, .slice A1 n1 c1, .slice A2 n2 c2, .slice A3 n3 c3]] w fun e w' => e = .returned (.int .i64 1) ∧ Fr [] w w' := by
  have q1 : (decide (1 ≤ k) && decide (k ≤ 5)) = true := by simp [hk]
  have I := Lib.hid (fun W => between_any k 1 5 W)
  rw [q1] at I
  have hk5 : k = 1 ∨ k = 2 ∨ k = 3 ∨ k = 4 ∨ k = 5 := by omega
  clear hk q1
  rcases hk5 with rfl | rfl | rfl | rfl | rfl
  · by_cases zL : n1 = 0
    · skip
      have yL : ¬ 0 < n1 := by omega
      by_cases zP : n2 = 0
      · skip
        have yP : ¬ 0 < n2 := by omega
        have zS : ¬ n3 = 0 := by
          intro e
          simp [*] at h
        have yS : 0 < n3 := by omega
        clear h
        go_enter Try.func19, Try.ntmps19
        go_wp2_with fail
        refine (I.out _).mono ?_
        rintro e w1 ⟨rfl, rfl⟩
        go_wp2
        go_ret
        exact ⟨rfl, (Fr.refl [] w).alloc _⟩
      · skip
        have yP : 0 < n2 := by omega
        clear h
        go_enter Try.func19, Try.ntmps19
        go_wp2_with fail
        refine (I.out _).mono ?_
        rintro e w1 ⟨rfl, rfl⟩
        go_wp2
        go_ret
        exact ⟨rfl, (Fr.refl [] w).alloc _⟩
    · skip
      have yL : 0 < n1 := by omega
      clear h
      go_enter Try.func19, Try.ntmps19
      go_wp2_with fail
      refine (I.out _).mono ?_
      rintro e w1 ⟨rfl, rfl⟩
      go_wp2
      go_ret
      exact ⟨rfl, (Fr.refl [] w).alloc _⟩
  · by_cases zT : t.size = 0
    · skip
      obtain rfl := nilOf zT
      by_cases zP : n2 = 0
      · skip
        have yP : ¬ 0 < n2 := by omega
        have zS : ¬ n3 = 0 := by
          intro e
          simp [*] at h
        have yS : 0 < n3 := by omega
        clear h
        go_enter Try.func19, Try.ntmps19
        go_wp2_with fail
        refine (I.out _).mono ?_
        rintro e w1 ⟨rfl, rfl⟩
        go_wp2
        go_ret
        exact ⟨rfl, (Fr.refl [] w).alloc _⟩
      · skip
        have yP : 0 < n2 := by omega
        clear h
        go_enter Try.func19, Try.ntmps19
        go_wp2_with fail
        refine (I.out _).mono ?_
        rintro e w1 ⟨rfl, rfl⟩
        go_wp2
        go_ret
        exact ⟨rfl, (Fr.refl [] w).alloc _⟩
    · skip
      obtain ⟨yT1, yT2⟩ := neNil zT
      clear zT
      clear h
      go_enter Try.func19, Try.ntmps19
      go_wp2_with fail
      refine (I.out _).mono ?_
      rintro e w1 ⟨rfl, rfl⟩
      go_wp2
      go_ret
      exact ⟨rfl, (Fr.refl [] w).alloc _⟩
  · by_cases zT : t.size = 0
    · skip
      obtain rfl := nilOf zT
      by_cases zP : n2 = 0
      · skip
        have yP : ¬ 0 < n2 := by omega
        have zS : ¬ n3 = 0 := by
          intro e
          simp [*] at h
        have yS : 0 < n3 := by omega
        clear h
        go_enter Try.func19, Try.ntmps19
        go_wp2_with fail
        refine (I.out _).mono ?_
        rintro e w1 ⟨rfl, rfl⟩
        go_wp2
        go_ret
        exact ⟨rfl, (Fr.refl [] w).alloc _⟩
      · skip
        have yP : 0 < n2 := by omega
        clear h
        go_enter Try.func19, Try.ntmps19
        go_wp2_with fail
        refine (I.out _).mono ?_
        rintro e w1 ⟨rfl, rfl⟩
        go_wp2
        go_ret
        exact ⟨rfl, (Fr.refl [] w).alloc _⟩
    · skip
      obtain ⟨yT1, yT2⟩ := neNil zT
      clear zT
      clear h
      go_enter Try.func19, Try.ntmps19
      go_wp2_with fail
      refine (I.out _).mono ?_
      rintro e w1 ⟨rfl, rfl⟩
      go_wp2
      go_ret
      exact ⟨rfl, (Fr.refl [] w).alloc _⟩
  · by_cases zT : t.size = 0
    · skip
      obtain rfl := nilOf zT
      by_cases zL : n1 = 0
      · skip
        have yL : ¬ 0 < n1 := by omega
        have zS : ¬ n3 = 0 := by
          intro e
          simp [*] at h
        have yS : 0 < n3 := by omega
        clear h
        go_enter Try.func19, Try.ntmps19
        go_wp2_with fail
        refine (I.out _).mono ?_
        rintro e w1 ⟨rfl, rfl⟩
        go_wp2
        go_ret
        exact ⟨rfl, (Fr.refl [] w).alloc _⟩
      · skip
        have yL : 0 < n1 := by omega
        clear h
        go_enter Try.func19, Try.ntmps19
        go_wp2_with fail
        refine (I.out _).mono ?_
        rintro e w1 ⟨rfl, rfl⟩
        go_wp2
        go_ret
        exact ⟨rfl, (Fr.refl [] w).alloc _⟩
    · skip
      obtain ⟨yT1, yT2⟩ := neNil zT
      clear zT
      clear h
      go_enter Try.func19, Try.ntmps19
      go_wp2_with fail
      refine (I.out _).mono ?_
      rintro e w1 ⟨rfl, rfl⟩
      go_wp2
      go_ret
      exact ⟨rfl, (Fr.refl [] w).alloc _⟩
  · by_cases zT : t.size = 0
    · skip
      obtain rfl := nilOf zT
      by_cases zL : n1 = 0
      · skip
        have yL : ¬ 0 < n1 := by omega
        have zP : ¬ n2 = 0 := by
          intro e
          simp [*] at h
        have yP : 0 < n2 := by omega
        clear h
        go_enter Try.func19, Try.ntmps19
        go_wp2_with fail
        refine (I.out _).mono ?_
        rintro e w1 ⟨rfl, rfl⟩
        go_wp2
        go_ret
        exact ⟨rfl, (Fr.refl [] w).alloc _⟩
      · skip
        have yL : 0 < n1 := by omega
        clear h
        go_enter Try.func19, Try.ntmps19
        go_wp2_with fail
        refine (I.out _).mono ?_
        rintro e w1 ⟨rfl, rfl⟩
        go_wp2
        go_ret
        exact ⟨rfl, (Fr.refl [] w).alloc _⟩
    · skip
      obtain ⟨yT1, yT2⟩ := neNil zT
      clear zT
      clear h
      go_enter Try.func19, Try.ntmps19
      go_wp2_with fail
      refine (I.out _).mono ?_
      rintro e w1 ⟨rfl, rfl⟩
      go_wp2
      go_ret
      exact ⟨rfl, (Fr.refl [] w).alloc _⟩
end Go.Proofs.Ytfkfdmonnebmmaa
