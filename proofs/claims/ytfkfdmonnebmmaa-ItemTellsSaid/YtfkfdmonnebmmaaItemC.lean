/- The walks of bare and Many. -/
import Derived.Test.YtfkfdmonnebmmaaItemB
import Derived.Test.YtfkfdmonnebmmaaItemM
import Derived.Test.YtfkfdmonnebmmaaByt
import Derived.Test.YtfkfdmonnebmmaaMem
set_option linter.unusedVariables false
set_option linter.unusedSimpArgs false
namespace Go.Proofs.Ytfkfdmonnebmmaa
open Go.RowKit

theorem many_any (x : Itm) (v : Value) (w : World) (B : Nat) (hs : x.Small) (h : ItemV w B v x) :
    Calls Try.prog 68 #[v] w fun e w' => e = .returned (.int .i64 (many x)) ∧ Fr [] w w' := by
  obtain ⟨A1, c1, A2, c2, A3, c3, rfl, h1, h2, h3⟩ := h
  have s1 := hs.list
  have s2 := hs.pairs
  have s3 := hs.scores
  have hE : ((many x : Nat) : Int) = (x.list.length : Int) + x.pairs.length + x.scores.length := by unfold many; omega
  clear h1 h2 h3
  generalize x.list.length = n1 at *
  generalize x.pairs.length = n2 at *
  generalize x.scores.length = n3 at *
  generalize many x = m at *
  generalize x.kind = k at *
  generalize x.text = t at *
  go_enter Try.func68, Try.ntmps68
  go_wp2
  go_ret
  rw [hE]
  refine ⟨rfl, ?_⟩
  exact (Fr.refl [] w).alloc _

theorem eqNil (t : ByteArray) : (t.toList == ByteArray.toList ⟨#[]⟩) = decide (t.size = 0) := by
  rw [eqB]
  by_cases h : t.size = 0
  · have : t = ⟨#[]⟩ := by
      cases t with
      | mk d => 
        congr 1
        exact Array.eq_empty_of_size_eq_zero h
    subst this
    exact (decide_eq_true rfl).trans (decide_eq_true rfl).symm
  · have : t ≠ ⟨#[]⟩ := fun e => h (by rw [e]; rfl)
    simp [h, this]

set_option maxHeartbeats 800000 in
theorem bare_any (x : Itm) (v : Value) (w : World) (B : Nat) (hs : x.Small) (h : ItemV w B v x) :
    Calls Try.prog 66 #[v] w fun e w' => e = .returned (.bool (bareB x)) ∧ Fr [] w w' := by
  obtain ⟨A1, c1, A2, c2, A3, c3, rfl, h1, h2, h3⟩ := h
  have s1 := hs.list
  have s2 := hs.pairs
  have s3 := hs.scores
  have hT := eqNil x.text
  rw [show ByteArray.toList ⟨#[]⟩ = [] from by decide +kernel] at hT
  have hL : ((x.list.length : Int) == 0) = (x.list.length == 0) := by rw [Bool.eq_iff_iff]; simp
  have hP : ((x.pairs.length : Int) == 0) = (x.pairs.length == 0) := by rw [Bool.eq_iff_iff]; simp
  have hS : ((x.scores.length : Int) == 0) = (x.scores.length == 0) := by rw [Bool.eq_iff_iff]; simp
  have hE : bareB x = ((x.kind == 1 || x.text.size == 0) && (x.kind == 2 || x.kind == 3 || x.list.length == 0) && (x.kind == 4 || x.pairs.length == 0) && (x.kind == 5 || x.scores.length == 0)) := rfl
  clear h1 h2 h3 hs
  generalize (x.list.length == 0) = bL at *
  generalize (x.pairs.length == 0) = bP at *
  generalize (x.scores.length == 0) = bS at *
  rw [show (x.text.size == 0) = decide (x.text.size = 0) from rfl] at hE
  generalize decide (x.text.size = 0) = bT at *
  generalize x.list.length = n1 at *
  generalize x.pairs.length = n2 at *
  generalize x.scores.length = n3 at *
  generalize bareB x = r at *
  generalize x.kind = k at *
  generalize x.text = t at *
  by_cases k1 : k = 1
  · subst k1
    cases bL
    · have HE := Lib.hid hE
      clear hE
      go_enter Try.func66, Try.ntmps66
      go_wp2
      go_ret
      rw [HE.out]
      exact ⟨by simp [hT], (Fr.refl [] w).alloc _⟩
    · cases bP
      · have HE := Lib.hid hE
        clear hE
        go_enter Try.func66, Try.ntmps66
        go_wp2
        go_ret
        rw [HE.out]
        exact ⟨by simp [hT], (Fr.refl [] w).alloc _⟩
      · cases bS
        · have HE := Lib.hid hE
          clear hE
          go_enter Try.func66, Try.ntmps66
          go_wp2
          go_ret
          rw [HE.out]
          exact ⟨by simp [hT], (Fr.refl [] w).alloc _⟩
        · have HE := Lib.hid hE
          clear hE
          go_enter Try.func66, Try.ntmps66
          go_wp2
          go_ret
          rw [HE.out]
          exact ⟨by simp [hT], (Fr.refl [] w).alloc _⟩
  by_cases k2 : k = 2
  · subst k2
    cases bT
    · have HE := Lib.hid hE
      clear hE
      go_enter Try.func66, Try.ntmps66
      go_wp2
      go_ret
      rw [HE.out]
      exact ⟨by simp [hT], (Fr.refl [] w).alloc _⟩
    · cases bP
      · have HE := Lib.hid hE
        clear hE
        go_enter Try.func66, Try.ntmps66
        go_wp2
        go_ret
        rw [HE.out]
        exact ⟨by simp [hT], (Fr.refl [] w).alloc _⟩
      · cases bS
        · have HE := Lib.hid hE
          clear hE
          go_enter Try.func66, Try.ntmps66
          go_wp2
          go_ret
          rw [HE.out]
          exact ⟨by simp [hT], (Fr.refl [] w).alloc _⟩
        · have HE := Lib.hid hE
          clear hE
          go_enter Try.func66, Try.ntmps66
          go_wp2
          go_ret
          rw [HE.out]
          exact ⟨by simp [hT], (Fr.refl [] w).alloc _⟩
  by_cases k3 : k = 3
  · subst k3
    cases bT
    · have HE := Lib.hid hE
      clear hE
      go_enter Try.func66, Try.ntmps66
      go_wp2
      go_ret
      rw [HE.out]
      exact ⟨by simp [hT], (Fr.refl [] w).alloc _⟩
    · cases bP
      · have HE := Lib.hid hE
        clear hE
        go_enter Try.func66, Try.ntmps66
        go_wp2
        go_ret
        rw [HE.out]
        exact ⟨by simp [hT], (Fr.refl [] w).alloc _⟩
      · cases bS
        · have HE := Lib.hid hE
          clear hE
          go_enter Try.func66, Try.ntmps66
          go_wp2
          go_ret
          rw [HE.out]
          exact ⟨by simp [hT], (Fr.refl [] w).alloc _⟩
        · have HE := Lib.hid hE
          clear hE
          go_enter Try.func66, Try.ntmps66
          go_wp2
          go_ret
          rw [HE.out]
          exact ⟨by simp [hT], (Fr.refl [] w).alloc _⟩
  by_cases k4 : k = 4
  · subst k4
    cases bT
    · have HE := Lib.hid hE
      clear hE
      go_enter Try.func66, Try.ntmps66
      go_wp2
      go_ret
      rw [HE.out]
      exact ⟨by simp [hT], (Fr.refl [] w).alloc _⟩
    · cases bL
      · have HE := Lib.hid hE
        clear hE
        go_enter Try.func66, Try.ntmps66
        go_wp2
        go_ret
        rw [HE.out]
        exact ⟨by simp [hT], (Fr.refl [] w).alloc _⟩
      · cases bS
        · have HE := Lib.hid hE
          clear hE
          go_enter Try.func66, Try.ntmps66
          go_wp2
          go_ret
          rw [HE.out]
          exact ⟨by simp [hT], (Fr.refl [] w).alloc _⟩
        · have HE := Lib.hid hE
          clear hE
          go_enter Try.func66, Try.ntmps66
          go_wp2
          go_ret
          rw [HE.out]
          exact ⟨by simp [hT], (Fr.refl [] w).alloc _⟩
  by_cases k5 : k = 5
  · subst k5
    cases bT
    · have HE := Lib.hid hE
      clear hE
      go_enter Try.func66, Try.ntmps66
      go_wp2
      go_ret
      rw [HE.out]
      exact ⟨by simp [hT], (Fr.refl [] w).alloc _⟩
    · cases bL
      · have HE := Lib.hid hE
        clear hE
        go_enter Try.func66, Try.ntmps66
        go_wp2
        go_ret
        rw [HE.out]
        exact ⟨by simp [hT], (Fr.refl [] w).alloc _⟩
      · cases bP
        · have HE := Lib.hid hE
          clear hE
          go_enter Try.func66, Try.ntmps66
          go_wp2
          go_ret
          rw [HE.out]
          exact ⟨by simp [hT], (Fr.refl [] w).alloc _⟩
        · have HE := Lib.hid hE
          clear hE
          go_enter Try.func66, Try.ntmps66
          go_wp2
          go_ret
          rw [HE.out]
          exact ⟨by simp [hT], (Fr.refl [] w).alloc _⟩
  have q1 : (k == 1) = false := by simpa using k1
  have q2 : (k == 2) = false := by simpa using k2
  have q3 : (k == 3) = false := by simpa using k3
  have q4 : (k == 4) = false := by simpa using k4
  have q5 : (k == 5) = false := by simpa using k5
  cases bT
  · have HE := Lib.hid hE
    clear hE
    go_enter Try.func66, Try.ntmps66
    go_wp2
    go_ret
    rw [HE.out]
    exact ⟨by simp [hT, q1, q2, q3, q4, q5], (Fr.refl [] w).alloc _⟩
  · cases bL
    · have HE := Lib.hid hE
      clear hE
      go_enter Try.func66, Try.ntmps66
      go_wp2
      go_ret
      rw [HE.out]
      exact ⟨by simp [hT, q1, q2, q3, q4, q5], (Fr.refl [] w).alloc _⟩
    · cases bP
      · have HE := Lib.hid hE
        clear hE
        go_enter Try.func66, Try.ntmps66
        go_wp2
        go_ret
        rw [HE.out]
        exact ⟨by simp [hT, q1, q2, q3, q4, q5], (Fr.refl [] w).alloc _⟩
      · cases bS
        · have HE := Lib.hid hE
          clear hE
          go_enter Try.func66, Try.ntmps66
          go_wp2
          go_ret
          rw [HE.out]
          exact ⟨by simp [hT, q1, q2, q3, q4, q5], (Fr.refl [] w).alloc _⟩
        · have HE := Lib.hid hE
          clear hE
          go_enter Try.func66, Try.ntmps66
          go_wp2
          go_ret
          rw [HE.out]
          exact ⟨by simp [hT, q1, q2, q3, q4, q5], (Fr.refl [] w).alloc _⟩
end Go.Proofs.Ytfkfdmonnebmmaa
