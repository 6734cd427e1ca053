/- The walks of small functions that only read: the order of texts; bounds. The walks of bare and Many. The walks of slices.IndexFunc and ContainsFunc at an item's rows, and of long. The walks of slices.ContainsFunc at an item's rows, and of the program's long. The walks of the program's rising, at texts. The walks of the orders of pairs and scores. -/
import Derived.Test.YtkgbgmfidkimfaaGreatProg
import Derived.Test.YtkgbgmfidkimfaaGreatBase
import Derived.Laws.AppendOwn
import Derived.Maps.AppendAt
import Derived.Deep.LoopGhost
import Derived.Deep.DeepCutAuto
import Derived.IntWalk
set_option linter.unusedVariables false
set_option linter.unusedSimpArgs false
namespace Go.Proofs.YtkgbgmfidkimfaaGreat
open Go.RowKit
attribute [local go_sem] byteAt_eq

theorem between_any (n a b : Int) (w : World) : Calls Tryz.prog 130 #[.int .i64 n, .int .i64 a, .int .i64 b] w fun e w' => e = .returned (.bool (decide (a ≤ n) && decide (n ≤ b))) ∧ w' = w := by
  by_cases h : a ≤ n
  · go_enter Tryz.func130, Tryz.ntmps130
    go_wp2
    go_ret
    simp [h]
  · go_enter Tryz.func130, Tryz.ntmps130
    go_wp2
    go_ret
    simp [h]
    try omega

theorem within_any (n a b : Int) (w : World) : Calls Tryz.prog 86 #[.int .i64 n, .int .i64 a, .int .i64 b] w fun e w' => e = .returned (.bool (decide (a ≤ n) && decide (n ≤ b))) ∧ w' = w := by
  by_cases h : a ≤ n
  · go_enter Tryz.func86, Tryz.ntmps86
    go_wp2
    go_ret
    simp [h]
  · go_enter Tryz.func86, Tryz.ntmps86
    go_wp2
    go_ret
    simp [h]
    try omega

theorem refInt_any (n : Int) (w : World) : Calls Tryz.prog 132 #[.int .i64 n] w fun e w' => e = .returned (.bool (isInt n)) ∧ w' = w := by
  go_enter Tryz.func132, Tryz.ntmps132
  go_wp2_with fail
  refine (between_any _ _ _ _).mono ?_
  rintro e w1 ⟨rfl, rfl⟩
  go_wp2
  go_ret
  exact ⟨rfl, rfl⟩

theorem itemInt_any (n : Int) (w : World) : Calls Tryz.prog 113 #[.int .i64 n] w fun e w' => e = .returned (.bool (isInt n)) ∧ w' = w := by
  go_enter Tryz.func113, Tryz.ntmps113
  go_wp2_with fail
  refine (within_any _ _ _ _).mono ?_
  rintro e w1 ⟨rfl, rfl⟩
  go_wp2
  go_ret
  exact ⟨rfl, rfl⟩

theorem long_any (s : ByteArray) (w : World) : Calls Tryz.prog 63 #[.string s] w fun e w' => e = .returned (.bool (decide (60 < s.size))) ∧ w' = w := by
  have hi : (60 < (s.size : Int)) ↔ 60 < s.size := by omega
  go_enter Tryz.func63, Tryz.ntmps63
  go_wp2
  go_ret
  simp [hi]

set_option maxRecDepth 100000 in
theorem cmpString_any (a b : ByteArray) (w : World) : Calls Tryz.prog 127 #[.string a, .string b] w fun e w' => e = .returned (.int .i64 (ordB a b)) ∧ w' = w := by
  go_enter Tryz.func127, Tryz.ntmps127
  go_wp2
  rw [run_callFunc_extern Tryz.func140 (by kernel_rfl) (by kernel_rfl) (by kernel_rfl) (e := Extern.BytealgCompare.compare) (by kernel_rfl), Lib.run_compareString]
  simp only [Result.andThen]
  rw [Oper.upon_value]
  go_wp2
  go_ret
  exact ⟨rfl, rfl⟩

theorem compare_any (a b : ByteArray) (w : World) : Calls Tryz.prog 92 #[.string a, .string b] w fun e w' => e = .returned (.int .i64 (ordB a b)) ∧ w' = w := by
  go_enter Tryz.func92, Tryz.ntmps92
  go_wp2_with fail
  refine (cmpString_any _ _ _).mono ?_
  rintro e w1 ⟨rfl, rfl⟩
  go_wp2
  go_ret
  exact ⟨rfl, rfl⟩

set_option maxHeartbeats 400000 in
theorem textOrder_any (a b : ByteArray) (w : World) (ha : a.size ≤ 281474976710656) (hb : b.size ≤ 281474976710656) :
    Calls Tryz.prog 131 #[.string a, .string b] w fun e w' => e = .returned (.int .i64 (ordB a b)) ∧ ∃ n, w' = w.drewN n := by
  go_enter Tryz.func131, Tryz.ntmps131
  go_wp2
  go_loopg [5] a.size (fun g i wr => ∃ (k n : Nat), g = a.size - k ∧ k ≤ a.size ∧ k ≤ b.size ∧ i = .int .i64 k ∧ ordAt a b k = ordB a b ∧ wr = w.drewN n)
  case atStart => exact ⟨0, 0, rfl, Nat.zero_le _, Nat.zero_le _, rfl, ordAt_zero a b, rfl⟩
  case round =>
    obtain ⟨k, n, rfl, hka, hkb, rfl, hR, rfl⟩ := hrel
    by_cases h : k < a.size ∧ k < b.size
    · obtain ⟨h1, h2⟩ := h
      rw [ordAt_step a b k h1 h2] at hR
      by_cases c1 : byteAt a k < byteAt b k
      · rw [if_pos c1] at hR
        have HR := Lib.hid hR
        clear hR
        go_wp2
        go_quiet (fail)
        go_wp2
        go_ret
        rw [← HR.out]
        exact ⟨rfl, _, World.drewN_drewN _ _ _⟩
      · rw [if_neg c1] at hR
        by_cases c2 : byteAt b k < byteAt a k
        · rw [if_pos c2] at hR
          have HR := Lib.hid hR
          clear hR
          go_wp2
          go_quiet (fail)
          go_wp2
          go_quiet (fail)
          go_wp2
          go_ret
          rw [← HR.out]
          exact ⟨rfl, _, (World.drewN_drewN _ _ _).trans (by rw [World.drewN_drewN])⟩
        · rw [if_neg c2] at hR
          have HR := Lib.hid hR
          clear hR
          go_wp2
          go_quiet (fail)
          go_wp2
          go_quiet (fail)
          go_wp2
          go_roundg (a.size - (k + 1))
          case measure => omega
          case rel => exact ⟨k + 1, _, rfl, by omega, by omega, rfl, HR.out, rfl⟩
    · rw [ordAt_end a b k hka hkb h] at hR
      have hab : a.size < b.size ∨ b.size < a.size ∨ a.size = b.size := by omega
      have hk : ¬ k < a.size ∨ (k < a.size ∧ ¬ k < b.size) := by omega
      rcases hab with hab | hab | hab
      · rw [if_pos hab] at hR
        have HR := Lib.hid hR
        clear hR h
        rcases hk with hk | ⟨hk, hk2⟩
        · go_wp2
          go_ret
          rw [← HR.out]
          exact ⟨rfl, _, rfl⟩
        · omega
      · rw [if_neg (by omega), if_pos hab] at hR
        have HR := Lib.hid hR
        clear hR h
        rcases hk with hk | ⟨hk, hk2⟩
        · omega
        · go_wp2
          go_ret
          rw [← HR.out]
          exact ⟨rfl, _, rfl⟩
      · rw [if_neg (by omega), if_neg (by omega)] at hR
        have HR := Lib.hid hR
        clear hR h
        rcases hk with hk | ⟨hk, hk2⟩
        · go_wp2
          go_ret
          rw [← HR.out]
          exact ⟨rfl, _, rfl⟩
        · omega
end Go.Proofs.YtkgbgmfidkimfaaGreat

namespace Go.Proofs.YtkgbgmfidkimfaaGreat
open Go.RowKit

theorem many_any (x : Itm) (v : Value) (w : World) (B : Nat) (hs : x.Small) (h : ItemV w B v x) :
    Calls Tryz.prog 89 #[v] w fun e w' => e = .returned (.int .i64 (many x)) ∧ Fr [] w w' := by
  obtain ⟨A1, c1, A2, c2, A3, c3, rfl, h1, h2, h3⟩ := h
  have s1 := hs.list
  have s2 := hs.pairs
  have s3 := hs.scores
  have hE : ((many x : Nat) : Int) = (x.list.length : Int) + x.pairs.length + x.scores.length := by unfold many; omega
  clear h1 h2 h3
  generalize x.list.length = n1 at *
  generalize x.pairs.length = n2 at *
  generalize x.scores.length = n3 at *
  generalize many x = m at *
  generalize x.kind = k at *
  generalize x.text = t at *
  go_enter Tryz.func89, Tryz.ntmps89
  go_wp2
  go_ret
  rw [hE]
  refine ⟨rfl, ?_⟩
  exact (Fr.refl [] w).alloc _

theorem eqNil (t : ByteArray) : (t.toList == ByteArray.toList ⟨#[]⟩) = decide (t.size = 0) := by
  rw [eqB]
  by_cases h : t.size = 0
  · have : t = ⟨#[]⟩ := by
      cases t with
      | mk d => 
        congr 1
        exact Array.eq_empty_of_size_eq_zero h
    subst this
    exact (decide_eq_true rfl).trans (decide_eq_true rfl).symm
  · have : t ≠ ⟨#[]⟩ := fun e => h (by rw [e]; rfl)
    simp [h, this]

set_option maxHeartbeats 800000 in
theorem bare_any (x : Itm) (v : Value) (w : World) (B : Nat) (hs : x.Small) (h : ItemV w B v x) :
    Calls Tryz.prog 88 #[v] w fun e w' => e = .returned (.bool (bareB x)) ∧ Fr [] w w' := by
  obtain ⟨A1, c1, A2, c2, A3, c3, rfl, h1, h2, h3⟩ := h
  have s1 := hs.list
  have s2 := hs.pairs
  have s3 := hs.scores
  have hT := eqNil x.text
  rw [show ByteArray.toList ⟨#[]⟩ = [] from by decide +kernel] at hT
  have hL : ((x.list.length : Int) == 0) = (x.list.length == 0) := by rw [Bool.eq_iff_iff]; simp
  have hP : ((x.pairs.length : Int) == 0) = (x.pairs.length == 0) := by rw [Bool.eq_iff_iff]; simp
  have hS : ((x.scores.length : Int) == 0) = (x.scores.length == 0) := by rw [Bool.eq_iff_iff]; simp
  have hE : bareB x = ((x.kind == 1 || x.text.size == 0) && (x.kind == 2 || x.kind == 3 || x.list.length == 0) && (x.kind == 4 || x.pairs.length == 0) && (x.kind == 5 || x.scores.length == 0)) := rfl
  clear h1 h2 h3 hs
  generalize (x.list.length == 0) = bL at *
  generalize (x.pairs.length == 0) = bP at *
  generalize (x.scores.length == 0) = bS at *
  rw [show (x.text.size == 0) = decide (x.text.size = 0) from rfl] at hE
  generalize decide (x.text.size = 0) = bT at *
  generalize x.list.length = n1 at *
  generalize x.pairs.length = n2 at *
  generalize x.scores.length = n3 at *
  generalize bareB x = r at *
  generalize x.kind = k at *
  generalize x.text = t at *
  by_cases k1 : k = 1
  · subst k1
    cases bL
    · have HE := Lib.hid hE
      clear hE
      go_enter Tryz.func88, Tryz.ntmps88
      go_wp2
      go_ret
      rw [HE.out]
      exact ⟨by simp [hT], (Fr.refl [] w).alloc _⟩
    · cases bP
      · have HE := Lib.hid hE
        clear hE
        go_enter Tryz.func88, Tryz.ntmps88
        go_wp2
        go_ret
        rw [HE.out]
        exact ⟨by simp [hT], (Fr.refl [] w).alloc _⟩
      · cases bS
        · have HE := Lib.hid hE
          clear hE
          go_enter Tryz.func88, Tryz.ntmps88
          go_wp2
          go_ret
          rw [HE.out]
          exact ⟨by simp [hT], (Fr.refl [] w).alloc _⟩
        · have HE := Lib.hid hE
          clear hE
          go_enter Tryz.func88, Tryz.ntmps88
          go_wp2
          go_ret
          rw [HE.out]
          exact ⟨by simp [hT], (Fr.refl [] w).alloc _⟩
  by_cases k2 : k = 2
  · subst k2
    cases bT
    · have HE := Lib.hid hE
      clear hE
      go_enter Tryz.func88, Tryz.ntmps88
      go_wp2
      go_ret
      rw [HE.out]
      exact ⟨by simp [hT], (Fr.refl [] w).alloc _⟩
    · cases bP
      · have HE := Lib.hid hE
        clear hE
        go_enter Tryz.func88, Tryz.ntmps88
        go_wp2
        go_ret
        rw [HE.out]
        exact ⟨by simp [hT], (Fr.refl [] w).alloc _⟩
      · cases bS
        · have HE := Lib.hid hE
          clear hE
          go_enter Tryz.func88, Tryz.ntmps88
          go_wp2
          go_ret
          rw [HE.out]
          exact ⟨by simp [hT], (Fr.refl [] w).alloc _⟩
        · have HE := Lib.hid hE
          clear hE
          go_enter Tryz.func88, Tryz.ntmps88
          go_wp2
          go_ret
          rw [HE.out]
          exact ⟨by simp [hT], (Fr.refl [] w).alloc _⟩
  by_cases k3 : k = 3
  · subst k3
    cases bT
    · have HE := Lib.hid hE
      clear hE
      go_enter Tryz.func88, Tryz.ntmps88
      go_wp2
      go_ret
      rw [HE.out]
      exact ⟨by simp [hT], (Fr.refl [] w).alloc _⟩
    · cases bP
      · have HE := Lib.hid hE
        clear hE
        go_enter Tryz.func88, Tryz.ntmps88
        go_wp2
        go_ret
        rw [HE.out]
        exact ⟨by simp [hT], (Fr.refl [] w).alloc _⟩
      · cases bS
        · have HE := Lib.hid hE
          clear hE
          go_enter Tryz.func88, Tryz.ntmps88
          go_wp2
          go_ret
          rw [HE.out]
          exact ⟨by simp [hT], (Fr.refl [] w).alloc _⟩
        · have HE := Lib.hid hE
          clear hE
          go_enter Tryz.func88, Tryz.ntmps88
          go_wp2
          go_ret
          rw [HE.out]
          exact ⟨by simp [hT], (Fr.refl [] w).alloc _⟩
  by_cases k4 : k = 4
  · subst k4
    cases bT
    · have HE := Lib.hid hE
      clear hE
      go_enter Tryz.func88, Tryz.ntmps88
      go_wp2
      go_ret
      rw [HE.out]
      exact ⟨by simp [hT], (Fr.refl [] w).alloc _⟩
    · cases bL
      · have HE := Lib.hid hE
        clear hE
        go_enter Tryz.func88, Tryz.ntmps88
        go_wp2
        go_ret
        rw [HE.out]
        exact ⟨by simp [hT], (Fr.refl [] w).alloc _⟩
      · cases bS
        · have HE := Lib.hid hE
          clear hE
          go_enter Tryz.func88, Tryz.ntmps88
          go_wp2
          go_ret
          rw [HE.out]
          exact ⟨by simp [hT], (Fr.refl [] w).alloc _⟩
        · have HE := Lib.hid hE
          clear hE
          go_enter Tryz.func88, Tryz.ntmps88
          go_wp2
          go_ret
          rw [HE.out]
          exact ⟨by simp [hT], (Fr.refl [] w).alloc _⟩
  by_cases k5 : k = 5
  · subst k5
    cases bT
    · have HE := Lib.hid hE
      clear hE
      go_enter Tryz.func88, Tryz.ntmps88
      go_wp2
      go_ret
      rw [HE.out]
      exact ⟨by simp [hT], (Fr.refl [] w).alloc _⟩
    · cases bL
      · have HE := Lib.hid hE
        clear hE
        go_enter Tryz.func88, Tryz.ntmps88
        go_wp2
        go_ret
        rw [HE.out]
        exact ⟨by simp [hT], (Fr.refl [] w).alloc _⟩
      · cases bP
        · have HE := Lib.hid hE
          clear hE
          go_enter Tryz.func88, Tryz.ntmps88
          go_wp2
          go_ret
          rw [HE.out]
          exact ⟨by simp [hT], (Fr.refl [] w).alloc _⟩
        · have HE := Lib.hid hE
          clear hE
          go_enter Tryz.func88, Tryz.ntmps88
          go_wp2
          go_ret
          rw [HE.out]
          exact ⟨by simp [hT], (Fr.refl [] w).alloc _⟩
  have q1 : (k == 1) = false := by simpa using k1
  have q2 : (k == 2) = false := by simpa using k2
  have q3 : (k == 3) = false := by simpa using k3
  have q4 : (k == 4) = false := by simpa using k4
  have q5 : (k == 5) = false := by simpa using k5
  cases bT
  · have HE := Lib.hid hE
    clear hE
    go_enter Tryz.func88, Tryz.ntmps88
    go_wp2
    go_ret
    rw [HE.out]
    exact ⟨by simp [hT, q1, q2, q3, q4, q5], (Fr.refl [] w).alloc _⟩
  · cases bL
    · have HE := Lib.hid hE
      clear hE
      go_enter Tryz.func88, Tryz.ntmps88
      go_wp2
      go_ret
      rw [HE.out]
      exact ⟨by simp [hT, q1, q2, q3, q4, q5], (Fr.refl [] w).alloc _⟩
    · cases bP
      · have HE := Lib.hid hE
        clear hE
        go_enter Tryz.func88, Tryz.ntmps88
        go_wp2
        go_ret
        rw [HE.out]
        exact ⟨by simp [hT, q1, q2, q3, q4, q5], (Fr.refl [] w).alloc _⟩
      · cases bS
        · have HE := Lib.hid hE
          clear hE
          go_enter Tryz.func88, Tryz.ntmps88
          go_wp2
          go_ret
          rw [HE.out]
          exact ⟨by simp [hT, q1, q2, q3, q4, q5], (Fr.refl [] w).alloc _⟩
        · have HE := Lib.hid hE
          clear hE
          go_enter Tryz.func88, Tryz.ntmps88
          go_wp2
          go_ret
          rw [HE.out]
          exact ⟨by simp [hT, q1, q2, q3, q4, q5], (Fr.refl [] w).alloc _⟩
end Go.Proofs.YtkgbgmfidkimfaaGreat

namespace Go.Proofs.YtkgbgmfidkimfaaGreat
open Go.RowKit

theorem long1_any (a b : ByteArray) (w : World) : Calls Tryz.prog 124 #[.agg #[.string a, .string b]] w fun e w' => e = .returned (.bool (decide (60 < a.size) || decide (60 < b.size))) ∧ Fr [] w w' := by
  have L1 := Lib.hid (fun W => long_any a W)
  have L2 := Lib.hid (fun W => long_any b W)
  by_cases h : 60 < a.size
  · rw [decide_eq_true h] at L1 ⊢
    go_enter Tryz.func124, Tryz.ntmps124
    go_wp2_with fail
    refine (L1.out _).mono ?_
    rintro e w1 ⟨rfl, rfl⟩
    go_wp2
    go_ret
    exact ⟨rfl, (Fr.refl [] w).alloc _⟩
  · rw [decide_eq_false h] at L1 ⊢
    go_enter Tryz.func124, Tryz.ntmps124
    go_wp2_with fail
    refine (L1.out _).mono ?_
    rintro e w1 ⟨rfl, rfl⟩
    go_wp2_with fail
    refine (L2.out _).mono ?_
    rintro e w1 ⟨rfl, rfl⟩
    go_wp2
    go_ret
    exact ⟨rfl, (Fr.refl [] w).alloc _⟩

theorem long2_any (a : Int) (b : ByteArray) (w : World) : Calls Tryz.prog 126 #[.agg #[.int .i64 a, .string b]] w fun e w' => e = .returned (.bool (decide (60 < b.size))) ∧ Fr [] w w' := by
  go_enter Tryz.func126, Tryz.ntmps126
  go_wp2_with fail
  refine (long_any _ _).mono ?_
  rintro e w1 ⟨rfl, rfl⟩
  go_wp2
  go_ret
  exact ⟨rfl, (Fr.refl [] w).alloc _⟩

/-- the first place where q is so, else -1. -/
def idxOf {α : Type} (q : α → Bool) (l : List α) : Int := match l.findIdx? q with | some i => i | none => -1

theorem idxOf_found {α : Type} {q : α → Bool} {l : List α} {k : Nat} {s : α} (h : ∀ (j : Nat) t, j < k → l[j]? = some t → q t = false) (hk : l[k]? = some s) (hq : q s = true) : idxOf q l = k := by
  have : l.findIdx? q = some k := by
    rw [List.findIdx?_eq_some_iff_getElem]
    obtain ⟨hlt, he⟩ := List.getElem?_eq_some_iff.1 hk
    exact ⟨hlt, by rw [he]; exact hq, fun j hj => by rw [h j _ hj (List.getElem?_eq_getElem (by omega))]; decide⟩
  unfold idxOf; rw [this]
theorem idxOf_none {α : Type} {q : α → Bool} {l : List α} (h : ∀ (j : Nat) t, l[j]? = some t → q t = false) : idxOf q l = -1 := by
  have : l.findIdx? q = none := by
    rw [List.findIdx?_eq_none_iff]
    intro t ht
    obtain ⟨j, hj⟩ := List.getElem?_of_mem ht
    exact h j t hj
  unfold idxOf; rw [this]

def longS (s : ByteArray) : Bool := decide (60 < s.size)

set_option maxHeartbeats 400000 in
theorem idxLong_any (l : List ByteArray) (A : Option Addr) (c B : Nat) (w : World) (hl : l.length ≤ 281474976710656) (hB : B ≤ w.heap.size) (hsl : Sl w B 1 (.slice A l.length c) l.length (textsV l)) :
    Calls Tryz.prog 105 #[.slice A l.length c, .func (Fn.func 63) #[] #[]] w fun e w' => e = .returned (.int .i64 (idxOf longS l)) ∧ Fr [] w w' := by
  have HS := Lib.hid hsl
  clear hsl
  go_enter Tryz.func105, Tryz.ntmps105
  go_wp2
  go_loopg [5, 8] l.length (fun g u i wr => ∃ (k : Nat), g = l.length - k ∧ k ≤ l.length ∧ i = .int .i64 k ∧ (∀ j t, j < k → l[j]? = some t → longS t = false) ∧ Fr [] w wr)
  case atStart => exact ⟨0, rfl, Nat.zero_le _, rfl, fun j t hj => absurd hj (Nat.not_lt_zero _), Fr.refl _ _⟩
  case round =>
    obtain ⟨k, rfl, hk, rfl, hno, hf⟩ := hrel
    by_cases hlt : k < l.length
    · obtain ⟨b, off, rfl, hb, hc, hm, hcell⟩ := HS.out.at_ (by omega)
      obtain ⟨s, hs⟩ : ∃ s, l[k]? = some s := ⟨_, List.getElem?_eq_getElem hlt⟩
      have hc1 : wr.cell? ⟨b, off + k, none⟩ = some (.string s) := hf.cell (hcell k _ (textsV_get l k s hs)) (by simp)
      have L := Lib.hid (fun W => long_any s W)
      by_cases hq : longS s = true
      · have E := Lib.hid (idxOf_found hno hs hq)
        rw [show decide (60 < s.size) = true from hq] at L
        clear hno hcell hs hq
        go_wp2_with fail
        refine (L.out _).mono ?_
        rintro e w1 ⟨rfl, rfl⟩
        go_wp2
        go_ret
        rw [E.out]
        exact ⟨rfl, hf⟩
      · have hq' : longS s = false := by simpa using hq
        rw [show decide (60 < s.size) = false from hq'] at L
        have N := Lib.hid (fun j t (hj : j < k + 1) (ht : l[j]? = some t) => (show longS t = false by
          rcases Nat.lt_or_ge j k with h | h
          · exact hno j t h ht
          · have e : j = k := by omega
            subst e
            rw [hs] at ht
            cases ht
            exact hq'))
        clear hno hcell hs hq hq'
        go_wp2_with fail
        refine (L.out _).mono ?_
        rintro e w1 ⟨rfl, rfl⟩
        go_wp2
        go_roundg (l.length - (k + 1))
        case measure => omega
        case rel => exact ⟨k + 1, rfl, by omega, rfl, N.out, hf⟩
    · have E := Lib.hid (idxOf_none (q := longS) (l := l) (fun j t ht => hno j t (by have := (List.getElem?_eq_some_iff.1 ht).1; omega) ht))
      clear hno
      go_wp2
      go_ret
      rw [E.out]
      exact ⟨rfl, hf⟩
def longP (s : ByteArray × ByteArray) : Bool := decide (60 < s.1.size) || decide (60 < s.2.size)

set_option maxHeartbeats 400000 in
theorem idxLongP_any (l : List (ByteArray × ByteArray)) (A : Option Addr) (c B : Nat) (w : World) (hl : l.length ≤ 281474976710656) (hB : B ≤ w.heap.size) (hsl : Sl w B 2 (.slice A l.length c) l.length (pairsV l)) :
    Calls Tryz.prog 109 #[.slice A l.length c, .func (Fn.func 124) #[] #[]] w fun e w' => e = .returned (.int .i64 (idxOf longP l)) ∧ Fr [] w w' := by
  have HS := Lib.hid hsl
  clear hsl
  go_enter Tryz.func109, Tryz.ntmps109
  go_wp2
  go_loopg [5, 8] l.length (fun g u i wr => ∃ (k : Nat), g = l.length - k ∧ k ≤ l.length ∧ i = .int .i64 k ∧ (∀ j t, j < k → l[j]? = some t → longP t = false) ∧ Fr [] w wr)
  case atStart => exact ⟨0, rfl, Nat.zero_le _, rfl, fun j t hj => absurd hj (Nat.not_lt_zero _), Fr.refl _ _⟩
  case round =>
    obtain ⟨k, rfl, hk, rfl, hno, hf⟩ := hrel
    by_cases hlt : k < l.length
    · obtain ⟨b, off, rfl, hb, hc, hm, hcell⟩ := HS.out.at_ (by omega)
      obtain ⟨s, hs⟩ : ∃ s, l[k]? = some s := ⟨_, List.getElem?_eq_getElem hlt⟩
      have hc1 : wr.cell? ⟨b, off + 2 * k, none⟩ = some (.string s.1) := hf.cell (hcell _ _ (pairsV_get l k s hs).1) (by simp)
      have hc2 : wr.cell? ⟨b, off + 2 * k + 1, none⟩ = some (.string s.2) := hf.cell (hcell _ _ (pairsV_get l k s hs).2) (by simp)
      rw [Nat.mul_comm 2 k] at hc1 hc2
      have L := Lib.hid (fun W => long1_any s.1 s.2 W)
      by_cases hq : longP s = true
      · have E := Lib.hid (idxOf_found hno hs hq)
        rw [show (decide (60 < s.1.size) || decide (60 < s.2.size)) = true from hq] at L
        clear hno hcell hs hq
        go_wp2_with fail
        refine (L.out _).mono ?_
        rintro e w1 ⟨rfl, h1⟩
        go_wp2
        go_ret
        rw [E.out]
        exact ⟨rfl, hf.trans h1⟩
      · have hq' : longP s = false := by simpa using hq
        rw [show (decide (60 < s.1.size) || decide (60 < s.2.size)) = false from hq'] at L
        have N := Lib.hid (fun j t (hj : j < k + 1) (ht : l[j]? = some t) => (show longP t = false by
          rcases Nat.lt_or_ge j k with h | h
          · exact hno j t h ht
          · have e : j = k := by omega
            subst e
            rw [hs] at ht
            cases ht
            exact hq'))
        clear hno hcell hs hq hq'
        go_wp2_with fail
        refine (L.out _).mono ?_
        rintro e w1 ⟨rfl, h1⟩
        go_wp2
        go_roundg (l.length - (k + 1))
        case measure => omega
        case rel => exact ⟨k + 1, rfl, by omega, rfl, N.out, hf.trans h1⟩
    · have E := Lib.hid (idxOf_none (q := longP) (l := l) (fun j t ht => hno j t (by have := (List.getElem?_eq_some_iff.1 ht).1; omega) ht))
      clear hno
      go_wp2
      go_ret
      rw [E.out]
      exact ⟨rfl, hf⟩
def longC (s : Int × ByteArray) : Bool := decide (60 < s.2.size)

set_option maxHeartbeats 400000 in
theorem idxLongC_any (l : List (Int × ByteArray)) (A : Option Addr) (c B : Nat) (w : World) (hl : l.length ≤ 281474976710656) (hB : B ≤ w.heap.size) (hsl : Sl w B 2 (.slice A l.length c) l.length (scoresV l)) :
    Calls Tryz.prog 114 #[.slice A l.length c, .func (Fn.func 126) #[] #[]] w fun e w' => e = .returned (.int .i64 (idxOf longC l)) ∧ Fr [] w w' := by
  have HS := Lib.hid hsl
  clear hsl
  go_enter Tryz.func114, Tryz.ntmps114
  go_wp2
  go_loopg [5, 8] l.length (fun g u i wr => ∃ (k : Nat), g = l.length - k ∧ k ≤ l.length ∧ i = .int .i64 k ∧ (∀ j t, j < k → l[j]? = some t → longC t = false) ∧ Fr [] w wr)
  case atStart => exact ⟨0, rfl, Nat.zero_le _, rfl, fun j t hj => absurd hj (Nat.not_lt_zero _), Fr.refl _ _⟩
  case round =>
    obtain ⟨k, rfl, hk, rfl, hno, hf⟩ := hrel
    by_cases hlt : k < l.length
    · obtain ⟨b, off, rfl, hb, hc, hm, hcell⟩ := HS.out.at_ (by omega)
      obtain ⟨s, hs⟩ : ∃ s, l[k]? = some s := ⟨_, List.getElem?_eq_getElem hlt⟩
      have hc1 : wr.cell? ⟨b, off + 2 * k, none⟩ = some (.int .i64 s.1) := hf.cell (hcell _ _ (scoresV_get l k s hs).1) (by simp)
      have hc2 : wr.cell? ⟨b, off + 2 * k + 1, none⟩ = some (.string s.2) := hf.cell (hcell _ _ (scoresV_get l k s hs).2) (by simp)
      rw [Nat.mul_comm 2 k] at hc1 hc2
      have L := Lib.hid (fun W => long2_any s.1 s.2 W)
      by_cases hq : longC s = true
      · have E := Lib.hid (idxOf_found hno hs hq)
        rw [show (decide (60 < s.2.size)) = true from hq] at L
        clear hno hcell hs hq
        go_wp2_with fail
        refine (L.out _).mono ?_
        rintro e w1 ⟨rfl, h1⟩
        go_wp2
        go_ret
        rw [E.out]
        exact ⟨rfl, hf.trans h1⟩
      · have hq' : longC s = false := by simpa using hq
        rw [show (decide (60 < s.2.size)) = false from hq'] at L
        have N := Lib.hid (fun j t (hj : j < k + 1) (ht : l[j]? = some t) => (show longC t = false by
          rcases Nat.lt_or_ge j k with h | h
          · exact hno j t h ht
          · have e : j = k := by omega
            subst e
            rw [hs] at ht
            cases ht
            exact hq'))
        clear hno hcell hs hq hq'
        go_wp2_with fail
        refine (L.out _).mono ?_
        rintro e w1 ⟨rfl, h1⟩
        go_wp2
        go_roundg (l.length - (k + 1))
        case measure => omega
        case rel => exact ⟨k + 1, rfl, by omega, rfl, N.out, hf.trans h1⟩
    · have E := Lib.hid (idxOf_none (q := longC) (l := l) (fun j t ht => hno j t (by have := (List.getElem?_eq_some_iff.1 ht).1; omega) ht))
      clear hno
      go_wp2
      go_ret
      rw [E.out]
      exact ⟨rfl, hf⟩
end Go.Proofs.YtkgbgmfidkimfaaGreat

namespace Go.Proofs.YtkgbgmfidkimfaaGreat
open Go.RowKit

theorem idxOf_any {α : Type} (q : α → Bool) (l : List α) : 0 ≤ idxOf q l ↔ l.any q = true := by
  cases h : l.any q with
  | false =>
    have : idxOf q l = -1 := idxOf_none (fun j t ht => by
      have := List.any_eq_false.1 h t (List.mem_of_getElem? ht)
      simpa using this)
    rw [this]
    simp
  | true =>
    obtain ⟨t, ht, hq⟩ := List.any_eq_true.1 h
    unfold idxOf
    cases hf : l.findIdx? q with
    | none =>
      rw [List.findIdx?_eq_none_iff] at hf
      have := hf t ht
      rw [hq] at this
      cases this
    | some i => simp

theorem conS_any (l : List (ByteArray)) (A : Option Addr) (c B : Nat) (w : World) (hl : l.length ≤ 281474976710656) (hB : B ≤ w.heap.size) (hsl : Sl w B 1 (.slice A l.length c) l.length (textsV l)) :
    Calls Tryz.prog 102 #[.slice A l.length c, .func (Fn.func 63) #[] #[]] w fun e w' => e = .returned (.bool (l.any longS)) ∧ Fr [] w w' := by
  have I := Lib.hid (idxLong_any l A c B w hl hB hsl)
  have h := idxOf_any longS l
  clear hsl
  generalize idxOf longS l = r at *
  generalize l.any longS = b at *
  generalize l.length = n at *
  cases b
  · have hr : r < 0 := by simpa using h
    clear h
    go_enter Tryz.func102, Tryz.ntmps102
    go_wp2_with fail
    refine I.out.mono ?_
    rintro e w1 ⟨rfl, h1⟩
    go_wp2
    go_ret
    exact ⟨by simp <;> omega, h1⟩
  · have hr : 0 ≤ r := by simpa using h
    clear h
    go_enter Tryz.func102, Tryz.ntmps102
    go_wp2_with fail
    refine I.out.mono ?_
    rintro e w1 ⟨rfl, h1⟩
    go_wp2
    go_ret
    exact ⟨by simp <;> omega, h1⟩

theorem conP_any (l : List (ByteArray × ByteArray)) (A : Option Addr) (c B : Nat) (w : World) (hl : l.length ≤ 281474976710656) (hB : B ≤ w.heap.size) (hsl : Sl w B 2 (.slice A l.length c) l.length (pairsV l)) :
    Calls Tryz.prog 61 #[.slice A l.length c, .func (Fn.func 124) #[] #[]] w fun e w' => e = .returned (.bool (l.any longP)) ∧ Fr [] w w' := by
  have I := Lib.hid (idxLongP_any l A c B w hl hB hsl)
  have h := idxOf_any longP l
  clear hsl
  generalize idxOf longP l = r at *
  generalize l.any longP = b at *
  generalize l.length = n at *
  cases b
  · have hr : r < 0 := by simpa using h
    clear h
    go_enter Tryz.func61, Tryz.ntmps61
    go_wp2_with fail
    refine I.out.mono ?_
    rintro e w1 ⟨rfl, h1⟩
    go_wp2
    go_ret
    exact ⟨by simp <;> omega, h1⟩
  · have hr : 0 ≤ r := by simpa using h
    clear h
    go_enter Tryz.func61, Tryz.ntmps61
    go_wp2_with fail
    refine I.out.mono ?_
    rintro e w1 ⟨rfl, h1⟩
    go_wp2
    go_ret
    exact ⟨by simp <;> omega, h1⟩

theorem conC_any (l : List (Int × ByteArray)) (A : Option Addr) (c B : Nat) (w : World) (hl : l.length ≤ 281474976710656) (hB : B ≤ w.heap.size) (hsl : Sl w B 2 (.slice A l.length c) l.length (scoresV l)) :
    Calls Tryz.prog 125 #[.slice A l.length c, .func (Fn.func 126) #[] #[]] w fun e w' => e = .returned (.bool (l.any longC)) ∧ Fr [] w w' := by
  have I := Lib.hid (idxLongC_any l A c B w hl hB hsl)
  have h := idxOf_any longC l
  clear hsl
  generalize idxOf longC l = r at *
  generalize l.any longC = b at *
  generalize l.length = n at *
  cases b
  · have hr : r < 0 := by simpa using h
    clear h
    go_enter Tryz.func125, Tryz.ntmps125
    go_wp2_with fail
    refine I.out.mono ?_
    rintro e w1 ⟨rfl, h1⟩
    go_wp2
    go_ret
    exact ⟨by simp <;> omega, h1⟩
  · have hr : 0 ≤ r := by simpa using h
    clear h
    go_enter Tryz.func125, Tryz.ntmps125
    go_wp2_with fail
    refine I.out.mono ?_
    rintro e w1 ⟨rfl, h1⟩
    go_wp2
    go_ret
    exact ⟨by simp <;> omega, h1⟩

/-- has one of them too many bytes? -/
def longI (x : Itm) : Bool := x.list.any longS || x.pairs.any longP || x.scores.any longC

set_option maxHeartbeats 400000 in
theorem itemLong_any (x : Itm) (v : Value) (w : World) (B : Nat) (hs : x.Small) (hB : B ≤ w.heap.size) (h : ItemV w B v x) :
    Calls Tryz.prog 90 #[v] w fun e w' => e = .returned (.bool (longI x)) ∧ Fr [] w w' := by
  obtain ⟨A1, c1, A2, c2, A3, c3, rfl, h1, h2, h3⟩ := h
  have S := Lib.hid (fun W (hf : Fr [] w W) => conS_any x.list A1 c1 B W hs.list (Nat.le_trans hB hf.size) (h1.fr hf hB (by simp)))
  have P := Lib.hid (fun W (hf : Fr [] w W) => conP_any x.pairs A2 c2 B W hs.pairs (Nat.le_trans hB hf.size) (h2.fr hf hB (by simp)))
  have C := Lib.hid (fun W (hf : Fr [] w W) => conC_any x.scores A3 c3 B W hs.scores (Nat.le_trans hB hf.size) (h3.fr hf hB (by simp)))
  have hE : longI x = (x.list.any longS || x.pairs.any longP || x.scores.any longC) := rfl
  clear h1 h2 h3 hs
  generalize longI x = r at *
  generalize x.list.any longS = b1 at *
  generalize x.pairs.any longP = b2 at *
  generalize x.scores.any longC = b3 at *
  generalize x.list.length = n1 at *
  generalize x.pairs.length = n2 at *
  generalize x.scores.length = n3 at *
  generalize x.kind = k at *
  generalize x.text = t at *
  subst hE
  have hz : Fr [] w (w.alloc (.cells #[.int .i64 k, .string t, .slice A1 n1 c1, .slice A2 n2 c2, .slice A3 n3 c3] 26)) := (Fr.refl [] w).alloc _
  cases b1
  · cases b2
    · go_enter Tryz.func90, Tryz.ntmps90
      go_wp2_with fail
      refine (S.out _ hz).mono ?_
      rintro e w1 ⟨rfl, f1⟩
      have W0 : Whole (w.alloc (.cells #[.int .i64 k, .string t, .slice A1 n1 c1, .slice A2 n2 c2, .slice A3 n3 c3] 26)) w.heap.size 26 [.int .i64 k, .string t, .slice A1 n1 c1, .slice A2 n2 c2, .slice A3 n3 c3] := Whole.new w _ _
      have W1 := W0.fr f1 (by simp)
      have d3 : w1.cell? ⟨w.heap.size, 3, none⟩ = some (.slice A2 n2 c2) := W1.cell 3
      have d4 : w1.cell? ⟨w.heap.size, 4, none⟩ = some (.slice A3 n3 c3) := W1.cell 4
      have HW := Lib.hid W1
      clear W0 W1
      go_wp2_with fail
      refine (P.out _ (hz.trans f1)).mono ?_
      rintro e w2 ⟨rfl, f2⟩
      have e4 : w2.cell? ⟨w.heap.size, 4, none⟩ = some (.slice A3 n3 c3) := (HW.out.fr f2 (by simp)).cell 4
      go_wp2_with fail
      refine (C.out _ ((hz.trans f1).trans f2)).mono ?_
      rintro e w3 ⟨rfl, f3⟩
      go_wp2
      go_ret
      exact ⟨by simp, ((hz.trans f1).trans f2).trans f3⟩
    · go_enter Tryz.func90, Tryz.ntmps90
      go_wp2_with fail
      refine (S.out _ hz).mono ?_
      rintro e w1 ⟨rfl, f1⟩
      have W0 : Whole (w.alloc (.cells #[.int .i64 k, .string t, .slice A1 n1 c1, .slice A2 n2 c2, .slice A3 n3 c3] 26)) w.heap.size 26 [.int .i64 k, .string t, .slice A1 n1 c1, .slice A2 n2 c2, .slice A3 n3 c3] := Whole.new w _ _
      have W1 := W0.fr f1 (by simp)
      have d3 : w1.cell? ⟨w.heap.size, 3, none⟩ = some (.slice A2 n2 c2) := W1.cell 3
      have d4 : w1.cell? ⟨w.heap.size, 4, none⟩ = some (.slice A3 n3 c3) := W1.cell 4
      have HW := Lib.hid W1
      clear W0 W1
      go_wp2_with fail
      refine (P.out _ (hz.trans f1)).mono ?_
      rintro e w2 ⟨rfl, f2⟩
      go_wp2
      go_ret
      exact ⟨rfl, (hz.trans f1).trans f2⟩
  · go_enter Tryz.func90, Tryz.ntmps90
    go_wp2_with fail
    refine (S.out _ hz).mono ?_
    rintro e w1 ⟨rfl, f1⟩
    go_wp2
    go_ret
    exact ⟨rfl, hz.trans f1⟩
end Go.Proofs.YtkgbgmfidkimfaaGreat

namespace Go.Proofs.YtkgbgmfidkimfaaGreat
open Go.RowKit

/-- does each stand behind the one ahead? -/
def rises {α : Type} (lt : α → α → Bool) : List α → Bool
  | [] => true
  | [_] => true
  | a :: b :: r => lt a b && rises lt (b :: r)

theorem rises_step {α : Type} {lt : α → α → Bool} {l : List α} {m : Nat} {a b : α} (ha : l[m]? = some a) (hb : l[m + 1]? = some b) : rises lt (l.drop m) = (lt a b && rises lt (l.drop (m + 1))) := by
  obtain ⟨h1, e1⟩ := List.getElem?_eq_some_iff.1 ha
  obtain ⟨h2, e2⟩ := List.getElem?_eq_some_iff.1 hb
  have d2 : l.drop (m + 1) = b :: l.drop (m + 2) := by rw [List.drop_eq_getElem_cons h2, e2]
  rw [List.drop_eq_getElem_cons h1, e1, d2]
  rfl
theorem rises_end {α : Type} {lt : α → α → Bool} {l : List α} {m : Nat} (h : l.length ≤ m + 1) : rises lt (l.drop m) = true := by
  have : (l.drop m).length ≤ 1 := by simp; omega
  match l.drop m, this with
  | [], _ => rfl
  | [_], _ => rfl

def ltS (a b : ByteArray) : Bool := decide (ordB a b < 0)

set_option maxHeartbeats 800000 in
theorem risingS_any (l : List ByteArray) (A : Option Addr) (c B : Nat) (w : World) (hl : l.length ≤ 281474976710656) (hB : B ≤ w.heap.size) (hsl : Sl w B 1 (.slice A l.length c) l.length (textsV l)) :
    Calls Tryz.prog 91 #[.slice A l.length c, .func (Fn.func 92) #[] #[]] w fun e w' => e = .returned (.bool (rises ltS l)) ∧ Fr [] w w' := by
  have HS := Lib.hid hsl
  clear hsl
  go_enter Tryz.func91, Tryz.ntmps91
  go_wp2
  go_loopg [5] l.length (fun g i wr => ∃ (m : Nat), g = l.length - m ∧ i = .int .i64 ((m : Int) + 1) ∧ m ≤ l.length ∧ rises ltS (l.drop m) = rises ltS l ∧ Fr [] w wr)
  case atStart => exact ⟨0, rfl, rfl, Nat.zero_le _, rfl, Fr.refl _ _⟩
  case round =>
    obtain ⟨m, rfl, rfl, hm, hR, hf⟩ := hrel
    by_cases hlt : m + 1 < l.length
    · obtain ⟨b, off, rfl, hb, hc, hmx, hcell⟩ := HS.out.at_ (by omega)
      obtain ⟨s, hs⟩ : ∃ s, l[m]? = some s := ⟨_, List.getElem?_eq_getElem (by omega)⟩
      obtain ⟨t, ht⟩ : ∃ t, l[m + 1]? = some t := ⟨_, List.getElem?_eq_getElem hlt⟩
      have hc1 : wr.cell? ⟨b, off + m, none⟩ = some (.string s) := hf.cell (hcell m _ (textsV_get l m s hs)) (by simp)
      have hc2 : wr.cell? ⟨b, off + (m + 1), none⟩ = some (.string t) := hf.cell (hcell (m + 1) _ (textsV_get l (m + 1) t ht)) (by simp)
      rw [rises_step hs ht] at hR
      have hC : ∀ W, Calls Tryz.prog 92 #[.string s, .string t] W fun e w' => e = .returned (.int .i64 (ordB s t)) ∧ ∃ n, w' = W.drewN n := fun W => (compare_any s t W).mono (fun e w' h => ⟨h.1, 0, h.2⟩)
      have HC := Lib.hid hC
      clear hcell hs ht hC
      have wr1 : IntKind.i64.wrap ((m : Int) + 1) = (m : Int) + 1 := IntWalk.i64_in _ (by omega)
      have wr2 : IntKind.i64.wrap (m : Int) = (m : Int) := IntWalk.i64_in _ (by omega)
      by_cases hq : ordB s t < 0
      · rw [show ltS s t = true from decide_eq_true hq, Bool.true_and] at hR
        have HR := Lib.hid hR
        clear hR
        go_wp2
        go_quiet ((go_at_call 92; exact Calls.quiet_of (HC.out _)))
        go_wp2
        go_roundg (l.length - (m + 1))
        case measure => omega
        case rel => exact ⟨m + 1, rfl, rfl, by omega, HR.out, hf.drewN _⟩
      · rw [show ltS s t = false from decide_eq_false hq, Bool.false_and] at hR
        have HR := Lib.hid hR
        clear hR
        go_wp2
        go_quiet ((go_at_call 92; exact Calls.quiet_of (HC.out _)))
        go_wp2
        go_ret
        rw [← HR.out]
        exact ⟨rfl, hf.drewN _⟩
    · rw [rises_end (by omega)] at hR
      have HR := Lib.hid hR
      clear hR
      go_wp2
      go_ret
      rw [← HR.out]
      exact ⟨rfl, hf⟩
end Go.Proofs.YtkgbgmfidkimfaaGreat

namespace Go.Proofs.YtkgbgmfidkimfaaGreat
open Go.RowKit

def ltP (a b : ByteArray × ByteArray) : Bool := decide (ordB a.1 b.1 < 0)
/-- the order of scores, of numbers that are not too far apart. -/
def ordC (a b : Int × ByteArray) : Int := if a.1 = b.1 then ordB a.2 b.2 else a.1 - b.1
def ltC (a b : Int × ByteArray) : Bool := decide (ordC a b < 0)

theorem fields_any (a b : ByteArray × ByteArray) (w : World) : Calls Tryz.prog 94 #[.agg #[.string a.1, .string a.2], .agg #[.string b.1, .string b.2]] w fun e w' => e = .returned (.int .i64 (ordB a.1 b.1)) ∧ Fr [] w w' := by
  go_enter Tryz.func94, Tryz.ntmps94
  go_wp2_with fail
  refine (compare_any _ _ _).mono ?_
  rintro e w1 ⟨rfl, rfl⟩
  go_wp2
  go_ret
  exact ⟨rfl, ((Fr.refl [] w).alloc _).alloc _⟩

theorem scores_any (a b : Int × ByteArray) (w : World) (ha : isInt a.1 = true) (hb : isInt b.1 = true) : Calls Tryz.prog 76 #[.agg #[.int .i64 a.1, .string a.2], .agg #[.int .i64 b.1, .string b.2]] w fun e w' => e = .returned (.int .i64 (ordC a b)) ∧ Fr [] w w' := by
  simp only [isInt, Bool.and_eq_true, decide_eq_true_eq] at ha hb
  by_cases h : a.1 = b.1
  · have E := Lib.hid (show ordC a b = ordB a.2 b.2 by unfold ordC; rw [if_pos h])
    have hne : (a.1 != b.1) = false := by simpa using h
    clear h
    go_enter Tryz.func76, Tryz.ntmps76
    go_wp2_with fail
    refine (compare_any _ _ _).mono ?_
    rintro e w1 ⟨rfl, rfl⟩
    go_wp2
    go_ret
    rw [E.out]
    exact ⟨rfl, ((Fr.refl [] w).alloc _).alloc _⟩
  · have E := Lib.hid (show ordC a b = a.1 - b.1 by unfold ordC; rw [if_neg h])
    have hne : (a.1 != b.1) = true := by simpa using h
    have hw : IntKind.i64.wrap (a.1 - b.1) = a.1 - b.1 := IntWalk.i64_in _ (by omega)
    clear h
    go_enter Tryz.func76, Tryz.ntmps76
    go_wp2
    go_ret
    rw [E.out]
    exact ⟨rfl, ((Fr.refl [] w).alloc _).alloc _⟩
end Go.Proofs.YtkgbgmfidkimfaaGreat
