/- The reference's CheckItem, all cases joined. -/
import Derived.Test.YtfkfdmonnebmmaaItemR
set_option linter.unusedVariables false
set_option linter.unusedSimpArgs false
namespace Go.Proofs.Ytfkfdmonnebmmaa
open Go.RowKit

set_option maxRecDepth 100000 in
theorem refCheck_kind (k : Int) (t : ByteArray) (A1 A2 A3 : Option Addr) (n1 c1 n2 c2 n3 c3 : Nat) (w : World) (hk : ¬ (1 ≤ k ∧ k ≤ 5)) :
    Calls Try.prog 19 #[.agg #[.int .i64 k, .string t, .slice A1 n1 c1, .slice A2 n2 c2, .slice A3 n3 c3]] w fun e w' => e = .returned (.int .i64 7) ∧ Fr [] w w' := by
  have q1 : (decide (1 ≤ k) && decide (k ≤ 5)) = false := by simp; omega
  have I := Lib.hid (fun W => between_any k 1 5 W)
  rw [q1] at I
  clear hk q1
  go_enter Try.func19, Try.ntmps19
  go_wp2_with fail
  refine (I.out _).mono ?_
  rintro e w1 ⟨rfl, rfl⟩
  go_wp2
  go_ret
  exact ⟨rfl, (Fr.refl [] w).alloc _⟩

set_option maxRecDepth 100000 in
theorem refCheck_text (t : ByteArray) (A1 A2 A3 : Option Addr) (c1 c2 c3 : Nat) (w : World) (ht : t.size ≤ 281474976710656) :
    Calls Try.prog 19 #[.agg #[.int .i64 1, .string t, .slice A1 0 c1, .slice A2 0 c2, .slice A3 0 c3]] w fun e w' => e = .returned (.int .i64 (if 60 < t.size then 2 else 0)) ∧ Fr [] w w' := by
  have I := Lib.hid (fun W => between_any 1 1 5 W)
  rw [show (decide ((1 : Int) ≤ 1) && decide ((1 : Int) ≤ 5)) = true from rfl] at I
  by_cases h : 60 < t.size
  · skip
    go_enter Try.func19, Try.ntmps19
    go_wp2_with fail
    refine (I.out _).mono ?_
    rintro e w1 ⟨rfl, rfl⟩
    go_wp2
    go_ret
    exact ⟨rfl, (Fr.refl [] w).alloc _⟩
  · skip
    go_enter Try.func19, Try.ntmps19
    go_wp2_with fail
    refine (I.out _).mono ?_
    rintro e w1 ⟨rfl, rfl⟩
    go_wp2
    go_ret
    exact ⟨rfl, (Fr.refl [] w).alloc _⟩

theorem refCheck_any (x : Itm) (v : Value) (w : World) (B : Nat) (hs : x.Small) (hB : B ≤ w.heap.size) (h : ItemV w B v x) :
    Calls Try.prog 19 #[v] w fun e w' => e = .returned (.int .i64 (checkItm x)) ∧ Fr [] w w' := by
  obtain ⟨A1, c1, A2, c2, A3, c3, rfl, h1, h2, h3⟩ := h
  by_cases hk : 1 ≤ x.kind ∧ x.kind ≤ 5
  · by_cases hb : bareB x = false
    · rw [show checkItm x = 1 by unfold checkItm; rw [if_neg (by omega), if_pos hb]]
      exact refCheck_form x.kind x.text A1 A2 A3 _ c1 _ c2 _ c3 w hs.list hs.pairs hs.scores hb hk
    · by_cases k1 : x.kind = 1
      · have hb2 : bareB x = true := by simpa using hb
        have hz : x.list.length = 0 ∧ x.pairs.length = 0 ∧ x.scores.length = 0 := by
          unfold bareB at hb2
          rw [k1] at hb2
          simp at hb2
          simp [hb2]
        rw [show checkItm x = if 60 < x.text.size then 2 else 0 by unfold checkItm; rw [if_neg (by omega), if_neg hb, if_pos k1], k1, hz.1, hz.2.1, hz.2.2]
        exact refCheck_text x.text A1 A2 A3 c1 c2 c3 w hs.text
      · exact refCheck_loops x A1 A2 A3 c1 c2 c3 w B hs hB h1 h2 h3 (by omega) (by simpa using hb)
  · rw [show checkItm x = 7 by unfold checkItm; rw [if_pos hk]]
    exact refCheck_kind x.kind x.text A1 A2 A3 _ c1 _ c2 _ c3 w hk
end Go.Proofs.Ytfkfdmonnebmmaa
