/- The walks of item.Of and of the reference's filled. -/
import Derived.Test.YtmlmiboihjibiaaLs
set_option linter.unusedVariables false
set_option linter.unusedSimpArgs false
namespace Go.Proofs.Ytmlmiboihjibiaa
open Go.RowKit

/-- what item.Of makes of an item that is no text. -/
def ofV (v : Value) (x : Itm) : Value := if many x = 0 then .agg #[.int .i64 0, .string ⟨#[]⟩, .slice none 0 0, .slice none 0 0, .slice none 0 0] else v
set_option maxRecDepth 100000 in
theorem of_any (x : Itm) (v : Value) (w : World) (B : Nat) (hs : x.Small) (hB : B ≤ w.heap.size) (h : ItemV w B v x) (hk : x.kind ≠ 1) :
    Calls Try.prog 121 #[v] w fun e w' => e = .returned (ofV v x) ∧ Fr [] w w' := by
  have M := Lib.hid (fun W (hf : Fr [] w W) => many_any x v W B hs (h.fr hf hB (by simp)))
  obtain ⟨A1, c1, A2, c2, A3, c3, rfl, h1, h2, h3⟩ := h
  have F1 : Fr [] w ((w.alloc (.cells #[.int .i64 x.kind, .string x.text, .slice A1 x.list.length c1, .slice A2 x.pairs.length c2, .slice A3 x.scores.length c3] 26)).alloc (.cells #[.int .i64 0, .string ⟨#[]⟩, .slice none 0 0, .slice none 0 0, .slice none 0 0] 26)) := ((Fr.refl [] w).alloc _).alloc _
  have V1 := Lib.hid (show Whole ((w.alloc (.cells #[.int .i64 x.kind, .string x.text, .slice A1 x.list.length c1, .slice A2 x.pairs.length c2, .slice A3 x.scores.length c3] 26)).alloc (.cells #[.int .i64 0, .string ⟨#[]⟩, .slice none 0 0, .slice none 0 0, .slice none 0 0] 26)) w.heap.size 26 [.int .i64 x.kind, .string x.text, .slice A1 x.list.length c1, .slice A2 x.pairs.length c2, .slice A3 x.scores.length c3] from (Whole.new w _ _).alloc _)
  have R1 := Lib.hid (show Whole ((w.alloc (.cells #[.int .i64 x.kind, .string x.text, .slice A1 x.list.length c1, .slice A2 x.pairs.length c2, .slice A3 x.scores.length c3] 26)).alloc (.cells #[.int .i64 0, .string ⟨#[]⟩, .slice none 0 0, .slice none 0 0, .slice none 0 0] 26)) (w.heap.size + 1) 26 [.int .i64 0, .string ⟨#[]⟩, .slice none 0 0, .slice none 0 0, .slice none 0 0] from by
    have := Whole.new (w.alloc (.cells #[.int .i64 x.kind, .string x.text, .slice A1 x.list.length c1, .slice A2 x.pairs.length c2, .slice A3 x.scores.length c3] 26)) 26 [.int .i64 0, .string ⟨#[]⟩, .slice none 0 0, .slice none 0 0, .slice none 0 0]
    simpa using this)
  have q1 : (x.kind != 1) = true := by simpa using hk
  obtain ⟨d0, d1, d2, d3, d4⟩ := five V1.out
  clear h1 h2 h3 hs hk
  unfold ofV
  generalize many x = m at *
  by_cases hm : m = 0
  · subst hm
    rw [if_pos rfl]
    go_enter Try.func121, Try.ntmps121
    go_wp2_with fail
    refine (M.out _ F1).mono ?_
    rintro e w1 ⟨rfl, f1⟩
    have F2 := F1.trans f1
    have V2 := Lib.hid (V1.out.fr f1 (by simp))
    have R2 := Lib.hid (R1.out.fr f1 (by simp))
    clear d0 d1 d2 d3 d4
    obtain ⟨d0, d1, d2, d3, d4⟩ := five V2.out
    obtain ⟨a0, a1, a2, a3, a4⟩ := five R2.out
    obtain ⟨b0, b2, b3, b4, b5⟩ := fiveF R2.out
    go_wp2
    refine bodyPost_ret (v := .agg #[.int .i64 0, .string ⟨#[]⟩, .slice none 0 0, .slice none 0 0, .slice none 0 0]) (by simp [results, Try.results121, go_sem, a0, a1, a2, a3, a4]) rfl ?_
    refine ⟨rfl, fr_set5 F2 (by omega) _ _ _ _ _⟩
  · rw [if_neg hm]
    have q2 : ((m : Int) == 0) = false := by simp; omega
    go_enter Try.func121, Try.ntmps121
    go_wp2_with fail
    refine (M.out _ F1).mono ?_
    rintro e w1 ⟨rfl, f1⟩
    have F2 := F1.trans f1
    have V2 := Lib.hid (V1.out.fr f1 (by simp))
    have R2 := Lib.hid (R1.out.fr f1 (by simp))
    clear d0 d1 d2 d3 d4
    obtain ⟨d0, d1, d2, d3, d4⟩ := five V2.out
    obtain ⟨a0, a1, a2, a3, a4⟩ := five R2.out
    obtain ⟨b0, b2, b3, b4, b5⟩ := fiveF R2.out
    go_wp2
    refine bodyPost_ret (v := .agg #[.int .i64 x.kind, .string x.text, .slice A1 x.list.length c1, .slice A2 x.pairs.length c2, .slice A3 x.scores.length c3]) (by simp [results, Try.results121, go_sem, a0, a1, a2, a3, a4]) rfl ?_
    refine ⟨rfl, fr_set5 F2 (by omega) _ _ _ _ _⟩
set_option maxHeartbeats 400000 in
set_option maxRecDepth 100000 in
theorem filled_any (x : Itm) (v : Value) (w : World) (B : Nat) (hs : x.Small) (hB : B ≤ w.heap.size) (h : ItemV w B v x) :
    Calls Try.prog 75 #[v] w fun e w' => e = .returned (ofV v x) ∧ Fr [] w w' := by
  have s1 := hs.list
  have s2 := hs.pairs
  have s3 := hs.scores
  obtain ⟨A1, c1, A2, c2, A3, c3, rfl, h1, h2, h3⟩ := h
  have F1 : Fr [] w ((w.alloc (.cells #[.int .i64 x.kind, .string x.text, .slice A1 x.list.length c1, .slice A2 x.pairs.length c2, .slice A3 x.scores.length c3] 26)).alloc (.cells #[.int .i64 0, .string ⟨#[]⟩, .slice none 0 0, .slice none 0 0, .slice none 0 0] 26)) := ((Fr.refl [] w).alloc _).alloc _
  have V1 := Lib.hid (show Whole ((w.alloc (.cells #[.int .i64 x.kind, .string x.text, .slice A1 x.list.length c1, .slice A2 x.pairs.length c2, .slice A3 x.scores.length c3] 26)).alloc (.cells #[.int .i64 0, .string ⟨#[]⟩, .slice none 0 0, .slice none 0 0, .slice none 0 0] 26)) w.heap.size 26 [.int .i64 x.kind, .string x.text, .slice A1 x.list.length c1, .slice A2 x.pairs.length c2, .slice A3 x.scores.length c3] from (Whole.new w _ _).alloc _)
  have R1 := Lib.hid (show Whole ((w.alloc (.cells #[.int .i64 x.kind, .string x.text, .slice A1 x.list.length c1, .slice A2 x.pairs.length c2, .slice A3 x.scores.length c3] 26)).alloc (.cells #[.int .i64 0, .string ⟨#[]⟩, .slice none 0 0, .slice none 0 0, .slice none 0 0] 26)) (w.heap.size + 1) 26 [.int .i64 0, .string ⟨#[]⟩, .slice none 0 0, .slice none 0 0, .slice none 0 0] from by
    have := Whole.new (w.alloc (.cells #[.int .i64 x.kind, .string x.text, .slice A1 x.list.length c1, .slice A2 x.pairs.length c2, .slice A3 x.scores.length c3] 26)) 26 [.int .i64 0, .string ⟨#[]⟩, .slice none 0 0, .slice none 0 0, .slice none 0 0]
    simpa using this)
  obtain ⟨d0, d1, d2, d3, d4⟩ := five V1.out
  obtain ⟨a0, a1, a2, a3, a4⟩ := five R1.out
  obtain ⟨b0, b2, b3, b4, b5⟩ := fiveF R1.out
  clear h1 h2 h3 hs
  have hE : many x = x.list.length + x.pairs.length + x.scores.length := rfl
  unfold ofV
  generalize many x = m at *
  generalize x.list.length = n1 at *
  generalize x.pairs.length = n2 at *
  generalize x.scores.length = n3 at *
  by_cases hm : m = 0
  · rw [if_pos hm]
    obtain rfl : n1 = 0 := by omega
    obtain rfl : n2 = 0 := by omega
    obtain rfl : n3 = 0 := by omega
    clear hE hm
    go_enter Try.func75, Try.ntmps75
    go_wp2
    refine bodyPost_ret (v := .agg #[.int .i64 0, .string ⟨#[]⟩, .slice none 0 0, .slice none 0 0, .slice none 0 0]) (by simp [results, Try.results75, go_sem, a0, a1, a2, a3, a4]) rfl ?_
    exact ⟨rfl, ((Fr.refl [] w).alloc _).alloc _⟩
  · rw [if_neg hm]
    have q2 : ((n1 : Int) + (n2 : Int) + (n3 : Int) == 0) = false := by simp; omega
    have q3 : ¬ ((n1 : Int) + (n2 : Int) + (n3 : Int) = 0) := by omega
    clear hE hm
    go_enter Try.func75, Try.ntmps75
    go_wp2
    refine bodyPost_ret (v := .agg #[.int .i64 x.kind, .string x.text, .slice A1 n1 c1, .slice A2 n2 c2, .slice A3 n3 c3]) (by simp [results, Try.results75, go_sem, a0, a1, a2, a3, a4]) rfl ?_
    exact ⟨rfl, ((Fr.refl [] w).alloc _).alloc _⟩
end Go.Proofs.Ytmlmiboihjibiaa
