/- The walk of the law's itemIs. -/
import Derived.Test.YtmlmiboihjibiaaBo
import Derived.Test.YtmlmiboihjibiaaItf
import Derived.Deep.Cut
set_option linter.unusedVariables false
set_option linter.unusedSimpArgs false
namespace Go.Proofs.Ytmlmiboihjibiaa
open Go.RowKit

/-- two blocks of items. -/
structure B2 (w : World) (cs ds : List Value) (wr : World) : Prop where
  b1 : Whole wr w.heap.size 26 cs
  b2 : Whole wr (w.heap.size + 1) 26 ds
  f : Fr [] w wr

theorem B2.new (w : World) (a b c d e a' b' c' d' e' : Value) : B2 w [a, b, c, d, e] [a', b', c', d', e'] ((w.alloc (.cells #[a, b, c, d, e] 26)).alloc (.cells #[a', b', c', d', e'] 26)) :=
  ⟨(Whole.new w _ _).alloc _, by
    have := Whole.new (w.alloc (.cells #[a, b, c, d, e] 26)) 26 [a', b', c', d', e']
    simpa using this, ((Fr.refl [] w).alloc _).alloc _⟩
theorem B2.go {w wr w1 : World} {cs ds : List Value} (h : B2 w cs ds wr) (k : Fr [] wr w1) : B2 w cs ds w1 := ⟨h.b1.fr k (by simp), h.b2.fr k (by simp), h.f.trans k⟩

set_option maxHeartbeats 1000000 in
set_option maxRecDepth 100000 in
theorem itemIs_ok (x : Itm) (v u : Value) (n : Int) (w : World) (B : Nat) (hs : x.Small) (hB : B ≤ w.heap.size) (h : ItemV w B v x) (k : ItemV w B u x) :
    Calls Try.prog 24 #[v, .int .i64 n, .int .i64 0, .int .i64 0, u, .int .i64 n] w fun e w' => e = .returned (.bool true) ∧ Fr [] w w' := by
  have SI := Lib.hid (fun W (hf : Fr [] w W) => (show Calls Try.prog 42 #[v, u] W fun e w' => e = .returned (.bool true) ∧ Fr [] W w' from by have := sameItem_any x x v u W B hs hs (Nat.le_trans hB hf.size) (h.fr hf hB (by simp)) (k.fr hf hB (by simp)); rw [sameI_refl] at this; exact this))
  obtain ⟨A1, c1, A2, c2, A3, c3, rfl⟩ := h.form
  obtain ⟨P1, p1, P2, p2, P3, p3, rfl⟩ := k.form
  clear h k hs
  have D0 := Lib.hid (B2.new w (.int .i64 x.kind) (.string x.text) (.slice A1 x.list.length c1) (.slice A2 x.pairs.length c2) (.slice A3 x.scores.length c3) (.int .i64 x.kind) (.string x.text) (.slice P1 x.list.length p1) (.slice P2 x.pairs.length p2) (.slice P3 x.scores.length p3))
  obtain ⟨d0, d1, d2, d3, d4⟩ := five D0.out.b1
  obtain ⟨e0, e1, e2, e3, e4⟩ := five D0.out.b2
  go_enter Try.func24, Try.ntmps24
  go_wp2_with fail
  refine (SI.out _ D0.out.f).mono ?_
  rintro e w1 ⟨rfl, f1⟩
  go_wp2
  go_ret
  exact ⟨rfl, D0.out.f.trans f1⟩

set_option maxHeartbeats 1000000 in
set_option maxRecDepth 100000 in
theorem itemIs_no (y : Itm) (c : Int) (hc : c ≠ 0) (v u : Value) (n : Int) (w : World) (B : Nat) (hB : B ≤ w.heap.size) (h : ItemV w B v (newI 0)) (k : ItemV w B u y) :
    Calls Try.prog 24 #[v, .int .i64 0, .int .i64 c, .int .i64 c, u, .int .i64 n] w fun e w' => e = .returned (.bool true) ∧ Fr [] w w' := by
  have SI := Lib.hid (fun W (hf : Fr [] w W) => (show Calls Try.prog 42 #[v, .agg #[.int .i64 0, .string ⟨#[]⟩, .slice none 0 0, .slice none 0 0, .slice none 0 0]] W fun e w' => e = .returned (.bool true) ∧ Fr [] W w' from by
    have hz : ItemV W B (.agg #[.int .i64 0, .string ⟨#[]⟩, .slice none 0 0, .slice none 0 0, .slice none 0 0]) (newI 0) := ⟨none, 0, none, 0, none, 0, rfl, Sl.nil _ _ _, Sl.nil _ _ _, Sl.nil _ _ _⟩
    have := sameItem_any (newI 0) (newI 0) v _ W B (newI_small 0 (by decide)) (newI_small 0 (by decide)) (Nat.le_trans hB hf.size) (h.fr hf hB (by simp)) hz; rw [sameI_refl] at this; exact this))
  obtain ⟨A1, c1, A2, c2, A3, c3, rfl⟩ := h.form
  obtain ⟨P1, p1, P2, p2, P3, p3, rfl⟩ := k.form
  clear h k
  rw [show (newI 0).kind = 0 from rfl, show (newI 0).text = ⟨#[]⟩ from rfl, show (newI 0).list.length = 0 from rfl, show (newI 0).pairs.length = 0 from rfl, show (newI 0).scores.length = 0 from rfl] at *
  have q1 : (c != 0) = true := by simpa using hc
  have D0 := Lib.hid (B2.new w (.int .i64 0) (.string ⟨#[]⟩) (.slice A1 0 c1) (.slice A2 0 c2) (.slice A3 0 c3) (.int .i64 y.kind) (.string y.text) (.slice P1 y.list.length p1) (.slice P2 y.pairs.length p2) (.slice P3 y.scores.length p3))
  obtain ⟨d0, d1, d2, d3, d4⟩ := five D0.out.b1
  obtain ⟨e0, e1, e2, e3, e4⟩ := five D0.out.b2
  clear hc
  go_enter Try.func24, Try.ntmps24
  go_wp2_with fail
  refine (SI.out _ ?_).mono ?_
  · exact ((Fr.refl [] w).alloc _).alloc _
  rintro e w1 ⟨rfl, f1⟩
  go_wp2
  go_ret
  exact ⟨rfl, (((Fr.refl [] w).alloc _).alloc _).trans f1⟩

/-- an item, its errno and its number as they must be. -/
theorem itemIs_any (x : Itm) (c n : Int) (v u : Value) (w : World) (B : Nat) (hs : x.Small) (hB : B ≤ w.heap.size) (h : ItemV w B v x) (k : ItemV w B u x) (hn : c ≠ 0 → x = newI 0 ∧ n = 0) :
    Calls Try.prog 24 #[v, .int .i64 n, .int .i64 c, .int .i64 c, u, .int .i64 n] w fun e w' => e = .returned (.bool true) ∧ Fr [] w w' := by
  by_cases hc : c = 0
  · subst hc
    exact itemIs_ok x v u n w B hs hB h k
  · obtain ⟨rfl, rfl⟩ := hn hc
    exact itemIs_no (newI 0) c hc v u 0 w B hB h k
theorem itemIs0_any (x : Itm) (c : Int) (v u : Value) (w : World) (B : Nat) (hs : x.Small) (hB : B ≤ w.heap.size) (h : ItemV w B v x) (k : ItemV w B u x) (hn : c ≠ 0 → x = newI 0) :
    Calls Try.prog 24 #[v, .int .i64 0, .int .i64 c, .int .i64 c, u, .int .i64 0] w fun e w' => e = .returned (.bool true) ∧ Fr [] w w' :=
  itemIs_any x c 0 v u w B hs hB h k (fun hc => ⟨hn hc, rfl⟩)
end Go.Proofs.Ytmlmiboihjibiaa
