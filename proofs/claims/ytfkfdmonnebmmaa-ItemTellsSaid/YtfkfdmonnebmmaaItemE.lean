/- The walks of slices.ContainsFunc at an item's rows, and of the program's long. -/
import Derived.Test.YtfkfdmonnebmmaaItemD
set_option linter.unusedVariables false
set_option linter.unusedSimpArgs false
namespace Go.Proofs.Ytfkfdmonnebmmaa
open Go.RowKit

theorem idxOf_any {α : Type} (q : α → Bool) (l : List α) : 0 ≤ idxOf q l ↔ l.any q = true := by
  cases h : l.any q with
  | false =>
    have : idxOf q l = -1 := idxOf_none (fun j t ht => by
      have := List.any_eq_false.1 h t (List.mem_of_getElem? ht)
      simpa using this)
    rw [this]
    simp
  | true =>
    obtain ⟨t, ht, hq⟩ := List.any_eq_true.1 h
    unfold idxOf
    cases hf : l.findIdx? q with
    | none =>
      rw [List.findIdx?_eq_none_iff] at hf
      have := hf t ht
      rw [hq] at this
      cases this
    | some i => simp

theorem conS_any (l : List (ByteArray)) (A : Option Addr) (c B : Nat) (w : World) (hl : l.length ≤ 281474976710656) (hB : B ≤ w.heap.size) (hsl : Sl w B 1 (.slice A l.length c) l.length (textsV l)) :
    Calls Try.prog 109 #[.slice A l.length c, .func (Fn.func 67) #[] #[]] w fun e w' => e = .returned (.bool (l.any longS)) ∧ Fr [] w w' := by
  have I := Lib.hid (idxLong_any l A c B w hl hB hsl)
  have h := idxOf_any longS l
  clear hsl
  generalize idxOf longS l = r at *
  generalize l.any longS = b at *
  generalize l.length = n at *
  cases b
  · have hr : r < 0 := by simpa using h
    clear h
    go_enter Try.func109, Try.ntmps109
    go_wp2_with fail
    refine I.out.mono ?_
    rintro e w1 ⟨rfl, h1⟩
    go_wp2
    go_ret
    exact ⟨by simp <;> omega, h1⟩
  · have hr : 0 ≤ r := by simpa using h
    clear h
    go_enter Try.func109, Try.ntmps109
    go_wp2_with fail
    refine I.out.mono ?_
    rintro e w1 ⟨rfl, h1⟩
    go_wp2
    go_ret
    exact ⟨by simp <;> omega, h1⟩

theorem conP_any (l : List (ByteArray × ByteArray)) (A : Option Addr) (c B : Nat) (w : World) (hl : l.length ≤ 281474976710656) (hB : B ≤ w.heap.size) (hsl : Sl w B 2 (.slice A l.length c) l.length (pairsV l)) :
    Calls Try.prog 91 #[.slice A l.length c, .func (Fn.func 110) #[] #[]] w fun e w' => e = .returned (.bool (l.any longP)) ∧ Fr [] w w' := by
  have I := Lib.hid (idxLongP_any l A c B w hl hB hsl)
  have h := idxOf_any longP l
  clear hsl
  generalize idxOf longP l = r at *
  generalize l.any longP = b at *
  generalize l.length = n at *
  cases b
  · have hr : r < 0 := by simpa using h
    clear h
    go_enter Try.func91, Try.ntmps91
    go_wp2_with fail
    refine I.out.mono ?_
    rintro e w1 ⟨rfl, h1⟩
    go_wp2
    go_ret
    exact ⟨by simp <;> omega, h1⟩
  · have hr : 0 ≤ r := by simpa using h
    clear h
    go_enter Try.func91, Try.ntmps91
    go_wp2_with fail
    refine I.out.mono ?_
    rintro e w1 ⟨rfl, h1⟩
    go_wp2
    go_ret
    exact ⟨by simp <;> omega, h1⟩

theorem conC_any (l : List (Int × ByteArray)) (A : Option Addr) (c B : Nat) (w : World) (hl : l.length ≤ 281474976710656) (hB : B ≤ w.heap.size) (hsl : Sl w B 2 (.slice A l.length c) l.length (scoresV l)) :
    Calls Try.prog 111 #[.slice A l.length c, .func (Fn.func 112) #[] #[]] w fun e w' => e = .returned (.bool (l.any longC)) ∧ Fr [] w w' := by
  have I := Lib.hid (idxLongC_any l A c B w hl hB hsl)
  have h := idxOf_any longC l
  clear hsl
  generalize idxOf longC l = r at *
  generalize l.any longC = b at *
  generalize l.length = n at *
  cases b
  · have hr : r < 0 := by simpa using h
    clear h
    go_enter Try.func111, Try.ntmps111
    go_wp2_with fail
    refine I.out.mono ?_
    rintro e w1 ⟨rfl, h1⟩
    go_wp2
    go_ret
    exact ⟨by simp <;> omega, h1⟩
  · have hr : 0 ≤ r := by simpa using h
    clear h
    go_enter Try.func111, Try.ntmps111
    go_wp2_with fail
    refine I.out.mono ?_
    rintro e w1 ⟨rfl, h1⟩
    go_wp2
    go_ret
    exact ⟨by simp <;> omega, h1⟩

/-- has one of them too many bytes? -/
def longI (x : Itm) : Bool := x.list.any longS || x.pairs.any longP || x.scores.any longC

set_option maxHeartbeats 400000 in
theorem itemLong_any (x : Itm) (v : Value) (w : World) (B : Nat) (hs : x.Small) (hB : B ≤ w.heap.size) (h : ItemV w B v x) :
    Calls Try.prog 69 #[v] w fun e w' => e = .returned (.bool (longI x)) ∧ Fr [] w w' := by
  obtain ⟨A1, c1, A2, c2, A3, c3, rfl, h1, h2, h3⟩ := h
  have S := Lib.hid (fun W (hf : Fr [] w W) => conS_any x.list A1 c1 B W hs.list (Nat.le_trans hB hf.size) (h1.fr hf hB (by simp)))
  have P := Lib.hid (fun W (hf : Fr [] w W) => conP_any x.pairs A2 c2 B W hs.pairs (Nat.le_trans hB hf.size) (h2.fr hf hB (by simp)))
  have C := Lib.hid (fun W (hf : Fr [] w W) => conC_any x.scores A3 c3 B W hs.scores (Nat.le_trans hB hf.size) (h3.fr hf hB (by simp)))
  have hE : longI x = (x.list.any longS || x.pairs.any longP || x.scores.any longC) := rfl
  clear h1 h2 h3 hs
  generalize longI x = r at *
  generalize x.list.any longS = b1 at *
  generalize x.pairs.any longP = b2 at *
  generalize x.scores.any longC = b3 at *
  generalize x.list.length = n1 at *
  generalize x.pairs.length = n2 at *
  generalize x.scores.length = n3 at *
  generalize x.kind = k at *
  generalize x.text = t at *
  subst hE
  have hz : Fr [] w (w.alloc (.cells #[.int .i64 k, .string t, .slice A1 n1 c1, .slice A2 n2 c2, .slice A3 n3 c3] 33)) := (Fr.refl [] w).alloc _
  cases b1
  · cases b2
    · go_enter Try.func69, Try.ntmps69
      go_wp2_with fail
      refine (S.out _ hz).mono ?_
      rintro e w1 ⟨rfl, f1⟩
      have W0 : Whole (w.alloc (.cells #[.int .i64 k, .string t, .slice A1 n1 c1, .slice A2 n2 c2, .slice A3 n3 c3] 33)) w.heap.size 33 [.int .i64 k, .string t, .slice A1 n1 c1, .slice A2 n2 c2, .slice A3 n3 c3] := Whole.new w _ _
      have W1 := W0.fr f1 (by simp)
      have d3 : w1.cell? ⟨w.heap.size, 3, none⟩ = some (.slice A2 n2 c2) := W1.cell 3
      have d4 : w1.cell? ⟨w.heap.size, 4, none⟩ = some (.slice A3 n3 c3) := W1.cell 4
      have HW := Lib.hid W1
      clear W0 W1
      go_wp2_with fail
      refine (P.out _ (hz.trans f1)).mono ?_
      rintro e w2 ⟨rfl, f2⟩
      have e4 : w2.cell? ⟨w.heap.size, 4, none⟩ = some (.slice A3 n3 c3) := (HW.out.fr f2 (by simp)).cell 4
      go_wp2_with fail
      refine (C.out _ ((hz.trans f1).trans f2)).mono ?_
      rintro e w3 ⟨rfl, f3⟩
      go_wp2
      go_ret
      exact ⟨by simp, ((hz.trans f1).trans f2).trans f3⟩
    · go_enter Try.func69, Try.ntmps69
      go_wp2_with fail
      refine (S.out _ hz).mono ?_
      rintro e w1 ⟨rfl, f1⟩
      have W0 : Whole (w.alloc (.cells #[.int .i64 k, .string t, .slice A1 n1 c1, .slice A2 n2 c2, .slice A3 n3 c3] 33)) w.heap.size 33 [.int .i64 k, .string t, .slice A1 n1 c1, .slice A2 n2 c2, .slice A3 n3 c3] := Whole.new w _ _
      have W1 := W0.fr f1 (by simp)
      have d3 : w1.cell? ⟨w.heap.size, 3, none⟩ = some (.slice A2 n2 c2) := W1.cell 3
      have d4 : w1.cell? ⟨w.heap.size, 4, none⟩ = some (.slice A3 n3 c3) := W1.cell 4
      have HW := Lib.hid W1
      clear W0 W1
      go_wp2_with fail
      refine (P.out _ (hz.trans f1)).mono ?_
      rintro e w2 ⟨rfl, f2⟩
      go_wp2
      go_ret
      exact ⟨rfl, (hz.trans f1).trans f2⟩
  · go_enter Try.func69, Try.ntmps69
    go_wp2_with fail
    refine (S.out _ hz).mono ?_
    rintro e w1 ⟨rfl, f1⟩
    go_wp2
    go_ret
    exact ⟨rfl, hz.trans f1⟩
end Go.Proofs.Ytfkfdmonnebmmaa
