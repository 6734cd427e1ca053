/- The walks of set.Meet, Join, Less. -/
import Derived.Test.YtmlmiboihjibiaaSeH
set_option linter.unusedVariables false
set_option linter.unusedSimpArgs false
namespace Go.Proofs.Ytmlmiboihjibiaa
open Go.RowKit

def meetP (m : Nat) (n : Nat) (_ : Bool) : Bool := decide (n = m)
def joinP (_ : Nat) (_ : Bool) : Bool := true
def lessP (n : Nat) (b : Bool) : Bool := b && decide (n = 1)

theorem meetP_any (l : List Itm) (A : Option Addr) (c g m : Nat) (n : Nat) (b : Bool) (w : World) (hm : m = l.length) (hl : l.length ≤ 281474976710656) (hg : w.cell? ⟨g, 0, none⟩ = some (.slice A l.length c)) :
    Calls Try.prog 108 (#[.int .i64 n, .bool b] ++ #[.pointer (some ⟨g, 0, none⟩)]) w fun e w' => e = .returned (.bool (meetP m n b)) ∧ Fr [] w w' := by
  subst hm
  by_cases h : n = l.length
  · have E : meetP l.length n b = true := decide_eq_true h
    have q : ((n : Int) == (l.length : Int)) = true := by simp [h]
    rw [E]
    clear h E
    go_enter Try.func108, Try.ntmps108
    go_wp2
    go_ret
    exact ⟨rfl, Fr.refl _ _⟩
  · have E : meetP l.length n b = false := decide_eq_false h
    have q : ((n : Int) == (l.length : Int)) = false := beq_eq_false_iff_ne.2 (by omega)
    rw [E]
    clear h E
    go_enter Try.func108, Try.ntmps108
    go_wp2
    go_ret
    exact ⟨rfl, Fr.refl _ _⟩
theorem joinP_any (n : Nat) (b : Bool) (w : World) :
    Calls Try.prog 109 (#[.int .i64 n, .bool b] ++ #[]) w fun e w' => e = .returned (.bool (joinP n b)) ∧ Fr [] w w' := by
  go_enter Try.func109, Try.ntmps109
  go_wp2
  go_ret
  exact ⟨rfl, Fr.refl _ _⟩
theorem lessP_any (n : Nat) (b : Bool) (w : World) :
    Calls Try.prog 110 (#[.int .i64 n, .bool b] ++ #[]) w fun e w' => e = .returned (.bool (lessP n b)) ∧ Fr [] w w' := by
  cases b with
  | false =>
    rw [show lessP n false = false from rfl]
    go_enter Try.func110, Try.ntmps110
    go_wp2
    go_ret
    exact ⟨rfl, Fr.refl _ _⟩
  | true =>
    by_cases h : n = 1
    · subst h
      rw [show lessP 1 true = true from rfl]
      go_enter Try.func110, Try.ntmps110
      go_wp2
      go_ret
      exact ⟨rfl, Fr.refl _ _⟩
    · have E : lessP n true = false := by unfold lessP; rw [decide_eq_false h]; rfl
      have q : ((n : Int) == 1) = false := beq_eq_false_iff_ne.2 (by omega)
      rw [E]
      clear h E
      go_enter Try.func110, Try.ntmps110
      go_wp2
      go_ret
      exact ⟨rfl, Fr.refl _ _⟩

set_option maxRecDepth 100000 in
theorem setMeet_any (l : List Itm) (v : Value) (w : World) (B : Nat) (hs : ∀ x ∈ l, x.Small) (hl : l.length ≤ 1048576) (hB : B ≤ w.heap.size) (h : ItemsV w B v l) :
    Calls Try.prog 48 #[v] w (SetsPost (setsR (meetP l.length) l) (setsCode l) w) := by
  obtain ⟨A, c, rfl⟩ := h.form
  have F1 := Lib.hid ((Fr.refl [] w).alloc (.cells #[.slice A l.length c] 68))
  have W1 := Lib.hid (Whole.new w 68 [.slice A l.length c])
  have SO := Lib.hid (setSome_any 108 #[.pointer (some ⟨w.heap.size, 0, none⟩)] (enters_any Try.func108 (by kernel_rfl) rfl) (meetP l.length) l (.slice A l.length c) (w.alloc (.cells #[.slice A l.length c] 68)) B
    (fun W n b hW => meetP_any l A c w.heap.size l.length n b W rfl (by omega) (by
      have := hW.whole W1.out (by simp) (by simp)
      exact this.cell 0)) hs hl (Nat.le_trans hB F1.out.size) (h.fr F1.out hB (by simp)))
  clear h hs
  go_enter Try.func48, Try.ntmps48
  go_wp2_with fail
  refine SO.out.mono ?_
  rintro e w1 ⟨u, rfl, ho, f1⟩
  have HO := Lib.hid ho
  have FF := Lib.hid (F1.out.trans f1)
  clear ho f1
  go_wp2
  go_ret2
  exact ⟨_, rfl, own_base HO.out (by simp), FF.out⟩
set_option maxRecDepth 100000 in
theorem setJoin_any (l : List Itm) (v : Value) (w : World) (B : Nat) (hs : ∀ x ∈ l, x.Small) (hl : l.length ≤ 1048576) (hB : B ≤ w.heap.size) (h : ItemsV w B v l) :
    Calls Try.prog 49 #[v] w (SetsPost (setsR joinP l) (setsCode l) w) := by
  have SO := Lib.hid (setSome_any 109 #[] (enters_any Try.func109 (by kernel_rfl) rfl) joinP l v w B (fun W n b hW => joinP_any n b W) hs hl hB h)
  obtain ⟨A, c, rfl⟩ := h.form
  clear h hs
  go_enter Try.func49, Try.ntmps49
  go_wp2_with fail
  refine SO.out.mono ?_
  rintro e w1 ⟨u, rfl, ho, f1⟩
  have HO := Lib.hid ho
  have FF := Lib.hid f1
  clear ho f1
  go_wp2
  go_ret2
  exact ⟨_, rfl, HO.out, FF.out⟩
set_option maxRecDepth 100000 in
theorem setLess_any (l : List Itm) (v : Value) (w : World) (B : Nat) (hs : ∀ x ∈ l, x.Small) (hl : l.length ≤ 1048576) (hB : B ≤ w.heap.size) (h : ItemsV w B v l) :
    Calls Try.prog 50 #[v] w (SetsPost (setsR lessP l) (setsCode l) w) := by
  have SO := Lib.hid (setSome_any 110 #[] (enters_any Try.func110 (by kernel_rfl) rfl) lessP l v w B (fun W n b hW => lessP_any n b W) hs hl hB h)
  obtain ⟨A, c, rfl⟩ := h.form
  clear h hs
  go_enter Try.func50, Try.ntmps50
  go_wp2_with fail
  refine SO.out.mono ?_
  rintro e w1 ⟨u, rfl, ho, f1⟩
  have HO := Lib.hid ho
  have FF := Lib.hid f1
  clear ho f1
  go_wp2
  go_ret2
  exact ⟨_, rfl, HO.out, FF.out⟩
end Go.Proofs.Ytmlmiboihjibiaa
