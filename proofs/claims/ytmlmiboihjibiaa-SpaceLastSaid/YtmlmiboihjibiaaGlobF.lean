/- The walks of the program's patterns: what is ready; the match. -/
import Derived.Test.YtmlmiboihjibiaaGlobE
import Derived.StillTailTactics
set_option linter.unusedVariables false
set_option linter.unusedSimpArgs false
namespace Go.Proofs.Ytmlmiboihjibiaa
open Go.RowKit
attribute [local go_sem] byteAt_eq

def ReadyPost (w : World) (p : ByteArray) (e : Ending) (w' : World) : Prop :=
  (checkGlob p = 0 ∧ p.size ≤ 60 ∧ ∃ l v xs, partsFrom p 0 = some l ∧ e = .returned (.tuple #[v, .int .i64 0]) ∧ w'.ownsRow (w.heap.size + 3) 164 2 v l.length xs ∧ cellsOf w' (w.heap.size + 3) w'.heap.size (l.map (·.2)) xs ∧ Fr [] w w') ∨
  (checkGlob p ≠ 0 ∧ e = .returned (.tuple #[.slice none 0 0, .int .i64 (checkGlob p)]) ∧ Fr [] w w')

theorem ready_any (p : ByteArray) (w : World) (hs : p.size ≤ 281474976710656) :
    Calls Try.prog 135 #[.string p] w (ReadyPost w p) := by
  by_cases h60 : 60 < p.size
  · have hE : checkGlob p = 2 := by unfold checkGlob; rw [if_pos h60]
    have E := Lib.hid hE
    clear hE
    go_enter Try.func135, Try.ntmps135
    go_wp2
    go_ret2
    refine .inr ⟨by rw [E.out]; decide, by rw [E.out]; rfl, Fr.refl _ _⟩
  · have hE : checkGlob p = if (partsFrom p 0).isSome then 0 else 1 := by unfold checkGlob okAt; rw [if_neg h60]
    have E := Lib.hid hE
    clear hE
    go_enter Try.func135, Try.ntmps135
    go_wp2_with fail
    refine (parts_any p _ (by omega)).mono ?_
    intro e w1 hpost
    unfold PartsPost at hpost
    cases hp : partsFrom p 0 with
    | none =>
      rw [hp] at hpost E
      obtain ⟨rfl, hf⟩ := hpost
      go_wp2
      go_ret2
      refine .inr ⟨by rw [E.out]; decide, by rw [E.out]; rfl, hf⟩
    | some l =>
      rw [hp] at hpost E
      obtain ⟨v, n, xs, rfl, hown, hcells, rfl, hf⟩ := hpost
      have HP := Lib.hid hp
      clear hp
      go_wp2
      go_ret2
      exact .inl ⟨by rw [E.out]; rfl, by omega, l, v, xs, HP.out, rfl, hown, hcells, hf⟩

theorem globCheck_any (p : ByteArray) (w : World) (hs : p.size ≤ 281474976710656) :
    Calls Try.prog 87 #[.string p] w fun e w' => e = .returned (.int .i64 (checkGlob p)) ∧ Fr [] w w' := by
  go_enter Try.func87, Try.ntmps87
  go_wp2_with fail
  refine (ready_any p _ hs).mono ?_
  intro e w1 hpost
  rcases hpost with ⟨hc, _, l, v, xs, hp, rfl, _, _, hf⟩ | ⟨hc, rfl, hf⟩
  · have HC := Lib.hid hc
    clear hc hp
    go_wp2
    go_ret
    rw [HC.out]
    exact ⟨rfl, hf⟩
  · clear hc
    go_wp2
    go_ret
    exact ⟨rfl, hf⟩
end Go.Proofs.Ytmlmiboihjibiaa
