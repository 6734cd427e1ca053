/- slices.Clone at springhouse/api.Score: a row of the call's own. (Printed by elem.py.) -/
import Derived.Test.YtmlmiboihjibiaaSlA
import Derived.Test.YtmlmiboihjibiaaItf
import Derived.Laws.OwnMore
import Derived.WalkSpells
set_option linter.unusedVariables false
set_option linter.unusedSimpArgs false
namespace Go.Proofs.Ytmlmiboihjibiaa
open Go.RowKit

set_option maxRecDepth 100000 in
theorem cloneC_row (n : Nat) (xs : List Value) (A : Option Addr) (c : Nat) (w : World) (B : Nat) (hl : n ≤ 1000000) (hB : B ≤ w.heap.size) (h : Sl w B 2 (.slice A n c) n xs) (h1 : ∀ u ∈ xs, u.oneCell' = true) :
    Calls Try.prog 59 #[.slice A n c] w (RowPost 36 2 n xs w) := by
  obtain ⟨i0, hi, hz0, hz1, hz2⟩ := info_parts scoreInfo
  have q29 : ∀ (w : World) (a : Option Addr) (n c n' c' : Nat), (binOp .eql 24 (.slice a n c) (.slice none n' c')).run Try.prog w = .ok (.bool a.isNone) w := fun w a n c n' c' => Lib.run_eql_slice_nil w _ _ a n c n' c' Try.underlying24
  cases A with
  | none =>
    obtain ⟨A', c', e, hlx, hc, hm, hr⟩ := h
    cases e
    have h0 : n = 0 := by
      rcases Nat.eq_zero_or_pos n with h0 | h0
      · exact h0
      · obtain ⟨_, _, h, _⟩ := hr h0
        cases h
    subst h0
    obtain rfl : xs = [] := List.eq_nil_of_length_eq_zero (by omega)
    clear hr h1
    go_enter Try.func59, Try.ntmps59
    go_wp2
    go_ret
    exact ⟨_, rfl, World.ownsRow_nil _ _ _ _, Fr.refl [] w⟩
  | some ad =>
    have hO := (World.ownsRow_lit (base := w.heap.size) (e := 36) (size := 2) w #[] 0 (Nat.le_refl _) (Nat.zero_le _) rfl)
    have hsl := h.fr ((Fr.refl [] w).alloc (.cells #[] 36)) hB (by simp)
    have H1 := Lib.hid h1
    have HS := Lib.hid hsl
    clear h h1 hsl
    go_enter Try.func59, Try.ntmps59
    go_wp2_with (at_builtin; refine wpList_append_sl _ rfl _ _ 24 rfl w.heap.size 36 i0 _ 2 24 Try.underlying24 hi hz0 hz1 hz2 rfl (by decide) _ _ _ rfl hO B _ n xs rfl HS.out H1.out ?c1 ?c2 (by simp) ?_)
    case c1 => unfold maxLen; omega
    case c2 => omega
    intro v' w2 hown' hgrow hat
    go_wp2
    go_ret
    refine ⟨_, rfl, by simpa using hown', ((Fr.refl [] w).alloc _).grown hgrow (fun k hk => ?_)⟩
    simp [Value.ownBlock] at hk
    subst hk
    exact .inr (Nat.le_refl _)
end Go.Proofs.Ytmlmiboihjibiaa
