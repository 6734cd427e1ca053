/- The walk of the program's rising, at pairs. -/
import Derived.Test.YtfkfdmonnebmmaaItemG
import Derived.Deep.RegionWith
set_option linter.unusedVariables false
set_option linter.unusedSimpArgs false
namespace Go.Proofs.Ytfkfdmonnebmmaa
open Go.RowKit

set_option maxHeartbeats 800000 in
theorem risingP_any (l : List (ByteArray × ByteArray)) (A : Option Addr) (c B : Nat) (w : World) (hl : l.length ≤ 281474976710656) (hB : B ≤ w.heap.size) (hsl : Sl w B 2 (.slice A l.length c) l.length (pairsV l)) :
    Calls Try.prog 72 #[.slice A l.length c, .func (Fn.func 73) #[] #[]] w fun e w' => e = .returned (.bool (rises ltP l)) ∧ Fr [] w w' := by
  have HS := Lib.hid hsl
  clear hsl
  go_enter Try.func72, Try.ntmps72
  go_wp2
  go_loopg [5] l.length (fun g i wr => ∃ (m : Nat), g = l.length - m ∧ i = .int .i64 ((m : Int) + 1) ∧ m ≤ l.length ∧ rises ltP (l.drop m) = rises ltP l ∧ Fr [] w wr)
  case atStart => exact ⟨0, rfl, rfl, Nat.zero_le _, rfl, Fr.refl _ _⟩
  case round =>
    obtain ⟨m, rfl, rfl, hm, hR, hf⟩ := hrel
    by_cases hlt : m + 1 < l.length
    · obtain ⟨b, off, rfl, hb, hc, hmx, hcell⟩ := HS.out.at_ (by omega)
      obtain ⟨s, hs⟩ : ∃ s, l[m]? = some s := ⟨_, List.getElem?_eq_getElem (by omega)⟩
      obtain ⟨t, ht⟩ : ∃ t, l[m + 1]? = some t := ⟨_, List.getElem?_eq_getElem hlt⟩
      have hc1 : wr.cell? ⟨b, off + 2 * m, none⟩ = some (.string s.1) := hf.cell (hcell _ _ (pairsV_get l m s hs).1) (by simp)
      have hc2 : wr.cell? ⟨b, off + 2 * m + 1, none⟩ = some (.string s.2) := hf.cell (hcell _ _ (pairsV_get l m s hs).2) (by simp)
      have hc3 : wr.cell? ⟨b, off + 2 * (m + 1), none⟩ = some (.string t.1) := hf.cell (hcell _ _ (pairsV_get l (m + 1) t ht).1) (by simp)
      have hc4 : wr.cell? ⟨b, off + 2 * (m + 1) + 1, none⟩ = some (.string t.2) := hf.cell (hcell _ _ (pairsV_get l (m + 1) t ht).2) (by simp)
      rw [Nat.mul_comm 2 m] at hc1 hc2
      rw [Nat.mul_comm 2 (m + 1)] at hc3 hc4
      rw [rises_step hs ht] at hR
      have HC := Lib.hid (fun W => fields_any s t W)
      clear hcell hs ht
      have wr1 : IntKind.i64.wrap ((m : Int) + 1) = (m : Int) + 1 := IntWalk.i64_in _ (by omega)
      have wr2 : IntKind.i64.wrap (m : Int) = (m : Int) := IntWalk.i64_in _ (by omega)
      by_cases hq : ordB s.1 t.1 < 0
      · rw [show ltP s t = true from decide_eq_true hq, Bool.true_and] at hR
        have HR := Lib.hid hR
        clear hR
        go_wp2
        go_region_with (refine (HC.out _).mono ?_; rintro e w2 ⟨rfl, f2⟩)
        all_goals
          go_wp2
          go_roundg (l.length - (m + 1))
          case measure => omega
          case rel => exact ⟨m + 1, rfl, rfl, by omega, HR.out, hf.step (T := []) ⟨f2.os, f2.tape, f2.output, f2.size, f2.block⟩ (by simp)⟩
      · rw [show ltP s t = false from decide_eq_false hq, Bool.false_and] at hR
        have HR := Lib.hid hR
        clear hR
        go_wp2
        go_region_with (refine (HC.out _).mono ?_; rintro e w2 ⟨rfl, f2⟩)
        all_goals
          go_wp2
          go_ret
          rw [← HR.out]
          exact ⟨rfl, hf.step (T := []) ⟨f2.os, f2.tape, f2.output, f2.size, f2.block⟩ (by simp)⟩
    · rw [rises_end (by omega)] at hR
      have HR := Lib.hid hR
      clear hR
      go_wp2
      go_ret
      rw [← HR.out]
      exact ⟨rfl, hf⟩
end Go.Proofs.Ytfkfdmonnebmmaa
