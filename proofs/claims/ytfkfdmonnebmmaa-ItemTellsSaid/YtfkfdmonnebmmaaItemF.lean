/- The walks of the program's rising, at texts. -/
import Derived.Test.YtfkfdmonnebmmaaItemE
set_option linter.unusedVariables false
set_option linter.unusedSimpArgs false
namespace Go.Proofs.Ytfkfdmonnebmmaa
open Go.RowKit

/-- does each stand behind the one ahead? -/
def rises {α : Type} (lt : α → α → Bool) : List α → Bool
  | [] => true
  | [_] => true
  | a :: b :: r => lt a b && rises lt (b :: r)

theorem rises_step {α : Type} {lt : α → α → Bool} {l : List α} {m : Nat} {a b : α} (ha : l[m]? = some a) (hb : l[m + 1]? = some b) : rises lt (l.drop m) = (lt a b && rises lt (l.drop (m + 1))) := by
  obtain ⟨h1, e1⟩ := List.getElem?_eq_some_iff.1 ha
  obtain ⟨h2, e2⟩ := List.getElem?_eq_some_iff.1 hb
  have d2 : l.drop (m + 1) = b :: l.drop (m + 2) := by rw [List.drop_eq_getElem_cons h2, e2]
  rw [List.drop_eq_getElem_cons h1, e1, d2]
  rfl
theorem rises_end {α : Type} {lt : α → α → Bool} {l : List α} {m : Nat} (h : l.length ≤ m + 1) : rises lt (l.drop m) = true := by
  have : (l.drop m).length ≤ 1 := by simp; omega
  match l.drop m, this with
  | [], _ => rfl
  | [_], _ => rfl

def ltS (a b : ByteArray) : Bool := decide (ordB a b < 0)

set_option maxHeartbeats 800000 in
theorem risingS_any (l : List ByteArray) (A : Option Addr) (c B : Nat) (w : World) (hl : l.length ≤ 281474976710656) (hB : B ≤ w.heap.size) (hsl : Sl w B 1 (.slice A l.length c) l.length (textsV l)) :
    Calls Try.prog 70 #[.slice A l.length c, .func (Fn.func 71) #[] #[]] w fun e w' => e = .returned (.bool (rises ltS l)) ∧ Fr [] w w' := by
  have HS := Lib.hid hsl
  clear hsl
  go_enter Try.func70, Try.ntmps70
  go_wp2
  go_loopg [5] l.length (fun g i wr => ∃ (m : Nat), g = l.length - m ∧ i = .int .i64 ((m : Int) + 1) ∧ m ≤ l.length ∧ rises ltS (l.drop m) = rises ltS l ∧ Fr [] w wr)
  case atStart => exact ⟨0, rfl, rfl, Nat.zero_le _, rfl, Fr.refl _ _⟩
  case round =>
    obtain ⟨m, rfl, rfl, hm, hR, hf⟩ := hrel
    by_cases hlt : m + 1 < l.length
    · obtain ⟨b, off, rfl, hb, hc, hmx, hcell⟩ := HS.out.at_ (by omega)
      obtain ⟨s, hs⟩ : ∃ s, l[m]? = some s := ⟨_, List.getElem?_eq_getElem (by omega)⟩
      obtain ⟨t, ht⟩ : ∃ t, l[m + 1]? = some t := ⟨_, List.getElem?_eq_getElem hlt⟩
      have hc1 : wr.cell? ⟨b, off + m, none⟩ = some (.string s) := hf.cell (hcell m _ (textsV_get l m s hs)) (by simp)
      have hc2 : wr.cell? ⟨b, off + (m + 1), none⟩ = some (.string t) := hf.cell (hcell (m + 1) _ (textsV_get l (m + 1) t ht)) (by simp)
      rw [rises_step hs ht] at hR
      have hC : ∀ W, Calls Try.prog 71 #[.string s, .string t] W fun e w' => e = .returned (.int .i64 (ordB s t)) ∧ ∃ n, w' = W.drewN n := fun W => (compare_any s t W).mono (fun e w' h => ⟨h.1, 0, h.2⟩)
      have HC := Lib.hid hC
      clear hcell hs ht hC
      have wr1 : IntKind.i64.wrap ((m : Int) + 1) = (m : Int) + 1 := IntWalk.i64_in _ (by omega)
      have wr2 : IntKind.i64.wrap (m : Int) = (m : Int) := IntWalk.i64_in _ (by omega)
      by_cases hq : ordB s t < 0
      · rw [show ltS s t = true from decide_eq_true hq, Bool.true_and] at hR
        have HR := Lib.hid hR
        clear hR
        go_wp2
        go_quiet ((go_at_call 71; exact Calls.quiet_of (HC.out _)))
        go_wp2
        go_roundg (l.length - (m + 1))
        case measure => omega
        case rel => exact ⟨m + 1, rfl, rfl, by omega, HR.out, hf.drewN _⟩
      · rw [show ltS s t = false from decide_eq_false hq, Bool.false_and] at hR
        have HR := Lib.hid hR
        clear hR
        go_wp2
        go_quiet ((go_at_call 71; exact Calls.quiet_of (HC.out _)))
        go_wp2
        go_ret
        rw [← HR.out]
        exact ⟨rfl, hf.drewN _⟩
    · rw [rises_end (by omega)] at hR
      have HR := Lib.hid hR
      clear hR
      go_wp2
      go_ret
      rw [← HR.out]
      exact ⟨rfl, hf⟩
end Go.Proofs.Ytfkfdmonnebmmaa
