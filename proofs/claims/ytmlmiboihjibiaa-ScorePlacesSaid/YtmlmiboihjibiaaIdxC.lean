/- slices.IndexFunc and DeleteFunc at springhouse/api.Score, whatever the function. (Printed by elem.py.) -/
import Derived.Test.YtmlmiboihjibiaaCloneC
import Derived.Test.YtmlmiboihjibiaaSlA
set_option linter.unusedVariables false
set_option linter.unusedSimpArgs false
namespace Go.Proofs.Ytmlmiboihjibiaa
open Go.RowKit

/-- a function value that says p, whatever has been laid or turned from block B on. -/
def PredC (g : Nat) (lb : Array Value) (p : (Int × ByteArray) → Bool) (B : Nat) (w : World) : Prop :=
  ∀ W (x : (Int × ByteArray)), FrB [] B w W → Calls Try.prog g (#[.agg #[.int .i64 x.1, .string x.2]] ++ lb) W fun e w' => e = .returned (.bool (p x)) ∧ Fr [] W w'

theorem PredC.later {g : Nat} {lb : Array Value} {p : (Int × ByteArray) → Bool} {B : Nat} {w w' : World} (h : PredC g lb p B w) (hf : FrB [] B w w') : PredC g lb p B w' := fun W x hW => h W x (hf.trans hW)

set_option maxHeartbeats 400000 in
set_option maxRecDepth 100000 in
theorem idxC_any (g : Nat) (lb : Array Value) (eg : ∀ args w, (callFunc g args).run Try.prog w = .ok (.enter g args) w) (p : (Int × ByteArray) → Bool) (D : Nat) (l : List (Int × ByteArray)) (A : Option Addr) (c B : Nat) (w : World) (hp : PredC g lb p D w) (hl : l.length ≤ 281474976710656) (hB : B ≤ w.heap.size)
    (hsl : Sl w B 2 (.slice A l.length c) l.length (scoresV l)) :
    Calls Try.prog 116 #[.slice A l.length c, .func (Fn.func g) #[] lb] w fun e w' => e = .returned (.int .i64 (idxOf p l)) ∧ Fr [] w w' := by
  have HS := Lib.hid hsl
  have HP := Lib.hid hp
  clear hsl hp
  go_enter Try.func116, Try.ntmps116
  go_wp2
  go_loopg [5, 8] l.length (fun g u i wr => ∃ (k : Nat), g = l.length - k ∧ k ≤ l.length ∧ i = .int .i64 k ∧ (∀ j t, j < k → l[j]? = some t → p t = false) ∧ Fr [] w wr)
  case atStart => exact ⟨0, rfl, Nat.zero_le _, rfl, fun j t hj => absurd hj (Nat.not_lt_zero _), Fr.refl _ _⟩
  case round =>
    obtain ⟨k, rfl, hk, rfl, hno, hf⟩ := hrel
    by_cases hlt : k < l.length
    · obtain ⟨b, off, rfl, hb, hc, hm, hcell⟩ := HS.out.at_ (by omega)
      obtain ⟨s, hs⟩ : ∃ s, l[k]? = some s := ⟨_, List.getElem?_eq_getElem hlt⟩
      have hc1 : wr.cell? ⟨b, off + 2 * k, none⟩ = some (.int .i64 s.1) := hf.cell (hcell _ _ (scoresV_get l k s hs).1) (by simp)
      have hc2 : wr.cell? ⟨b, off + 2 * k + 1, none⟩ = some (.string s.2) := hf.cell (hcell _ _ (scoresV_get l k s hs).2) (by simp)
      rw [Nat.mul_comm 2 k] at hc1 hc2
      have L := Lib.hid (fun W (hW : Fr [] wr W) => HP.out W s ((hf.toB D).trans (hW.toB D)))
      have HF := Lib.hid hf
      have F1 := Lib.hid (Fr.refl [] wr)
      by_cases hq : p s = true
      · have E := Lib.hid (idxOf_found hno hs hq)
        rw [hq] at L
        clear hno hcell hs hq hf
        go_wp2_with fail
        refine (L.out _ F1.out).mono ?_
        rintro e w1 ⟨rfl, h1⟩
        go_wp2
        go_ret
        rw [E.out]
        exact ⟨rfl, HF.out.trans h1⟩
      · have hq' : p s = false := by simpa using hq
        rw [hq'] at L
        have N := Lib.hid (fun j t (hj : j < k + 1) (ht : l[j]? = some t) => (show p t = false by
          rcases Nat.lt_or_ge j k with h | h
          · exact hno j t h ht
          · have e : j = k := by omega
            subst e
            rw [hs] at ht
            cases ht
            exact hq'))
        clear hno hcell hs hq hq' hf
        go_wp2_with fail
        refine (L.out _ F1.out).mono ?_
        rintro e w1 ⟨rfl, h1⟩
        go_wp2
        go_roundg (l.length - (k + 1))
        case measure => omega
        case rel => exact ⟨k + 1, rfl, by omega, rfl, N.out, HF.out.trans h1⟩
    · have E := Lib.hid (idxOf_none (q := p) (l := l) (fun j t ht => hno j t (by have := (List.getElem?_eq_some_iff.1 ht).1; omega) ht))
      clear hno
      go_wp2
      go_ret
      rw [E.out]
      exact ⟨rfl, hf⟩
end Go.Proofs.Ytmlmiboihjibiaa
