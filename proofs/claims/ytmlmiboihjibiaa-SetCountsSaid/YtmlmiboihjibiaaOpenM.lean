/- How long a row of scores or texts may be that a statement hands in. -/
import Derived.Test.YtmlmiboihjibiaaOpen
set_option linter.unusedVariables false
set_option linter.unusedSimpArgs false
namespace Go.Proofs.Ytmlmiboihjibiaa
open Go.ChangeShapes Go.WideShapes Go.RowKit Go.Deep

set_option maxRecDepth 100000 in
theorem reachScores {H : Type} {enc : TypeId × Value → H} {w : World} {A : Option Addr} {n c : Nat} {d : DataW H} {p : List MemPlace} (h : DataW.Trod enc Try.prog w 0 (fun _ => true) true 24 (.slice A n c) d p)
    (hw : ∀ q ∈ d.weights Try.prog 24, q ≤ reachBytes) : n * 24 ≤ 140737488351232 := by
  obtain ⟨fuel, hf⟩ := h
  rcases open_slice Try.underlying24 hf with ⟨hn, -⟩ | ⟨a, len, cap, m, k, D, Pl, hc, _, hl, hm, hmm, hd, hi⟩
  · simp [Value.cells] at hn
    omega
  · simp [Value.cells] at hc
    obtain ⟨rfl, rfl, rfl⟩ := hc
    simp at hd
    obtain ⟨rfl, rfl⟩ := hd
    obtain ⟨h1, h2⟩ := weights_slice Try.underlying24 hw
    rw [bytesScore] at h1
    simp only [List.length_map, List.length_range] at h1
    unfold reachBytes at h1
    have := Nat.le_trans (Nat.mul_le_mul_right 24 (Nat.le_add_right _ _)) h1
    omega
set_option maxRecDepth 100000 in
theorem reachTexts {H : Type} {enc : TypeId × Value → H} {w : World} {A : Option Addr} {n c : Nat} {d : DataW H} {p : List MemPlace} (h : DataW.Trod enc Try.prog w 0 (fun _ => true) true 22 (.slice A n c) d p)
    (hw : ∀ q ∈ d.weights Try.prog 22, q ≤ reachBytes) : n * 16 ≤ 140737488351232 := by
  obtain ⟨fuel, hf⟩ := h
  rcases open_slice Try.underlying22 hf with ⟨hn, -⟩ | ⟨a, len, cap, m, k, D, Pl, hc, _, hl, hm, hmm, hd, hi⟩
  · simp [Value.cells] at hn
    omega
  · simp [Value.cells] at hc
    obtain ⟨rfl, rfl, rfl⟩ := hc
    simp at hd
    obtain ⟨rfl, rfl⟩ := hd
    obtain ⟨h1, h2⟩ := weights_slice Try.underlying22 hw
    rw [bytesText] at h1
    simp only [List.length_map, List.length_range] at h1
    unfold reachBytes at h1
    have := Nat.le_trans (Nat.mul_le_mul_right 16 (Nat.le_add_right _ _)) h1
    omega
end Go.Proofs.Ytmlmiboihjibiaa
