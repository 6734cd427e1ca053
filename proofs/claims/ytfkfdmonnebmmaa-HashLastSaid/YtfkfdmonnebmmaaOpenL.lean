/- How long a row of pairs may be that a statement hands in. -/
import Derived.Test.YtfkfdmonnebmmaaOpen
set_option linter.unusedVariables false
set_option linter.unusedSimpArgs false
namespace Go.Proofs.Ytfkfdmonnebmmaa
open Go.ChangeShapes Go.WideShapes Go.RowKit Go.Deep

set_option maxRecDepth 100000 in
theorem reachPairs {H : Type} {enc : TypeId × Value → H} {w : World} {A : Option Addr} {n c : Nat} {d : DataW H} {p : List MemPlace} (h : DataW.Trod enc Try.prog w 0 (fun _ => true) true 30 (.slice A n c) d p)
    (hw : ∀ q ∈ d.weights Try.prog 30, q ≤ reachBytes) : n * 32 ≤ 140737488351232 := by
  obtain ⟨fuel, hf⟩ := h
  rcases open_slice Try.underlying30 hf with ⟨hn, -⟩ | ⟨a, len, cap, m, k, D, Pl, hc, _, hl, hm, hmm, hd, hi⟩
  · simp [Value.cells] at hn
    omega
  · simp [Value.cells] at hc
    obtain ⟨rfl, rfl, rfl⟩ := hc
    simp at hd
    obtain ⟨rfl, rfl⟩ := hd
    obtain ⟨h1, h2⟩ := weights_slice Try.underlying30 hw
    rw [bytesPair] at h1
    simp only [List.length_map, List.length_range] at h1
    unfold reachBytes at h1
    have := Nat.le_trans (Nat.mul_le_mul_right 32 (Nat.le_add_right _ _)) h1
    omega
end Go.Proofs.Ytfkfdmonnebmmaa
