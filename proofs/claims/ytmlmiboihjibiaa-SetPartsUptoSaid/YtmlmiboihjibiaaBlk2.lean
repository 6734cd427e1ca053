/- What the bulk's bound of an 'Upto' statement says of a row's length, one better. -/
import Derived.Test.YtmlmiboihjibiaaBlk
import Derived.Test.YtmlmiboihjibiaaOpen
set_option linter.unusedVariables false
set_option linter.unusedSimpArgs false
namespace Go.Proofs.Ytmlmiboihjibiaa
open Go.ChangeShapes Go.WideShapes Go.RowKit Go.Deep

theorem bulk_slice1 {H : Type} {enc : TypeId × Value → H} {w : World} {t e : TypeId} {A : Option Addr} {n c : Nat} {d : DataW H} {p : List MemPlace} (ht : Try.prog.underlying t = some (.slice e))
    (h : DataW.Trod enc Try.prog w 0 (fun _ => true) true t (.slice A n c) d p) : n + 1 ≤ Rows.uptoBulk d := by
  obtain ⟨fuel, hf⟩ := h
  rcases open_slice ht hf with ⟨hn, hd⟩ | ⟨a, len, cap, m, k, D, Pl, hc, _, hl, hm, hmm, hd, hi⟩
  · simp [Value.cells] at hn
    simp only [Prod.mk.injEq] at hd
    rw [hd.1]
    simp only [Rows.uptoBulk]
    omega
  · simp [Value.cells] at hc
    obtain ⟨rfl, rfl, rfl⟩ := hc
    simp only [Prod.mk.injEq] at hd
    rw [hd.1]
    have := bulk_len ((List.range n).map D)
    rw [List.length_map, List.length_range] at this
    simp only [Rows.uptoBulk]
    omega
end Go.Proofs.Ytmlmiboihjibiaa
