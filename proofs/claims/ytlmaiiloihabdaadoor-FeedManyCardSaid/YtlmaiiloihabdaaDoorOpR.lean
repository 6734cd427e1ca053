/- A law's argument, opened: a row of rows of texts. -/
import Derived.Test.YtlmaiiloihabdaaDoorOpen
import Derived.Test.YtlmaiiloihabdaaDoorRo
set_option linter.unusedVariables false
set_option linter.unusedSimpArgs false
namespace Go.Proofs.YtlmaiiloihabdaaDoor
open Go.ChangeShapes Go.WideShapes Go.RowKit Go.Deep

theorem bytesRow : Tryd.prog.bytesOf 22 = 24 := by kernel_rfl
theorem cellsRow : Tryd.prog.cellsOf 22 = 1 := by kernel_rfl

section
variable {H : Type} {enc : TypeId × Value → H} {w : World}
set_option maxRecDepth 100000 in
/-- likewise, off the cells. -/
theorem openRows {fuel : Nat} {cs : List Value} {x : DataW H × List MemPlace} (h : DataW.trod enc Tryd.prog w 0 (fun _ => true) true fuel 26 cs = some x) (hw : ∀ q ∈ x.1.weights Tryd.prog 26, q ≤ reachBytes) :
    ∃ A c l, cs = [.slice A l.length c] ∧ RowsV w w.heap.size (.slice A l.length c) l ∧ l.length ≤ 5864062014634 ∧ ∀ r ∈ l, r.length ≤ 281474976710656 ∧ ∀ s ∈ r, s.size ≤ 281474976710656 := by
  rcases open_slice Tryd.underlying26 h with ⟨hc, hd⟩ | ⟨a, len, cap, m, n, D, Pl, hc, _, hl, hm, hmm, hx, hi⟩
  · exact ⟨none, 0, [], hc, RowsV.nil _ _, by simp, fun x hx => by cases hx⟩
  · rw [hx] at hw
    obtain ⟨h1, h2⟩ := weights_slice Tryd.underlying26 hw
    simp only [if_true] at hmm
    rw [bytesRow] at h1
    simp only [List.length_map, List.length_range] at h1
    unfold reachBytes at h1
    rw [cellsRow] at hi
    have each : ∀ i, i < len → ∃ q : Value × List ByteArray, w.cell? (a.add i) = some q.1 ∧ TxV w w.heap.size q.1 q.2 ∧ q.2.length ≤ 281474976710656 ∧ ∀ s ∈ q.2, s.size ≤ 281474976710656 := by
      intro i hlt
      obtain ⟨cs', hc', ht⟩ := hi i (by omega)
      obtain ⟨_, hl1, hat⟩ := World.cells?_some hc'
      have hd := h2 (D i) (List.mem_map.2 ⟨i, by simpa using hlt, rfl⟩)
      obtain ⟨A1, c1, r, hr, s1, z1, q1⟩ := openTexts ht hd
      have e0 := hat 0 (by omega)
      subst hr
      have e1 : (a.add (i * 1)).add 0 = a.add i := by rw [Nat.mul_one]; rfl
      rw [e1] at e0
      exact ⟨(.slice A1 r.length c1, r), e0, ⟨A1, c1, rfl, s1⟩, z1, q1⟩
    obtain ⟨l, hll, hp⟩ := listOf _ len each
    subst hll
    refine ⟨some a, cap, l.map (·.2), by rw [List.length_map]; exact hc, ⟨_, _, l.map (·.1), rfl, ⟨by simp, fun i x hx => ?_⟩, ?_⟩, by rw [List.length_map]; omega, fun x hx => ?_⟩
    · rw [List.getElem?_map] at hx
      obtain ⟨q, hq, rfl⟩ := Option.map_eq_some_iff.1 hx
      exact ⟨q.1, by rw [List.getElem?_map, hq]; rfl, (hp i q hq).2.1⟩
    · rw [List.length_map]
      rcases Nat.eq_zero_or_pos l.length with h0 | h0
      · exact ⟨_, _, rfl, by simp, hl, hm, fun h => absurd h (by omega)⟩
      · obtain ⟨q0, hq0⟩ : ∃ p, l[0]? = some p := ⟨_, List.getElem?_eq_getElem h0⟩
        have hc0 := (hp 0 q0 hq0).1
        have e0 : a.add 0 = a := rfl
        rw [e0] at hc0
        obtain ⟨ha, hb⟩ := addr_form hc0
        refine sl_cells (b := a.block) (o := a.off) (fun _ => by rw [← ha]) (by simp) hl hm (fun _ => hb) (fun j u hu => ?_)
        rw [List.getElem?_map] at hu
        obtain ⟨q, hq, rfl⟩ := Option.map_eq_some_iff.1 hu
        have := (hp j q hq).1
        rw [ha, add_form] at this
        exact this
    · obtain ⟨q, hq, rfl⟩ := List.mem_map.1 hx
      obtain ⟨i, hi⟩ := List.getElem?_of_mem hq
      exact (hp i q hi).2.2
set_option maxRecDepth 100000 in
theorem openRowsA {r : Reach} {b0 : Nat} {v : Value} {d : DataW H} {p : List MemPlace} (hv : Value.okWide Tryd.prog w r b0 26 v) (h : DataW.Trod enc Tryd.prog w 0 (fun _ => true) true 26 v d p)
    (hw : ∀ q ∈ d.weights Tryd.prog 26, q ≤ reachBytes) : ∃ A c l, v = .slice A l.length c ∧ RowsV w w.heap.size (.slice A l.length c) l ∧ l.length ≤ 5864062014634 ∧ ∀ r ∈ l, r.length ≤ 281474976710656 ∧ ∀ s ∈ r, s.size ≤ 281474976710656 := by
  obtain ⟨a, n, c, rfl⟩ := okWide_slice Tryd.underlying26 hv
  obtain ⟨fuel, hf⟩ := h
  obtain ⟨A, c', l, hl, s1, z1, q1⟩ := openRows (x := (d, p)) hf hw
  simp [Value.cells] at hl
  obtain ⟨rfl, rfl, rfl⟩ := hl
  exact ⟨_, _, l, rfl, s1, z1, q1⟩
end
end Go.Proofs.YtlmaiiloihabdaaDoor
