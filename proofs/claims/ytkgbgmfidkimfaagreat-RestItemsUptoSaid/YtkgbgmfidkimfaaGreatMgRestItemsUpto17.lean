/- What the bulk's bound of an 'Upto' statement says of a row's length. What the bulk's bound of an 'Upto' statement says of an item's rows. How long a row of pairs may be that a statement hands in. How long a row of scores or texts may be that a statement hands in. -/
import Derived.Test.YtkgbgmfidkimfaaGreatRows
import Derived.Test.YtkgbgmfidkimfaaGreatOpen
set_option linter.unusedVariables false
set_option linter.unusedSimpArgs false
namespace Go.Proofs.YtkgbgmfidkimfaaGreat
open Go.ChangeShapes Go.WideShapes Go.RowKit Go.Deep

theorem bulk_one {H : Type} (d : DataW H) : 1 ≤ Rows.uptoBulk d := by
  cases d with
  | lit l => cases l <;> simp [Rows.uptoBulk]
  | nil => simp [Rows.uptoBulk]
  | ptr d => simp [Rows.uptoBulk]
  | slice elems spare => simp [Rows.uptoBulk]
  | agg parts => simp [Rows.uptoBulk]
  | iface t d => simp [Rows.uptoBulk]
  | map entries => simp [Rows.uptoBulk]
  | held h => simp [Rows.uptoBulk]
theorem bulk_all {H : Type} {d : DataW H} {l : List (DataW H)} (h : d ∈ l) : Rows.uptoBulk d ≤ Rows.uptoBulkAll l := by
  induction l with
  | nil => cases h
  | cons x r ih =>
    simp only [Rows.uptoBulkAll]
    cases List.mem_cons.1 h with
    | inl e => subst e; omega
    | inr e => have := ih e; omega
theorem bulk_len {H : Type} (l : List (DataW H)) : l.length ≤ Rows.uptoBulkAll l := by
  induction l with
  | nil => simp [Rows.uptoBulkAll]
  | cons x r ih => have := bulk_one x; simp only [Rows.uptoBulkAll, List.length_cons]; omega
theorem bulk_bound {H : Type} {l : List (DataW H)} (hk : Rows.uptoSmall H l = true) {d : DataW H} (h : d ∈ l) : Rows.uptoBulk d ≤ 1048576 :=
  Nat.le_trans (bulk_all h) (of_decide_eq_true hk)
theorem bulk_str {H : Type} {l : List (DataW H)} (hk : Rows.uptoSmall H l = true) {s : ByteArray} (h : (DataW.lit (.string s.data.toList) : DataW H) ∈ l) : s.size ≤ 1048576 := by
  have := bulk_bound hk h
  simp only [Rows.uptoBulk] at this
  have e : s.data.toList.length = s.size := by simp
  omega
theorem bulk_slice {H : Type} {enc : TypeId × Value → H} {w : World} {t e : TypeId} {A : Option Addr} {n c : Nat} {d : DataW H} {p : List MemPlace} (ht : Tryz.prog.underlying t = some (.slice e))
    (h : DataW.Trod enc Tryz.prog w 0 (fun _ => true) true t (.slice A n c) d p) : n ≤ Rows.uptoBulk d := by
  obtain ⟨fuel, hf⟩ := h
  rcases open_slice ht hf with ⟨hn, -⟩ | ⟨a, len, cap, m, k, D, Pl, hc, _, hl, hm, hmm, hd, hi⟩
  · simp [Value.cells] at hn
    omega
  · simp [Value.cells] at hc
    obtain ⟨rfl, rfl, rfl⟩ := hc
    simp only [Prod.mk.injEq] at hd
    rw [hd.1]
    have := bulk_len ((List.range n).map D)
    rw [List.length_map, List.length_range] at this
    simp only [Rows.uptoBulk]
    omega
end Go.Proofs.YtkgbgmfidkimfaaGreat

namespace Go.Proofs.YtkgbgmfidkimfaaGreat
open Go.ChangeShapes Go.WideShapes Go.RowKit Go.Deep

set_option maxRecDepth 100000 in
theorem bulk_item {H : Type} {enc : TypeId × Value → H} {w : World} {B : Nat} {x : Itm} {v : Value} {d : DataW H} {p : List MemPlace} (hx : ItemV w B v x)
    (h : DataW.Trod enc Tryz.prog w 0 (fun _ => true) true 26 v d p) : x.list.length ≤ Rows.uptoBulk d ∧ x.pairs.length ≤ Rows.uptoBulk d ∧ x.scores.length ≤ Rows.uptoBulk d := by
  obtain ⟨A1, c1, A2, c2, A3, c3, rfl, -, -, -⟩ := hx
  obtain ⟨fuel, hf⟩ := h
  obtain ⟨ys, k, _, hy, _, hyl, hg⟩ := DataW.trod_struct Tryz.underlying26 hf
  have f2 := hg 2 _ rfl
  have f3 := hg 3 _ rfl
  have f4 := hg 4 _ rfl
  have e1 : Tryz.prog.cellsOf 22 = 1 := by kernel_rfl
  have e2 : Tryz.prog.cellsOf 23 = 1 := by kernel_rfl
  have e3 : Tryz.prog.cellsOf 24 = 1 := by kernel_rfl
  simp [cellsText, cellsInt, e1, e2, e3] at f2 f3 f4
  match ys, hyl with
  | [y0, y1, y2, y3, y4], _ =>
    simp only [Prod.mk.injEq] at hy
    have g2 : x.list.length ≤ Rows.uptoBulk y2.1 := bulk_slice (A := A1) (c := c1) (p := y2.2) Tryz.underlying22 ⟨_, by simpa [Value.cells] using f2⟩
    have g3 : x.pairs.length ≤ Rows.uptoBulk y3.1 := bulk_slice (A := A2) (c := c2) (p := y3.2) Tryz.underlying23 ⟨_, by simpa [Value.cells] using f3⟩
    have g4 : x.scores.length ≤ Rows.uptoBulk y4.1 := bulk_slice (A := A3) (c := c3) (p := y4.2) Tryz.underlying24 ⟨_, by simpa [Value.cells] using f4⟩
    rw [hy.1]
    simp only [List.map_cons, List.map_nil, Rows.uptoBulk, Rows.uptoBulkAll]
    omega
end Go.Proofs.YtkgbgmfidkimfaaGreat

namespace Go.Proofs.YtkgbgmfidkimfaaGreat
open Go.ChangeShapes Go.WideShapes Go.RowKit Go.Deep

set_option maxRecDepth 100000 in
theorem reachPairs {H : Type} {enc : TypeId × Value → H} {w : World} {A : Option Addr} {n c : Nat} {d : DataW H} {p : List MemPlace} (h : DataW.Trod enc Tryz.prog w 0 (fun _ => true) true 23 (.slice A n c) d p)
    (hw : ∀ q ∈ d.weights Tryz.prog 23, q ≤ reachBytes) : n * 32 ≤ 140737488351232 := by
  obtain ⟨fuel, hf⟩ := h
  rcases open_slice Tryz.underlying23 hf with ⟨hn, -⟩ | ⟨a, len, cap, m, k, D, Pl, hc, _, hl, hm, hmm, hd, hi⟩
  · simp [Value.cells] at hn
    omega
  · simp [Value.cells] at hc
    obtain ⟨rfl, rfl, rfl⟩ := hc
    simp at hd
    obtain ⟨rfl, rfl⟩ := hd
    obtain ⟨h1, h2⟩ := weights_slice Tryz.underlying23 hw
    rw [bytesPair] at h1
    simp only [List.length_map, List.length_range] at h1
    unfold reachBytes at h1
    have := Nat.le_trans (Nat.mul_le_mul_right 32 (Nat.le_add_right _ _)) h1
    omega
end Go.Proofs.YtkgbgmfidkimfaaGreat

namespace Go.Proofs.YtkgbgmfidkimfaaGreat
open Go.ChangeShapes Go.WideShapes Go.RowKit Go.Deep

set_option maxRecDepth 100000 in
theorem reachScores {H : Type} {enc : TypeId × Value → H} {w : World} {A : Option Addr} {n c : Nat} {d : DataW H} {p : List MemPlace} (h : DataW.Trod enc Tryz.prog w 0 (fun _ => true) true 24 (.slice A n c) d p)
    (hw : ∀ q ∈ d.weights Tryz.prog 24, q ≤ reachBytes) : n * 24 ≤ 140737488351232 := by
  obtain ⟨fuel, hf⟩ := h
  rcases open_slice Tryz.underlying24 hf with ⟨hn, -⟩ | ⟨a, len, cap, m, k, D, Pl, hc, _, hl, hm, hmm, hd, hi⟩
  · simp [Value.cells] at hn
    omega
  · simp [Value.cells] at hc
    obtain ⟨rfl, rfl, rfl⟩ := hc
    simp at hd
    obtain ⟨rfl, rfl⟩ := hd
    obtain ⟨h1, h2⟩ := weights_slice Tryz.underlying24 hw
    rw [bytesScore] at h1
    simp only [List.length_map, List.length_range] at h1
    unfold reachBytes at h1
    have := Nat.le_trans (Nat.mul_le_mul_right 24 (Nat.le_add_right _ _)) h1
    omega
set_option maxRecDepth 100000 in
theorem reachTexts {H : Type} {enc : TypeId × Value → H} {w : World} {A : Option Addr} {n c : Nat} {d : DataW H} {p : List MemPlace} (h : DataW.Trod enc Tryz.prog w 0 (fun _ => true) true 22 (.slice A n c) d p)
    (hw : ∀ q ∈ d.weights Tryz.prog 22, q ≤ reachBytes) : n * 16 ≤ 140737488351232 := by
  obtain ⟨fuel, hf⟩ := h
  rcases open_slice Tryz.underlying22 hf with ⟨hn, -⟩ | ⟨a, len, cap, m, k, D, Pl, hc, _, hl, hm, hmm, hd, hi⟩
  · simp [Value.cells] at hn
    omega
  · simp [Value.cells] at hc
    obtain ⟨rfl, rfl, rfl⟩ := hc
    simp at hd
    obtain ⟨rfl, rfl⟩ := hd
    obtain ⟨h1, h2⟩ := weights_slice Tryz.underlying22 hw
    rw [bytesText] at h1
    simp only [List.length_map, List.length_range] at h1
    unfold reachBytes at h1
    have := Nat.le_trans (Nat.mul_le_mul_right 16 (Nat.le_add_right _ _)) h1
    omega
end Go.Proofs.YtkgbgmfidkimfaaGreat
