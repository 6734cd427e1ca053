/- A law's arguments, opened: texts, pairs, scores, an item. A law's arguments, opened: texts, pairs, scores by themselves. -/
import Derived.Test.YtoabjcnacnojbaaDoorBase
import Derived.Test.YtoabjcnacnojbaaDoorProg
import Derived.ProofKit
import Derived.OpenShut
import Derived.SliceStrings
import Derived.SizedLaws
import Derived.Deep.Slices
import Derived.WideShapes
import Derived.ChangeArms
import Derived.Below
set_option linter.unusedVariables false
set_option linter.unusedSimpArgs false
namespace Go.Proofs.YtoabjcnacnojbaaDoor
open Go.ChangeShapes Go.WideShapes Go.RowKit Go.Deep

section
variable {H : Type} {enc : TypeId × Value → H} {w : World}

theorem addr_form {w : World} {a : Addr} {v : Value} (h : w.cell? a = some v) : a = ⟨a.block, a.off, none⟩ ∧ a.block < w.heap.size := by
  refine ⟨?_, World.block_lt_of_cell? w a h⟩
  unfold World.cell? at h
  split at h
  · cases a with
    | mk b o s =>
      cases s with
      | none => rfl
      | some s => simp at h
  · cases h
theorem add_form (b o j : Nat) : (⟨b, o, none⟩ : Addr).add j = ⟨b, o + j, none⟩ := by
  unfold Addr.add
  split
  · have e : j = 0 := by assumption
    rw [e]; rfl
  · rfl

theorem listOf {α : Type} (P : Nat → α → Prop) : ∀ n, (∀ i, i < n → ∃ p, P i p) → ∃ l : List α, l.length = n ∧ ∀ (i : Nat) p, l[i]? = some p → P i p
  | 0, _ => ⟨[], rfl, fun i p h => by simp at h⟩
  | n + 1, h => by
    obtain ⟨l, hl, hp⟩ := listOf P n (fun i hi => h i (by omega))
    obtain ⟨q, hq⟩ := h n (by omega)
    refine ⟨l ++ [q], by simp [hl], fun i p hi => ?_⟩
    rcases Nat.lt_or_ge i n with h1 | h1
    · rw [List.getElem?_append_left (by omega)] at hi
      exact hp i p hi
    · have e : i = n := by have := (List.getElem?_eq_some_iff.1 hi).1; simp at this; omega
      subst e
      rw [List.getElem?_append_right (by omega), hl, Nat.sub_self] at hi
      simp at hi
      subst hi
      exact hq

theorem weights_all {P : Program} {e : TypeId} : ∀ {l : List (DataW H)} {d : DataW H}, d ∈ l → ∀ q ∈ d.weights P e, q ∈ DataW.weightsAll P e l
  | x :: l, d, hd, q, hq => by
    simp only [DataW.weightsAll, List.mem_append]
    rcases List.mem_cons.1 hd with rfl | hd
    · exact .inl hq
    · exact .inr (weights_all hd q hq)

theorem weights_slice {P : Program} {t e : TypeId} {els sp : List (DataW H)} (ht : P.underlying t = some (.slice e)) (h : ∀ q ∈ (DataW.slice els sp).weights P t, q ≤ reachBytes) :
    (els.length + sp.length) * P.bytesOf e ≤ reachBytes ∧ ∀ d ∈ els, ∀ q ∈ d.weights P e, q ≤ reachBytes := by
  simp only [DataW.weights, ht] at h
  refine ⟨h _ (by simp), fun d hd q hq => h q ?_⟩
  rw [List.mem_cons, List.mem_append]
  exact .inr (.inl (weights_all hd q hq))

theorem sl_cells {b o n size : Nat} {xs : List Value} {A : Option Addr} {c : Nat} (hA : 0 < n → A = some ⟨b, o, none⟩) (hx : xs.length = n * size) (hc : n ≤ c) (hm : c ≤ maxLen) (hb : 0 < n → b < w.heap.size) (hcell : ∀ j u, xs[j]? = some u → w.cell? ⟨b, o + j, none⟩ = some u) : Sl w w.heap.size size (.slice A n c) n xs :=
  ⟨A, c, rfl, hx, hc, hm, fun hn => ⟨b, o, hA hn, hb hn, hcell⟩⟩

theorem bytesText : Tryd.prog.bytesOf 9 = 16 := by kernel_rfl
theorem cellsText : Tryd.prog.cellsOf 9 = 1 := by kernel_rfl
theorem cellsInt : Tryd.prog.cellsOf 3 = 1 := by kernel_rfl
theorem pairsV_inv : ∀ (l : List (ByteArray × ByteArray)) (j : Nat) (u : Value), (pairsV l)[j]? = some u → ∃ i p, l[i]? = some p ∧ ((j = 2 * i ∧ u = .string p.1) ∨ (j = 2 * i + 1 ∧ u = .string p.2))
  | [], j, u, h => by simp [pairsV] at h
  | q :: l, 0, u, h => ⟨0, q, rfl, .inl ⟨rfl, by simpa [pairsV] using h.symm⟩⟩
  | q :: l, 1, u, h => ⟨0, q, rfl, .inr ⟨rfl, by simpa [pairsV] using h.symm⟩⟩
  | q :: l, j + 2, u, h => by
    obtain ⟨i, p, hp, hh⟩ := pairsV_inv l j u (by simpa [pairsV] using h)
    rcases hh with ⟨h1, h2⟩ | ⟨h1, h2⟩
    · exact ⟨i + 1, p, by simpa using hp, .inl ⟨by omega, h2⟩⟩
    · exact ⟨i + 1, p, by simpa using hp, .inr ⟨by omega, h2⟩⟩
theorem scoresV_inv : ∀ (l : List (Int × ByteArray)) (j : Nat) (u : Value), (scoresV l)[j]? = some u → ∃ i p, l[i]? = some p ∧ ((j = 2 * i ∧ u = .int .i64 p.1) ∨ (j = 2 * i + 1 ∧ u = .string p.2))
  | [], j, u, h => by simp [scoresV] at h
  | q :: l, 0, u, h => ⟨0, q, rfl, .inl ⟨rfl, by simpa [scoresV] using h.symm⟩⟩
  | q :: l, 1, u, h => ⟨0, q, rfl, .inr ⟨rfl, by simpa [scoresV] using h.symm⟩⟩
  | q :: l, j + 2, u, h => by
    obtain ⟨i, p, hp, hh⟩ := scoresV_inv l j u (by simpa [scoresV] using h)
    rcases hh with ⟨h1, h2⟩ | ⟨h1, h2⟩
    · exact ⟨i + 1, p, by simpa using hp, .inl ⟨by omega, h2⟩⟩
    · exact ⟨i + 1, p, by simpa using hp, .inr ⟨by omega, h2⟩⟩

/-- two cells of one block. -/
theorem two_cells {a : Addr} {cs : List Value} (h : w.cells? 0 a 2 = some cs) : ∃ u v, cs = [u, v] ∧ w.cell? a = some u ∧ w.cell? (a.add 1) = some v := by
  obtain ⟨_, hl, hat⟩ := World.cells?_some h
  match cs, hl with
  | [u, v], _ => exact ⟨u, v, rfl, hat 0 (by omega), hat 1 (by omega)⟩

end
end Go.Proofs.YtoabjcnacnojbaaDoor

namespace Go.Proofs.YtoabjcnacnojbaaDoor
open Go.ChangeShapes Go.WideShapes Go.RowKit Go.Deep

section
variable {H : Type} {enc : TypeId × Value → H} {w : World}
end
end Go.Proofs.YtoabjcnacnojbaaDoor
