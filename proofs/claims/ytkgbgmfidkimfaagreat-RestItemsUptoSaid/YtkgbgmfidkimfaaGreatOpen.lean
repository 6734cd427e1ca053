/- A law's arguments, opened: texts, pairs, scores, an item. A law's arguments, opened: texts, pairs, scores by themselves. -/
import Derived.Test.YtkgbgmfidkimfaaGreatBase
import Derived.Test.YtkgbgmfidkimfaaGreatProg
import Derived.ProofKit
import Derived.OpenShut
import Derived.SliceStrings
import Derived.SizedLaws
import Derived.Deep.Slices
import Derived.WideShapes
import Derived.ChangeArms
import Derived.Below
set_option linter.unusedVariables false
set_option linter.unusedSimpArgs false
namespace Go.Proofs.YtkgbgmfidkimfaaGreat
open Go.ChangeShapes Go.WideShapes Go.RowKit Go.Deep

section
variable {H : Type} {enc : TypeId × Value → H} {w : World}

theorem addr_form {w : World} {a : Addr} {v : Value} (h : w.cell? a = some v) : a = ⟨a.block, a.off, none⟩ ∧ a.block < w.heap.size := by
  refine ⟨?_, World.block_lt_of_cell? w a h⟩
  unfold World.cell? at h
  split at h
  · cases a with
    | mk b o s =>
      cases s with
      | none => rfl
      | some s => simp at h
  · cases h
theorem add_form (b o j : Nat) : (⟨b, o, none⟩ : Addr).add j = ⟨b, o + j, none⟩ := by
  unfold Addr.add
  split
  · have e : j = 0 := by assumption
    rw [e]; rfl
  · rfl

theorem listOf {α : Type} (P : Nat → α → Prop) : ∀ n, (∀ i, i < n → ∃ p, P i p) → ∃ l : List α, l.length = n ∧ ∀ (i : Nat) p, l[i]? = some p → P i p
  | 0, _ => ⟨[], rfl, fun i p h => by simp at h⟩
  | n + 1, h => by
    obtain ⟨l, hl, hp⟩ := listOf P n (fun i hi => h i (by omega))
    obtain ⟨q, hq⟩ := h n (by omega)
    refine ⟨l ++ [q], by simp [hl], fun i p hi => ?_⟩
    rcases Nat.lt_or_ge i n with h1 | h1
    · rw [List.getElem?_append_left (by omega)] at hi
      exact hp i p hi
    · have e : i = n := by have := (List.getElem?_eq_some_iff.1 hi).1; simp at this; omega
      subst e
      rw [List.getElem?_append_right (by omega), hl, Nat.sub_self] at hi
      simp at hi
      subst hi
      exact hq

theorem weights_all {P : Program} {e : TypeId} : ∀ {l : List (DataW H)} {d : DataW H}, d ∈ l → ∀ q ∈ d.weights P e, q ∈ DataW.weightsAll P e l
  | x :: l, d, hd, q, hq => by
    simp only [DataW.weightsAll, List.mem_append]
    rcases List.mem_cons.1 hd with rfl | hd
    · exact .inl hq
    · exact .inr (weights_all hd q hq)

theorem weights_slice {P : Program} {t e : TypeId} {els sp : List (DataW H)} (ht : P.underlying t = some (.slice e)) (h : ∀ q ∈ (DataW.slice els sp).weights P t, q ≤ reachBytes) :
    (els.length + sp.length) * P.bytesOf e ≤ reachBytes ∧ ∀ d ∈ els, ∀ q ∈ d.weights P e, q ≤ reachBytes := by
  simp only [DataW.weights, ht] at h
  refine ⟨h _ (by simp), fun d hd q hq => h q ?_⟩
  rw [List.mem_cons, List.mem_append]
  exact .inr (.inl (weights_all hd q hq))

theorem sl_cells {b o n size : Nat} {xs : List Value} {A : Option Addr} {c : Nat} (hA : 0 < n → A = some ⟨b, o, none⟩) (hx : xs.length = n * size) (hc : n ≤ c) (hm : c ≤ maxLen) (hb : 0 < n → b < w.heap.size) (hcell : ∀ j u, xs[j]? = some u → w.cell? ⟨b, o + j, none⟩ = some u) : Sl w w.heap.size size (.slice A n c) n xs :=
  ⟨A, c, rfl, hx, hc, hm, fun hn => ⟨b, o, hA hn, hb hn, hcell⟩⟩

theorem bytesText : Tryz.prog.bytesOf 9 = 16 := by kernel_rfl
theorem bytesPair : Tryz.prog.bytesOf 57 = 32 := by kernel_rfl
theorem bytesScore : Tryz.prog.bytesOf 60 = 24 := by kernel_rfl
theorem cellsText : Tryz.prog.cellsOf 9 = 1 := by kernel_rfl
theorem cellsInt : Tryz.prog.cellsOf 3 = 1 := by kernel_rfl
theorem cellsPair : Tryz.prog.cellsOf 57 = 2 := by kernel_rfl
theorem cellsScore : Tryz.prog.cellsOf 60 = 2 := by kernel_rfl

theorem openTexts {fuel : Nat} {cs : List Value} {x : DataW H × List MemPlace} (h : DataW.trod enc Tryz.prog w 0 (fun _ => true) true fuel 22 cs = some x) (hw : ∀ q ∈ x.1.weights Tryz.prog 22, q ≤ reachBytes) :
    ∃ A c l, cs = [.slice A l.length c] ∧ Sl w w.heap.size 1 (.slice A l.length c) l.length (textsV l) ∧ l.length ≤ 281474976710656 ∧ ∀ s ∈ l, s.size ≤ 281474976710656 := by
  rcases open_strings Tryz.underlying22 Tryz.underlying9 cellsText h with ⟨rfl, rfl⟩ | ⟨a, len, cap, ss, rfl, _, hl, hm, hz, rfl, hcell, _⟩
  · exact ⟨none, 0, [], rfl, Sl.nil _ _ _, by simp, fun s hs => by cases hs⟩
  · obtain ⟨h1, h2⟩ := weights_slice Tryz.underlying22 hw
    simp only [if_true] at hz
    have hlt : (ss.take len).length = len := by rw [List.length_take]; omega
    rw [bytesText] at h1
    simp only [strs, List.length_map] at h1
    unfold reachBytes at h1
    refine ⟨some a, cap, ss.take len, by rw [hlt], ?_, by omega, fun s hs => ?_⟩
    · rw [hlt]
      rcases Nat.eq_zero_or_pos len with h0 | h0
      · subst h0
        exact ⟨_, _, rfl, by simp [textsV], hl, hm, fun h => absurd h (by omega)⟩
      · have hc0 := hcell 0 (by omega)
        have e0 : a.add 0 = a := rfl
        rw [e0] at hc0
        obtain ⟨ha, hb⟩ := addr_form hc0
        refine sl_cells (b := a.block) (o := a.off) (fun _ => by rw [← ha]) (by rw [textsV_length]; omega) hl hm (fun _ => hb) (fun j u hu => ?_)
        have hj : j < len := by have := (List.getElem?_eq_some_iff.1 hu).1; rw [textsV_length, hlt] at this; exact this
        have := hcell j (by omega)
        rw [ha, add_form] at this
        rw [this]
        unfold textsV at hu
        rw [List.getElem?_map, List.getElem?_take_of_lt hj, List.getElem?_eq_getElem (by omega)] at hu
        simp at hu
        rw [List.getD_eq_getElem?_getD, List.getElem?_eq_getElem (by omega)]
        rw [← hu]
        rfl
    · have := h2 (.lit (.string s.data.toList)) (by unfold strs; exact List.mem_map.2 ⟨s, hs, rfl⟩) s.data.toList.length (by simp [DataW.weights])
      unfold reachBytes at this
      have e : s.data.toList.length = s.size := by simp
      omega

theorem pairsV_inv : ∀ (l : List (ByteArray × ByteArray)) (j : Nat) (u : Value), (pairsV l)[j]? = some u → ∃ i p, l[i]? = some p ∧ ((j = 2 * i ∧ u = .string p.1) ∨ (j = 2 * i + 1 ∧ u = .string p.2))
  | [], j, u, h => by simp [pairsV] at h
  | q :: l, 0, u, h => ⟨0, q, rfl, .inl ⟨rfl, by simpa [pairsV] using h.symm⟩⟩
  | q :: l, 1, u, h => ⟨0, q, rfl, .inr ⟨rfl, by simpa [pairsV] using h.symm⟩⟩
  | q :: l, j + 2, u, h => by
    obtain ⟨i, p, hp, hh⟩ := pairsV_inv l j u (by simpa [pairsV] using h)
    rcases hh with ⟨h1, h2⟩ | ⟨h1, h2⟩
    · exact ⟨i + 1, p, by simpa using hp, .inl ⟨by omega, h2⟩⟩
    · exact ⟨i + 1, p, by simpa using hp, .inr ⟨by omega, h2⟩⟩
theorem scoresV_inv : ∀ (l : List (Int × ByteArray)) (j : Nat) (u : Value), (scoresV l)[j]? = some u → ∃ i p, l[i]? = some p ∧ ((j = 2 * i ∧ u = .int .i64 p.1) ∨ (j = 2 * i + 1 ∧ u = .string p.2))
  | [], j, u, h => by simp [scoresV] at h
  | q :: l, 0, u, h => ⟨0, q, rfl, .inl ⟨rfl, by simpa [scoresV] using h.symm⟩⟩
  | q :: l, 1, u, h => ⟨0, q, rfl, .inr ⟨rfl, by simpa [scoresV] using h.symm⟩⟩
  | q :: l, j + 2, u, h => by
    obtain ⟨i, p, hp, hh⟩ := scoresV_inv l j u (by simpa [scoresV] using h)
    rcases hh with ⟨h1, h2⟩ | ⟨h1, h2⟩
    · exact ⟨i + 1, p, by simpa using hp, .inl ⟨by omega, h2⟩⟩
    · exact ⟨i + 1, p, by simpa using hp, .inr ⟨by omega, h2⟩⟩

/-- two cells of one block. -/
theorem two_cells {a : Addr} {cs : List Value} (h : w.cells? 0 a 2 = some cs) : ∃ u v, cs = [u, v] ∧ w.cell? a = some u ∧ w.cell? (a.add 1) = some v := by
  obtain ⟨_, hl, hat⟩ := World.cells?_some h
  match cs, hl with
  | [u, v], _ => exact ⟨u, v, rfl, hat 0 (by omega), hat 1 (by omega)⟩

theorem openPairs {fuel : Nat} {cs : List Value} {x : DataW H × List MemPlace} (h : DataW.trod enc Tryz.prog w 0 (fun _ => true) true fuel 23 cs = some x) (hw : ∀ q ∈ x.1.weights Tryz.prog 23, q ≤ reachBytes) :
    ∃ A c l, cs = [.slice A l.length c] ∧ Sl w w.heap.size 2 (.slice A l.length c) l.length (pairsV l) ∧ l.length ≤ 281474976710656 ∧ ∀ p ∈ l, p.1.size ≤ 281474976710656 ∧ p.2.size ≤ 281474976710656 := by
  rcases open_slice Tryz.underlying23 h with ⟨rfl, rfl⟩ | ⟨a, len, cap, m, n, D, Pl, rfl, _, hl, hm, hmm, rfl, hi⟩
  · exact ⟨none, 0, [], rfl, Sl.nil _ _ _, by simp, fun s hs => by cases hs⟩
  · obtain ⟨h1, h2⟩ := weights_slice Tryz.underlying23 hw
    simp only [if_true] at hmm
    rw [bytesPair] at h1
    simp only [List.length_map, List.length_range] at h1
    unfold reachBytes at h1
    rw [cellsPair] at hi
    have each : ∀ i, i < len → ∃ p : ByteArray × ByteArray, w.cell? (a.add (i * 2)) = some (.string p.1) ∧ w.cell? ((a.add (i * 2)).add 1) = some (.string p.2) ∧ p.1.size ≤ 281474976710656 ∧ p.2.size ≤ 281474976710656 := by
      intro i hlt
      obtain ⟨cs', hc, ht⟩ := hi i (by omega)
      obtain ⟨u, v, rfl, hu, hv⟩ := two_cells hc
      obtain ⟨ys, k, _, hy, _, hyl, hf⟩ := DataW.trod_struct Tryz.underlying57 ht
      have f0 := hf 0 _ rfl
      have f1 := hf 1 _ rfl
      simp [cellsText] at f0 f1
      match ys, hyl with
      | [y0, y1], _ =>
        obtain ⟨s, hs, rfl, _⟩ := DataW.trod_string Tryz.underlying9 f0
        obtain ⟨t, ht2, rfl, _⟩ := DataW.trod_string Tryz.underlying9 f1
        simp at hs ht2
        subst hs
        subst ht2
        simp only [Prod.mk.injEq] at hy
        have hd := h2 (D i) (List.mem_map.2 ⟨i, by simpa using hlt, rfl⟩)
        rw [hy.1] at hd
        simp only [DataW.weights, Tryz.underlying57, List.map_cons, List.map_nil, DataW.weightsEach] at hd
        refine ⟨(s, t), hu, hv, ?_, ?_⟩
        · have := hd s.data.toList.length (by simp)
          unfold reachBytes at this
          have e : s.data.toList.length = s.size := by simp
          show s.size ≤ _
          omega
        · have := hd t.data.toList.length (by simp)
          unfold reachBytes at this
          have e : t.data.toList.length = t.size := by simp
          show t.size ≤ _
          omega
    obtain ⟨l, hll, hp⟩ := listOf _ len each
    subst hll
    refine ⟨some a, cap, l, rfl, ?_, by omega, fun p hp2 => ?_⟩
    · rcases Nat.eq_zero_or_pos l.length with h0 | h0
      · exact ⟨_, _, rfl, by rw [pairsV_length]; omega, hl, hm, fun h => absurd h (by omega)⟩
      · obtain ⟨p0, hp0⟩ : ∃ p, l[0]? = some p := ⟨_, List.getElem?_eq_getElem h0⟩
        have hc0 := (hp 0 p0 hp0).1
        have e0 : a.add (0 * 2) = a := rfl
        rw [e0] at hc0
        obtain ⟨ha, hb⟩ := addr_form hc0
        refine sl_cells (b := a.block) (o := a.off) (fun _ => by rw [← ha]) (by rw [pairsV_length]; omega) hl hm (fun _ => hb) (fun j u hu => ?_)
        obtain ⟨i, p, hip, hj⟩ := pairsV_inv l j u hu
        have hq := hp i p hip
        rw [ha, add_form, add_form] at hq
        rcases hj with ⟨rfl, rfl⟩ | ⟨rfl, rfl⟩
        · have := hq.1
          rw [Nat.mul_comm] at this
          exact this
        · have := hq.2.1
          rw [Nat.add_assoc, Nat.mul_comm] at this
          exact this
    · obtain ⟨i, hi2⟩ := List.getElem?_of_mem hp2
      exact (hp i p hi2).2.2

theorem openScores {fuel : Nat} {cs : List Value} {x : DataW H × List MemPlace} (h : DataW.trod enc Tryz.prog w 0 (fun _ => true) true fuel 24 cs = some x) (hw : ∀ q ∈ x.1.weights Tryz.prog 24, q ≤ reachBytes) :
    ∃ A c l, cs = [.slice A l.length c] ∧ Sl w w.heap.size 2 (.slice A l.length c) l.length (scoresV l) ∧ l.length ≤ 281474976710656 ∧ ∀ p ∈ l, (-9223372036854775808 ≤ p.1 ∧ p.1 ≤ 9223372036854775807) ∧ p.2.size ≤ 281474976710656 := by
  rcases open_slice Tryz.underlying24 h with ⟨rfl, rfl⟩ | ⟨a, len, cap, m, n, D, Pl, rfl, _, hl, hm, hmm, rfl, hi⟩
  · exact ⟨none, 0, [], rfl, Sl.nil _ _ _, by simp, fun s hs => by cases hs⟩
  · obtain ⟨h1, h2⟩ := weights_slice Tryz.underlying24 hw
    simp only [if_true] at hmm
    rw [bytesScore] at h1
    simp only [List.length_map, List.length_range] at h1
    unfold reachBytes at h1
    rw [cellsScore] at hi
    have each : ∀ i, i < len → ∃ p : Int × ByteArray, w.cell? (a.add (i * 2)) = some (.int .i64 p.1) ∧ w.cell? ((a.add (i * 2)).add 1) = some (.string p.2) ∧ (-9223372036854775808 ≤ p.1 ∧ p.1 ≤ 9223372036854775807) ∧ p.2.size ≤ 281474976710656 := by
      intro i hlt
      obtain ⟨cs', hc, ht⟩ := hi i (by omega)
      obtain ⟨u, v, rfl, hu, hv⟩ := two_cells hc
      obtain ⟨ys, k, _, hy, _, hyl, hf⟩ := DataW.trod_struct Tryz.underlying60 ht
      have f0 := hf 0 _ rfl
      have f1 := hf 1 _ rfl
      simp [cellsText, cellsInt] at f0 f1
      match ys, hyl with
      | [y0, y1], _ =>
        obtain ⟨s, hs, rfl, hwf⟩ := DataW.trod_int Tryz.underlying3 f0
        obtain ⟨t, ht2, rfl, _⟩ := DataW.trod_string Tryz.underlying9 f1
        simp at hs ht2
        subst hs
        subst ht2
        simp only [Prod.mk.injEq] at hy
        have hd := h2 (D i) (List.mem_map.2 ⟨i, by simpa using hlt, rfl⟩)
        rw [hy.1] at hd
        simp only [DataW.weights, Tryz.underlying60, List.map_cons, List.map_nil, DataW.weightsEach] at hd
        refine ⟨(s, t), hu, hv, bounds_i64 hwf, ?_⟩
        · have := hd t.data.toList.length (by simp)
          unfold reachBytes at this
          have e : t.data.toList.length = t.size := by simp
          show t.size ≤ _
          omega
    obtain ⟨l, hll, hp⟩ := listOf _ len each
    subst hll
    refine ⟨some a, cap, l, rfl, ?_, by omega, fun p hp2 => ?_⟩
    · rcases Nat.eq_zero_or_pos l.length with h0 | h0
      · exact ⟨_, _, rfl, by rw [scoresV_length]; omega, hl, hm, fun h => absurd h (by omega)⟩
      · obtain ⟨p0, hp0⟩ : ∃ p, l[0]? = some p := ⟨_, List.getElem?_eq_getElem h0⟩
        have hc0 := (hp 0 p0 hp0).1
        have e0 : a.add (0 * 2) = a := rfl
        rw [e0] at hc0
        obtain ⟨ha, hb⟩ := addr_form hc0
        refine sl_cells (b := a.block) (o := a.off) (fun _ => by rw [← ha]) (by rw [scoresV_length]; omega) hl hm (fun _ => hb) (fun j u hu => ?_)
        obtain ⟨i, p, hip, hj⟩ := scoresV_inv l j u hu
        have hq := hp i p hip
        rw [ha, add_form, add_form] at hq
        rcases hj with ⟨rfl, rfl⟩ | ⟨rfl, rfl⟩
        · have := hq.1
          rw [Nat.mul_comm] at this
          exact this
        · have := hq.2.1
          rw [Nat.add_assoc, Nat.mul_comm] at this
          exact this
    · obtain ⟨i, hi2⟩ := List.getElem?_of_mem hp2
      exact (hp i p hi2).2.2

set_option maxRecDepth 100000 in
/-- an item. -/
theorem openItem {r : Reach} {b0 : Nat} {v : Value} {d : DataW H} {p : List MemPlace} (hv : Value.okWide Tryz.prog w r b0 26 v) (h : DataW.Trod enc Tryz.prog w 0 (fun _ => true) true 26 v d p)
    (hw : ∀ q ∈ d.weights Tryz.prog 26, q ≤ reachBytes) : ∃ x, ItemV w w.heap.size v x ∧ x.Small := by
  obtain ⟨cs, rfl, hsz⟩ := okWide_struct Tryz.underlying26 hv
  obtain ⟨l⟩ := cs
  have hc5 : Tryz.prog.cellsOf 26 = 5 := by kernel_rfl
  match l, hsz.trans hc5 with
  | [a0, a1, a2, a3, a4], _ =>
    obtain ⟨fuel, hf⟩ := h
    obtain ⟨ys, k, _, hy, _, hyl, hg⟩ := DataW.trod_struct Tryz.underlying26 hf
    have f0 := hg 0 _ rfl
    have f1 := hg 1 _ rfl
    have f2 := hg 2 _ rfl
    have f3 := hg 3 _ rfl
    have f4 := hg 4 _ rfl
    have e1 : Tryz.prog.cellsOf 22 = 1 := by kernel_rfl
    have e2 : Tryz.prog.cellsOf 23 = 1 := by kernel_rfl
    have e3 : Tryz.prog.cellsOf 24 = 1 := by kernel_rfl
    simp [cellsText, cellsInt, e1, e2, e3] at f0 f1 f2 f3 f4
    match ys, hyl with
    | [y0, y1, y2, y3, y4], _ =>
      simp only [Prod.mk.injEq] at hy
      rw [hy.1] at hw
      simp only [DataW.weights, Tryz.underlying26, List.map_cons, List.map_nil, DataW.weightsEach, List.append_nil, List.mem_append] at hw
      obtain ⟨n, hn, rfl, hwf⟩ := DataW.trod_int Tryz.underlying3 f0
      obtain ⟨t, ht, rfl, _⟩ := DataW.trod_string Tryz.underlying9 f1
      obtain ⟨A1, c1, l1, hl1, s1, z1, q1⟩ := openTexts f2 (fun q hq => hw q (by simp [hq]))
      obtain ⟨A2, c2, l2, hl2, s2, z2, q2⟩ := openPairs f3 (fun q hq => hw q (by simp [hq]))
      obtain ⟨A3, c3, l3, hl3, s3, z3, q3⟩ := openScores f4 (fun q hq => hw q (by simp [hq]))
      simp [Value.cells] at hn ht hl1 hl2 hl3
      subst hn
      subst ht
      subst hl1
      subst hl2
      subst hl3
      refine ⟨⟨n, t, l1, l2, l3⟩, ⟨A1, c1, A2, c2, A3, c3, rfl, s1, s2, s3⟩, ⟨bounds_i64 hwf, ?_, z1, z2, z3, q1, q2, q3⟩⟩
      have := hw t.data.toList.length (by simp [DataW.weights])
      unfold reachBytes at this
      have e : t.data.toList.length = t.size := by simp
      show t.size ≤ _
      omega
end
end Go.Proofs.YtkgbgmfidkimfaaGreat

namespace Go.Proofs.YtkgbgmfidkimfaaGreat
open Go.ChangeShapes Go.WideShapes Go.RowKit Go.Deep

section
variable {H : Type} {enc : TypeId × Value → H} {w : World}
set_option maxRecDepth 100000 in
theorem openTextsA {r : Reach} {b0 : Nat} {v : Value} {d : DataW H} {p : List MemPlace} (hv : Value.okWide Tryz.prog w r b0 22 v) (h : DataW.Trod enc Tryz.prog w 0 (fun _ => true) true 22 v d p)
    (hw : ∀ q ∈ d.weights Tryz.prog 22, q ≤ reachBytes) : ∃ A c l, v = .slice A l.length c ∧ Sl w w.heap.size 1 (.slice A l.length c) l.length (textsV l) ∧ l.length ≤ 281474976710656 ∧ ∀ s ∈ l, s.size ≤ 281474976710656 := by
  obtain ⟨a, n, c, rfl⟩ := okWide_slice Tryz.underlying22 hv
  obtain ⟨fuel, hf⟩ := h
  obtain ⟨A, c', l, hl, s1, z1, q1⟩ := openTexts (x := (d, p)) hf hw
  simp [Value.cells] at hl
  obtain ⟨rfl, rfl, rfl⟩ := hl
  exact ⟨_, _, l, rfl, s1, z1, q1⟩
set_option maxRecDepth 100000 in
theorem openPairsA {r : Reach} {b0 : Nat} {v : Value} {d : DataW H} {p : List MemPlace} (hv : Value.okWide Tryz.prog w r b0 23 v) (h : DataW.Trod enc Tryz.prog w 0 (fun _ => true) true 23 v d p)
    (hw : ∀ q ∈ d.weights Tryz.prog 23, q ≤ reachBytes) : ∃ A c l, v = .slice A l.length c ∧ Sl w w.heap.size 2 (.slice A l.length c) l.length (pairsV l) ∧ l.length ≤ 281474976710656 ∧ ∀ p ∈ l, p.1.size ≤ 281474976710656 ∧ p.2.size ≤ 281474976710656 := by
  obtain ⟨a, n, c, rfl⟩ := okWide_slice Tryz.underlying23 hv
  obtain ⟨fuel, hf⟩ := h
  obtain ⟨A, c', l, hl, s1, z1, q1⟩ := openPairs (x := (d, p)) hf hw
  simp [Value.cells] at hl
  obtain ⟨rfl, rfl, rfl⟩ := hl
  exact ⟨_, _, l, rfl, s1, z1, q1⟩
set_option maxRecDepth 100000 in
theorem openScoresA {r : Reach} {b0 : Nat} {v : Value} {d : DataW H} {p : List MemPlace} (hv : Value.okWide Tryz.prog w r b0 24 v) (h : DataW.Trod enc Tryz.prog w 0 (fun _ => true) true 24 v d p)
    (hw : ∀ q ∈ d.weights Tryz.prog 24, q ≤ reachBytes) : ∃ A c l, v = .slice A l.length c ∧ Sl w w.heap.size 2 (.slice A l.length c) l.length (scoresV l) ∧ l.length ≤ 281474976710656 ∧ ∀ p ∈ l, (-9223372036854775808 ≤ p.1 ∧ p.1 ≤ 9223372036854775807) ∧ p.2.size ≤ 281474976710656 := by
  obtain ⟨a, n, c, rfl⟩ := okWide_slice Tryz.underlying24 hv
  obtain ⟨fuel, hf⟩ := h
  obtain ⟨A, c', l, hl, s1, z1, q1⟩ := openScores (x := (d, p)) hf hw
  simp [Value.cells] at hl
  obtain ⟨rfl, rfl, rfl⟩ := hl
  exact ⟨_, _, l, rfl, s1, z1, q1⟩
end
end Go.Proofs.YtkgbgmfidkimfaaGreat
