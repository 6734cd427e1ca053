/- A law's argument, opened: a space. -/
import Derived.Test.YtmlmiboihjibiaaOpI
import Derived.Test.YtmlmiboihjibiaaEnt
set_option linter.unusedVariables false
set_option linter.unusedSimpArgs false
namespace Go.Proofs.Ytmlmiboihjibiaa
open Go.ChangeShapes Go.WideShapes Go.RowKit Go.Deep

theorem flatN_inv (n : Nat) (hn : 0 < n) : ∀ (rs : List (List Value)) (j : Nat) (u : Value), (∀ c ∈ rs, c.length = n) → rs.flatten[j]? = some u → ∃ (i k : Nat) (cs : List Value), rs[i]? = some cs ∧ k < n ∧ j = i * n + k ∧ cs[k]? = some u
  | [], j, u, _, h => by simp at h
  | r :: rs, j, u, hl, h => by
    have hr := hl r (by simp)
    rw [List.flatten_cons] at h
    rcases Nat.lt_or_ge j n with hj | hj
    · rw [List.getElem?_append_left (by omega)] at h
      exact ⟨0, j, r, rfl, hj, by omega, h⟩
    · rw [List.getElem?_append_right (by omega), hr] at h
      obtain ⟨i, k, cs, h1, h2, h3, h4⟩ := flatN_inv n hn rs (j - n) u (fun c hc => hl c (by simp [hc])) h
      exact ⟨i + 1, k, cs, by simpa using h1, h2, by rw [Nat.succ_mul]; omega, h4⟩
theorem bytesEnt : Try.prog.bytesOf 58 = 120 := by kernel_rfl
theorem cellsEnt : Try.prog.cellsOf 58 = 7 := by kernel_rfl

section
variable {H : Type} {enc : TypeId × Value → H} {w : World}
theorem openEntC {fuel : Nat} {l : List Value} {xd : DataW H × List MemPlace} (hsz : l.length = 7) (hf : DataW.trod enc Try.prog w 0 (fun _ => true) true fuel 58 l = some xd)
    (hw : ∀ q ∈ xd.1.weights Try.prog 58, q ≤ reachBytes) : ∃ x, EntC w w.heap.size l x ∧ x.Small := by
  match l, hsz with
  | [a0, a1, a2, a3, a4, a5, a6], _ =>
    obtain ⟨ys, k, _, hy, _, hyl, hg⟩ := DataW.trod_struct Try.underlying58 hf
    have f0 := hg 0 _ rfl
    have f1 := hg 1 _ rfl
    have f2 := hg 2 _ rfl
    simp [cellsText, cellsInt, cellsItem] at f0 f1 f2
    match ys, hyl with
    | [y0, y1, y2], _ =>
      rw [hy] at hw
      simp only [DataW.weights, Try.underlying58, List.map_cons, List.map_nil, DataW.weightsEach, List.append_nil, List.mem_append] at hw
      obtain ⟨t, ht, rfl, _⟩ := DataW.trod_string Try.underlying9 f0
      obtain ⟨x, hx, hxs⟩ := openItemC rfl f1 (fun q hq => hw q (by simp [hq]))
      obtain ⟨n, hn, rfl, hwf⟩ := DataW.trod_int Try.underlying3 f2
      simp [Value.cells] at hn ht
      subst hn
      subst ht
      obtain ⟨A1, c1, A2, c2, A3, c3, hv, s1, s2, s3⟩ := hx
      simp at hv
      obtain ⟨rfl, rfl, rfl, rfl, rfl⟩ := hv
      refine ⟨⟨t, x, n⟩, ⟨A1, c1, A2, c2, A3, c3, rfl, s1, s2, s3⟩, ⟨?_, hxs, bounds_i64 hwf⟩⟩
      have := hw t.data.toList.length (by simp [DataW.weights])
      unfold reachBytes at this
      have e : t.data.toList.length = t.size := by simp
      show t.size ≤ _
      omega

set_option maxRecDepth 100000 in
theorem openEntsA {r : Reach} {b0 : Nat} {v : Value} {d : DataW H} {p : List MemPlace} (hv : Value.okWide Try.prog w r b0 44 v) (h : DataW.Trod enc Try.prog w 0 (fun _ => true) true 44 v d p)
    (hw : ∀ q ∈ d.weights Try.prog 44, q ≤ reachBytes) : ∃ A c l, v = .slice A l.length c ∧ EntsV w w.heap.size (.slice A l.length c) l ∧ l.length ≤ 281474976710656 ∧ ∀ x ∈ l, x.Small := by
  obtain ⟨aV, nV, cV, rfl⟩ := okWide_slice Try.underlying44 hv
  obtain ⟨fuel, hf⟩ := h
  rcases open_slice Try.underlying44 hf with ⟨hc, hd⟩ | ⟨a, len, cap, m, n, D, Pl, hc, _, hl, hm, hmm, hx, hi⟩
  · simp [Value.cells] at hc
    obtain ⟨rfl, rfl, rfl⟩ := hc
    exact ⟨none, 0, [], rfl, EntsV.nil _ _, by simp, fun x hx => by cases hx⟩
  · simp [Value.cells] at hc
    obtain ⟨rfl, rfl, rfl⟩ := hc
    simp only [Prod.mk.injEq] at hx
    obtain ⟨hdx, hpx⟩ := hx
    rw [hdx] at hw
    obtain ⟨h1, h2⟩ := weights_slice Try.underlying44 hw
    simp only [if_true] at hmm
    rw [bytesEnt] at h1
    simp only [List.length_map, List.length_range] at h1
    unfold reachBytes at h1
    rw [cellsEnt] at hi
    have each : ∀ i, i < nV → ∃ q : List Value × Ent, q.1.length = 7 ∧ (∀ j u, q.1[j]? = some u → w.cell? ((a.add (i * 7)).add j) = some u) ∧ EntC w w.heap.size q.1 q.2 ∧ q.2.Small := by
      intro i hlt
      obtain ⟨cs', hc, ht⟩ := hi i (by omega)
      obtain ⟨_, hl5, hat⟩ := World.cells?_some hc
      have hd := h2 (D i) (List.mem_map.2 ⟨i, by simpa using hlt, rfl⟩)
      obtain ⟨x, hx, hs⟩ := openEntC hl5 ht hd
      refine ⟨(cs', x), hl5, fun j u hu => ?_, hx, hs⟩
      have hj : j < cs'.length := (List.getElem?_eq_some_iff.1 hu).1
      have := hat j (by omega)
      rw [this]
      exact hu
    obtain ⟨l, hll, hp⟩ := listOf _ nV each
    subst hll
    have all5 : ∀ c ∈ l.map (·.1), c.length = 7 := fun c hc => by
      obtain ⟨q, hq, rfl⟩ := List.mem_map.1 hc
      obtain ⟨i, hi⟩ := List.getElem?_of_mem hq
      exact (hp i q hi).1
    refine ⟨some a, cV, l.map (·.2), by rw [List.length_map], ⟨_, _, l.map (·.1), rfl, by simp, fun i x hx => ?_, ?_⟩, by rw [List.length_map]; omega, fun x hx => ?_⟩
    · rw [List.getElem?_map] at hx
      obtain ⟨q, hq, rfl⟩ := Option.map_eq_some_iff.1 hx
      exact ⟨q.1, by rw [List.getElem?_map, hq]; rfl, (hp i q hq).2.2.1⟩
    · rw [List.length_map]
      rcases Nat.eq_zero_or_pos l.length with h0 | h0
      · exact ⟨_, _, rfl, by rw [flatN_len 7 _ all5, List.length_map], hl, hm, fun h => absurd h (by omega)⟩
      · obtain ⟨q0, hq0⟩ : ∃ p, l[0]? = some p := ⟨_, List.getElem?_eq_getElem h0⟩
        have hs0 := hp 0 q0 hq0
        obtain ⟨u0, hu0⟩ : ∃ u, q0.1[0]? = some u := ⟨_, List.getElem?_eq_getElem (by rw [hs0.1]; decide)⟩
        have hc0 := hs0.2.1 0 u0 hu0
        have e0 : (a.add (0 * 7)).add 0 = a := rfl
        rw [e0] at hc0
        obtain ⟨ha, hb⟩ := addr_form hc0
        refine sl_cells (b := a.block) (o := a.off) (fun _ => by rw [← ha]) (by rw [flatN_len 7 _ all5, List.length_map]) hl hm (fun _ => hb) (fun j u hu => ?_)
        obtain ⟨i, k, cs, h3, h4, rfl, h6⟩ := flatN_inv 7 (by decide) _ j u all5 hu
        rw [List.getElem?_map] at h3
        obtain ⟨q, hq, rfl⟩ := Option.map_eq_some_iff.1 h3
        have := (hp i q hq).2.1 k u h6
        rw [ha, add_form, add_form, Nat.add_assoc] at this
        exact this
    · obtain ⟨q, hq, rfl⟩ := List.mem_map.1 hx
      obtain ⟨i, hi⟩ := List.getElem?_of_mem hq
      exact (hp i q hi).2.2.2
end
end Go.Proofs.Ytmlmiboihjibiaa
