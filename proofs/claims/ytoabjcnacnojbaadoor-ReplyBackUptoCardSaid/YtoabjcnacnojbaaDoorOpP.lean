/- A law's argument, opened: a reply. -/
import Derived.Test.YtoabjcnacnojbaaDoorOpen
import Derived.Test.YtoabjcnacnojbaaDoorReV
set_option linter.unusedVariables false
set_option linter.unusedSimpArgs false
namespace Go.Proofs.YtoabjcnacnojbaaDoor
open Go.ChangeShapes Go.WideShapes Go.RowKit Go.Deep

theorem flatP_inv (n : Nat) (hn : 0 < n) : ∀ (rs : List (List Value)) (j : Nat) (u : Value), (∀ c ∈ rs, c.length = n) → rs.flatten[j]? = some u → ∃ (i k : Nat) (cs : List Value), rs[i]? = some cs ∧ k < n ∧ j = i * n + k ∧ cs[k]? = some u
  | [], j, u, _, h => by simp at h
  | r :: rs, j, u, hl, h => by
    have hr := hl r (by simp)
    rw [List.flatten_cons] at h
    rcases Nat.lt_or_ge j n with hj | hj
    · rw [List.getElem?_append_left (by omega)] at h
      exact ⟨0, j, r, rfl, hj, by omega, h⟩
    · rw [List.getElem?_append_right (by omega), hr] at h
      obtain ⟨i, k, cs, h1, h2, h3, h4⟩ := flatP_inv n hn rs (j - n) u (fun c hc => hl c (by simp [hc])) h
      exact ⟨i + 1, k, cs, by simpa using h1, h2, by rw [Nat.succ_mul]; omega, h4⟩
theorem bytesRp : Tryd.prog.bytesOf 24 = 56 := by kernel_rfl
theorem cellsRp : Tryd.prog.cellsOf 24 = 4 := by kernel_rfl
theorem cellsRps : Tryd.prog.cellsOf 22 = 1 := by kernel_rfl

section
variable {H : Type} {enc : TypeId × Value → H} {w : World}
/-- how long a row of replies is, off its cell. -/
theorem openSub {fuel : Nat} {cs : List Value} {x : DataW H × List MemPlace} (h : DataW.trod enc Tryd.prog w 0 (fun _ => true) true fuel 22 cs = some x) (hw : ∀ q ∈ x.1.weights Tryd.prog 22, q ≤ reachBytes) :
    ∃ A n c, cs = [.slice A n c] ∧ n ≤ 281474976710656 := by
  rcases open_slice Tryd.underlying22 h with ⟨hc, hd⟩ | ⟨a, len, cap, m, n, D, Pl, hc, _, hl, hm, hmm, hx, hi⟩
  · exact ⟨none, 0, 0, hc, by simp⟩
  · rw [hx] at hw
    obtain ⟨h1, h2⟩ := weights_slice Tryd.underlying22 hw
    simp only [if_true] at hmm
    rw [bytesRp] at h1
    simp only [List.length_map, List.length_range] at h1
    unfold reachBytes at h1
    exact ⟨some a, len, cap, hc, by omega⟩
theorem openRp1 {fuel : Nat} {l : List Value} {xd : DataW H × List MemPlace} (hsz : l.length = 4) (hf : DataW.trod enc Tryd.prog w 0 (fun _ => true) true fuel 24 l = some xd)
    (hw : ∀ q ∈ xd.1.weights Tryd.prog 24, q ≤ reachBytes) : ∃ x A c, l = rp4 x A c ∧ x.Small := by
  match l, hsz with
  | [a0, a1, a2, a3], _ =>
    obtain ⟨ys, k, _, hy, _, hyl, hg⟩ := DataW.trod_struct Tryd.underlying24 hf
    have f0 := hg 0 _ rfl
    have f1 := hg 1 _ rfl
    have f2 := hg 2 _ rfl
    have f3 := hg 3 _ rfl
    simp [cellsText, cellsInt, cellsRps] at f0 f1 f2 f3
    match ys, hyl with
    | [y0, y1, y2, y3], _ =>
      rw [hy] at hw
      simp only [DataW.weights, Tryd.underlying24, List.map_cons, List.map_nil, DataW.weightsEach, List.append_nil, List.mem_append] at hw
      obtain ⟨n, hn, rfl, hwf⟩ := DataW.trod_int Tryd.underlying3 f0
      obtain ⟨t, ht, rfl, _⟩ := DataW.trod_string Tryd.underlying9 f1
      obtain ⟨m, hm, rfl, hwf2⟩ := DataW.trod_int Tryd.underlying3 f2
      obtain ⟨A, s, c, hs, hsl⟩ := openSub f3 (fun q hq => hw q (by simp [hq]))
      simp [Value.cells] at hn ht hm hs
      subst hn
      subst ht
      subst hm
      subst hs
      refine ⟨⟨n, t, m, s⟩, A, c, rfl, ⟨bounds_i64 hwf, ?_, bounds_i64 hwf2, hsl⟩⟩
      have := hw t.data.toList.length (by simp [DataW.weights])
      unfold reachBytes at this
      have e : t.data.toList.length = t.size := by simp
      show t.size ≤ _
      omega

set_option maxRecDepth 100000 in
/-- a reply's list, off its cell. -/
theorem openRps {fuel : Nat} {cs : List Value} {x : DataW H × List MemPlace} (h : DataW.trod enc Tryd.prog w 0 (fun _ => true) true fuel 22 cs = some x) (hw : ∀ q ∈ x.1.weights Tryd.prog 22, q ≤ reachBytes) :
    ∃ A c, ∃ (l : List Rp1) (rs : List (List Value)), cs = [.slice A l.length c] ∧ RelL RpC rs l ∧ Sl w w.heap.size 4 (.slice A l.length c) l.length rs.flatten ∧ l.length ≤ 281474976710656 ∧ ∀ x ∈ l, x.Small := by
  rcases open_slice Tryd.underlying22 h with ⟨hc, hd⟩ | ⟨a, len, cap, m, n, D, Pl, hc, _, hl, hm, hmm, hx, hi⟩
  · exact ⟨none, 0, [], [], hc, RelL.nil, Sl.nil _ _ _, by simp, fun x hx => by cases hx⟩
  · rw [hx] at hw
    obtain ⟨h1, h2⟩ := weights_slice Tryd.underlying22 hw
    simp only [if_true] at hmm
    rw [bytesRp] at h1
    simp only [List.length_map, List.length_range] at h1
    unfold reachBytes at h1
    rw [cellsRp] at hi
    have each : ∀ i, i < len → ∃ q : List Value × Rp1, q.1.length = 4 ∧ (∀ j u, q.1[j]? = some u → w.cell? ((a.add (i * 4)).add j) = some u) ∧ RpC q.1 q.2 ∧ q.2.Small := by
      intro i hlt
      obtain ⟨cs', hc, ht⟩ := hi i (by omega)
      obtain ⟨_, hl5, hat⟩ := World.cells?_some hc
      have hd := h2 (D i) (List.mem_map.2 ⟨i, by simpa using hlt, rfl⟩)
      obtain ⟨x, A, c, hx, hs⟩ := openRp1 hl5 ht hd
      refine ⟨(cs', x), hl5, fun j u hu => ?_, ⟨A, c, hx⟩, hs⟩
      have hj : j < cs'.length := (List.getElem?_eq_some_iff.1 hu).1
      have := hat j (by omega)
      rw [this]
      exact hu
    obtain ⟨l, hll, hp⟩ := listOf _ len each
    subst hll
    have all4 : ∀ c ∈ l.map (·.1), c.length = 4 := fun c hc => by
      obtain ⟨q, hq, rfl⟩ := List.mem_map.1 hc
      obtain ⟨i, hi⟩ := List.getElem?_of_mem hq
      exact (hp i q hi).1
    refine ⟨some a, cap, l.map (·.2), l.map (·.1), by rw [List.length_map]; exact hc, ⟨by simp, fun i x hx => ?_⟩, ?_, by rw [List.length_map]; omega, fun x hx => ?_⟩
    · rw [List.getElem?_map] at hx
      obtain ⟨q, hq, rfl⟩ := Option.map_eq_some_iff.1 hx
      exact ⟨q.1, by rw [List.getElem?_map, hq]; rfl, (hp i q hq).2.2.1⟩
    · rw [List.length_map]
      rcases Nat.eq_zero_or_pos l.length with h0 | h0
      · exact ⟨_, _, rfl, by rw [flatN_len 4 _ all4, List.length_map], hl, hm, fun h => absurd h (by omega)⟩
      · obtain ⟨q0, hq0⟩ : ∃ p, l[0]? = some p := ⟨_, List.getElem?_eq_getElem h0⟩
        have hs0 := hp 0 q0 hq0
        obtain ⟨u0, hu0⟩ : ∃ u, q0.1[0]? = some u := ⟨_, List.getElem?_eq_getElem (by rw [hs0.1]; decide)⟩
        have hc0 := hs0.2.1 0 u0 hu0
        have e0 : (a.add (0 * 4)).add 0 = a := rfl
        rw [e0] at hc0
        obtain ⟨ha, hb⟩ := addr_form hc0
        refine sl_cells (b := a.block) (o := a.off) (fun _ => by rw [← ha]) (by rw [flatN_len 4 _ all4, List.length_map]) hl hm (fun _ => hb) (fun j u hu => ?_)
        obtain ⟨i, k, cs, h3, h4, rfl, h6⟩ := flatP_inv 4 (by decide) _ j u all4 hu
        rw [List.getElem?_map] at h3
        obtain ⟨q, hq, rfl⟩ := Option.map_eq_some_iff.1 h3
        have := (hp i q hq).2.1 k u h6
        rw [ha, add_form, add_form, Nat.add_assoc] at this
        exact this
    · obtain ⟨q, hq, rfl⟩ := List.mem_map.1 hx
      obtain ⟨i, hi⟩ := List.getElem?_of_mem hq
      exact (hp i q hi).2.2.2

set_option maxRecDepth 100000 in
/-- a reply. -/
theorem openReply {r : Reach} {b0 : Nat} {v : Value} {d : DataW H} {p : List MemPlace} (hv : Value.okWide Tryd.prog w r b0 24 v) (h : DataW.Trod enc Tryd.prog w 0 (fun _ => true) true 24 v d p)
    (hw : ∀ q ∈ d.weights Tryd.prog 24, q ≤ reachBytes) : ∃ x, RepV w w.heap.size v x ∧ x.Small ∧ x.list.length ≤ 281474976710656 := by
  obtain ⟨cs, rfl, hsz⟩ := okWide_struct Tryd.underlying24 hv
  obtain ⟨l⟩ := cs
  match l, hsz.trans cellsRp with
  | [a0, a1, a2, a3], _ =>
    obtain ⟨fuel, hf⟩ := h
    obtain ⟨ys, k, _, hy, _, hyl, hg⟩ := DataW.trod_struct Tryd.underlying24 hf
    have f0 := hg 0 _ rfl
    have f1 := hg 1 _ rfl
    have f2 := hg 2 _ rfl
    have f3 := hg 3 _ rfl
    simp [cellsText, cellsInt, cellsRps] at f0 f1 f2 f3
    match ys, hyl with
    | [y0, y1, y2, y3], _ =>
      simp only [Prod.mk.injEq] at hy
      rw [hy.1] at hw
      simp only [DataW.weights, Tryd.underlying24, List.map_cons, List.map_nil, DataW.weightsEach, List.append_nil, List.mem_append] at hw
      obtain ⟨n, hn, rfl, hwf⟩ := DataW.trod_int Tryd.underlying3 f0
      obtain ⟨t, ht, rfl, _⟩ := DataW.trod_string Tryd.underlying9 f1
      obtain ⟨m, hm, rfl, hwf2⟩ := DataW.trod_int Tryd.underlying3 f2
      obtain ⟨A, c, l, rs, hs, hr, s1, z1, q1⟩ := openRps f3 (fun q hq => hw q (by simp [hq]))
      simp [Value.cells] at hn ht hm hs
      subst hn
      subst ht
      subst hm
      subst hs
      refine ⟨⟨n, t, m, l⟩, ⟨A, c, rs, rfl, hr, s1⟩, ⟨⟨bounds_i64 hwf, ?_, bounds_i64 hwf2, z1⟩, q1⟩, z1⟩
      have := hw t.data.toList.length (by simp [DataW.weights])
      unfold reachBytes at this
      have e : t.data.toList.length = t.size := by simp
      show t.size ≤ _
      omega
end
end Go.Proofs.YtoabjcnacnojbaaDoor
