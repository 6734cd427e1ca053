/- What is read is small. No walk. -/
import Derived.Test.YtoabjcnacnojbaaDoorReJ
import Derived.Test.YtoabjcnacnojbaaDoorReK
set_option linter.unusedVariables false
set_option linter.unusedSimpArgs false
namespace Go.Proofs.YtoabjcnacnojbaaDoor
open Go.RowKit

theorem int_wide {n : Int} (h : isInt n = true) : -9223372036854775808 ≤ n ∧ n ≤ 9223372036854775807 := by
  have := int_bound h
  omega
theorem small_mk {k n : Int} {t : ByteArray} (hk : 0 ≤ k ∧ k ≤ 9) (ht : t.size ≤ 281474976710656) (hn : -9223372036854775808 ≤ n ∧ n ≤ 9223372036854775807) : Rp1.Small ⟨k, t, n, 0⟩ :=
  ⟨by show -9223372036854775808 ≤ k ∧ k ≤ 9223372036854775807; omega, ht, hn, Nat.zero_le _⟩
theorem textC_take {n : Int} {l a r : List UInt8} (h : textC n l = some (a, r)) : a.length ≤ l.length := by
  unfold textC at h
  split at h
  · cases h
  · split at h
    · cases h
      rw [List.length_take]
      omega
    · cases h
theorem dec1_small {l m : List UInt8} {x : Rp1} (hl : l.length ≤ 281474976710656) (h : dec1 l = some (x, m)) : x.Small := by
  cases l with
  | nil => cases h
  | cons c r =>
    rw [List.length_cons] at hl
    have h0 : (⟨#[]⟩ : ByteArray).size ≤ 281474976710656 := by decide
    by_cases h1 : c.toNat = 43
    · rw [dec1_plus h1] at h
      obtain ⟨p, hp, e⟩ := Option.map_eq_some_iff.1 h
      cases e
      have := cut_size (a := p.1) (b := p.2) hp
      exact small_mk (by decide) (by rw [toB_size]; omega) (by decide)
    · by_cases h2 : c.toNat = 45
      · rw [dec1_minus h2] at h
        obtain ⟨p, hp, e⟩ := Option.map_eq_some_iff.1 h
        cases e
        exact small_mk (by decide) h0 (int_wide (numC_some (n := p.1) (r := p.2) hp).1)
      · by_cases h3 : c.toNat = 58
        · rw [dec1_colon h3] at h
          obtain ⟨p, hp, e⟩ := Option.map_eq_some_iff.1 h
          cases e
          exact small_mk (by decide) h0 (int_wide (numC_some (n := p.1) (r := p.2) hp).1)
        · by_cases h4 : c.toNat = 36
          · rw [dec1_dollar h4] at h
            obtain ⟨p, hp, e⟩ := Option.bind_eq_some_iff.1 h
            have := (numC_some (n := p.1) (r := p.2) hp).2
            by_cases h5 : p.1 = -1
            · rw [if_pos h5] at e
              cases e
              exact small_mk (by decide) h0 (by decide)
            · rw [if_neg h5] at e
              obtain ⟨q, hq, e⟩ := Option.map_eq_some_iff.1 e
              cases e
              have := textC_take (a := q.1) (r := q.2) hq
              exact small_mk (by decide) (by rw [toB_size]; omega) (by decide)
          · rw [dec1_else h1 h2 h3 h4] at h; cases h
theorem decN_small : ∀ (k : Nat) {l m : List UInt8} {acc out : List Rp1}, l.length ≤ 281474976710656 → (∀ x ∈ acc, x.Small) → decN k l acc = some (out, m) → (∀ x ∈ out, x.Small) ∧ out.length = acc.length + k
  | 0, l, m, acc, out, hl, ha, h => by
    cases h
    exact ⟨ha, rfl⟩
  | k + 1, l, m, acc, out, hl, ha, h => by
    rw [decN_step] at h
    obtain ⟨p, hp, h⟩ := Option.bind_eq_some_iff.1 h
    obtain ⟨x, r⟩ := p
    have h1 := (dec1_len hp).1
    have h2 := dec1_small hl hp
    obtain ⟨h3, h4⟩ := decN_small k (l := r) (by omega) (acc := acc ++ [x]) (fun y hy => by
      rcases List.mem_append.1 hy with hy | hy
      · exact ha y hy
      · simp at hy; rw [hy]; exact h2) h
    exact ⟨h3, by rw [h4, List.length_append]; simp; omega⟩
theorem decL_small {l m : List UInt8} {r : Rep} (hl : l.length ≤ 281474976710656) (h : decL l = some (r, m)) : r.Small ∧ r.list.length ≤ 281474976710656 := by
  cases l with
  | nil => cases h
  | cons c q =>
    by_cases h42 : c.toNat = 42
    · rw [decL_list h42, decLL_num] at h
      obtain ⟨p, hp, h⟩ := Option.bind_eq_some_iff.1 h
      obtain ⟨n, a⟩ := p
      obtain ⟨hi, hla⟩ := numC_some hp
      have hb := int_bound hi
      rw [List.length_cons] at hl
      have h : decI a n = some (r, m) := h
      unfold decI at h
      by_cases hneg : n < 0
      · rw [if_pos hneg] at h; cases h
      · rw [if_neg hneg] at h
        obtain ⟨w, hw, e⟩ := Option.map_eq_some_iff.1 h
        cases e
        obtain ⟨h3, h4⟩ := decN_small n.toNat (l := a) (by omega) (acc := []) (fun x hx => by cases hx) (out := w.1) (m := w.2) hw
        have hlen : w.1.length ≤ 281474976710656 := by rw [h4, List.length_nil]; omega
        refine ⟨⟨⟨?_, ?_, ?_, hlen⟩, h3⟩, hlen⟩
        · show (-9223372036854775808 : Int) ≤ 6 ∧ (6 : Int) ≤ 9223372036854775807; decide
        · show (⟨#[]⟩ : ByteArray).size ≤ 281474976710656; decide
        · show (-9223372036854775808 : Int) ≤ 0 ∧ (0 : Int) ≤ 9223372036854775807; decide
    · rw [decL_one h42] at h
      obtain ⟨p, hp, e⟩ := Option.map_eq_some_iff.1 h
      obtain ⟨x, b⟩ := p
      cases e
      have hs := dec1_small hl hp
      exact ⟨⟨⟨hs.kind, hs.text, hs.n, Nat.zero_le _⟩, fun y hy => by cases hy⟩, Nat.zero_le _⟩
end Go.Proofs.YtoabjcnacnojbaaDoor
