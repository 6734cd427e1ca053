/- The plain laws of patterns, more: a part's own bytes. -/
import Derived.Test.YtmlmiboihjibiaaGlobB
import Derived.Test.YtmlmiboihjibiaaBase
import Derived.Test.YtmlmiboihjibiaaGlobP
set_option linter.unusedVariables false
set_option linter.unusedSimpArgs false
namespace Go.Proofs.Ytmlmiboihjibiaa

theorem inCls_ranges (p : ByteArray) (c m z : Nat) (hz : z < p.size) : ∀ (d k : Nat) (rs : List (Nat × Nat)), z - k ≤ d → m ≤ k → cls p k = some (rs, z) → inClsAt (p.extract m z) c (k - m) = inRanges rs c := by
  intro d
  induction d with
  | zero =>
    intro k rs hd hm h
    have h1 := (cls_lt p p.size k (by omega) _ h).1
    have hk : k = z := by simp only at h1; omega
    subst hk
    have h93 := (cls_lt p p.size k (by omega) _ h).2.2
    simp only at h93
    rw [cls_step, if_pos hz, if_pos h93] at h
    cases h
    rw [inClsAt_step, if_neg (by rw [size_extract' _ _ _ (by omega)]; omega)]
    rfl
  | succ d ih =>
    intro k rs hd hm h
    have hL := cls_lt p p.size k (by omega) _ h
    simp only at hL
    by_cases hk : k = z
    · exact ih k rs (by omega) hm h
    have hkz : k < z := by omega
    have hsz := size_extract' p m z (by omega)
    rw [cls_step, if_pos (by omega)] at h
    by_cases h93 : byteAt p k = 93
    · rw [if_pos h93] at h; cases h; omega
    · rw [if_neg h93] at h
      rw [inClsAt_step, hsz, if_pos (by omega)]
      have e0 : byteAt (p.extract m z) (k - m) = byteAt p k := by rw [byteAt_extract _ _ _ _ (by omega) (by omega)]; congr 1; omega
      by_cases hr : k + 2 < p.size ∧ byteAt p (k + 1) = 45 ∧ byteAt p (k + 2) ≠ 93
      · rw [if_pos hr] at h
        by_cases hlt : byteAt p (k + 2) < byteAt p k
        · rw [if_pos hlt] at h; cases h
        · rw [if_neg hlt] at h
          obtain ⟨x, hx, he⟩ := Option.map_eq_some_iff.1 h
          cases he
          have hL3 := (cls_lt p p.size (k + 3) (by omega) _ hx).1
          have e1 : byteAt (p.extract m x.2) (k - m + 1) = byteAt p (k + 1) := by rw [byteAt_extract _ _ _ _ (by omega) (by omega)]; congr 1; omega
          have e2 : byteAt (p.extract m x.2) (k - m + 2) = byteAt p (k + 2) := by rw [byteAt_extract _ _ _ _ (by omega) (by omega)]; congr 1; omega
          rw [if_pos ⟨by omega, by rw [e1]; exact hr.2.1⟩, e0, e2, show k - m + 3 = k + 3 - m by omega, ih (k + 3) x.1 (by omega) (by omega) hx]
          simp only [inRanges, List.any_cons]
          by_cases hc : byteAt p k ≤ c ∧ c ≤ byteAt p (k + 2)
          · rw [if_pos hc]; simp [hc]
          · rw [if_neg hc]
            have : (decide (byteAt p k ≤ c) && decide (c ≤ byteAt p (k + 2))) = false := by
              rw [Bool.and_eq_false_iff]; simp only [decide_eq_false_iff_not]; omega
            rw [this, Bool.false_or]
      · rw [if_neg hr] at h
        obtain ⟨x, hx, he⟩ := Option.map_eq_some_iff.1 h
        cases he
        have hno : ¬ (k - m + 2 < x.2 - m ∧ byteAt (p.extract m x.2) (k - m + 1) = 45) := by
          rintro ⟨h1, h2⟩
          have e1 : byteAt (p.extract m x.2) (k - m + 1) = byteAt p (k + 1) := by rw [byteAt_extract _ _ _ _ (by omega) (by omega)]; congr 1; omega
          rw [e1] at h2
          have h93' : byteAt p (k + 2) = 93 := Decidable.byContradiction fun hh => hr ⟨by omega, h2, hh⟩
          rw [cls_step, if_pos (by omega), if_neg (by omega), if_neg (by rw [h93']; omega)] at hx
          obtain ⟨y, hy, hye⟩ := Option.map_eq_some_iff.1 hx
          rw [cls_step, if_pos (by omega), if_pos (show byteAt p (k + 1 + 1) = 93 from h93')] at hy
          cases hy
          rw [← hye] at h1
          simp only at h1
          omega
        rw [if_neg hno, e0, show k - m + 1 = k + 1 - m by omega, ih (k + 1) x.1 (by omega) (by omega) hx]
        simp only [inRanges, List.any_cons]
        by_cases hc : c = byteAt p k
        · rw [if_pos hc]; simp [hc]
        · rw [if_neg hc]
          have : (decide (byteAt p k ≤ c) && decide (c ≤ byteAt p k)) = false := by
            rw [Bool.and_eq_false_iff]; simp only [decide_eq_false_iff_not]; omega
          rw [this, Bool.false_or]

/-- what the reference says of a part, by its bytes. -/
theorem partMay_eq {p : ByteArray} {k : Nat} {x : Part × Nat} (h : partAt p k = some x) (c : Nat) (hns : x.1.isStar = false) :
    partMayS (p.extract k x.2) c = x.1.may c ∧ 0 < (p.extract k x.2).size ∧ (byteAt (p.extract k x.2) 0 = 92 → 1 < (p.extract k x.2).size) ∧ (byteAt (p.extract k x.2) 0 = 91 → 2 < (p.extract k x.2).size) := by
  have hx := partAt_lt h
  have hlt : k < p.size := by omega
  have hsz := size_extract' p k x.2 hx.2
  have e0 : byteAt (p.extract k x.2) 0 = byteAt p k := by rw [byteAt_extract _ _ _ _ hx.2 (by omega)]; rfl
  rw [e0]
  by_cases h92 : byteAt p k = 92
  · rw [partAt_bs hlt h92] at h
    split at h
    · cases h
      rename_i h2
      refine ⟨?_, by rw [hsz]; show 0 < k + 2 - k; omega, fun _ => by rw [hsz]; show 1 < k + 2 - k; omega, fun hh => by omega⟩
      unfold partMayS
      rw [e0, if_neg (by omega), if_pos h92]
      have e1 : byteAt (p.extract k (k + 2)) 1 = byteAt p (k + 1) := byteAt_extract _ _ _ _ hx.2 (by omega)
      show decide (byteAt (p.extract k (k + 2)) 1 = c) = decide (c = byteAt p (k + 1))
      rw [e1, decide_eq_decide]; exact eq_comm
    · cases h
  · by_cases h91 : byteAt p k = 91
    · rw [partAt_cls hlt h91] at h
      by_cases h94 : k + 1 < p.size ∧ byteAt p (k + 1) = 94
      · rw [if_pos h94, show decide (k + 1 < p.size ∧ byteAt p (k + 1) = 94) = true from decide_eq_true h94] at h
        cases hy : cls p (k + 2) with
        | none => rw [hy] at h; cases h
        | some y =>
          rw [hy] at h
          simp only at h
          split at h
          · cases h
          · cases h
            have hL := cls_lt p p.size (k + 2) (by omega) _ hy
            refine ⟨?_, by rw [hsz]; show 0 < y.2 + 1 - k; omega, fun hh => by omega, fun _ => by rw [hsz]; show 2 < y.2 + 1 - k; omega⟩
            unfold partMayS
            have e1 : byteAt (p.extract k (y.2 + 1)) 1 = byteAt p (k + 1) := byteAt_extract _ _ _ _ hx.2 (by omega)
            have e2 : (p.extract k (y.2 + 1)).extract 2 ((p.extract k (y.2 + 1)).size - 1) = p.extract (k + 2) y.2 := by
              rw [hsz]
              apply ByteArray.ext
              simp only [ByteArray.data_extract, Array.extract_extract]
              congr 1
              show min (k + (y.2 + 1 - k - 1)) (y.2 + 1) = y.2
              omega
            show (if byteAt (p.extract k (y.2 + 1)) 0 = 63 then true else if byteAt (p.extract k (y.2 + 1)) 0 = 92 then _ else _) = _
            simp only at e0
            rw [e0, if_neg (by omega), if_neg (by omega), if_pos h91, e1, if_pos h94.2, e2]
            have := inCls_ranges p c (k + 2) y.2 hL.2.1 _ (k + 2) y.1 (Nat.le_refl _) (Nat.le_refl _) hy
            rw [Nat.sub_self] at this
            rw [this]
            simp [Part.may]
      · rw [if_neg h94, show decide (k + 1 < p.size ∧ byteAt p (k + 1) = 94) = false from decide_eq_false h94] at h
        cases hy : cls p (k + 1) with
        | none => rw [hy] at h; cases h
        | some y =>
          rw [hy] at h
          simp only at h
          split at h
          · cases h
          · rename_i hne
            cases h
            have hL := cls_lt p p.size (k + 1) (by omega) _ hy
            have hgt : k + 1 < y.2 := by
              rcases Nat.lt_or_ge (k + 1) y.2 with h' | h'
              · exact h'
              · have e : y.2 = k + 1 := by omega
                rw [cls_step, if_pos (by omega), if_pos (by rw [← e]; exact hL.2.2)] at hy
                cases hy
                exact absurd rfl hne
            refine ⟨?_, by rw [hsz]; show 0 < y.2 + 1 - k; omega, fun hh => by omega, fun _ => by rw [hsz]; show 2 < y.2 + 1 - k; omega⟩
            unfold partMayS
            have e1 : byteAt (p.extract k (y.2 + 1)) 1 = byteAt p (k + 1) := byteAt_extract _ _ _ _ hx.2 (by omega)
            have e2 : (p.extract k (y.2 + 1)).extract 1 ((p.extract k (y.2 + 1)).size - 1) = p.extract (k + 1) y.2 := by
              rw [hsz]
              apply ByteArray.ext
              simp only [ByteArray.data_extract, Array.extract_extract]
              congr 1
              show min (k + (y.2 + 1 - k - 1)) (y.2 + 1) = y.2
              omega
            show (if byteAt (p.extract k (y.2 + 1)) 0 = 63 then true else if byteAt (p.extract k (y.2 + 1)) 0 = 92 then _ else _) = _
            simp only at e0
            rw [e0, if_neg (by omega), if_neg (by omega), if_pos h91, e1, if_neg (fun hh => h94 ⟨by omega, hh⟩), e2]
            have := inCls_ranges p c (k + 1) y.2 hL.2.1 _ (k + 1) y.1 (Nat.le_refl _) (Nat.le_refl _) hy
            rw [Nat.sub_self] at this
            rw [this]
            simp [Part.may]
    · rw [partAt_one hlt h92 h91] at h
      cases h
      simp only at hns hsz ⊢
      refine ⟨?_, by rw [hsz]; omega, fun hh => absurd hh h92, fun hh => absurd hh h91⟩
      unfold partMayS
      simp only at e0
      rw [e0]
      by_cases h42 : byteAt p k = 42
      · rw [if_pos h42] at hns; cases hns
      · rw [if_neg h42]
        by_cases h63 : byteAt p k = 63
        · rw [if_pos h63, if_pos h63]; rfl
        · rw [if_neg h63, if_neg h63, if_neg h92, if_neg h91]
          show decide (byteAt p k = c) = decide (c = byteAt p k)
          rw [decide_eq_decide]; exact eq_comm

theorem eq_one (q : ByteArray) : (q.toList == [42]) = decide (q.size = 1 ∧ byteAt q 0 = 42) := by
  rw [ByteArray.toList_eq, Bool.eq_iff_iff, beq_iff_eq, decide_eq_true_iff]
  unfold byteAt
  have hl : q.data.toList.length = q.size := by simp
  constructor
  · intro h
    rw [h] at hl ⊢
    exact ⟨by simpa using hl.symm, rfl⟩
  · rintro ⟨h1, h2⟩
    rw [h1] at hl
    match hq : q.data.toList, hl with
    | [c], _ =>
      rw [hq] at h2
      have : c.toNat = 42 := by simpa using h2
      congr 1
      exact UInt8.toNat_inj.1 this

/-- is a part's text the star's? -/
theorem star_eq {p : ByteArray} {k : Nat} {x : Part × Nat} (h : partAt p k = some x) : ((p.extract k x.2).toList == [42]) = x.1.isStar := by
  have hx := partAt_lt h
  have hlt : k < p.size := by omega
  have hsz := size_extract' p k x.2 hx.2
  have e0 : byteAt (p.extract k x.2) 0 = byteAt p k := by rw [byteAt_extract _ _ _ _ hx.2 (by omega)]; rfl
  rw [eq_one, e0, hsz]
  by_cases h42 : byteAt p k = 42
  · have : partAt p k = some (.star, k + 1) := by unfold partAt; rw [if_pos hlt, if_pos h42]
    rw [this] at h
    cases h
    simp [Part.isStar, h42]
  · rw [decide_eq_false (fun hh => h42 hh.2)]
    by_cases h92 : byteAt p k = 92
    · rw [partAt_bs hlt h92] at h
      split at h
      · cases h; rfl
      · cases h
    · by_cases h91 : byteAt p k = 91
      · rw [partAt_cls hlt h91] at h
        split at h
        · cases h
        · split at h
          · cases h
          · cases h; rfl
      · rw [partAt_one hlt h92 h91, if_neg h42] at h
        cases h
        simp only
        split <;> rfl
end Go.Proofs.Ytmlmiboihjibiaa
