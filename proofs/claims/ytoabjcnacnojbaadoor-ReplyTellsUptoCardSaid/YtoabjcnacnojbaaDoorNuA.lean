/- Numbers as texts, plain: which texts tell one, as the document says it, and that the library's Atoi and Itoa say the same. No program in sight. -/
import Derived.Test.YtoabjcnacnojbaaDoorBase
import Derived.Lib.AtoiAll
import Derived.Lib.ItoaNum
set_option linter.unusedVariables false
set_option linter.unusedSimpArgs false
namespace Go.Proofs.YtoabjcnacnojbaaDoor
open Go.Lib

def digB (c : UInt8) : Bool := decide (48 ≤ c.toNat) && decide (c.toNat ≤ 57)
def valF (a : Nat) (l : List UInt8) : Nat := l.foldl (fun a c => a * 10 + (c.toNat - 48)) a
def valD (l : List UInt8) : Nat := valF 0 l
theorem valF_snoc (a : Nat) (l : List UInt8) (c : UInt8) : valF a (l ++ [c]) = valF a l * 10 + (c.toNat - 48) := by
  unfold valF
  rw [List.foldl_append]
  rfl
theorem valF_ge : ∀ (l : List UInt8) (a : Nat), a ≤ valF a l
  | [], a => Nat.le_refl _
  | c :: r, a => by
    have := valF_ge r (a * 10 + (c.toNat - 48))
    show a ≤ valF (a * 10 + (c.toNat - 48)) r
    omega
theorem valF_lt : ∀ (l : List UInt8) (a : Nat), (∀ c ∈ l, digB c = true) → valF a l < (a + 1) * 10 ^ l.length
  | [], a, _ => by show a < (a + 1) * 1; omega
  | c :: r, a, h => by
    have hc := h c (.head _)
    unfold digB at hc
    simp at hc
    have := valF_lt r (a * 10 + (c.toNat - 48)) (fun q hq => h q (.tail _ hq))
    show valF (a * 10 + (c.toNat - 48)) r < (a + 1) * 10 ^ (r.length + 1)
    have h2 : (a * 10 + (c.toNat - 48) + 1) * 10 ^ r.length ≤ ((a + 1) * 10) * 10 ^ r.length := Nat.mul_le_mul_right _ (by omega)
    rw [Nat.pow_succ, Nat.mul_comm (10 ^ r.length) 10, ← Nat.mul_assoc]
    omega

theorem ofNat_dig {c : UInt8} (h : digB c = true) : UInt8.ofNat (48 + (c.toNat - 48)) = c := by
  unfold digB at h
  simp at h
  rw [show 48 + (c.toNat - 48) = c.toNat by omega]
  simp
theorem toNat_dig {k : Nat} (h : k < 10) : (UInt8.ofNat (48 + k)).toNat = 48 + k := by
  rw [UInt8.toNat_ofNat']
  omega
theorem dec_dig (u : Nat) : ∀ c ∈ decDigits u, digB c = true := by
  induction u using Nat.strongRecOn with
  | _ u ih =>
    intro c hc
    rw [decDigits] at hc
    split at hc
    · rename_i h
      rw [List.mem_singleton] at hc
      subst hc
      unfold digB
      rw [toNat_dig h]
      simp
      omega
    · rename_i h
      rcases List.mem_append.1 hc with hc | hc
      · exact ih (u / 10) (by omega) c hc
      · rw [List.mem_singleton] at hc
        subst hc
        unfold digB
        rw [toNat_dig (Nat.mod_lt _ (by decide))]
        simp
        omega
theorem val_dec (u : Nat) : valD (decDigits u) = u := by
  induction u using Nat.strongRecOn with
  | _ u ih =>
    rw [decDigits]
    split
    · rename_i h
      show 0 * 10 + ((UInt8.ofNat (48 + u)).toNat - 48) = u
      rw [toNat_dig h]
      omega
    · rename_i h
      unfold valD
      rw [valF_snoc]
      have := ih (u / 10) (by omega)
      unfold valD at this
      rw [this, toNat_dig (Nat.mod_lt _ (by decide))]
      omega
theorem dec_ne (u : Nat) : decDigits u ≠ [] := by
  rw [decDigits]
  split <;> simp
theorem dec_head (u : Nat) (hu : 0 < u) : ∃ c r, decDigits u = c :: r ∧ c.toNat ≠ 48 := by
  induction u using Nat.strongRecOn with
  | _ u ih =>
    rw [decDigits]
    split
    · rename_i h
      exact ⟨_, [], rfl, by rw [toNat_dig h]; omega⟩
    · rename_i h
      obtain ⟨c, r, e, hc⟩ := ih (u / 10) (by omega) (by omega)
      exact ⟨c, r ++ [UInt8.ofNat (48 + u % 10)], by rw [e]; rfl, hc⟩
theorem dec_zero : decDigits 0 = [48] := by rw [decDigits]; rfl

/-- digits without a nought ahead are their number's. -/
theorem dec_val : ∀ (n : Nat) (l : List UInt8), l.length = n → l ≠ [] → (∀ c ∈ l, digB c = true) → (∀ c r, l = c :: r → c.toNat = 48 → r = []) → decDigits (valD l) = l
  | 0, l, hn, hne, _, _ => absurd (List.eq_nil_of_length_eq_zero hn) hne
  | n + 1, l, hn, hne, hd, hz => by
    obtain ⟨d, c, rfl⟩ : ∃ d c, l = d ++ [c] := ⟨l.dropLast, l.getLast hne, (List.dropLast_concat_getLast hne).symm⟩
    have hc := hd c (by simp)
    have hcd := hc
    unfold digB at hcd
    simp at hcd
    unfold valD
    rw [valF_snoc]
    by_cases h0 : d = []
    · subst h0
      show decDigits (0 * 10 + (c.toNat - 48)) = [c]
      rw [decDigits, dif_pos (by omega), Nat.zero_mul, Nat.zero_add, ofNat_dig hc]
    · have hdd : ∀ q ∈ d, digB q = true := fun q hq => hd q (List.mem_append.2 (.inl hq))
      obtain ⟨q, r, rfl⟩ := List.exists_cons_of_ne_nil h0
      have hq48 : q.toNat ≠ 48 := fun e => by
        have := hz q (r ++ [c]) rfl e
        simp at this
      have hqd := hdd q (.head _)
      unfold digB at hqd
      simp at hqd
      have hpos : 1 ≤ valF 0 (q :: r) := by
        have := valF_ge r (0 * 10 + (q.toNat - 48))
        show 1 ≤ valF (0 * 10 + (q.toNat - 48)) r
        omega
      have ih := dec_val n (q :: r) (by simp at hn ⊢; omega) (by simp) hdd (fun c' r' e h48 => by
        injection e with e1 e2
        subst e1
        exact absurd h48 hq48)
      unfold valD at ih
      rw [decDigits, dif_neg (by omega), show (valF 0 (q :: r) * 10 + (c.toNat - 48)) / 10 = valF 0 (q :: r) by omega, show (valF 0 (q :: r) * 10 + (c.toNat - 48)) % 10 = c.toNat - 48 by omega, ih, ofNat_dig hc]

/-- what a text tells. -/
def magL (neg : Bool) (d : List UInt8) : Option Nat :=
  if d.length = 0 ∨ 9 < d.length ∨ (d.head? = some 48 ∧ (1 < d.length ∨ neg = true)) then none else if d.all digB = true then some (valD d) else none
def intL (l : List UInt8) : Option Int :=
  if l.head? = some 45 then (magL true (l.drop 1)).map (fun u : Nat => -(u : Int)) else (magL false l).map (fun u : Nat => (u : Int))
theorem u8_48 {c : UInt8} : c.toNat = 48 ↔ c = 48 := by
  constructor
  · intro h; apply UInt8.toNat_inj.1; exact h
  · rintro rfl; rfl
theorem u8_45 {c : UInt8} : c.toNat = 45 ↔ c = 45 := by
  constructor
  · intro h; apply UInt8.toNat_inj.1; exact h
  · rintro rfl; rfl
theorem mag_some {neg : Bool} {d : List UInt8} {u : Nat} (h : magL neg d = some u) : d = decDigits u ∧ u ≤ 999999999 ∧ (neg = true → 0 < u) := by
  unfold magL at h
  split at h
  · cases h
  · rename_i h1
    split at h
    · rename_i h2
      injection h with h
      subst h
      rw [List.all_eq_true] at h2
      have hne : d ≠ [] := fun e => h1 (.inl (by rw [e]; rfl))
      have hlen : d.length ≤ 9 := by
        rcases Nat.lt_or_ge 9 d.length with h | h
        · exact absurd (.inr (.inl h)) h1
        · exact h
      have hv := dec_val d.length d rfl hne h2 (fun c r e h48 => by
        rcases Nat.lt_or_ge 1 d.length with hl | hl
        · exact absurd (.inr (.inr ⟨by rw [e, u8_48.1 h48]; rfl, .inl hl⟩)) h1
        · rw [e, List.length_cons] at hl
          exact List.eq_nil_of_length_eq_zero (by omega))
      have hlt := valF_lt d 0 h2
      have hp : (10 : Nat) ^ d.length ≤ 10 ^ 9 := Nat.pow_le_pow_right (by decide) hlen
      refine ⟨hv.symm, by unfold valD; omega, fun hneg => ?_⟩
      rcases Nat.eq_zero_or_pos (valD d) with h0 | h0
      · rw [h0, dec_zero] at hv
        exact absurd (.inr (.inr ⟨by rw [← hv]; rfl, .inr hneg⟩)) h1
      · exact h0
    · cases h
theorem dec_len {u : Nat} (h : u ≤ 999999999) : 0 < (decDigits u).length ∧ (decDigits u).length ≤ 9 := by
  refine ⟨List.length_pos_iff.2 (dec_ne u), ?_⟩
  rw [decDigits_length]
  rcases Nat.lt_or_ge (nDigits u) 10 with h' | h'
  · omega
  · exfalso
    have : ∀ (k u : Nat), k + 1 ≤ nDigits u → 0 < u → 10 ^ k ≤ u := by
      intro k
      induction k with
      | zero => intro u _ hu; rw [Nat.pow_zero]; exact hu
      | succ k ih =>
        intro u hk hu
        by_cases h10 : u < 10
        · rw [nDigits_small h10] at hk; omega
        · rw [nDigits_big h10] at hk
          have := ih (u / 10) (by omega) (by omega)
          rw [Nat.pow_succ]
          omega
    have h2 := this 9 u (by omega) (by
      rcases Nat.eq_zero_or_pos u with h0 | h0
      · rw [h0, nDigits_small (by decide)] at h'; omega
      · exact h0)
    omega
theorem mag_dec {neg : Bool} {u : Nat} (h : u ≤ 999999999) (hn : neg = true → 0 < u) : magL neg (decDigits u) = some u := by
  have hl := dec_len h
  unfold magL
  rw [if_neg, if_pos (List.all_eq_true.2 (dec_dig u)), val_dec]
  rintro (h1 | h1 | ⟨h1, h2⟩)
  · omega
  · omega
  · rcases Nat.eq_zero_or_pos u with h0 | h0
    · rcases h2 with h2 | h2
      · rw [h0, dec_zero] at h2; simp at h2
      · have := hn h2; omega
    · obtain ⟨c, r, e, hc⟩ := dec_head u h0
      rw [e] at h1
      simp at h1
      exact hc (u8_48.2 h1)
theorem dec_no45 (u : Nat) : (decDigits u).head? ≠ some 45 := by
  intro h
  obtain ⟨c, r, e⟩ := List.exists_cons_of_ne_nil (dec_ne u)
  rw [e] at h
  simp at h
  have := dec_dig u c (by rw [e]; exact .head _)
  rw [h] at this
  exact absurd this (by decide)
theorem intL_iff {l : List UInt8} {v : Int} : intL l = some v ↔ isInt v = true ∧ l = itoa v := by
  unfold intL
  constructor
  · intro h
    split at h
    · rename_i h45
      obtain ⟨u, hu, rfl⟩ := Option.map_eq_some_iff.1 h
      obtain ⟨e, hle, hpos⟩ := mag_some hu
      have := hpos rfl
      refine ⟨by unfold isInt; simp; omega, ?_⟩
      obtain ⟨c, r, rfl⟩ : ∃ c r, l = c :: r := by
        cases l with
        | nil => simp at h45
        | cons c r => exact ⟨c, r, rfl⟩
      simp at h45 e
      subst h45
      unfold itoa
      rw [if_pos (by omega), e, show (-(u : Int)).natAbs = u by omega]
    · obtain ⟨u, hu, rfl⟩ := Option.map_eq_some_iff.1 h
      obtain ⟨e, hle, hpos⟩ := mag_some hu
      refine ⟨by unfold isInt; simp; omega, ?_⟩
      unfold itoa
      rw [if_neg (by omega), e, Int.toNat_natCast]
  · rintro ⟨hi, rfl⟩
    unfold isInt at hi
    simp at hi
    unfold itoa
    by_cases hv : v < 0
    · rw [if_pos hv, if_pos (show (45 :: decDigits v.natAbs).head? = some (45 : UInt8) from rfl)]
      show (magL true (decDigits v.natAbs)).map _ = some v
      rw [mag_dec (by omega) (fun _ => by omega)]
      simp
      omega
    · rw [if_neg hv, if_neg (dec_no45 _), mag_dec (by omega) (fun h => by cases h)]
      simp
      omega
theorem parse_ok : ∀ (l : List UInt8) (a : Nat), (∀ c ∈ l, digB c = true) → valF a l ≤ 1000000000000000000 → parseUint10 a l = .ok (valF a l)
  | [], a, _, _ => rfl
  | c :: r, a, h, hv => by
    have hc := h c (.head _)
    unfold digB at hc
    simp at hc
    have h1 : valF a (c :: r) = valF (a * 10 + (c.toNat - 48)) r := rfl
    have h2 := valF_ge r (a * 10 + (c.toNat - 48))
    rw [h1] at hv ⊢
    rw [parseUint10, if_pos hc, if_neg (by omega), if_neg (by omega)]
    exact parse_ok r _ (fun q hq => h q (.tail _ hq)) hv
theorem parse_dec {u : Nat} (h : u ≤ 999999999) : parseMag (decDigits u) = .ok u := by
  unfold parseMag
  rw [if_neg (dec_ne u)]
  have := parse_ok (decDigits u) 0 (dec_dig u) (by have := val_dec u; unfold valD at this; omega)
  have h2 := val_dec u
  unfold valD at h2
  rw [h2] at this
  exact this
/-- a number's own text is read as it. -/
theorem atoi_itoa {v : Int} (h : isInt v = true) : atoiAll (itoa v) = .ok v := by
  unfold isInt at h
  simp at h
  unfold itoa
  by_cases hv : v < 0
  · rw [if_pos hv]
    unfold atoiAll
    simp only [show (45 : UInt8).toNat = 45 from rfl, true_or, or_true, if_true]
    rw [parse_dec (by omega)]
    simp only [not_true, false_and, if_false, true_and]
    rw [if_neg (by omega)]
    congr 1
    omega
  · rw [if_neg hv]
    obtain ⟨c, r, e⟩ := List.exists_cons_of_ne_nil (dec_ne v.toNat)
    have hd := dec_dig v.toNat c (by rw [e]; exact .head _)
    unfold digB at hd
    simp at hd
    have hp := parse_dec (u := v.toNat) (by omega)
    rw [e] at hp ⊢
    unfold atoiAll
    simp only
    rw [if_neg (by omega), hp]
    simp
    rw [if_neg (by omega), if_neg (by omega), if_neg (by omega)]
    congr 1
    omega
/-- what the program takes for a number is what the document does. -/
theorem intL_prog {l : List UInt8} {v : Int} (h : atoiAll l = .ok v) : intL l = if itoa v = l ∧ isInt v = true then some v else none := by
  by_cases hc : itoa v = l ∧ isInt v = true
  · rw [if_pos hc]
    exact intL_iff.2 ⟨hc.2, hc.1.symm⟩
  · rw [if_neg hc]
    cases hi : intL l with
    | none => rfl
    | some u =>
      obtain ⟨h1, h2⟩ := intL_iff.1 hi
      have := atoi_itoa h1
      rw [← h2, h] at this
      injection this with this
      subst this
      exact absurd ⟨h2.symm, h1⟩ hc
theorem intL_bad {l : List UInt8} (h : ∀ v, atoiAll l ≠ .ok v) : intL l = none := by
  cases hi : intL l with
  | none => rfl
  | some u =>
    obtain ⟨h1, h2⟩ := intL_iff.1 hi
    exact absurd (by rw [h2]; exact atoi_itoa h1) (h u)
theorem itoa_len {v : Int} (h : isInt v = true) : 0 < (itoa v).length ∧ (itoa v).length ≤ 10 := by
  unfold isInt at h
  simp at h
  unfold itoa
  by_cases hv : v < 0
  · rw [if_pos hv]
    have := dec_len (u := v.natAbs) (by omega)
    rw [List.length_cons]
    omega
  · rw [if_neg hv]
    have := dec_len (u := v.toNat) (by omega)
    omega
end Go.Proofs.YtoabjcnacnojbaaDoor
