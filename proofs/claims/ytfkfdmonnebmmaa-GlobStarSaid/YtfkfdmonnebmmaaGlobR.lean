/- The plain laws of patterns, third: what stands ahead and behind; plain texts. -/
import Derived.Test.YtfkfdmonnebmmaaGlobB
import Derived.Test.YtfkfdmonnebmmaaGlobH
import Derived.Test.YtfkfdmonnebmmaaGlobP
set_option linter.unusedVariables false
namespace Go.Proofs.Ytfkfdmonnebmmaa

/-- from k on, p stands in p', d further on. -/
def Stands (p p' : ByteArray) (k d : Nat) : Prop := ∀ i, k ≤ i → i < p.size → i + d < p'.size ∧ byteAt p' (i + d) = byteAt p i

theorem Stands.mono {p p' : ByteArray} {k k' d : Nat} (h : Stands p p' k d) (hk : k ≤ k') : Stands p p' k' d := fun i hi hl => h i (by omega) hl

theorem cls_stands {p p' : ByteArray} {d : Nat} : ∀ (n k : Nat) (rs : List (Nat × Nat)) (z : Nat), p.size - k ≤ n → Stands p p' k d → cls p k = some (rs, z) → cls p' (k + d) = some (rs, z + d) := by
  intro n
  induction n using Nat.strongRecOn with
  | _ n ih =>
    intro k rs z hn hS h
    have hL := cls_lt p p.size k (by omega) _ h
    simp only at hL
    have hk : k < p.size := by omega
    have h0 := hS k (Nat.le_refl _) hk
    rw [cls_step, if_pos hk] at h
    rw [cls_step, if_pos h0.1, h0.2]
    by_cases h93 : byteAt p k = 93
    · rw [if_pos h93] at h ⊢; cases h; rfl
    · rw [if_neg h93] at h ⊢
      by_cases hr : k + 2 < p.size ∧ byteAt p (k + 1) = 45 ∧ byteAt p (k + 2) ≠ 93
      · have h1 := hS (k + 1) (by omega) (by omega)
        have h2 := hS (k + 2) (by omega) (by omega)
        rw [show k + 1 + d = k + d + 1 by omega] at h1
        rw [show k + 2 + d = k + d + 2 by omega] at h2
        rw [if_pos hr] at h
        rw [if_pos ⟨h2.1, by rw [h1.2]; exact hr.2.1, by rw [h2.2]; exact hr.2.2⟩, h2.2]
        by_cases hlt : byteAt p (k + 2) < byteAt p k
        · rw [if_pos hlt] at h; cases h
        · rw [if_neg hlt] at h ⊢
          obtain ⟨x, hx, he⟩ := Option.map_eq_some_iff.1 h
          cases he
          rw [show k + d + 3 = k + 3 + d by omega, ih (p.size - (k + 3)) (by omega) (k + 3) x.1 x.2 (Nat.le_refl _) (hS.mono (by omega)) hx]
          rfl
      · rw [if_neg hr] at h
        obtain ⟨x, hx, he⟩ := Option.map_eq_some_iff.1 h
        cases he
        have hL2 := cls_lt p p.size (k + 1) (by omega) _ hx
        have h1 := hS (k + 1) (by omega) (by omega)
        rw [show k + 1 + d = k + d + 1 by omega] at h1
        have hno : ¬ (k + d + 2 < p'.size ∧ byteAt p' (k + d + 1) = 45 ∧ byteAt p' (k + d + 2) ≠ 93) := by
          rintro ⟨a1, a2, a3⟩
          rw [h1.2] at a2
          by_cases h2l : k + 2 < p.size
          · have h2 := hS (k + 2) (by omega) h2l
            rw [show k + 2 + d = k + d + 2 by omega] at h2
            rw [h2.2] at a3
            exact hr ⟨h2l, a2, a3⟩
          · have e : x.2 = k + 1 := by omega
            have := hL2.2.2
            rw [e] at this
            omega
        rw [if_neg hno, show k + d + 1 = k + 1 + d by omega, ih (p.size - (k + 1)) (by omega) (k + 1) x.1 x.2 (Nat.le_refl _) (hS.mono (by omega)) hx]
        rfl

theorem partAt_stands {p p' : ByteArray} {k d : Nat} {x : Part × Nat} (hS : Stands p p' k d) (h : partAt p k = some x) : partAt p' (k + d) = some (x.1, x.2 + d) := by
  have hx := partAt_lt h
  have hk : k < p.size := by omega
  have h0 := hS k (Nat.le_refl _) hk
  by_cases h92 : byteAt p k = 92
  · rw [partAt_bs hk h92] at h
    split at h
    · rename_i h2
      cases h
      have h1 := hS (k + 1) (by omega) h2
      rw [show k + 1 + d = k + d + 1 by omega] at h1
      rw [partAt_bs h0.1 (by rw [h0.2]; exact h92), if_pos h1.1, h1.2]
      simp only [Option.some.injEq, Prod.mk.injEq, true_and]
      omega
    · cases h
  · by_cases h91 : byteAt p k = 91
    · rw [partAt_cls hk h91] at h
      have hl1 : k + 1 < p.size := by
        rcases Nat.lt_or_ge (k + 1) p.size with h' | h'
        · exact h'
        · rw [if_neg (by omega), cls_step, if_neg (by omega)] at h
          cases h
      have h1 := hS (k + 1) (by omega) hl1
      rw [show k + 1 + d = k + d + 1 by omega] at h1
      rw [partAt_cls h0.1 (by rw [h0.2]; exact h91)]
      by_cases h94 : byteAt p (k + 1) = 94
      · rw [if_pos ⟨hl1, h94⟩] at h
        rw [if_pos ⟨h1.1, by rw [h1.2]; exact h94⟩]
        rw [show decide (k + 1 < p.size ∧ byteAt p (k + 1) = 94) = true from decide_eq_true ⟨hl1, h94⟩] at h
        rw [show decide (k + d + 1 < p'.size ∧ byteAt p' (k + d + 1) = 94) = true from decide_eq_true ⟨h1.1, by rw [h1.2]; exact h94⟩]
        cases hy : cls p (k + 2) with
        | none => rw [hy] at h; cases h
        | some y =>
          rw [hy] at h
          rw [show k + d + 2 = k + 2 + d by omega, cls_stands _ (k + 2) y.1 y.2 (Nat.le_refl _) (hS.mono (by omega)) hy]
          simp only at h ⊢
          split at h
          · cases h
          · rename_i hne
            cases h
            rw [if_neg hne]
            simp only [Option.some.injEq, Prod.mk.injEq, true_and]
            omega
      · rw [if_neg (fun hh => h94 hh.2)] at h
        rw [if_neg (fun hh => h94 (by rw [← h1.2]; exact hh.2))]
        rw [show decide (k + 1 < p.size ∧ byteAt p (k + 1) = 94) = false from decide_eq_false (fun hh => h94 hh.2)] at h
        rw [show decide (k + d + 1 < p'.size ∧ byteAt p' (k + d + 1) = 94) = false from decide_eq_false (fun hh => h94 (by rw [← h1.2]; exact hh.2))]
        cases hy : cls p (k + 1) with
        | none => rw [hy] at h; cases h
        | some y =>
          rw [hy] at h
          rw [show k + d + 1 = k + 1 + d by omega, cls_stands _ (k + 1) y.1 y.2 (Nat.le_refl _) (hS.mono (by omega)) hy]
          simp only at h ⊢
          split at h
          · cases h
          · rename_i hne
            cases h
            rw [if_neg hne]
            simp only [Option.some.injEq, Prod.mk.injEq, true_and]
            omega
    · rw [partAt_one hk h92 h91] at h
      cases h
      rw [partAt_one h0.1 (by rw [h0.2]; exact h92) (by rw [h0.2]; exact h91), h0.2]
      simp only [Option.some.injEq, Prod.mk.injEq, true_and]
      omega

/-- a pattern that stands in another one: its parts, then what stands behind. -/
theorem parts_stands {p p' : ByteArray} {d : Nat} : ∀ (n k : Nat) (l : List (Nat × Part)), p.size - k ≤ n → k ≤ p.size → Stands p p' k d → partsFrom p k = some l →
    (partsFrom p' (k + d)).map (·.map (·.2)) = (partsFrom p' (p.size + d)).map (fun r => l.map (·.2) ++ r.map (·.2)) := by
  intro n
  induction n with
  | zero =>
    intro k l hn hk hS h
    have e : k = p.size := by omega
    subst e
    rw [partsFrom_step, if_neg (by omega)] at h
    cases h
    simp
  | succ n ih =>
    intro k l hn hk hS h
    rw [partsFrom_step] at h
    by_cases hlt : k < p.size
    · rw [if_pos hlt] at h
      cases hp : partAt p k with
      | none => rw [hp] at h; cases h
      | some x =>
        rw [hp] at h
        obtain ⟨r, hr, rfl⟩ := Option.map_eq_some_iff.1 h
        have hx := partAt_lt hp
        have := ih x.2 r (by omega) hx.2 (hS.mono (by omega)) hr
        rw [partsFrom_step p' (k + d), if_pos (hS k (Nat.le_refl _) hlt).1, partAt_stands hS hp]
        simp only [Option.map_map]
        cases hq : partsFrom p' (x.2 + d) with
        | none =>
          rw [hq] at this
          simp only [Option.map_none] at this ⊢
          cases hq2 : partsFrom p' (p.size + d) with
          | none => rfl
          | some y => rw [hq2] at this; cases this
        | some r2 =>
          rw [hq] at this
          cases hq2 : partsFrom p' (p.size + d) with
          | none => rw [hq2] at this; cases this
          | some y =>
            rw [hq2] at this
            simp only [Option.map_some, Option.some.injEq] at this ⊢
            simp [this]
    · rw [if_neg hlt] at h
      cases h
      have e : k = p.size := by omega
      subst e
      simp

theorem byteAt_append_left (a b : ByteArray) (i : Nat) (h : i < a.size) : byteAt (a ++ b) i = byteAt a i := by
  unfold byteAt
  have h' : i < a.data.toList.length := by simpa using h
  simp only [ByteArray.data_append, Array.toList_append, List.getD_eq_getElem?_getD, List.getElem?_append_left h']

theorem byteAt_append_right (a b : ByteArray) (i : Nat) : byteAt (a ++ b) (a.size + i) = byteAt b i := by
  unfold byteAt
  have h' : a.data.toList.length ≤ a.size + i := by simp
  simp only [ByteArray.data_append, Array.toList_append, List.getD_eq_getElem?_getD, List.getElem?_append_right h']
  congr 3
  simp

theorem stands_ahead (p q : ByteArray) : Stands p (p ++ q) 0 0 := fun i _ hi => ⟨by simp; omega, byteAt_append_left p q i hi⟩
theorem stands_behind (q p : ByteArray) : Stands p (q ++ p) 0 q.size := fun i _ hi => ⟨by simp; omega, by rw [Nat.add_comm]; exact byteAt_append_right q p i⟩

/-- the parts alone -/
def partsOf (p : ByteArray) : Option (List Part) := (partsFrom p 0).map (·.map (·.2))

theorem parts_ahead {p q : ByteArray} {l : List Part} (h : partsOf p = some l) : partsOf (p ++ q) = (partsFrom (p ++ q) p.size).map (fun r => l ++ r.map (·.2)) := by
  unfold partsOf at *
  obtain ⟨r, hr, rfl⟩ := Option.map_eq_some_iff.1 h
  exact parts_stands p.size 0 r (by omega) (Nat.zero_le _) (stands_ahead p q) hr

theorem parts_behind {p q : ByteArray} {l : List Part} (h : partsOf p = some l) : (partsFrom (q ++ p) q.size).map (·.map (·.2)) = some l := by
  unfold partsOf at h
  obtain ⟨r, hr, rfl⟩ := Option.map_eq_some_iff.1 h
  have := parts_stands p.size 0 r (by omega) (Nat.zero_le _) (stands_behind q p) hr
  rw [Nat.zero_add] at this
  rw [this, partsFrom_step, if_neg (by simp; omega)]
  simp

theorem matchAns_of {p s : ByteArray} {l : List Part} (h : partsOf p = some l) (h60 : p.size ≤ 60) (hs : s.size ≤ 60) : matchCode p s = 0 ∧ (matchAns p s = true ↔ MM l (nums s)) := by
  unfold partsOf at h
  obtain ⟨r, hr, rfl⟩ := Option.map_eq_some_iff.1 h
  have hc : checkGlob p = 0 := by unfold checkGlob okAt; rw [if_neg (by omega), hr]; rfl
  have hm : matchCode p s = 0 := by unfold matchCode; rw [if_neg (by omega), hc]
  refine ⟨hm, ?_⟩
  unfold matchAns
  rw [hm, hr]
  simpa using matchRow_iff (r.map (·.2)) s

theorem nums_append (a b : ByteArray) : nums (a ++ b) = nums a ++ nums b := by simp [nums]

def starB : ByteArray := ⟨#[42]⟩
def starsB : ByteArray := ⟨#[42, 42]⟩
theorem starB_size : starB.size = 1 := rfl
theorem starsB_size : starsB.size = 2 := rfl

theorem parts_star_at (q : ByteArray) (k : Nat) (h : k < q.size) (h42 : byteAt q k = 42) : partsFrom q k = (partsFrom q (k + 1)).map ((k, .star) :: ·) := by
  rw [partsFrom_step, if_pos h]
  have : partAt q k = some (.star, k + 1) := by unfold partAt; rw [if_pos h, if_pos h42]
  rw [this]

theorem partsOf_star {p : ByteArray} {l : List Part} (h : partsOf p = some l) : partsOf (p ++ starB) = some (l ++ [.star]) := by
  rw [parts_ahead h, parts_star_at _ _ (by simp [starB_size]) (by have := byteAt_append_right p starB 0; rw [Nat.add_zero] at this; rw [this]; rfl), partsFrom_step, if_neg (by simp [starB_size])]
  rfl
theorem partsOf_stars {p : ByteArray} {l : List Part} (h : partsOf p = some l) : partsOf (p ++ starsB) = some (l ++ [.star, .star]) := by
  rw [parts_ahead h, parts_star_at _ _ (by simp [starsB_size]) (by have := byteAt_append_right p starsB 0; rw [Nat.add_zero] at this; rw [this]; rfl),
    parts_star_at _ _ (by simp [starsB_size]) (by rw [byteAt_append_right p starsB 1]; rfl), partsFrom_step, if_neg (by simp [starsB_size])]
  rfl
theorem partsOf_ahead_star {p : ByteArray} {l : List Part} (h : partsOf p = some l) : partsOf (starB ++ p) = some (.star :: l) := by
  have hb := parts_behind (q := starB) h
  unfold partsOf
  rw [parts_star_at _ 0 (by simp [starB_size]; omega) (by rw [byteAt_append_left _ _ _ (by decide)]; rfl)]
  have e : (starB.size : Nat) = 1 := rfl
  rw [e] at hb
  obtain ⟨r, hr, rfl⟩ := Option.map_eq_some_iff.1 hb
  rw [Nat.zero_add, hr]
  rfl

/-- GlobStar's plain law. -/
theorem glob_star {p s t : ByteArray} (hc : matchCode p s = 0) (h58 : p.size ≤ 58) (hst : s.size + t.size ≤ 60) :
    matchCode (p ++ starB) (s ++ t) = 0 ∧ matchCode (starB ++ p) (t ++ s) = 0 ∧ matchCode (p ++ starsB) (s ++ t) = 0 ∧
    (matchAns p s = true → matchAns (p ++ starB) (s ++ t) = true ∧ matchAns (starB ++ p) (t ++ s) = true) ∧ matchAns (p ++ starB) (s ++ t) = matchAns (p ++ starsB) (s ++ t) := by
  have hp : ∃ l, partsOf p = some l := by
    unfold matchCode at hc
    have hc' : checkGlob p = 0 := by
      split at hc
      · cases hc
      · exact hc
    unfold checkGlob okAt at hc'
    rw [if_neg (by omega)] at hc'
    unfold partsOf
    cases h : partsFrom p 0 with
    | none => rw [h] at hc'; cases hc'
    | some l => exact ⟨_, rfl⟩
  obtain ⟨l, hl⟩ := hp
  have h0 := matchAns_of (s := s) hl (by omega) (by omega)
  have h1 := matchAns_of (s := s ++ t) (partsOf_star hl) (by simp [starB_size]; omega) (by simp; omega)
  have h2 := matchAns_of (s := t ++ s) (partsOf_ahead_star hl) (by simp [starB_size]; omega) (by simp; omega)
  have h3 := matchAns_of (s := s ++ t) (partsOf_stars hl) (by simp [starsB_size]; omega) (by simp; omega)
  refine ⟨h1.1, h2.1, h3.1, fun h => ⟨h1.2.2 ?_, h2.2.2 ?_⟩, ?_⟩
  · rw [MM_snoc_star]
    exact ⟨nums s, nums t, nums_append s t, h0.2.1 h⟩
  · exact ⟨nums t, nums s, nums_append t s, h0.2.1 h⟩
  · rw [Bool.eq_iff_iff, h1.2, h3.2, show l ++ [Part.star, Part.star] = (l ++ [.star]) ++ [.star] by simp, MM_snoc_star (l ++ [Part.star]) (nums (s ++ t))]
    constructor
    · intro h; exact ⟨_, [], by simp, h⟩
    · rintro ⟨a, b, hab, h⟩
      obtain ⟨c, d, hcd, h'⟩ := (MM_snoc_star _ _).1 h
      exact (MM_snoc_star _ _).2 ⟨c, d ++ b, by rw [hab, hcd]; simp, h'⟩

/-- a text's bytes, each by itself. -/
def litsOf (p : ByteArray) : List Part := (nums p).map .lit

theorem MM_lits : ∀ (l t : List Nat), MM (l.map .lit) t ↔ t = l
  | [], t => by simp [MM]
  | x :: l, t => by
    simp only [List.map_cons, MM]
    constructor
    · rintro ⟨c, b, rfl, rfl, h⟩
      rw [(MM_lits l b).1 h]
    · rintro rfl
      exact ⟨x, l, rfl, rfl, (MM_lits l l).2 rfl⟩

theorem nums_inj {p s : ByteArray} (h : nums s = nums p) : s = p := by
  unfold nums at h
  have : s.data.toList = p.data.toList := (List.map_inj_right (fun a b hab => UInt8.toNat_inj.1 hab)).1 h
  cases s; cases p
  simp only at this
  congr 1
  exact Array.toList_inj.1 this

theorem match_lits {p q s : ByteArray} (h : partsOf q = some (litsOf p)) (h60 : q.size ≤ 60) (hs : s.size ≤ 60) : matchCode q s = 0 ∧ (matchAns q s = true ↔ p = s) := by
  have h0 := matchAns_of (s := s) h h60 hs
  refine ⟨h0.1, ?_⟩
  rw [h0.2]
  unfold litsOf
  rw [MM_lits]
  exact ⟨fun h => (nums_inj h).symm, fun h => by rw [h]⟩

def plainB (c : Nat) : Bool := c != 42 && c != 63 && c != 91 && c != 92

theorem parts_plain (p : ByteArray) : ∀ (n k : Nat), p.size - k ≤ n → k ≤ p.size → (∀ i, k ≤ i → i < p.size → plainB (byteAt p i) = true) → (partsFrom p k).map (·.map (·.2)) = some (((nums p).drop k).map .lit) := by
  intro n
  induction n with
  | zero =>
    intro k hn hk _
    rw [partsFrom_step, if_neg (by omega), List.drop_of_length_le (by rw [nums_length]; omega)]
    rfl
  | succ n ih =>
    intro k hn hk hpl
    rw [partsFrom_step]
    by_cases hlt : k < p.size
    · have h0 := hpl k (Nat.le_refl _) hlt
      unfold plainB at h0
      simp only [Bool.and_eq_true, bne_iff_ne] at h0
      rw [if_pos hlt, partAt_one hlt h0.2 h0.1.2, if_neg h0.1.1.1, if_neg h0.1.1.2]
      have := ih (k + 1) (by omega) (by omega) (fun i hi hl => hpl i (by omega) hl)
      have hdrop : (nums p).drop k = byteAt p k :: (nums p).drop (k + 1) := by
        have hl : k < (nums p).length := by rw [nums_length]; omega
        have hg := nums_get hlt
        rw [List.getElem?_eq_getElem hl] at hg
        injection hg with hg
        rw [List.drop_eq_getElem_cons hl, hg]
      rw [hdrop]
      obtain ⟨r, hr, he⟩ := Option.map_eq_some_iff.1 this
      simp only [hr, Option.map_some, List.map_cons, he]
    · rw [if_neg hlt, List.drop_of_length_le (by rw [nums_length]; omega)]
      rfl

/-- a backslash ahead of each byte. -/
def eachL : List UInt8 → List UInt8
  | [] => []
  | c :: r => 92 :: c :: eachL r

theorem eachL_snoc (l : List UInt8) (c : UInt8) : eachL (l ++ [c]) = eachL l ++ [92, c] := by
  induction l with
  | nil => rfl
  | cons a l ih => simp [eachL, ih]
theorem eachL_length (l : List UInt8) : (eachL l).length = 2 * l.length := by
  induction l with
  | nil => rfl
  | cons a l ih => simp [eachL, ih]; omega
theorem eachL_get (l : List UInt8) : ∀ (j : Nat), j < l.length → (eachL l)[2 * j]? = some 92 ∧ (eachL l)[2 * j + 1]? = l[j]? := by
  induction l with
  | nil => intro j hj; cases hj
  | cons a l ih =>
    intro j hj
    cases j with
    | zero => exact ⟨rfl, rfl⟩
    | succ j =>
      have := ih j (by simpa using hj)
      rw [show 2 * (j + 1) = 2 * j + 1 + 1 by omega]
      exact ⟨by simpa [eachL] using this.1, by simpa [eachL] using this.2⟩

theorem parts_each (p q : ByteArray) (hq : q.data.toList = eachL p.data.toList) : ∀ (n k : Nat), p.size - k ≤ n → k ≤ p.size → (partsFrom q (2 * k)).map (·.map (·.2)) = some (((nums p).drop k).map .lit) := by
  have hsz : q.size = 2 * p.size := by
    have : q.size = q.data.toList.length := by simp
    rw [this, hq, eachL_length]; simp
  intro n
  induction n with
  | zero =>
    intro k hn hk
    rw [partsFrom_step, if_neg (by omega), List.drop_of_length_le (by rw [nums_length]; omega)]
    rfl
  | succ n ih =>
    intro k hn hk
    rw [partsFrom_step]
    by_cases hlt : k < p.size
    · have hg := eachL_get p.data.toList k (by simpa using hlt)
      have e1 : byteAt q (2 * k) = 92 := by unfold byteAt; rw [hq, List.getD_eq_getElem?_getD, hg.1]; rfl
      have e2 : byteAt q (2 * k + 1) = byteAt p k := by unfold byteAt; rw [hq, List.getD_eq_getElem?_getD, hg.2, List.getD_eq_getElem?_getD]
      rw [if_pos (by omega), partAt_bs (by omega) e1, if_pos (by omega), e2]
      have := ih (k + 1) (by omega) (by omega)
      have hdrop : (nums p).drop k = byteAt p k :: (nums p).drop (k + 1) := by
        have hl : k < (nums p).length := by rw [nums_length]; omega
        have hg := nums_get hlt
        rw [List.getElem?_eq_getElem hl] at hg
        injection hg with hg
        rw [List.drop_eq_getElem_cons hl, hg]
      rw [hdrop]
      rw [show 2 * (k + 1) = 2 * k + 2 by omega] at this
      obtain ⟨r, hr, he⟩ := Option.map_eq_some_iff.1 this
      simp only [hr, Option.map_some, List.map_cons, he]
    · rw [if_neg (by omega), List.drop_of_length_le (by rw [nums_length]; omega)]
      rfl

/-- GlobPlain's plain laws. -/
theorem glob_each {p q s : ByteArray} (hq : q.data.toList = eachL p.data.toList) (hp : p.size ≤ 30) (hs : s.size ≤ 60) : matchCode q s = 0 ∧ (matchAns q s = true ↔ p = s) := by
  have hsz : q.size = 2 * p.size := by
    have : q.size = q.data.toList.length := by simp
    rw [this, hq, eachL_length]; simp
  exact match_lits (by have := parts_each p q hq p.size 0 (by omega) (by omega); simpa [partsOf, litsOf] using this) (by omega) hs

theorem glob_plain {p s : ByteArray} (hpl : ∀ i, i < p.size → plainB (byteAt p i) = true) (hp : p.size ≤ 30) (hs : s.size ≤ 60) : matchCode p s = 0 ∧ (matchAns p s = true ↔ p = s) :=
  match_lits (by have := parts_plain p p.size 0 (by omega) (by omega) (fun i _ h => hpl i h); simpa [partsOf, litsOf] using this) (by omega) hs
end Go.Proofs.Ytfkfdmonnebmmaa
