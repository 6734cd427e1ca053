/- The plain laws of patterns: no program in sight. -/
import Derived.Test.YtmlmiboihjibiaaBase
set_option linter.unusedVariables false
set_option linter.unusedSimpArgs false
namespace Go.Proofs.Ytmlmiboihjibiaa

/-- the bytes of a text, as numbers, up to a place, and from one on. -/
def nums (s : ByteArray) : List Nat := s.data.toList.map (·.toNat)
theorem nums_length (s : ByteArray) : (nums s).length = s.size := by simp [nums]
theorem nums_get {s : ByteArray} {i : Nat} (h : i < s.size) : (nums s)[i]? = some (byteAt s i) := by
  have h' : i < s.data.toList.length := by simpa using h
  simp [nums, byteAt, List.getElem?_map, List.getElem?_eq_getElem h', List.getD_eq_getElem?_getD]

/-- a text is one of a pattern's. -/
def MM : List Part → List Nat → Prop
  | [], s => s = []
  | .star :: ps, s => ∃ a b, s = a ++ b ∧ MM ps b
  | .any :: ps, s => ∃ c b, s = c :: b ∧ MM ps b
  | .lit x :: ps, s => ∃ c b, s = c :: b ∧ c = x ∧ MM ps b
  | .cls neg rs :: ps, s => ∃ c b, s = c :: b ∧ (inRanges rs c != neg) = true ∧ MM ps b

def Part.isStar : Part → Bool
  | .star => true
  | _ => false

theorem MM_one {P : Part} (h : P.isStar = false) (ps : List Part) (s : List Nat) : MM (P :: ps) s ↔ ∃ c b, s = c :: b ∧ P.may c = true ∧ MM ps b := by
  cases P with
  | star => cases h
  | any => simp [MM, Part.may]
  | lit x => simp [MM, Part.may]
  | cls neg rs => simp [MM, Part.may]

theorem MM_append (ps qs : List Part) : ∀ s, MM (ps ++ qs) s ↔ ∃ a b, s = a ++ b ∧ MM ps a ∧ MM qs b := by
  induction ps with
  | nil =>
    intro s
    simp only [List.nil_append, MM]
    exact ⟨fun h => ⟨[], s, rfl, rfl, h⟩, fun ⟨a, b, e, h1, h2⟩ => by subst h1; simpa [e] using h2⟩
  | cons P ps ih =>
    intro s
    by_cases hP : P.isStar = true
    · have : P = .star := by cases P <;> first | rfl | cases hP
      subst this
      simp only [List.cons_append, MM]
      constructor
      · rintro ⟨a, b, rfl, h⟩
        obtain ⟨c, d, rfl, h1, h2⟩ := (ih b).1 h
        exact ⟨a ++ c, d, by simp, ⟨a, c, rfl, h1⟩, h2⟩
      · rintro ⟨a, b, rfl, ⟨c, d, rfl, h1⟩, h2⟩
        exact ⟨c, d ++ b, by simp, (ih _).2 ⟨d, b, rfl, h1, h2⟩⟩
    · have hP' : P.isStar = false := by simpa using hP
      rw [List.cons_append, MM_one hP']
      constructor
      · rintro ⟨c, b, rfl, hc, h⟩
        obtain ⟨d, e, rfl, h1, h2⟩ := (ih b).1 h
        exact ⟨c :: d, e, by simp, (MM_one hP' _ _).2 ⟨c, d, rfl, hc, h1⟩, h2⟩
      · rintro ⟨a, b, rfl, h1, h2⟩
        obtain ⟨c, d, rfl, hc, h1⟩ := (MM_one hP' _ _).1 h1
        exact ⟨c, d ++ b, by simp, hc, (ih _).2 ⟨d, b, rfl, h1, h2⟩⟩

theorem MM_star (s : List Nat) : MM [.star] s := by
  simp only [MM]
  exact ⟨s, [], by simp, rfl⟩

theorem MM_snoc_star (ps : List Part) (s : List Nat) : MM (ps ++ [.star]) s ↔ ∃ a b, s = a ++ b ∧ MM ps a := by
  rw [MM_append]
  exact ⟨fun ⟨a, b, e, h, _⟩ => ⟨a, b, e, h⟩, fun ⟨a, b, e, h⟩ => ⟨a, b, e, h, MM_star b⟩⟩

theorem MM_snoc_one {P : Part} (hP : P.isStar = false) (ps : List Part) (s : List Nat) : MM (ps ++ [P]) s ↔ ∃ a c, s = a ++ [c] ∧ P.may c = true ∧ MM ps a := by
  rw [MM_append]
  constructor
  · rintro ⟨a, b, rfl, h1, h2⟩
    obtain ⟨c, d, rfl, hc, hd⟩ := (MM_one hP _ _).1 h2
    have : d = [] := hd
    subst this
    exact ⟨a, c, rfl, hc, h1⟩
  · rintro ⟨a, c, rfl, hc, h⟩
    exact ⟨a, [c], rfl, h, (MM_one hP _ _).2 ⟨c, [], rfl, hc, rfl⟩⟩

/-- the program's row: beginnings. -/
theorem nextRow_spec (P : Part) (f : Nat → Bool) (ps : List Part) (s : ByteArray) (hf : ∀ i, i ≤ s.size → (f i = true ↔ MM ps ((nums s).take i))) :
    ∀ i, i ≤ s.size → (nextRow P f s i = true ↔ MM (ps ++ [P]) ((nums s).take i)) := by
  intro i
  induction i with
  | zero =>
    intro hi
    by_cases hP : P.isStar = true
    · have : P = .star := by cases P <;> first | rfl | cases hP
      subst this
      have e : nextRow .star f s 0 = f 0 := rfl
      rw [e, hf 0 hi, MM_snoc_star]
      simp only [List.take_zero]
      exact ⟨fun h => ⟨[], [], rfl, h⟩, fun ⟨a, b, e, h⟩ => by
        have := List.append_eq_nil_iff.1 e.symm
        rw [this.1] at h; exact h⟩
    · have hP' : P.isStar = false := by simpa using hP
      have e : nextRow P f s 0 = false := by cases P <;> first | rfl | cases hP'
      rw [e, MM_snoc_one hP']
      simp
  | succ i ih =>
    intro hi
    have hget := nums_get (s := s) (i := i) (by omega)
    have htake : (nums s).take (i + 1) = (nums s).take i ++ [byteAt s i] := by rw [List.take_add_one, hget]; rfl
    by_cases hP : P.isStar = true
    · have : P = .star := by cases P <;> first | rfl | cases hP
      subst this
      have e : nextRow .star f s (i + 1) = (f (i + 1) || nextRow .star f s i) := rfl
      rw [e, Bool.or_eq_true, hf (i + 1) hi, ih (by omega), MM_snoc_star, MM_snoc_star]
      constructor
      · rintro (h | ⟨a, b, hab, h⟩)
        · exact ⟨_, [], by simp, h⟩
        · exact ⟨a, b ++ [byteAt s i], by rw [htake, hab]; simp, h⟩
      · rintro ⟨a, b, hab, h⟩
        rcases List.eq_nil_or_concat b with rfl | ⟨b', c, rfl⟩
        · left; simpa [hab] using h
        · right
          rw [htake, List.concat_eq_append, ← List.append_assoc] at hab
          exact ⟨a, b', (List.append_inj' hab rfl).1, h⟩
    · have hP' : P.isStar = false := by simpa using hP
      have e : nextRow P f s (i + 1) = (f i && P.may (byteAt s i)) := by cases P <;> first | rfl | cases hP'
      rw [e, Bool.and_eq_true, hf i (by omega), MM_snoc_one hP', htake]
      constructor
      · rintro ⟨h1, h2⟩
        exact ⟨_, _, rfl, h2, h1⟩
      · rintro ⟨a, c, hac, h2, h1⟩
        obtain ⟨e1, e2⟩ := List.append_inj' hac rfl
        injection e2 with e2
        subst e1; subst e2
        exact ⟨h1, h2⟩

theorem matchRow_spec (s : ByteArray) (qs : List Part) : ∀ (ps : List Part) (f : Nat → Bool), (∀ i, i ≤ s.size → (f i = true ↔ MM ps ((nums s).take i))) →
    ∀ i, i ≤ s.size → (qs.foldl (fun f P => nextRow P f s) f i = true ↔ MM (ps ++ qs) ((nums s).take i)) := by
  induction qs with
  | nil => intro ps f hf i hi; simpa using hf i hi
  | cons P qs ih =>
    intro ps f hf i hi
    rw [List.foldl_cons, ih (ps ++ [P]) _ (nextRow_spec P f ps s hf) i hi]
    simp

theorem matchRow_iff (ps : List Part) (s : ByteArray) : matchRow ps s s.size = true ↔ MM ps (nums s) := by
  unfold matchRow
  rw [matchRow_spec s ps [] _ (fun i hi => ?_) s.size (Nat.le_refl _)]
  · rw [List.nil_append, List.take_of_length_le (by rw [nums_length]; exact Nat.le_refl _)]
  · simp only [MM, decide_eq_true_eq, List.take_eq_nil_iff]
    constructor
    · intro h; exact .inl h
    · rintro (h | h)
      · exact h
      · have := nums_length s; rw [h] at this; simp at this; omega

/-- the reference's row: ends; d places ahead of the end. -/
def prevD (P : Part) (f : Nat → Bool) (s : ByteArray) : Nat → Bool
  | 0 => match P with
    | .star => f s.size
    | _ => false
  | d + 1 => match P with
    | .star => f (s.size - (d + 1)) || prevD P f s d
    | _ => P.may (byteAt s (s.size - (d + 1))) && f (s.size - (d + 1) + 1)

def prevRow (P : Part) (f : Nat → Bool) (s : ByteArray) (i : Nat) : Bool := prevD P f s (s.size - i)

def backRow : List Part → ByteArray → Nat → Bool
  | [], s, i => decide (i = s.size)
  | P :: ps, s, i => prevRow P (backRow ps s) s i

theorem prevRow_spec (P : Part) (f : Nat → Bool) (ps : List Part) (s : ByteArray) (hf : ∀ i, i ≤ s.size → (f i = true ↔ MM ps ((nums s).drop i))) :
    ∀ d, d ≤ s.size → (prevD P f s d = true ↔ MM (P :: ps) ((nums s).drop (s.size - d))) := by
  have hend : (nums s).drop s.size = [] := List.drop_of_length_le (by rw [nums_length]; exact Nat.le_refl _)
  intro d
  induction d with
  | zero =>
    intro _
    rw [Nat.sub_zero, hend]
    by_cases hP : P.isStar = true
    · have : P = .star := by cases P <;> first | rfl | cases hP
      subst this
      have e : prevD .star f s 0 = f s.size := rfl
      rw [e, hf s.size (Nat.le_refl _), hend]
      simp only [MM]
      exact ⟨fun h => ⟨[], [], rfl, h⟩, fun ⟨a, b, e, h⟩ => by
        have := List.append_eq_nil_iff.1 e.symm
        rw [this.2] at h; exact h⟩
    · have hP' : P.isStar = false := by simpa using hP
      have e : prevD P f s 0 = false := by cases P <;> first | rfl | cases hP'
      rw [e, MM_one hP']
      simp
  | succ d ih =>
    intro hd
    have hget := nums_get (s := s) (i := s.size - (d + 1)) (by omega)
    have hdrop : (nums s).drop (s.size - (d + 1)) = byteAt s (s.size - (d + 1)) :: (nums s).drop (s.size - d) := by
      have hl : s.size - (d + 1) < (nums s).length := by rw [nums_length]; omega
      rw [List.drop_eq_getElem_cons hl, show s.size - (d + 1) + 1 = s.size - d by omega]
      rw [List.getElem?_eq_getElem hl] at hget
      injection hget with hget
      rw [hget]
    by_cases hP : P.isStar = true
    · have : P = .star := by cases P <;> first | rfl | cases hP
      subst this
      have e : prevD .star f s (d + 1) = (f (s.size - (d + 1)) || prevD .star f s d) := rfl
      rw [e, Bool.or_eq_true, hf _ (by omega), ih (by omega), hdrop]
      simp only [MM]
      constructor
      · rintro (h | ⟨a, b, hab, h⟩)
        · exact ⟨[], _, rfl, h⟩
        · exact ⟨byteAt s (s.size - (d + 1)) :: a, b, by rw [hab]; rfl, h⟩
      · rintro ⟨a, b, hab, h⟩
        cases a with
        | nil => left; rw [List.nil_append] at hab; rw [hab]; exact h
        | cons c a =>
          right
          injection hab with _ hab
          exact ⟨a, b, hab, h⟩
    · have hP' : P.isStar = false := by simpa using hP
      have e : prevD P f s (d + 1) = (P.may (byteAt s (s.size - (d + 1))) && f (s.size - (d + 1) + 1)) := by cases P <;> first | rfl | cases hP'
      rw [e, Bool.and_eq_true, hf _ (by omega), MM_one hP', hdrop, show s.size - (d + 1) + 1 = s.size - d by omega]
      constructor
      · rintro ⟨h1, h2⟩
        exact ⟨_, _, rfl, h1, h2⟩
      · rintro ⟨c, b, hcb, h1, h2⟩
        injection hcb with e1 e2
        subst e1; subst e2
        exact ⟨h1, h2⟩

theorem backRow_spec (s : ByteArray) : ∀ (ps : List Part) (i : Nat), i ≤ s.size → (backRow ps s i = true ↔ MM ps ((nums s).drop i))
  | [], i, hi => by
    simp only [backRow, MM, decide_eq_true_eq, List.drop_eq_nil_iff, nums_length]
    omega
  | P :: ps, i, hi => by
    have := prevRow_spec P (backRow ps s) ps s (backRow_spec s ps) (s.size - i) (by omega)
    rw [show s.size - (s.size - i) = i by omega] at this
    exact this

theorem prevRow_star (f : Nat → Bool) (s : ByteArray) (j : Nat) (h : j < s.size) : prevRow .star f s j = (f j || prevRow .star f s (j + 1)) := by
  unfold prevRow
  obtain ⟨d, hd⟩ : ∃ d, s.size - j = d + 1 := ⟨s.size - j - 1, by omega⟩
  rw [hd, show s.size - (j + 1) = d by omega]
  show (f (s.size - (d + 1)) || _) = _
  rw [show s.size - (d + 1) = j by omega]
theorem prevRow_star_end (f : Nat → Bool) (s : ByteArray) : prevRow .star f s s.size = f s.size := by
  unfold prevRow
  rw [Nat.sub_self]; rfl
theorem prevRow_one {P : Part} (hP : P.isStar = false) (f : Nat → Bool) (s : ByteArray) (j : Nat) (h : j < s.size) : prevRow P f s j = (P.may (byteAt s j) && f (j + 1)) := by
  unfold prevRow
  obtain ⟨d, hd⟩ : ∃ d, s.size - j = d + 1 := ⟨s.size - j - 1, by omega⟩
  rw [hd]
  have e : prevD P f s (d + 1) = (P.may (byteAt s (s.size - (d + 1))) && f (s.size - (d + 1) + 1)) := by cases P <;> first | rfl | cases hP
  rw [e, show s.size - (d + 1) = j by omega]
theorem prevRow_one_end {P : Part} (hP : P.isStar = false) (f : Nat → Bool) (s : ByteArray) : prevRow P f s s.size = false := by
  unfold prevRow
  rw [Nat.sub_self]
  cases P <;> first | rfl | cases hP

theorem partsF_get (p : ByteArray) : ∀ (n k : Nat) (l : List (Nat × Part)), partsF p n k = some l → ∀ (j b : Nat) (P : Part), l[j]? = some (b, P) → ∃ e, partAt p b = some (P, e)
  | 0, k, l, h, j, b, P, hj => by
    simp only [partsF] at h
    split at h
    · cases h
    · cases h; simp at hj
  | n + 1, k, l, h, j, b, P, hj => by
    simp only [partsF] at h
    split at h
    · cases hp : partAt p k with
      | none => rw [hp] at h; cases h
      | some x =>
        rw [hp] at h
        obtain ⟨r, hr, rfl⟩ := Option.map_eq_some_iff.1 h
        cases j with
        | zero =>
          simp at hj
          obtain ⟨rfl, rfl⟩ := hj
          exact ⟨x.2, hp⟩
        | succ j =>
          simp at hj
          exact partsF_get p n x.2 r hr j b P hj
    · cases h; simp at hj

theorem match_same (ps : List Part) (s : ByteArray) : matchRow ps s s.size = backRow ps s 0 := by
  rw [Bool.eq_iff_iff, matchRow_iff, backRow_spec s ps 0 (Nat.zero_le _)]
  simp
end Go.Proofs.Ytmlmiboihjibiaa
