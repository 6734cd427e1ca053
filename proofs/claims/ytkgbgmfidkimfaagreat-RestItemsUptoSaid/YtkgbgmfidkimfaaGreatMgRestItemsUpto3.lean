/- Hashes, plain: the order of texts; pairs that rise by field, where a field is among them, what a put makes. No walk. Lists, plain: what their calls answer. No walk. -/
import Derived.Test.YtkgbgmfidkimfaaGreatItB
import Derived.Test.YtkgbgmfidkimfaaGreatMgRestItemsUpto1
import Derived.Test.YtkgbgmfidkimfaaGreatItf
set_option linter.unusedVariables false
set_option linter.unusedSimpArgs false
namespace Go.Proofs.YtkgbgmfidkimfaaGreat

theorem cb_refl : ∀ a : List UInt8, Lib.compareBytes a a = 0
  | [] => rfl
  | x :: r => by
    show (if x < x then -1 else if x < x then 1 else Lib.compareBytes r r) = 0
    rw [if_neg (UInt8.lt_irrefl x), if_neg (UInt8.lt_irrefl x), cb_refl r]
theorem cb_eq : ∀ a b : List UInt8, Lib.compareBytes a b = 0 → a = b
  | [], [], _ => rfl
  | [], y :: s, h => by cases h
  | x :: r, [], h => by cases h
  | x :: r, y :: s, h => by
    have h' : (if x < y then -1 else if y < x then 1 else Lib.compareBytes r s) = (0 : Int) := h
    by_cases h1 : x < y
    · rw [if_pos h1] at h'; cases h'
    · rw [if_neg h1] at h'
      by_cases h2 : y < x
      · rw [if_pos h2] at h'; cases h'
      · rw [if_neg h2] at h'
        have e : x = y := by
          apply UInt8.toNat_inj.1
          rw [UInt8.lt_iff_toNat_lt] at h1 h2
          omega
        rw [e, cb_eq r s h']
theorem cb_anti : ∀ a b : List UInt8, Lib.compareBytes b a = - Lib.compareBytes a b
  | [], [] => rfl
  | [], y :: s => rfl
  | x :: r, [] => rfl
  | x :: r, y :: s => by
    show (if y < x then -1 else if x < y then 1 else Lib.compareBytes s r) = - (if x < y then -1 else if y < x then 1 else Lib.compareBytes r s)
    by_cases h1 : x < y
    · have h2 : ¬ y < x := by have := UInt8.lt_iff_toNat_lt.1 h1; rw [UInt8.lt_iff_toNat_lt]; omega
      rw [if_neg h2, if_pos h1, if_pos h1]; rfl
    · rw [if_neg h1, if_neg h1]
      by_cases h2 : y < x
      · rw [if_pos h2, if_pos h2]
      · rw [if_neg h2, if_neg h2, cb_anti r s]
theorem cb_trans : ∀ a b c : List UInt8, Lib.compareBytes a b < 0 → Lib.compareBytes b c < 0 → Lib.compareBytes a c < 0
  | [], [], _, h, _ => by exact absurd h (by decide)
  | x :: r, [], _, h, _ => by exact absurd (show (1 : Int) < 0 from h) (by decide)
  | _, y :: s, [], _, h => by exact absurd (show (1 : Int) < 0 from h) (by decide)
  | [], y :: s, z :: t, _, _ => by show (-1 : Int) < 0; decide
  | x :: r, y :: s, z :: t, h1, h2 => by
    have h1' : (if x < y then -1 else if y < x then 1 else Lib.compareBytes r s) < (0 : Int) := h1
    have h2' : (if y < z then -1 else if z < y then 1 else Lib.compareBytes s t) < (0 : Int) := h2
    show (if x < z then -1 else if z < x then 1 else Lib.compareBytes r t) < (0 : Int)
    simp only [UInt8.lt_iff_toNat_lt] at *
    by_cases a1 : x.toNat < y.toNat
    · by_cases b1 : y.toNat < z.toNat
      · rw [if_pos (by omega)]; decide
      · by_cases b2 : z.toNat < y.toNat
        · rw [if_neg b1, if_pos b2] at h2'; exact absurd h2' (by decide)
        · rw [if_pos (by omega)]; decide
    · rw [if_neg a1] at h1'
      by_cases a2 : y.toNat < x.toNat
      · rw [if_pos a2] at h1'; exact absurd h1' (by decide)
      · rw [if_neg a2] at h1'
        by_cases b1 : y.toNat < z.toNat
        · rw [if_pos (by omega)]; decide
        · rw [if_neg b1] at h2'
          by_cases b2 : z.toNat < y.toNat
          · rw [if_pos b2] at h2'; exact absurd h2' (by decide)
          · rw [if_neg b2] at h2'
            rw [if_neg (by omega), if_neg (by omega)]
            exact cb_trans r s t h1' h2'

theorem ordB_refl (a : ByteArray) : ordB a a = 0 := cb_refl _
theorem ordB_eq {a b : ByteArray} (h : ordB a b = 0) : a = b := by
  have := cb_eq _ _ h
  obtain ⟨⟨a⟩⟩ := a
  obtain ⟨⟨b⟩⟩ := b
  simp at this
  subst this
  rfl
theorem ordB_anti (a b : ByteArray) : ordB b a = - ordB a b := cb_anti _ _
theorem ordB_trans {a b c : ByteArray} (h1 : ordB a b < 0) (h2 : ordB b c < 0) : ordB a c < 0 := cb_trans _ _ _ h1 h2

/-- what rises, rises from each place to each later one. -/
theorem rises_lt {α : Type} {lt : α → α → Bool} (htr : ∀ a b c, lt a b = true → lt b c = true → lt a c = true) : ∀ {l : List α}, rises lt l = true → ∀ {i j : Nat} {a b : α}, i < j → l[i]? = some a → l[j]? = some b → lt a b = true
  | [], _, i, j, a, b, _, h, _ => by simp at h
  | [x], _, i, j, a, b, hij, _, h => by
    have := (List.getElem?_eq_some_iff.1 h).1
    simp at this
    omega
  | x :: y :: r, h, i, j, a, b, hij, ha, hb => by
    have h' : (lt x y && rises lt (y :: r)) = true := h
    rw [Bool.and_eq_true] at h'
    obtain ⟨j', rfl⟩ : ∃ j', j = j' + 1 := ⟨j - 1, by omega⟩
    rw [List.getElem?_cons_succ] at hb
    match i with
    | 0 =>
      rw [List.getElem?_cons_zero] at ha
      cases ha
      match j' with
      | 0 => rw [List.getElem?_cons_zero] at hb; cases hb; exact h'.1
      | j'' + 1 => exact htr _ _ _ h'.1 (rises_lt htr h'.2 (i := 0) (j := j'' + 1) (by omega) rfl hb)
    | i' + 1 =>
      rw [List.getElem?_cons_succ] at ha
      exact rises_lt htr h'.2 (i := i') (j := j') (by omega) ha hb
theorem rises_pw {α : Type} {lt : α → α → Bool} (htr : ∀ a b c, lt a b = true → lt b c = true → lt a c = true) {l : List α} (h : rises lt l = true) : l.Pairwise (fun a b => lt a b = true) := by
  rw [List.pairwise_iff_getElem]
  intro i j hi hj hij
  exact rises_lt htr h hij (List.getElem?_eq_getElem hi) (List.getElem?_eq_getElem hj)
theorem rises_of {α : Type} {lt : α → α → Bool} : ∀ {l : List α}, (∀ (i : Nat) a b, l[i]? = some a → l[i + 1]? = some b → lt a b = true) → rises lt l = true
  | [], _ => rfl
  | [x], _ => rfl
  | x :: y :: r, h => by
    show (lt x y && rises lt (y :: r)) = true
    rw [Bool.and_eq_true]
    exact ⟨h 0 x y rfl rfl, rises_of fun i a b ha hb => h (i + 1) a b ha hb⟩
theorem pw_rises {α : Type} {lt : α → α → Bool} {l : List α} (h : l.Pairwise (fun a b => lt a b = true)) : rises lt l = true := by
  apply rises_of
  intro i a b ha hb
  obtain ⟨hi, rfl⟩ := List.getElem?_eq_some_iff.1 ha
  obtain ⟨hj, rfl⟩ := List.getElem?_eq_some_iff.1 hb
  exact List.pairwise_iff_getElem.1 h i (i + 1) hi hj (Nat.lt_succ_self i)

section
variable {α : Type} (key : α → ByteArray)
/-- how many stand ahead of a key. -/
def lowK (l : List α) (f : ByteArray) : Nat := (l.takeWhile fun q => decide (ordB (key q) f < 0)).length
def hitK (l : List α) (f : ByteArray) : Bool := match l[lowK key l f]? with | some q => decide (ordB (key q) f = 0) | none => false
/-- one more, at its place, or in the place of the one that has its key. -/
def putK (l : List α) (p : α) : List α := if hitK key l (key p) = true then l.set (lowK key l (key p)) p else l.take (lowK key l (key p)) ++ p :: l.drop (lowK key l (key p))
def ltK (a b : α) : Bool := decide (ordB (key a) (key b) < 0)

theorem lowK_le (l : List α) (f : ByteArray) : lowK key l f ≤ l.length := by
  unfold lowK
  exact (List.takeWhile_sublist _).length_le
theorem lowK_lt : ∀ {l : List α} {f : ByteArray} {k : Nat} {q : α}, k < lowK key l f → l[k]? = some q → ordB (key q) f < 0
  | [], f, k, q, h, hq => by simp at hq
  | x :: r, f, k, q, h, hq => by
    unfold lowK at h
    rw [List.takeWhile_cons] at h
    by_cases hx : ordB (key x) f < 0
    · rw [if_pos (by simpa using hx)] at h
      match k with
      | 0 => rw [List.getElem?_cons_zero] at hq; cases hq; exact hx
      | k' + 1 =>
        rw [List.getElem?_cons_succ] at hq
        exact lowK_lt (l := r) (k := k') (by unfold lowK; simp at h; omega) hq
    · rw [if_neg (by simpa using hx)] at h
      simp at h
theorem lowK_at : ∀ {l : List α} {f : ByteArray} {q : α}, l[lowK key l f]? = some q → ¬ ordB (key q) f < 0
  | [], f, q, hq => by simp at hq
  | x :: r, f, q, hq => by
    unfold lowK at hq
    rw [List.takeWhile_cons] at hq
    by_cases hx : ordB (key x) f < 0
    · rw [if_pos (by simpa using hx), List.length_cons, List.getElem?_cons_succ] at hq
      exact lowK_at (l := r) hq
    · rw [if_neg (by simpa using hx)] at hq
      simp at hq
      rw [← hq]
      exact hx
theorem ltK_trans (a b c : α) (h1 : ltK key a b = true) (h2 : ltK key b c = true) : ltK key a c = true :=
  decide_eq_true (ordB_trans (of_decide_eq_true h1) (of_decide_eq_true h2))
theorem lowK_ge {l : List α} {f : ByteArray} {k : Nat} {q : α} (hr : rises (ltK key) l = true) (hk : lowK key l f ≤ k) (hq : l[k]? = some q) : ¬ ordB (key q) f < 0 := by
  obtain ⟨hlt, _⟩ := List.getElem?_eq_some_iff.1 hq
  obtain ⟨q0, h0⟩ : ∃ q0, l[lowK key l f]? = some q0 := ⟨_, List.getElem?_eq_getElem (by omega)⟩
  have n0 := lowK_at key h0
  rcases Nat.lt_or_ge (lowK key l f) k with h | h
  · intro hlt
    have := of_decide_eq_true (rises_lt (ltK_trans key) hr h h0 hq)
    exact n0 (ordB_trans this hlt)
  · have e : k = lowK key l f := by omega
    rw [e, h0] at hq
    cases hq
    exact n0
theorem lowK_gt {l : List α} {f : ByteArray} {k : Nat} {q : α} (hr : rises (ltK key) l = true) (hk : lowK key l f < k) (hq : l[k]? = some q) : 0 < ordB (key q) f := by
  obtain ⟨hlt, _⟩ := List.getElem?_eq_some_iff.1 hq
  obtain ⟨q0, h0⟩ : ∃ q0, l[lowK key l f]? = some q0 := ⟨_, List.getElem?_eq_getElem (by omega)⟩
  have n0 := lowK_at key h0
  have h1 := of_decide_eq_true (rises_lt (ltK_trans key) hr hk h0 hq)
  have a1 := ordB_anti (key q0) f
  rcases Int.lt_trichotomy (ordB (key q) f) 0 with h | h | h
  · exact absurd (ordB_trans h1 h) n0
  · rw [ordB_eq h] at h1; exact absurd h1 n0
  · exact h
theorem hitK_iff {l : List α} {f : ByteArray} : hitK key l f = true ↔ ∃ q, l[lowK key l f]? = some q ∧ key q = f := by
  unfold hitK
  constructor
  · intro h
    split at h
    · rename_i q hq
      exact ⟨q, hq, ordB_eq (of_decide_eq_true h)⟩
    · cases h
  · rintro ⟨q, hq, rfl⟩
    rw [hq]
    exact decide_eq_true (ordB_refl _)
/-- a key that is there is hit. -/
theorem hit_of {l : List α} {k : Nat} {q : α} (hr : rises (ltK key) l = true) (hq : l[k]? = some q) : lowK key l (key q) = k := by
  rcases Nat.lt_trichotomy k (lowK key l (key q)) with h | h | h
  · have := lowK_lt key h hq
    rw [ordB_refl] at this
    exact absurd this (by decide)
  · exact h.symm
  · have := lowK_gt key hr h hq
    rw [ordB_refl] at this
    exact absurd this (by decide)
theorem hit_there {l : List α} {k : Nat} {q : α} (hr : rises (ltK key) l = true) (hq : l[k]? = some q) : hitK key l (key q) = true :=
  (hitK_iff key).2 ⟨q, by rw [hit_of key hr hq]; exact hq, rfl⟩
theorem putK_length (l : List α) (p : α) : (putK key l p).length = if hitK key l (key p) = true then l.length else l.length + 1 := by
  unfold putK
  have := lowK_le key l (key p)
  by_cases h : hitK key l (key p) = true
  · rw [if_pos h, if_pos h, List.length_set]
  · rw [if_neg h, if_neg h, List.length_append, List.length_cons, List.length_take, List.length_drop]
    omega
theorem putK_mem {l : List α} {p q : α} (h : q ∈ putK key l p) : q = p ∨ q ∈ l := by
  unfold putK at h
  by_cases hh : hitK key l (key p) = true
  · rw [if_pos hh] at h
    rcases List.mem_or_eq_of_mem_set h with h | h
    · exact .inr h
    · exact .inl h
  · rw [if_neg hh] at h
    rcases List.mem_append.1 h with h | h
    · exact .inr (List.mem_of_mem_take h)
    · rcases List.mem_cons.1 h with h | h
      · exact .inl h
      · exact .inr (List.mem_of_mem_drop h)
theorem putK_rises {l : List α} (p : α) (hr : rises (ltK key) l = true) : rises (ltK key) (putK key l p) = true := by
  have hle := lowK_le key l (key p)
  have step : ∀ {i : Nat} {a b : α}, l[i]? = some a → l[i + 1]? = some b → ltK key a b = true := fun ha hb => rises_lt (ltK_trans key) hr (Nat.lt_succ_self _) ha hb
  unfold putK
  by_cases hh : hitK key l (key p) = true
  · rw [if_pos hh]
    obtain ⟨q, hq, he⟩ := (hitK_iff key).1 hh
    have hlt := (List.getElem?_eq_some_iff.1 hq).1
    apply rises_of
    intro i a b ha hb
    by_cases h1 : i = lowK key l (key p)
    · rw [h1, List.getElem?_set_self hlt] at ha
      rw [h1, List.getElem?_set_ne (by omega)] at hb
      cases ha
      have := step hq hb
      unfold ltK at this ⊢
      rw [← he]
      exact this
    · rw [List.getElem?_set_ne (by omega)] at ha
      by_cases h2 : i + 1 = lowK key l (key p)
      · rw [h2, List.getElem?_set_self hlt] at hb
        cases hb
        rw [← h2] at hq
        have := step ha hq
        unfold ltK at this ⊢
        rw [← he]
        exact this
      · rw [List.getElem?_set_ne (by omega)] at hb
        exact step ha hb
  · rw [if_neg hh]
    have hno : ∀ q, l[lowK key l (key p)]? = some q → key q ≠ key p := fun q hq he => hh ((hitK_iff key).2 ⟨q, hq, he⟩)
    apply rises_of
    intro i a b ha hb
    have hlt : (l.take (lowK key l (key p))).length = lowK key l (key p) := by rw [List.length_take]; omega
    rcases Nat.lt_trichotomy (i + 1) (lowK key l (key p)) with h | h | h
    · rw [List.getElem?_append_left (by omega), List.getElem?_take_of_lt (by omega)] at ha hb
      exact step ha hb
    · rw [List.getElem?_append_left (by omega), List.getElem?_take_of_lt (by omega)] at ha
      rw [List.getElem?_append_right (by omega), hlt, show i + 1 - lowK key l (key p) = 0 by omega, List.getElem?_cons_zero] at hb
      cases hb
      exact decide_eq_true (lowK_lt key (by omega) ha)
    · by_cases h2 : i = lowK key l (key p)
      · rw [List.getElem?_append_right (by omega), hlt, show i - lowK key l (key p) = 0 by omega, List.getElem?_cons_zero] at ha
        rw [List.getElem?_append_right (by omega), hlt, show i + 1 - lowK key l (key p) = 0 + 1 by omega, List.getElem?_cons_succ, List.getElem?_drop, Nat.add_zero] at hb
        cases ha
        have n1 := lowK_at key hb
        have n2 := hno b hb
        have a1 := ordB_anti (key b) (key p)
        refine decide_eq_true ?_
        rcases Int.lt_trichotomy (ordB (key b) (key p)) 0 with h | h | h
        · exact absurd h n1
        · exact absurd (ordB_eq h) n2
        · omega
      · rw [List.getElem?_append_right (by omega), hlt, show i - lowK key l (key p) = (i - 1 - lowK key l (key p)) + 1 by omega, List.getElem?_cons_succ, List.getElem?_drop] at ha
        rw [List.getElem?_append_right (by omega), hlt, show i + 1 - lowK key l (key p) = (i - lowK key l (key p)) + 1 by omega, List.getElem?_cons_succ, List.getElem?_drop] at hb
        rw [show lowK key l (key p) + (i - 1 - lowK key l (key p)) = i - 1 by omega] at ha
        rw [show lowK key l (key p) + (i - lowK key l (key p)) = i - 1 + 1 by omega] at hb
        exact step ha hb
end
end Go.Proofs.YtkgbgmfidkimfaaGreat

namespace Go.Proofs.YtkgbgmfidkimfaaGreat

/-- what is known of an item that is nothing, or right and of a kind. -/
structure AsOk (k : Int) (x : Itm) : Prop where
  kind : x.kind = 0 ∨ x.kind = k
  le24 : many x ≤ 24
  text : x.text.size ≤ 60
  texts : ∀ s ∈ x.list, s.size ≤ 60
  fields : ∀ p ∈ x.pairs, p.1.size ≤ 60 ∧ p.2.size ≤ 60
  members : ∀ p ∈ x.scores, isInt p.1 = true ∧ p.2.size ≤ 60
  bare : bareB x = true
  none : x.kind = 0 → many x = 0
  some : x.kind ≠ 0 → checkItm x = 0

theorem asOk_of {k : Int} {x : Itm} (h : asCode k x = 0) : AsOk k x := by
  unfold asCode at h
  by_cases hn : nothingI x = true
  · unfold nothingI at hn
    rw [Bool.and_eq_true] at hn
    obtain ⟨h1, h2⟩ := hn
    have hk : x.kind = 0 := by simpa using h1
    have hb := h2
    unfold bareB at hb
    rw [hk] at hb
    simp at hb
    obtain ⟨⟨⟨e1, e2⟩, e3⟩, e4⟩ := hb
    have e2 : x.list = [] := by simpa using e2
    have e3 : x.pairs = [] := by simpa using e3
    have e4 : x.scores = [] := by simpa using e4
    have e1 : x.text.size = 0 := by
      first | exact e1 | (rw [e1]; rfl)
    exact ⟨.inl hk, by unfold many; rw [e2, e3, e4]; simp, by omega, by rw [e2]; simp, by rw [e3]; simp, by rw [e4]; simp, h2, fun _ => by unfold many; rw [e2, e3, e4]; simp, fun hn => absurd hk hn⟩
  · rw [if_neg hn] at h
    by_cases hc : checkItm x = 0
    · rw [if_pos hc] at h
      have r := right_of hc
      by_cases hk : x.kind = k
      · exact ⟨.inr hk, r.many, r.text, r.texts, r.fields, r.members, r.bare, fun h0 => by have := r.kind; omega, fun _ => hc⟩
      · rw [if_neg hk] at h; cases h
    · rw [if_neg hc] at h; exact absurd h hc

/-- where a sequence of n begins and ends, as the program says it. -/
def spanA (n : Nat) (f t : Int) : Nat :=
  let f' := if f < 0 then max 0 (f + n) else f
  let t' := min (if t < 0 then t + n else t) ((n : Int) - 1)
  if f' > t' then 0 else f'.toNat
def spanB (n : Nat) (f t : Int) : Nat :=
  let f' := if f < 0 then max 0 (f + n) else f
  let t' := min (if t < 0 then t + n else t) ((n : Int) - 1)
  if f' > t' then 0 else (t' + 1).toNat

theorem span_le (n : Nat) (f t : Int) : spanA n f t ≤ spanB n f t ∧ spanB n f t ≤ n := by
  unfold spanA spanB
  simp only
  by_cases h : (if f < 0 then max 0 (f + n) else f) > min (if t < 0 then t + n else t) ((n : Int) - 1)
  · rw [if_pos h, if_pos h]; omega
  · rw [if_neg h, if_neg h]
    have : 0 ≤ (if f < 0 then max 0 (f + (n : Int)) else f) := by split <;> omega
    omega

/-- the part of a sequence from f to t. -/
def rangeOf {α : Type} (l : List α) (f t : Int) : List α := (l.take (spanB l.length f t)).drop (spanA l.length f t)

/-- is a place of n from f to t? (the document's) -/
def inR (i n : Nat) (f t : Int) : Bool := decide ((if f < 0 then f + (n : Int) else f) ≤ (i : Int)) && decide ((i : Int) ≤ (if t < 0 then t + (n : Int) else t))
/-- what the document takes of the first k. -/
def takeR {α : Type} (l : List α) (f t : Int) (k : Nat) : List α := ((l.take k).take ((if t < 0 then t + (l.length : Int) else t) + 1).toNat).drop (if f < 0 then f + (l.length : Int) else f).toNat

theorem takeR_zero {α : Type} (l : List α) (f t : Int) : takeR l f t 0 = [] := by simp [takeR]
theorem takeR_step {α : Type} {l : List α} {k : Nat} {s : α} (f t : Int) (h : l[k]? = some s) :
    takeR l f t (k + 1) = if inR k l.length f t = true then takeR l f t k ++ [s] else takeR l f t k := by
  have hlt : k < l.length := (List.getElem?_eq_some_iff.1 h).1
  unfold takeR inR
  generalize (if t < 0 then t + (l.length : Int) else t) = t'
  generalize (if f < 0 then f + (l.length : Int) else f) = f'
  rw [List.take_add_one, h, Option.toList_some]
  have hl : (l.take k).length = k := by rw [List.length_take]; omega
  by_cases h1 : (k : Int) ≤ t'
  · by_cases h2 : f' ≤ (k : Int)
    · rw [if_pos (by simp [h1, h2])]
      rw [List.take_of_length_le (by rw [List.length_append, hl]; simp; omega), List.take_of_length_le (l := l.take k) (by rw [hl]; omega)]
      rw [List.drop_append_of_le_length (by rw [hl]; omega)]
    · rw [if_neg (by simp [h2])]
      rw [List.drop_of_length_le (by rw [List.length_take, List.length_append, hl]; simp; omega), List.drop_of_length_le (by rw [List.length_take, hl]; omega)]
  · rw [if_neg (by simp [h1])]
    rw [List.take_append_of_le_length (by rw [hl]; omega)]

/-- a place that is too far away is as good as a nearer one. -/
def clampI (n : Int) : Int := if 1000 < n then 1000 else if n < -1000 then -1000 else n

theorem takeR_range {α : Type} (l : List α) (f t : Int) (hl : l.length ≤ 900) : takeR l (clampI f) (clampI t) l.length = rangeOf l f t := by
  unfold takeR rangeOf
  rw [List.take_length]
  have hA : ∀ a b c d : Nat, ((b ≤ a ∨ l.length ≤ a) ∧ (d ≤ c ∨ l.length ≤ c)) ∨ (a = c ∧ min b l.length = min d l.length) → (l.take b).drop a = (l.take d).drop c := by
    intro a b c d h
    rcases h with ⟨h1, h2⟩ | ⟨h1, h2⟩
    · rw [List.drop_of_length_le (by rw [List.length_take]; omega), List.drop_of_length_le (by rw [List.length_take]; omega)]
    · subst h1
      have : l.take b = l.take d := List.take_eq_take_iff.2 h2
      rw [this]
  apply hA
  unfold spanA spanB clampI
  simp only
  generalize l.length = n at *
  have e1 : (if (if 1000 < f then 1000 else if f < -1000 then -1000 else f) < 0 then (if 1000 < f then 1000 else if f < -1000 then -1000 else f) + (n : Int) else (if 1000 < f then 1000 else if f < -1000 then -1000 else f)) = (if f < 0 then (max f (-1000)) + n else min f 1000) := by
    repeat' split
    all_goals omega
  have e2 : (if (if 1000 < t then 1000 else if t < -1000 then -1000 else t) < 0 then (if 1000 < t then 1000 else if t < -1000 then -1000 else t) + (n : Int) else (if 1000 < t then 1000 else if t < -1000 then -1000 else t)) = (if t < 0 then (max t (-1000)) + n else min t 1000) := by
    repeat' split
    all_goals omega
  rw [e1, e2]
  by_cases h1 : f < 0 <;> by_cases h2 : t < 0 <;> simp only [h1, h2, if_true, if_false] <;> split <;> omega

/-- the codes of the calls of lists. -/
def pushCode (x : Itm) (l : List ByteArray) : Int := if asCode 2 x ≠ 0 then asCode 2 x else if someCode l ≠ 0 then someCode l else if 24 < x.list.length + l.length then 2 else 0
def pushL (x : Itm) (left : Bool) (l : List ByteArray) : List ByteArray := if left then l.reverse ++ x.list else x.list ++ l
def popCode (x : Itm) : Int := if asCode 2 x ≠ 0 then asCode 2 x else if x.kind = 0 then 5 else 0
def popL (x : Itm) (left : Bool) : List ByteArray := if left then x.list.drop 1 else x.list.take (x.list.length - 1)
def popS (x : Itm) (left : Bool) : ByteArray := x.list.getD (if left then 0 else x.list.length - 1) ⟨#[]⟩
def remL (x : Itm) (s : ByteArray) : List ByteArray := x.list.filter fun y => !decide (y = s)

/-- a list of elements, or nothing. -/
def ofL (l : List ByteArray) : Itm := if l.length = 0 then newI 0 else listI l
def pushY (x : Itm) (left : Bool) (l : List ByteArray) : Itm := if pushCode x l = 0 then ofL (pushL x left l) else newI 0
def pushK (x : Itm) (left : Bool) (l : List ByteArray) : Int := if pushCode x l = 0 then (pushL x left l).length else 0
def popY (x : Itm) (left : Bool) : Itm := if popCode x = 0 then ofL (popL x left) else newI 0
def popT (x : Itm) (left : Bool) : ByteArray := if popCode x = 0 then popS x left else ⟨#[]⟩
def remY (x : Itm) (s : ByteArray) : Itm := if asCode 2 x = 0 then ofL (remL x s) else newI 0
def remK (x : Itm) (s : ByteArray) : Int := if asCode 2 x = 0 then (x.list.length : Int) - (remL x s).length else 0

theorem some_texts {l : List ByteArray} (h : someCode l = 0) : ∀ s ∈ l, s.size ≤ 60 := by
  unfold someCode at h
  by_cases h0 : l.length = 0
  · rw [if_pos h0] at h; cases h
  · rw [if_neg h0] at h
    by_cases h1 : l.any longS = true
    · rw [if_pos h1] at h; cases h
    · intro s hs
      rw [Bool.not_eq_true, List.any_eq_false] at h1
      have := h1 s hs
      unfold longS at this
      simpa using this
theorem push_mem {x : Itm} {left : Bool} {l : List ByteArray} {s : ByteArray} (h : s ∈ pushL x left l) : s ∈ x.list ∨ s ∈ l := by
  unfold pushL at h
  cases left
  · simpa using h
  · simpa [or_comm] using h
theorem push_length (x : Itm) (left : Bool) (l : List ByteArray) : (pushL x left l).length = x.list.length + l.length := by
  unfold pushL
  cases left
  · simp
  · simp; omega
theorem rangeOf_length {α : Type} (l : List α) (f t : Int) : (rangeOf l f t).length = spanB l.length f t - spanA l.length f t := by
  unfold rangeOf
  have := span_le l.length f t
  rw [List.length_drop, List.length_take]
  omega
theorem rangeOf_mem {α : Type} {l : List α} {f t : Int} {s : α} (h : s ∈ rangeOf l f t) : s ∈ l := List.mem_of_mem_take (List.mem_of_mem_drop h)
end Go.Proofs.YtkgbgmfidkimfaaGreat
