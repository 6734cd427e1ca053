/- Byte strings: small facts; the plain meaning of patterns. -/
import Derived.WalkKit
import Derived.Below
import Derived.Calls
import Derived.Lib.Hide
set_option linter.unusedVariables false
set_option linter.unusedSimpArgs false
namespace Go.Proofs.Ytfkfdmonnebmmaa
open Go.RowKit

/-- the byte at a place, as a number (0 where there is none). -/
def byteAt (p : ByteArray) (i : Nat) : Nat := (p.data.toList.getD i 0).toNat

theorem byteAt_eq (p : ByteArray) (i : Nat) (h : i < p.size) : (p[i]'h).toNat = byteAt p i := by
  have h' : i < p.data.toList.length := by simpa using h
  have : p.data.toList.getD i 0 = p[i] := by
    rw [List.getD_eq_getElem?_getD, List.getElem?_eq_getElem h']
    rfl
  rw [byteAt, this]

theorem byteAt_lt (p : ByteArray) (i : Nat) : byteAt p i < 256 := UInt8.toNat_lt _

theorem byteAt_of {l : List UInt8} (i : Nat) : byteAt ⟨l.toArray⟩ i = (l.getD i 0).toNat := rfl

/-- a part of a pattern -/
inductive Part where
  | star
  | any
  | lit (c : Nat)
  | cls (neg : Bool) (rs : List (Nat × Nat))

def inRanges (rs : List (Nat × Nat)) (c : Nat) : Bool := rs.any fun r => decide (r.1 ≤ c) && decide (c ≤ r.2)

def Part.may : Part → Nat → Bool
  | .star, _ => false
  | .any, _ => true
  | .lit x, c => decide (c = x)
  | .cls neg rs, c => inRanges rs c != neg

/-- what stands in brackets, from a place on: the spans, and where the end is. -/
def clsBody (p : ByteArray) : Nat → Nat → Option (List (Nat × Nat) × Nat)
  | 0, _ => none
  | n + 1, k =>
    if k < p.size then
      if byteAt p k = 93 then some ([], k)
      else if k + 2 < p.size ∧ byteAt p (k + 1) = 45 ∧ byteAt p (k + 2) ≠ 93 then
        if byteAt p (k + 2) < byteAt p k then none
        else (clsBody p n (k + 3)).map fun x => ((byteAt p k, byteAt p (k + 2)) :: x.1, x.2)
      else (clsBody p n (k + 1)).map fun x => ((byteAt p k, byteAt p k) :: x.1, x.2)
    else none

theorem clsBody_fuel (p : ByteArray) : ∀ (m n k : Nat), p.size + 1 ≤ n + k → p.size + 1 ≤ m + k → clsBody p n k = clsBody p m k := by
  intro m
  induction m with
  | zero =>
    intro n k h1 h2
    cases n with
    | zero => rfl
    | succ n => simp only [clsBody]; rw [if_neg (by omega)]
  | succ m ih =>
    intro n k h1 h2
    cases n with
    | zero => simp only [clsBody]; rw [if_neg (by omega)]
    | succ n =>
      simp only [clsBody]
      rw [ih n (k + 3) (by omega) (by omega), ih n (k + 1) (by omega) (by omega)]

/-- likewise, with fuel enough. -/
def cls (p : ByteArray) (k : Nat) : Option (List (Nat × Nat) × Nat) := clsBody p (p.size + 2 - k) k

theorem cls_step (p : ByteArray) (k : Nat) : cls p k =
    if k < p.size then
      if byteAt p k = 93 then some ([], k)
      else if k + 2 < p.size ∧ byteAt p (k + 1) = 45 ∧ byteAt p (k + 2) ≠ 93 then
        if byteAt p (k + 2) < byteAt p k then none
        else (cls p (k + 3)).map fun x => ((byteAt p k, byteAt p (k + 2)) :: x.1, x.2)
      else (cls p (k + 1)).map fun x => ((byteAt p k, byteAt p k) :: x.1, x.2)
    else none := by
  by_cases h : k < p.size
  · obtain ⟨m, hm⟩ : ∃ m, p.size + 2 - k = m + 1 := ⟨p.size + 1 - k, by omega⟩
    unfold cls
    rw [hm]
    simp only [clsBody]
    rw [clsBody_fuel p (p.size + 2 - (k + 3)) m (k + 3) (by omega) (by omega), clsBody_fuel p (p.size + 2 - (k + 1)) m (k + 1) (by omega) (by omega)]
  · rw [if_neg h]
    unfold cls
    cases p.size + 2 - k with
    | zero => rfl
    | succ m => simp only [clsBody]; rw [if_neg h]

theorem cls_lt (p : ByteArray) : ∀ (d k : Nat), p.size ≤ k + d → ∀ x, cls p k = some x → k ≤ x.2 ∧ x.2 < p.size ∧ byteAt p x.2 = 93 := by
  intro d
  induction d using Nat.strongRecOn with
  | _ d ih =>
    intro k hd x hx
    rw [cls_step] at hx
    by_cases hk : k < p.size
    · rw [if_pos hk] at hx
      by_cases h1 : byteAt p k = 93
      · rw [if_pos h1] at hx
        cases hx
        exact ⟨Nat.le_refl _, hk, h1⟩
      · rw [if_neg h1] at hx
        by_cases h2 : k + 2 < p.size ∧ byteAt p (k + 1) = 45 ∧ byteAt p (k + 2) ≠ 93
        · rw [if_pos h2] at hx
          by_cases h3 : byteAt p (k + 2) < byteAt p k
          · rw [if_pos h3] at hx; cases hx
          · rw [if_neg h3] at hx
            obtain ⟨y, hy, rfl⟩ := Option.map_eq_some_iff.1 hx
            have := ih (d - 1) (by omega) (k + 3) (by omega) y hy
            exact ⟨by show k ≤ y.2; omega, this.2⟩
        · rw [if_neg h2] at hx
          obtain ⟨y, hy, rfl⟩ := Option.map_eq_some_iff.1 hx
          have := ih (d - 1) (by omega) (k + 1) (by omega) y hy
          exact ⟨by show k ≤ y.2; omega, this.2⟩
    · rw [if_neg hk] at hx; cases hx

/-- the answer of classAt: the end, whether it is one. -/
def classAns (p : ByteArray) (k : Nat) (first : Bool) : Nat × Bool :=
  match cls p k with
  | none => (0, false)
  | some x => (x.2, !(first && x.1.isEmpty))

theorem classAns_step (p : ByteArray) (k : Nat) (b : Bool) : classAns p k b =
    if k < p.size then
      if byteAt p k = 93 then (k, !b)
      else if k + 2 < p.size ∧ byteAt p (k + 1) = 45 ∧ byteAt p (k + 2) ≠ 93 then
        if byteAt p (k + 2) < byteAt p k then (0, false) else classAns p (k + 3) false
      else classAns p (k + 1) false
    else (0, false) := by
  unfold classAns
  rw [cls_step]
  by_cases hk : k < p.size
  · simp only [if_pos hk]
    by_cases h1 : byteAt p k = 93
    · simp [if_pos h1]
    · simp only [if_neg h1]
      by_cases h2 : k + 2 < p.size ∧ byteAt p (k + 1) = 45 ∧ byteAt p (k + 2) ≠ 93
      · simp only [if_pos h2]
        by_cases h3 : byteAt p (k + 2) < byteAt p k
        · simp [if_pos h3]
        · simp only [if_neg h3]
          cases cls p (k + 3) <;> simp
      · simp only [if_neg h2]
        cases cls p (k + 1) <;> simp
  · simp [if_neg hk]

/-- the part that begins at a place, and where it ends. -/
def partAt (p : ByteArray) (k : Nat) : Option (Part × Nat) :=
  if k < p.size then
    if byteAt p k = 42 then some (.star, k + 1)
    else if byteAt p k = 63 then some (.any, k + 1)
    else if byteAt p k = 91 then
      let neg := decide (k + 1 < p.size ∧ byteAt p (k + 1) = 94)
      match cls p (if neg then k + 2 else k + 1) with
      | none => none
      | some x => if x.1.isEmpty then none else some (.cls neg x.1, x.2 + 1)
    else if byteAt p k = 92 then if k + 1 < p.size then some (.lit (byteAt p (k + 1)), k + 2) else none
    else some (.lit (byteAt p k), k + 1)
  else none

theorem partAt_lt {p : ByteArray} {k : Nat} {x : Part × Nat} (h : partAt p k = some x) : k < x.2 ∧ x.2 ≤ p.size := by
  unfold partAt at h
  split at h
  · split at h
    · cases h; exact ⟨by show k < k + 1; omega, by show k + 1 ≤ _; omega⟩
    · split at h
      · cases h; exact ⟨by show k < k + 1; omega, by show k + 1 ≤ _; omega⟩
      · split at h
        · simp only at h
          split at h
          · cases h
          · rename_i y hy
            split at h
            · cases h
            · cases h
              have := cls_lt p p.size _ (by omega) y hy
              refine ⟨?_, by show y.2 + 1 ≤ _; omega⟩
              show k < y.2 + 1
              split at this <;> omega
        · split at h
          · split at h
            · cases h; exact ⟨by show k < k + 2; omega, by show k + 2 ≤ _; omega⟩
            · cases h
          · cases h; exact ⟨by show k < k + 1; omega, by show k + 1 ≤ _; omega⟩
  · cases h

/-- all parts from a place on: each with where it begins. -/
def partsF (p : ByteArray) : Nat → Nat → Option (List (Nat × Part))
  | 0, k => if k < p.size then none else some []
  | n + 1, k =>
    if k < p.size then
      match partAt p k with
      | none => none
      | some x => (partsF p n x.2).map ((k, x.1) :: ·)
    else some []

theorem partsF_fuel (p : ByteArray) : ∀ (m n k : Nat), p.size ≤ n + k → p.size ≤ m + k → partsF p n k = partsF p m k := by
  intro m
  induction m with
  | zero =>
    intro n k h1 h2
    have hk : ¬ k < p.size := by omega
    cases n with
    | zero => rfl
    | succ n => simp only [partsF]; rw [if_neg hk, if_neg hk]
  | succ m ih =>
    intro n k h1 h2
    cases n with
    | zero =>
      have hk : ¬ k < p.size := by omega
      simp only [partsF]; rw [if_neg hk, if_neg hk]
    | succ n =>
      simp only [partsF]
      by_cases hk : k < p.size
      · rw [if_pos hk, if_pos hk]
        cases h : partAt p k with
        | none => rfl
        | some x =>
          have := partAt_lt h
          simp only
          rw [ih n x.2 (by omega) (by omega)]
      · rw [if_neg hk, if_neg hk]

def partsFrom (p : ByteArray) (k : Nat) : Option (List (Nat × Part)) := partsF p (p.size - k) k

theorem partsFrom_step (p : ByteArray) (k : Nat) : partsFrom p k =
    if k < p.size then
      match partAt p k with
      | none => none
      | some x => (partsFrom p x.2).map ((k, x.1) :: ·)
    else some [] := by
  unfold partsFrom
  by_cases hk : k < p.size
  · rw [if_pos hk]
    obtain ⟨m, hm⟩ : ∃ m, p.size - k = m + 1 := ⟨p.size - k - 1, by omega⟩
    rw [hm]
    simp only [partsF]
    rw [if_pos hk]
    cases h : partAt p k with
    | none => rfl
    | some x =>
      have := partAt_lt h
      simp only
      rw [partsF_fuel p (p.size - x.2) m x.2 (by omega) (by omega)]
  · rw [if_neg hk, show p.size - k = 0 by omega]
    simp only [partsF]
    rw [if_neg hk]

theorem partsF_length (p : ByteArray) : ∀ (n k : Nat) (l : List (Nat × Part)), partsF p n k = some l → l.length ≤ p.size - k
  | 0, k, l, h => by
    simp only [partsF] at h
    split at h
    · cases h
    · cases h; simp
  | n + 1, k, l, h => by
    simp only [partsF] at h
    split at h
    · cases hp : partAt p k with
      | none => rw [hp] at h; cases h
      | some x =>
        rw [hp] at h
        obtain ⟨r, hr, rfl⟩ := Option.map_eq_some_iff.1 h
        have h1 := partsF_length p n x.2 r hr
        have h2 := partAt_lt hp
        simp only [List.length_cons]
        omega
    · cases h; simp

theorem parts_length {p : ByteArray} {l : List (Nat × Part)} (h : partsFrom p 0 = some l) : l.length ≤ p.size := by
  have := partsF_length p _ 0 l h
  omega

/-- is there a pattern from a place on? -/
def okAt (p : ByteArray) (k : Nat) : Bool := (partsFrom p k).isSome

/-- CheckGlob's answer -/
def checkGlob (p : ByteArray) : Int := if 60 < p.size then 2 else if okAt p 0 then 0 else 1

/-- which beginnings of a text a pattern's parts match, one part more. -/
def nextRow (P : Part) (f : Nat → Bool) (s : ByteArray) : Nat → Bool
  | 0 => match P with
    | .star => f 0
    | _ => false
  | i + 1 => match P with
    | .star => f (i + 1) || nextRow P f s i
    | _ => f i && P.may (byteAt s i)

def matchRow (ps : List Part) (s : ByteArray) : Nat → Bool := ps.foldl (fun f P => nextRow P f s) (fun i => decide (i = 0))

theorem matchRow_snoc (ps : List Part) (P : Part) (s : ByteArray) : matchRow (ps ++ [P]) s = nextRow P (matchRow ps s) s := by simp [matchRow]

theorem matchRow_take {ps : List Part} {k : Nat} {P : Part} (h : ps[k]? = some P) (s : ByteArray) : matchRow (ps.take (k + 1)) s = nextRow P (matchRow (ps.take k) s) s := by
  rw [List.take_add_one, h, Option.toList_some, matchRow_snoc]
end Go.Proofs.Ytfkfdmonnebmmaa
