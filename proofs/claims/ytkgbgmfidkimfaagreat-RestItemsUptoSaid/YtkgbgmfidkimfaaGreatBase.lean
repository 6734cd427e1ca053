/- Words for memory: a block known whole; which blocks a call may have turned. No program in sight. Byte strings: small facts; the plain meaning of patterns. Byte strings: small facts more. Items, plain: the order of texts, what is wrong with an item. No program in sight. Items as they lie in memory. No program in sight. Rows that a call owns: which steps leave them. No program in sight. -/
import Derived.WalkKit
import Derived.Below
import Derived.Calls
import Derived.Lib.Hide
import Derived.Laws.OwnMore
import Derived.Deep.Draws
import Derived.Deep.OwnRows
import Derived.WalkLawsBesides
import Derived.WalkSpells
import Derived.LoopTactic
import Derived.Deep.QuietTactic
import Derived.BigQuiet
import Derived.OwnWalk
import Derived.Outline
import Derived.Lib.Bytealg
import Derived.Maps.AppendAt
import Derived.Deep.AppendLies
set_option linter.unusedVariables false
set_option linter.unusedSimpArgs false
namespace Go.Proofs.YtkgbgmfidkimfaaGreat
open Go.RowKit

/-- block g holds just these cells, none of them frozen. -/
def Whole (w : World) (g : Nat) (t : TypeId) (cs : List Value) : Prop := w.heap[g]? = some (.cells cs.toArray t (0, 0))

/-- from world a to world b: new blocks; of the old ones at most those of S have turned. -/
structure Fr (S : List Nat) (a b : World) : Prop where
  os : b.os = a.os
  tape : b.tape = a.tape
  output : b.output = a.output
  size : a.heap.size ≤ b.heap.size
  block : ∀ k, k < a.heap.size → k ∉ S → b.heap[k]? = a.heap[k]?

section
variable {a b c w w' : World} {S T : List Nat} {g : Nat} {t : TypeId} {cs : List Value}

theorem Fr.refl (S : List Nat) (w : World) : Fr S w w := ⟨rfl, rfl, rfl, Nat.le_refl _, fun _ _ _ => rfl⟩
theorem Fr.trans (h : Fr S a b) (k : Fr S b c) : Fr S a c :=
  ⟨k.os.trans h.os, k.tape.trans h.tape, k.output.trans h.output, Nat.le_trans h.size k.size, fun i hi hn => (k.block i (Nat.lt_of_lt_of_le hi h.size) hn).trans (h.block i hi hn)⟩
theorem Fr.more (h : Fr S a b) (hs : ∀ k, k ∈ S → k ∈ T ∨ a.heap.size ≤ k) : Fr T a b :=
  ⟨h.os, h.tape, h.output, h.size, fun i hi hn => h.block i hi (fun hm => by
    rcases hs i hm with hT | hT
    · exact hn hT
    · omega)⟩
theorem Fr.up (h : Fr [] a b) : Fr T a b := h.more (fun k hk => absurd hk (by simp))
/-- a step whose own turned blocks are new to the first world. -/
theorem Fr.step (h : Fr S a b) (k : Fr T b c) (hT : ∀ x, x ∈ T → x ∈ S ∨ a.heap.size ≤ x) : Fr S a c :=
  ⟨k.os.trans h.os, k.tape.trans h.tape, k.output.trans h.output, Nat.le_trans h.size k.size, fun i hi hn =>
    (k.block i (Nat.lt_of_lt_of_le hi h.size) (fun hm => by
      rcases hT i hm with h1 | h1
      · exact hn h1
      · omega)).trans (h.block i hi hn)⟩
theorem Fr.drew (h : Fr S a b) : Fr S a b.drew := ⟨h.os, h.tape, h.output, h.size, h.block⟩
theorem Fr.drewN (h : Fr S a b) (n : Nat) : Fr S a (b.drewN n) := ⟨h.os, h.tape, h.output, h.size, h.block⟩
theorem Fr.alloc (h : Fr S a b) (o : Obj) : Fr S a (b.alloc o) :=
  ⟨h.os, h.tape, h.output, Nat.le_trans h.size (by simp), fun i hi hn => (Below.heap_alloc b o i (Nat.lt_of_lt_of_le hi h.size)).trans (h.block i hi hn)⟩
theorem Fr.setCell (h : Fr S a b) {p : Addr} (hp : p.block ∈ S ∨ a.heap.size ≤ p.block) (u : Value) : Fr S a (b.setCell p u) :=
  ⟨h.os, h.tape, h.output, by simpa [World.setCell] using h.size, fun i hi hn => (Below.heap_setCell b p u i (by
    rintro rfl
    rcases hp with hp | hp
    · exact hn hp
    · omega)).trans (h.block i hi hn)⟩
theorem Fr.grown (h : Fr S a b) {row : Option Nat} (hg : b.grownBy c row) (hr : ∀ k, row = some k → k ∈ S ∨ a.heap.size ≤ k) : Fr S a c :=
  ⟨hg.os.trans h.os, hg.tape.trans h.tape, hg.output.trans h.output, Nat.le_trans h.size hg.size, fun i hi hn => (hg.block i (Nat.lt_of_lt_of_le hi h.size) (fun e => by
    rcases hr i e.symm with h1 | h1
    · exact hn h1
    · omega)).trans (h.block i hi hn)⟩
theorem Fr.of_below (h : Below a.heap.size a b) : Fr S a b := ⟨h.os, h.tape, h.output, h.size, fun i hi _ => h.block i hi⟩
theorem Fr.below (h : Fr [] a b) : Below a.heap.size a b := ⟨h.os, h.tape, h.output, h.size, fun i hi => h.block i hi (by simp)⟩
theorem Fr.belowOf {B : Nat} (h : Fr S a b) (hB : B ≤ a.heap.size) (hS : ∀ k, k ∈ S → B ≤ k) : Below B a b :=
  ⟨h.os, h.tape, h.output, h.size, fun i hi => h.block i (by omega) (fun hm => by have := hS i hm; omega)⟩
theorem Fr.cell? (h : Fr S a b) {p : Addr} (hp : p.block < a.heap.size) (hn : p.block ∉ S) : b.cell? p = a.cell? p := World.cell?_of_block (h.block _ hp hn)
theorem Fr.frozen? (h : Fr S a b) {p : Addr} (hp : p.block < a.heap.size) (hn : p.block ∉ S) : b.frozen? p = a.frozen? p := World.frozen?_of_block (h.block _ hp hn)
theorem Fr.cell (h : Fr S a b) {p : Addr} {v : Value} (hc : a.cell? p = some v) (hn : p.block ∉ S) : b.cell? p = some v :=
  (h.cell? (World.block_lt_of_cell? a p hc) hn).trans hc

theorem Whole.lt (h : Whole w g t cs) : g < w.heap.size := by
  rcases Nat.lt_or_ge g w.heap.size with hlt | hge
  · exact hlt
  · unfold Whole at h; rw [Array.getElem?_eq_none hge] at h; cases h
theorem Whole.cell (h : Whole w g t cs) (i : Nat) : w.cell? ⟨g, i, none⟩ = cs[i]? := by
  rw [cell_of_row w g i cs.toArray t (0, 0) h]; simp
theorem Whole.frozen (h : Whole w g t cs) (i : Nat) : w.frozen? ⟨g, i, none⟩ = false := by
  unfold Whole at h
  simp [World.frozen?, h]
theorem Whole.new (w : World) (t : TypeId) (cs : List Value) : Whole (w.alloc (.cells cs.toArray t)) w.heap.size t cs := heap_alloc_new w _
theorem Whole.drew (h : Whole w g t cs) : Whole w.drew g t cs := h
theorem Whole.drewN (h : Whole w g t cs) (n : Nat) : Whole (w.drewN n) g t cs := h
theorem Whole.alloc (h : Whole w g t cs) (o : Obj) : Whole (w.alloc o) g t cs := (Below.heap_alloc w o g h.lt).trans h
theorem Whole.set_ (h : Whole w g t cs) (i : Nat) (u : Value) : Whole (w.setCell ⟨g, i, none⟩ u) g t (cs.set i u) := by
  unfold Whole at h ⊢
  simp [World.setCell, Array.getElem?_modify, h, List.setIfInBounds_toArray]
theorem Whole.far (h : Whole w g t cs) {p : Addr} (hp : g ≠ p.block) (u : Value) : Whole (w.setCell p u) g t cs := (Below.heap_setCell w p u g hp).trans h
theorem Whole.fr (h : Whole w g t cs) (hf : Fr S w w') (hn : g ∉ S) : Whole w' g t cs := (hf.block g h.lt hn).trans h
theorem Whole.grown {row : Option Nat} (h : Whole w g t cs) (hb : w.grownBy w' row) (hg : some g ≠ row) : Whole w' g t cs := (hb.block g h.lt hg).trans h
theorem Whole.ne_ {g' : Nat} {t' : TypeId} {cs' : List Value} (h : Whole w g t cs) (h' : Whole w g' t' cs') (hne : t ≠ t') : g ≠ g' := by
  rintro rfl
  unfold Whole at h h'
  rw [h] at h'
  injection h' with h'
  injection h' with _ ht
  exact hne ht
end

/-- a slice value reads as these cells (size cells an element), in blocks below B. -/
def Sl (w : World) (B size : Nat) (v : Value) (n : Nat) (xs : List Value) : Prop :=
  ∃ A c, v = .slice A n c ∧ xs.length = n * size ∧ n ≤ c ∧ c ≤ maxLen ∧
    (0 < n → ∃ b off, A = some ⟨b, off, none⟩ ∧ b < B ∧ ∀ j u, xs[j]? = some u → w.cell? ⟨b, off + j, none⟩ = some u)

section
variable {w w' : World} {B B' size n : Nat} {v : Value} {xs : List Value} {S : List Nat}
theorem Sl.keep (h : Sl w B size v n xs) (hk : ∀ p : Addr, p.block < B → w'.cell? p = w.cell? p) : Sl w' B size v n xs := by
  obtain ⟨A, c, e, hl, hc, hm, hr⟩ := h
  refine ⟨A, c, e, hl, hc, hm, fun hn => ?_⟩
  obtain ⟨b, off, e2, hb, hcell⟩ := hr hn
  exact ⟨b, off, e2, hb, fun j u hu => (hk ⟨b, off + j, none⟩ hb).trans (hcell j u hu)⟩
theorem Sl.more (h : Sl w B size v n xs) (hB : B ≤ B') : Sl w B' size v n xs := by
  obtain ⟨A, c, e, hl, hc, hm, hr⟩ := h
  refine ⟨A, c, e, hl, hc, hm, fun hn => ?_⟩
  obtain ⟨b, off, e2, hb, hcell⟩ := hr hn
  exact ⟨b, off, e2, by omega, hcell⟩
theorem Sl.below (h : Sl w B size v n xs) (hb : Below B w w') : Sl w' B size v n xs := h.keep fun _ hp => hb.cell hp
theorem Sl.fr (h : Sl w B size v n xs) (hf : Fr S w w') (hB : B ≤ w.heap.size) (hS : ∀ k, k ∈ S → B ≤ k) : Sl w' B size v n xs :=
  h.below (hf.belowOf hB hS)
theorem Sl.nil (w : World) (B size : Nat) : Sl w B size (.slice none 0 0) 0 [] := ⟨none, 0, rfl, by simp, Nat.le_refl _, by simp [maxLen], fun h => absurd h (by omega)⟩
end

theorem Fr.drewN_of (w : World) (n : Nat) (S : List Nat) : Fr S w (w.drewN n) := (Fr.refl S w).drewN n
end Go.Proofs.YtkgbgmfidkimfaaGreat

namespace Go.Proofs.YtkgbgmfidkimfaaGreat
open Go.RowKit

/-- the byte at a place, as a number (0 where there is none). -/
def byteAt (p : ByteArray) (i : Nat) : Nat := (p.data.toList.getD i 0).toNat

theorem byteAt_eq (p : ByteArray) (i : Nat) (h : i < p.size) : (p[i]'h).toNat = byteAt p i := by
  have h' : i < p.data.toList.length := by simpa using h
  have : p.data.toList.getD i 0 = p[i] := by
    rw [List.getD_eq_getElem?_getD, List.getElem?_eq_getElem h']
    rfl
  rw [byteAt, this]

theorem byteAt_lt (p : ByteArray) (i : Nat) : byteAt p i < 256 := UInt8.toNat_lt _

theorem byteAt_of {l : List UInt8} (i : Nat) : byteAt ⟨l.toArray⟩ i = (l.getD i 0).toNat := rfl

/-- a part of a pattern -/
inductive Part where
  | star
  | any
  | lit (c : Nat)
  | cls (neg : Bool) (rs : List (Nat × Nat))

def inRanges (rs : List (Nat × Nat)) (c : Nat) : Bool := rs.any fun r => decide (r.1 ≤ c) && decide (c ≤ r.2)

def Part.may : Part → Nat → Bool
  | .star, _ => false
  | .any, _ => true
  | .lit x, c => decide (c = x)
  | .cls neg rs, c => inRanges rs c != neg

/-- what stands in brackets, from a place on: the spans, and where the end is. -/
def clsBody (p : ByteArray) : Nat → Nat → Option (List (Nat × Nat) × Nat)
  | 0, _ => none
  | n + 1, k =>
    if k < p.size then
      if byteAt p k = 93 then some ([], k)
      else if k + 2 < p.size ∧ byteAt p (k + 1) = 45 ∧ byteAt p (k + 2) ≠ 93 then
        if byteAt p (k + 2) < byteAt p k then none
        else (clsBody p n (k + 3)).map fun x => ((byteAt p k, byteAt p (k + 2)) :: x.1, x.2)
      else (clsBody p n (k + 1)).map fun x => ((byteAt p k, byteAt p k) :: x.1, x.2)
    else none

theorem clsBody_fuel (p : ByteArray) : ∀ (m n k : Nat), p.size + 1 ≤ n + k → p.size + 1 ≤ m + k → clsBody p n k = clsBody p m k := by
  intro m
  induction m with
  | zero =>
    intro n k h1 h2
    cases n with
    | zero => rfl
    | succ n => simp only [clsBody]; rw [if_neg (by omega)]
  | succ m ih =>
    intro n k h1 h2
    cases n with
    | zero => simp only [clsBody]; rw [if_neg (by omega)]
    | succ n =>
      simp only [clsBody]
      rw [ih n (k + 3) (by omega) (by omega), ih n (k + 1) (by omega) (by omega)]

/-- likewise, with fuel enough. -/
def cls (p : ByteArray) (k : Nat) : Option (List (Nat × Nat) × Nat) := clsBody p (p.size + 2 - k) k

theorem cls_step (p : ByteArray) (k : Nat) : cls p k =
    if k < p.size then
      if byteAt p k = 93 then some ([], k)
      else if k + 2 < p.size ∧ byteAt p (k + 1) = 45 ∧ byteAt p (k + 2) ≠ 93 then
        if byteAt p (k + 2) < byteAt p k then none
        else (cls p (k + 3)).map fun x => ((byteAt p k, byteAt p (k + 2)) :: x.1, x.2)
      else (cls p (k + 1)).map fun x => ((byteAt p k, byteAt p k) :: x.1, x.2)
    else none := by
  by_cases h : k < p.size
  · obtain ⟨m, hm⟩ : ∃ m, p.size + 2 - k = m + 1 := ⟨p.size + 1 - k, by omega⟩
    unfold cls
    rw [hm]
    simp only [clsBody]
    rw [clsBody_fuel p (p.size + 2 - (k + 3)) m (k + 3) (by omega) (by omega), clsBody_fuel p (p.size + 2 - (k + 1)) m (k + 1) (by omega) (by omega)]
  · rw [if_neg h]
    unfold cls
    cases p.size + 2 - k with
    | zero => rfl
    | succ m => simp only [clsBody]; rw [if_neg h]

theorem cls_lt (p : ByteArray) : ∀ (d k : Nat), p.size ≤ k + d → ∀ x, cls p k = some x → k ≤ x.2 ∧ x.2 < p.size ∧ byteAt p x.2 = 93 := by
  intro d
  induction d using Nat.strongRecOn with
  | _ d ih =>
    intro k hd x hx
    rw [cls_step] at hx
    by_cases hk : k < p.size
    · rw [if_pos hk] at hx
      by_cases h1 : byteAt p k = 93
      · rw [if_pos h1] at hx
        cases hx
        exact ⟨Nat.le_refl _, hk, h1⟩
      · rw [if_neg h1] at hx
        by_cases h2 : k + 2 < p.size ∧ byteAt p (k + 1) = 45 ∧ byteAt p (k + 2) ≠ 93
        · rw [if_pos h2] at hx
          by_cases h3 : byteAt p (k + 2) < byteAt p k
          · rw [if_pos h3] at hx; cases hx
          · rw [if_neg h3] at hx
            obtain ⟨y, hy, rfl⟩ := Option.map_eq_some_iff.1 hx
            have := ih (d - 1) (by omega) (k + 3) (by omega) y hy
            exact ⟨by show k ≤ y.2; omega, this.2⟩
        · rw [if_neg h2] at hx
          obtain ⟨y, hy, rfl⟩ := Option.map_eq_some_iff.1 hx
          have := ih (d - 1) (by omega) (k + 1) (by omega) y hy
          exact ⟨by show k ≤ y.2; omega, this.2⟩
    · rw [if_neg hk] at hx; cases hx

/-- the answer of classAt: the end, whether it is one. -/
def classAns (p : ByteArray) (k : Nat) (first : Bool) : Nat × Bool :=
  match cls p k with
  | none => (0, false)
  | some x => (x.2, !(first && x.1.isEmpty))

theorem classAns_step (p : ByteArray) (k : Nat) (b : Bool) : classAns p k b =
    if k < p.size then
      if byteAt p k = 93 then (k, !b)
      else if k + 2 < p.size ∧ byteAt p (k + 1) = 45 ∧ byteAt p (k + 2) ≠ 93 then
        if byteAt p (k + 2) < byteAt p k then (0, false) else classAns p (k + 3) false
      else classAns p (k + 1) false
    else (0, false) := by
  unfold classAns
  rw [cls_step]
  by_cases hk : k < p.size
  · simp only [if_pos hk]
    by_cases h1 : byteAt p k = 93
    · simp [if_pos h1]
    · simp only [if_neg h1]
      by_cases h2 : k + 2 < p.size ∧ byteAt p (k + 1) = 45 ∧ byteAt p (k + 2) ≠ 93
      · simp only [if_pos h2]
        by_cases h3 : byteAt p (k + 2) < byteAt p k
        · simp [if_pos h3]
        · simp only [if_neg h3]
          cases cls p (k + 3) <;> simp
      · simp only [if_neg h2]
        cases cls p (k + 1) <;> simp
  · simp [if_neg hk]

/-- the part that begins at a place, and where it ends. -/
def partAt (p : ByteArray) (k : Nat) : Option (Part × Nat) :=
  if k < p.size then
    if byteAt p k = 42 then some (.star, k + 1)
    else if byteAt p k = 63 then some (.any, k + 1)
    else if byteAt p k = 91 then
      let neg := decide (k + 1 < p.size ∧ byteAt p (k + 1) = 94)
      match cls p (if neg then k + 2 else k + 1) with
      | none => none
      | some x => if x.1.isEmpty then none else some (.cls neg x.1, x.2 + 1)
    else if byteAt p k = 92 then if k + 1 < p.size then some (.lit (byteAt p (k + 1)), k + 2) else none
    else some (.lit (byteAt p k), k + 1)
  else none

theorem partAt_lt {p : ByteArray} {k : Nat} {x : Part × Nat} (h : partAt p k = some x) : k < x.2 ∧ x.2 ≤ p.size := by
  unfold partAt at h
  split at h
  · split at h
    · cases h; exact ⟨by show k < k + 1; omega, by show k + 1 ≤ _; omega⟩
    · split at h
      · cases h; exact ⟨by show k < k + 1; omega, by show k + 1 ≤ _; omega⟩
      · split at h
        · simp only at h
          split at h
          · cases h
          · rename_i y hy
            split at h
            · cases h
            · cases h
              have := cls_lt p p.size _ (by omega) y hy
              refine ⟨?_, by show y.2 + 1 ≤ _; omega⟩
              show k < y.2 + 1
              split at this <;> omega
        · split at h
          · split at h
            · cases h; exact ⟨by show k < k + 2; omega, by show k + 2 ≤ _; omega⟩
            · cases h
          · cases h; exact ⟨by show k < k + 1; omega, by show k + 1 ≤ _; omega⟩
  · cases h

/-- all parts from a place on: each with where it begins. -/
def partsF (p : ByteArray) : Nat → Nat → Option (List (Nat × Part))
  | 0, k => if k < p.size then none else some []
  | n + 1, k =>
    if k < p.size then
      match partAt p k with
      | none => none
      | some x => (partsF p n x.2).map ((k, x.1) :: ·)
    else some []

theorem partsF_fuel (p : ByteArray) : ∀ (m n k : Nat), p.size ≤ n + k → p.size ≤ m + k → partsF p n k = partsF p m k := by
  intro m
  induction m with
  | zero =>
    intro n k h1 h2
    have hk : ¬ k < p.size := by omega
    cases n with
    | zero => rfl
    | succ n => simp only [partsF]; rw [if_neg hk, if_neg hk]
  | succ m ih =>
    intro n k h1 h2
    cases n with
    | zero =>
      have hk : ¬ k < p.size := by omega
      simp only [partsF]; rw [if_neg hk, if_neg hk]
    | succ n =>
      simp only [partsF]
      by_cases hk : k < p.size
      · rw [if_pos hk, if_pos hk]
        cases h : partAt p k with
        | none => rfl
        | some x =>
          have := partAt_lt h
          simp only
          rw [ih n x.2 (by omega) (by omega)]
      · rw [if_neg hk, if_neg hk]

def partsFrom (p : ByteArray) (k : Nat) : Option (List (Nat × Part)) := partsF p (p.size - k) k

theorem partsFrom_step (p : ByteArray) (k : Nat) : partsFrom p k =
    if k < p.size then
      match partAt p k with
      | none => none
      | some x => (partsFrom p x.2).map ((k, x.1) :: ·)
    else some [] := by
  unfold partsFrom
  by_cases hk : k < p.size
  · rw [if_pos hk]
    obtain ⟨m, hm⟩ : ∃ m, p.size - k = m + 1 := ⟨p.size - k - 1, by omega⟩
    rw [hm]
    simp only [partsF]
    rw [if_pos hk]
    cases h : partAt p k with
    | none => rfl
    | some x =>
      have := partAt_lt h
      simp only
      rw [partsF_fuel p (p.size - x.2) m x.2 (by omega) (by omega)]
  · rw [if_neg hk, show p.size - k = 0 by omega]
    simp only [partsF]
    rw [if_neg hk]

theorem partsF_length (p : ByteArray) : ∀ (n k : Nat) (l : List (Nat × Part)), partsF p n k = some l → l.length ≤ p.size - k
  | 0, k, l, h => by
    simp only [partsF] at h
    split at h
    · cases h
    · cases h; simp
  | n + 1, k, l, h => by
    simp only [partsF] at h
    split at h
    · cases hp : partAt p k with
      | none => rw [hp] at h; cases h
      | some x =>
        rw [hp] at h
        obtain ⟨r, hr, rfl⟩ := Option.map_eq_some_iff.1 h
        have h1 := partsF_length p n x.2 r hr
        have h2 := partAt_lt hp
        simp only [List.length_cons]
        omega
    · cases h; simp

theorem parts_length {p : ByteArray} {l : List (Nat × Part)} (h : partsFrom p 0 = some l) : l.length ≤ p.size := by
  have := partsF_length p _ 0 l h
  omega

/-- is there a pattern from a place on? -/
def okAt (p : ByteArray) (k : Nat) : Bool := (partsFrom p k).isSome

/-- CheckGlob's answer -/
def checkGlob (p : ByteArray) : Int := if 60 < p.size then 2 else if okAt p 0 then 0 else 1

/-- which beginnings of a text a pattern's parts match, one part more. -/
def nextRow (P : Part) (f : Nat → Bool) (s : ByteArray) : Nat → Bool
  | 0 => match P with
    | .star => f 0
    | _ => false
  | i + 1 => match P with
    | .star => f (i + 1) || nextRow P f s i
    | _ => f i && P.may (byteAt s i)

def matchRow (ps : List Part) (s : ByteArray) : Nat → Bool := ps.foldl (fun f P => nextRow P f s) (fun i => decide (i = 0))

theorem matchRow_snoc (ps : List Part) (P : Part) (s : ByteArray) : matchRow (ps ++ [P]) s = nextRow P (matchRow ps s) s := by simp [matchRow]

theorem matchRow_take {ps : List Part} {k : Nat} {P : Part} (h : ps[k]? = some P) (s : ByteArray) : matchRow (ps.take (k + 1)) s = nextRow P (matchRow (ps.take k) s) s := by
  rw [List.take_add_one, h, Option.toList_some, matchRow_snoc]
end Go.Proofs.YtkgbgmfidkimfaaGreat

namespace Go.Proofs.YtkgbgmfidkimfaaGreat
open Go.RowKit

theorem eqB (p s : ByteArray) : (p.toList == s.toList) = decide (p = s) := by
  by_cases h : p = s
  · subst h; simp
  · have : p.toList ≠ s.toList := fun e => h (by
      have := congrArg List.toArray e
      cases p; cases s
      simpa [ByteArray.toList_eq] using this)
    simp [h, this]

theorem byteAt_extract (p : ByteArray) (a b i : Nat) (hb : b ≤ p.size) (h : a + i < b) : byteAt (p.extract a b) i = byteAt p (a + i) := by
  unfold byteAt
  congr 1
  simp only [List.getD_eq_getElem?_getD, ByteArray.data_extract, Array.toList_extract]
  congr 1
  rw [List.extract_eq_take_drop, List.getElem?_take, if_pos (by omega), List.getElem?_drop]

theorem size_extract' (p : ByteArray) (a b : Nat) (hb : b ≤ p.size) : (p.extract a b).size = b - a := by simp; omega

end Go.Proofs.YtkgbgmfidkimfaaGreat

namespace Go.Proofs.YtkgbgmfidkimfaaGreat

/-- an item. -/
structure Itm where
  kind : Int
  text : ByteArray
  list : List ByteArray
  pairs : List (ByteArray × ByteArray)
  scores : List (Int × ByteArray)

/-- the order of texts: -1, 0 or 1. -/
def ordB (a b : ByteArray) : Int := Lib.compareBytes a.data.toList b.data.toList

/-- the order of what stands from i on. -/
def ordAt (a b : ByteArray) (i : Nat) : Int := Lib.compareBytes (a.data.toList.drop i) (b.data.toList.drop i)

theorem ordAt_zero (a b : ByteArray) : ordAt a b 0 = ordB a b := rfl

theorem drop_byte (a : ByteArray) (i : Nat) (h : i < a.size) : ∃ x : UInt8, a.data.toList.drop i = x :: a.data.toList.drop (i + 1) ∧ x.toNat = byteAt a i := by
  have hl : i < a.data.toList.length := by simpa using h
  refine ⟨a.data.toList[i], List.drop_eq_getElem_cons hl, ?_⟩
  unfold byteAt
  rw [List.getD_eq_getElem?_getD, List.getElem?_eq_getElem hl]
  rfl

theorem ordAt_step (a b : ByteArray) (i : Nat) (ha : i < a.size) (hb : i < b.size) :
    ordAt a b i = if byteAt a i < byteAt b i then -1 else if byteAt b i < byteAt a i then 1 else ordAt a b (i + 1) := by
  obtain ⟨x, hx, ex⟩ := drop_byte a i ha
  obtain ⟨y, hy, ey⟩ := drop_byte b i hb
  unfold ordAt
  rw [hx, hy, ← ex, ← ey]
  rfl

theorem ordAt_end (a b : ByteArray) (i : Nat) (ha : i ≤ a.size) (hb : i ≤ b.size) (h : ¬ (i < a.size ∧ i < b.size)) :
    ordAt a b i = if a.size < b.size then -1 else if b.size < a.size then 1 else 0 := by
  unfold ordAt
  by_cases h1 : i < a.size
  · have e : b.size = i := by omega
    obtain ⟨x, hx, _⟩ := drop_byte a i h1
    have hd : b.data.toList.drop i = [] := List.drop_of_length_le (by simp; omega)
    rw [hx, hd, if_neg (by omega), if_pos (by omega)]
    rfl
  · have e : a.size = i := by omega
    have hd : a.data.toList.drop i = [] := List.drop_of_length_le (by simp; omega)
    by_cases h2 : i < b.size
    · obtain ⟨y, hy, _⟩ := drop_byte b i h2
      rw [hd, hy, if_pos (by omega)]
      rfl
    · have hd2 : b.data.toList.drop i = [] := List.drop_of_length_le (by simp; omega)
      rw [hd, hd2, if_neg (by omega), if_neg (by omega)]
      rfl

/-- may a number be one? -/
def isInt (n : Int) : Bool := decide (-999999999 ≤ n) && decide (n ≤ 999999999)
end Go.Proofs.YtkgbgmfidkimfaaGreat

namespace Go.Proofs.YtkgbgmfidkimfaaGreat

def textsV (l : List ByteArray) : List Value := l.map .string
def pairsV (l : List (ByteArray × ByteArray)) : List Value := l.flatMap fun p => [.string p.1, .string p.2]
def scoresV (l : List (Int × ByteArray)) : List Value := l.flatMap fun p => [.int .i64 p.1, .string p.2]

/-- an item, in blocks below B. -/
def ItemV (w : World) (B : Nat) (v : Value) (x : Itm) : Prop :=
  ∃ A1 c1 A2 c2 A3 c3, v = .agg #[.int .i64 x.kind, .string x.text, .slice A1 x.list.length c1, .slice A2 x.pairs.length c2, .slice A3 x.scores.length c3] ∧
    Sl w B 1 (.slice A1 x.list.length c1) x.list.length (textsV x.list) ∧ Sl w B 2 (.slice A2 x.pairs.length c2) x.pairs.length (pairsV x.pairs) ∧ Sl w B 2 (.slice A3 x.scores.length c3) x.scores.length (scoresV x.scores)

/-- what no machine passes. -/
structure Itm.Small (x : Itm) : Prop where
  kind : -9223372036854775808 ≤ x.kind ∧ x.kind ≤ 9223372036854775807
  text : x.text.size ≤ 281474976710656
  list : x.list.length ≤ 281474976710656
  pairs : x.pairs.length ≤ 281474976710656
  scores : x.scores.length ≤ 281474976710656
  texts : ∀ s ∈ x.list, s.size ≤ 281474976710656
  fields : ∀ p ∈ x.pairs, p.1.size ≤ 281474976710656 ∧ p.2.size ≤ 281474976710656
  members : ∀ p ∈ x.scores, (-9223372036854775808 ≤ p.1 ∧ p.1 ≤ 9223372036854775807) ∧ p.2.size ≤ 281474976710656

theorem textsV_get (l : List ByteArray) (i : Nat) (s : ByteArray) (h : l[i]? = some s) : (textsV l)[i]? = some (.string s) := by
  simp [textsV, h]
theorem textsV_length (l : List ByteArray) : (textsV l).length = l.length := by simp [textsV]

theorem pairsV_get : ∀ (l : List (ByteArray × ByteArray)) (i : Nat) (p : ByteArray × ByteArray), l[i]? = some p → (pairsV l)[2 * i]? = some (.string p.1) ∧ (pairsV l)[2 * i + 1]? = some (.string p.2)
  | [], i, p, h => by simp at h
  | q :: l, 0, p, h => by
    simp only [List.getElem?_cons_zero, Option.some.injEq] at h
    subst h
    exact ⟨rfl, rfl⟩
  | q :: l, i + 1, p, h => by
    have := pairsV_get l i p (by simpa using h)
    rw [show 2 * (i + 1) = 2 * i + 1 + 1 by omega]
    exact ⟨by simpa [pairsV] using this.1, by simpa [pairsV] using this.2⟩
theorem pairsV_length : ∀ l : List (ByteArray × ByteArray), (pairsV l).length = 2 * l.length
  | [] => rfl
  | q :: l => by
    have := pairsV_length l
    simp only [pairsV, List.flatMap_cons, List.length_append, List.length_cons, List.length_nil] at this ⊢
    omega
theorem scoresV_get : ∀ (l : List (Int × ByteArray)) (i : Nat) (p : Int × ByteArray), l[i]? = some p → (scoresV l)[2 * i]? = some (.int .i64 p.1) ∧ (scoresV l)[2 * i + 1]? = some (.string p.2)
  | [], i, p, h => by simp at h
  | q :: l, 0, p, h => by
    simp only [List.getElem?_cons_zero, Option.some.injEq] at h
    subst h
    exact ⟨rfl, rfl⟩
  | q :: l, i + 1, p, h => by
    have := scoresV_get l i p (by simpa using h)
    rw [show 2 * (i + 1) = 2 * i + 1 + 1 by omega]
    exact ⟨by simpa [scoresV] using this.1, by simpa [scoresV] using this.2⟩
theorem scoresV_length : ∀ l : List (Int × ByteArray), (scoresV l).length = 2 * l.length
  | [] => rfl
  | q :: l => by
    have := scoresV_length l
    simp only [scoresV, List.flatMap_cons, List.length_append, List.length_cons, List.length_nil] at this ⊢
    omega

theorem ItemV.keep {w w' : World} {B : Nat} {v : Value} {x : Itm} (h : ItemV w B v x) (hk : ∀ p : Addr, p.block < B → w'.cell? p = w.cell? p) : ItemV w' B v x := by
  obtain ⟨A1, c1, A2, c2, A3, c3, e, h1, h2, h3⟩ := h
  exact ⟨A1, c1, A2, c2, A3, c3, e, h1.keep hk, h2.keep hk, h3.keep hk⟩
theorem ItemV.fr {w w' : World} {B : Nat} {S : List Nat} {v : Value} {x : Itm} (h : ItemV w B v x) (hf : Fr S w w') (hB : B ≤ w.heap.size) (hS : ∀ k, k ∈ S → B ≤ k) : ItemV w' B v x :=
  h.keep fun _ hp => (hf.belowOf hB hS).cell hp
theorem ItemV.more {w : World} {B B' : Nat} {v : Value} {x : Itm} (h : ItemV w B v x) (hB : B ≤ B') : ItemV w B' v x := by
  obtain ⟨A1, c1, A2, c2, A3, c3, e, h1, h2, h3⟩ := h
  exact ⟨A1, c1, A2, c2, A3, c3, e, h1.more hB, h2.more hB, h3.more hB⟩

/-- the address of a slice that has an element. -/
theorem Sl.at_ {w : World} {B size n c : Nat} {A : Option Addr} {xs : List Value} (h : Sl w B size (.slice A n c) n xs) (hn : 0 < n) :
    ∃ b off, A = some ⟨b, off, none⟩ ∧ b < B ∧ n ≤ c ∧ c ≤ maxLen ∧ ∀ j u, xs[j]? = some u → w.cell? ⟨b, off + j, none⟩ = some u := by
  obtain ⟨A', c', e, hl, hc, hm, hr⟩ := h
  cases e
  obtain ⟨b, off, e2, hb, hcell⟩ := hr hn
  exact ⟨b, off, e2, hb, hc, hm, hcell⟩

/-- an item that names nothing but its kind's. -/
def bareB (x : Itm) : Bool :=
  (x.kind == 1 || x.text.size == 0) && (x.kind == 2 || x.kind == 3 || x.list.length == 0) && (x.kind == 4 || x.pairs.length == 0) && (x.kind == 5 || x.scores.length == 0)
def many (x : Itm) : Nat := x.list.length + x.pairs.length + x.scores.length
end Go.Proofs.YtkgbgmfidkimfaaGreat

namespace Go.Proofs.YtkgbgmfidkimfaaGreat
open Go.RowKit

section
variable {w w' : World} {base e size n : Nat} {v : Value} {xs : List Value}

theorem own_ne {b T : Nat} {cs : List Value} (h : w.ownsRow base e size v n xs) (hw : Whole w b T cs) (hT : T ≠ e) : v.ownBlock ≠ some b := by
  rcases h.2 with ⟨rfl, _⟩ | ⟨g, cap, cur, rfl, _, hg, _⟩
  · simp [Value.ownBlock]
  · intro he
    have : g = b := by simpa [Value.ownBlock] using he
    subst this
    unfold Whole at hw
    rw [hg] at hw
    injection hw with hw
    injection hw with _ ht
    exact hT ht.symm

theorem own_own {base' e' size' n' : Nat} {v' : Value} {xs' : List Value} (h : w.ownsRow base e size v n xs) (h' : w.ownsRow base' e' size' v' n' xs') (hT : e ≠ e') : v.ownBlock = none ∨ v.ownBlock ≠ v'.ownBlock := by
  rcases h.2 with ⟨rfl, _⟩ | ⟨g, cap, cur, rfl, _, hg, _⟩
  · exact .inl rfl
  · refine .inr fun he => ?_
    rcases h'.2 with ⟨rfl, _⟩ | ⟨g', cap', cur', rfl, _, hg', _⟩
    · simp [Value.ownBlock] at he
    · have : g = g' := by simpa [Value.ownBlock] using he
      subst this
      rw [hg] at hg'
      injection hg' with hg'
      injection hg' with _ ht
      exact hT ht

theorem own_fr {S : List Nat} (h : w.ownsRow base e size v n xs) (hf : Fr S w w') (hn : ∀ k, v.ownBlock = some k → k ∉ S) : w'.ownsRow base e size v n xs := by
  refine ⟨h.1, ?_⟩
  rcases h.2 with hz | ⟨g, cap, cur, rfl, hb, hgg, rest⟩
  · exact .inl hz
  · refine .inr ⟨g, cap, cur, rfl, hb, ?_, rest⟩
    rw [hf.block g (Array.getElem?_eq_some_iff.1 hgg).1 (hn g rfl)]
    exact hgg

theorem own_set {p : Addr} (u : Value) (h : w.ownsRow base e size v n xs) (hn : v.ownBlock ≠ some p.block) : (w.setCell p u).ownsRow base e size v n xs :=
  h.kept (row := some p.block) ⟨rfl, rfl, rfl, by simp [World.setCell], fun k _ hk => Below.heap_setCell _ _ _ _ (fun e => hk (by simp [e]))⟩ (Or.inr hn)

/-- an owned row as a slice that reads. -/
theorem own_sl (h : w.ownsRow base e size v n xs) : Sl w w.heap.size size v n xs := by
  rcases h.2 with ⟨rfl, rfl⟩ | ⟨g, cap, cur, rfl, hb, hgg, hnc, hcm, hcs, ht⟩
  · have : xs = [] := List.eq_nil_of_length_eq_zero (by have := h.1; omega)
    subst this
    exact Sl.nil _ _ _
  · exact ⟨_, cap, rfl, h.1, hnc, hcm, fun _ => ⟨g, 0, rfl, (Array.getElem?_eq_some_iff.1 hgg).1, fun j u hu => by
      have := h.cells (g := g) rfl j u hu
      rw [Nat.zero_add]
      unfold Addr.add at this
      split at this
      · have e : j = 0 := by assumption
        rw [e]; exact this
      · simpa using this⟩⟩
end

/-- from world a to world b: of the old blocks at most those of S, and those from B on, have turned. -/
structure FrB (S : List Nat) (B : Nat) (a b : World) : Prop where
  os : b.os = a.os
  tape : b.tape = a.tape
  output : b.output = a.output
  size : a.heap.size ≤ b.heap.size
  block : ∀ k, k < a.heap.size → k < B → k ∉ S → b.heap[k]? = a.heap[k]?

section
variable {a b c w w' : World} {S T : List Nat} {B : Nat}
theorem Fr.toB (h : Fr S a b) (B : Nat) : FrB S B a b := ⟨h.os, h.tape, h.output, h.size, fun k hk _ hn => h.block k hk hn⟩
theorem FrB.refl (S : List Nat) (B : Nat) (w : World) : FrB S B w w := ⟨rfl, rfl, rfl, Nat.le_refl _, fun _ _ _ _ => rfl⟩
theorem FrB.trans (h : FrB S B a b) (k : FrB S B b c) : FrB S B a c :=
  ⟨k.os.trans h.os, k.tape.trans h.tape, k.output.trans h.output, Nat.le_trans h.size k.size, fun i hi hB hn => (k.block i (Nat.lt_of_lt_of_le hi h.size) hB hn).trans (h.block i hi hB hn)⟩
theorem FrB.more (h : FrB S B a b) (hs : ∀ k, k ∈ S → k ∈ T ∨ B ≤ k) : FrB T B a b :=
  ⟨h.os, h.tape, h.output, h.size, fun i hi hB hn => h.block i hi hB (fun hm => by
    rcases hs i hm with hT | hT
    · exact hn hT
    · omega)⟩
theorem FrB.alloc (h : FrB S B a b) (o : Obj) : FrB S B a (b.alloc o) :=
  ⟨h.os, h.tape, h.output, Nat.le_trans h.size (by simp), fun i hi hB hn => (Below.heap_alloc b o i (Nat.lt_of_lt_of_le hi h.size)).trans (h.block i hi hB hn)⟩
theorem FrB.setCell (h : FrB S B a b) {p : Addr} (hp : p.block ∈ S ∨ B ≤ p.block) (u : Value) : FrB S B a (b.setCell p u) :=
  ⟨h.os, h.tape, h.output, by simpa [World.setCell] using h.size, fun i hi hB hn => (Below.heap_setCell b p u i (by
    rintro rfl
    rcases hp with hp | hp
    · exact hn hp
    · omega)).trans (h.block i hi hB hn)⟩
theorem FrB.grown (h : FrB S B a b) {row : Option Nat} (hg : b.grownBy c row) (hr : ∀ k, row = some k → k ∈ S ∨ B ≤ k) : FrB S B a c :=
  ⟨hg.os.trans h.os, hg.tape.trans h.tape, hg.output.trans h.output, Nat.le_trans h.size hg.size, fun i hi hB hn => (hg.block i (Nat.lt_of_lt_of_le hi h.size) (fun e => by
    rcases hr i e.symm with h1 | h1
    · exact hn h1
    · omega)).trans (h.block i hi hB hn)⟩
theorem FrB.drewN (h : FrB S B a b) (n : Nat) : FrB S B a (b.drewN n) := ⟨h.os, h.tape, h.output, h.size, h.block⟩
theorem FrB.drew (h : FrB S B a b) : FrB S B a b.drew := ⟨h.os, h.tape, h.output, h.size, h.block⟩
/-- all that was there when B was the heap's size. -/
theorem FrB.fr (h : FrB S B a b) (hB : a.heap.size ≤ B) : Fr S a b := ⟨h.os, h.tape, h.output, h.size, fun k hk hn => h.block k hk (by omega) hn⟩
theorem FrB.whole {g t : Nat} {cs : List Value} (h : FrB S B w w') (hw : Whole w g t cs) (hB : g < B) (hn : g ∉ S) : Whole w' g t cs := (h.block g hw.lt hB hn).trans hw
theorem FrB.belowOf (h : FrB S B a b) {D : Nat} (hD : D ≤ a.heap.size) (hDB : D ≤ B) (hS : ∀ k, k ∈ S → D ≤ k) : Below D a b :=
  ⟨h.os, h.tape, h.output, h.size, fun i hi => h.block i (by omega) (by omega) (fun hm => by have := hS i hm; omega)⟩
end
end Go.Proofs.YtkgbgmfidkimfaaGreat
