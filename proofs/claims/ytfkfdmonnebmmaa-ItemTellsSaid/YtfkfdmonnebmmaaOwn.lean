/- Rows that a call owns: which steps leave them. No program in sight. -/
import Derived.Test.YtfkfdmonnebmmaaItemM
import Derived.Maps.AppendAt
import Derived.Deep.AppendLies
set_option linter.unusedVariables false
set_option linter.unusedSimpArgs false
namespace Go.Proofs.Ytfkfdmonnebmmaa
open Go.RowKit

section
variable {w w' : World} {base e size n : Nat} {v : Value} {xs : List Value}

theorem own_ne {b T : Nat} {cs : List Value} (h : w.ownsRow base e size v n xs) (hw : Whole w b T cs) (hT : T ≠ e) : v.ownBlock ≠ some b := by
  rcases h.2 with ⟨rfl, _⟩ | ⟨g, cap, cur, rfl, _, hg, _⟩
  · simp [Value.ownBlock]
  · intro he
    have : g = b := by simpa [Value.ownBlock] using he
    subst this
    unfold Whole at hw
    rw [hg] at hw
    injection hw with hw
    injection hw with _ ht
    exact hT ht.symm

theorem own_own {base' e' size' n' : Nat} {v' : Value} {xs' : List Value} (h : w.ownsRow base e size v n xs) (h' : w.ownsRow base' e' size' v' n' xs') (hT : e ≠ e') : v.ownBlock = none ∨ v.ownBlock ≠ v'.ownBlock := by
  rcases h.2 with ⟨rfl, _⟩ | ⟨g, cap, cur, rfl, _, hg, _⟩
  · exact .inl rfl
  · refine .inr fun he => ?_
    rcases h'.2 with ⟨rfl, _⟩ | ⟨g', cap', cur', rfl, _, hg', _⟩
    · simp [Value.ownBlock] at he
    · have : g = g' := by simpa [Value.ownBlock] using he
      subst this
      rw [hg] at hg'
      injection hg' with hg'
      injection hg' with _ ht
      exact hT ht

theorem own_fr {S : List Nat} (h : w.ownsRow base e size v n xs) (hf : Fr S w w') (hn : ∀ k, v.ownBlock = some k → k ∉ S) : w'.ownsRow base e size v n xs := by
  refine ⟨h.1, ?_⟩
  rcases h.2 with hz | ⟨g, cap, cur, rfl, hb, hgg, rest⟩
  · exact .inl hz
  · refine .inr ⟨g, cap, cur, rfl, hb, ?_, rest⟩
    rw [hf.block g (Array.getElem?_eq_some_iff.1 hgg).1 (hn g rfl)]
    exact hgg

theorem own_set {p : Addr} (u : Value) (h : w.ownsRow base e size v n xs) (hn : v.ownBlock ≠ some p.block) : (w.setCell p u).ownsRow base e size v n xs :=
  h.kept (row := some p.block) ⟨rfl, rfl, rfl, by simp [World.setCell], fun k _ hk => Below.heap_setCell _ _ _ _ (fun e => hk (by simp [e]))⟩ (Or.inr hn)

/-- an owned row as a slice that reads. -/
theorem own_sl (h : w.ownsRow base e size v n xs) : Sl w w.heap.size size v n xs := by
  rcases h.2 with ⟨rfl, rfl⟩ | ⟨g, cap, cur, rfl, hb, hgg, hnc, hcm, hcs, ht⟩
  · have : xs = [] := List.eq_nil_of_length_eq_zero (by have := h.1; omega)
    subst this
    exact Sl.nil _ _ _
  · exact ⟨_, cap, rfl, h.1, hnc, hcm, fun _ => ⟨g, 0, rfl, (Array.getElem?_eq_some_iff.1 hgg).1, fun j u hu => by
      have := h.cells (g := g) rfl j u hu
      rw [Nat.zero_add]
      unfold Addr.add at this
      split at this
      · have e : j = 0 := by assumption
        rw [e]; exact this
      · simpa using this⟩⟩
end

/-- from world a to world b: of the old blocks at most those of S, and those from B on, have turned. -/
structure FrB (S : List Nat) (B : Nat) (a b : World) : Prop where
  os : b.os = a.os
  tape : b.tape = a.tape
  output : b.output = a.output
  size : a.heap.size ≤ b.heap.size
  block : ∀ k, k < a.heap.size → k < B → k ∉ S → b.heap[k]? = a.heap[k]?

section
variable {a b c w w' : World} {S T : List Nat} {B : Nat}
theorem Fr.toB (h : Fr S a b) (B : Nat) : FrB S B a b := ⟨h.os, h.tape, h.output, h.size, fun k hk _ hn => h.block k hk hn⟩
theorem FrB.refl (S : List Nat) (B : Nat) (w : World) : FrB S B w w := ⟨rfl, rfl, rfl, Nat.le_refl _, fun _ _ _ _ => rfl⟩
theorem FrB.trans (h : FrB S B a b) (k : FrB S B b c) : FrB S B a c :=
  ⟨k.os.trans h.os, k.tape.trans h.tape, k.output.trans h.output, Nat.le_trans h.size k.size, fun i hi hB hn => (k.block i (Nat.lt_of_lt_of_le hi h.size) hB hn).trans (h.block i hi hB hn)⟩
theorem FrB.more (h : FrB S B a b) (hs : ∀ k, k ∈ S → k ∈ T ∨ B ≤ k) : FrB T B a b :=
  ⟨h.os, h.tape, h.output, h.size, fun i hi hB hn => h.block i hi hB (fun hm => by
    rcases hs i hm with hT | hT
    · exact hn hT
    · omega)⟩
theorem FrB.alloc (h : FrB S B a b) (o : Obj) : FrB S B a (b.alloc o) :=
  ⟨h.os, h.tape, h.output, Nat.le_trans h.size (by simp), fun i hi hB hn => (Below.heap_alloc b o i (Nat.lt_of_lt_of_le hi h.size)).trans (h.block i hi hB hn)⟩
theorem FrB.setCell (h : FrB S B a b) {p : Addr} (hp : p.block ∈ S ∨ B ≤ p.block) (u : Value) : FrB S B a (b.setCell p u) :=
  ⟨h.os, h.tape, h.output, by simpa [World.setCell] using h.size, fun i hi hB hn => (Below.heap_setCell b p u i (by
    rintro rfl
    rcases hp with hp | hp
    · exact hn hp
    · omega)).trans (h.block i hi hB hn)⟩
theorem FrB.grown (h : FrB S B a b) {row : Option Nat} (hg : b.grownBy c row) (hr : ∀ k, row = some k → k ∈ S ∨ B ≤ k) : FrB S B a c :=
  ⟨hg.os.trans h.os, hg.tape.trans h.tape, hg.output.trans h.output, Nat.le_trans h.size hg.size, fun i hi hB hn => (hg.block i (Nat.lt_of_lt_of_le hi h.size) (fun e => by
    rcases hr i e.symm with h1 | h1
    · exact hn h1
    · omega)).trans (h.block i hi hB hn)⟩
theorem FrB.drewN (h : FrB S B a b) (n : Nat) : FrB S B a (b.drewN n) := ⟨h.os, h.tape, h.output, h.size, h.block⟩
theorem FrB.drew (h : FrB S B a b) : FrB S B a b.drew := ⟨h.os, h.tape, h.output, h.size, h.block⟩
/-- all that was there when B was the heap's size. -/
theorem FrB.fr (h : FrB S B a b) (hB : a.heap.size ≤ B) : Fr S a b := ⟨h.os, h.tape, h.output, h.size, fun k hk hn => h.block k hk (by omega) hn⟩
theorem FrB.whole {g t : Nat} {cs : List Value} (h : FrB S B w w') (hw : Whole w g t cs) (hB : g < B) (hn : g ∉ S) : Whole w' g t cs := (h.block g hw.lt hB hn).trans hw
theorem FrB.belowOf (h : FrB S B a b) {D : Nat} (hD : D ≤ a.heap.size) (hDB : D ≤ B) (hS : ∀ k, k ∈ S → D ≤ k) : Below D a b :=
  ⟨h.os, h.tape, h.output, h.size, fun i hi => h.block i (by omega) (by omega) (fun hm => by have := hS i hm; omega)⟩
end
end Go.Proofs.Ytfkfdmonnebmmaa
