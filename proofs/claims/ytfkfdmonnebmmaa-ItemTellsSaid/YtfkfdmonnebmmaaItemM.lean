/- Items as they lie in memory. No program in sight. -/
import Derived.Test.YtfkfdmonnebmmaaMem
import Derived.Test.YtfkfdmonnebmmaaItemA
set_option linter.unusedVariables false
set_option linter.unusedSimpArgs false
namespace Go.Proofs.Ytfkfdmonnebmmaa

def textsV (l : List ByteArray) : List Value := l.map .string
def pairsV (l : List (ByteArray × ByteArray)) : List Value := l.flatMap fun p => [.string p.1, .string p.2]
def scoresV (l : List (Int × ByteArray)) : List Value := l.flatMap fun p => [.int .i64 p.1, .string p.2]

/-- an item, in blocks below B. -/
def ItemV (w : World) (B : Nat) (v : Value) (x : Itm) : Prop :=
  ∃ A1 c1 A2 c2 A3 c3, v = .agg #[.int .i64 x.kind, .string x.text, .slice A1 x.list.length c1, .slice A2 x.pairs.length c2, .slice A3 x.scores.length c3] ∧
    Sl w B 1 (.slice A1 x.list.length c1) x.list.length (textsV x.list) ∧ Sl w B 2 (.slice A2 x.pairs.length c2) x.pairs.length (pairsV x.pairs) ∧ Sl w B 2 (.slice A3 x.scores.length c3) x.scores.length (scoresV x.scores)

/-- what no machine passes. -/
structure Itm.Small (x : Itm) : Prop where
  kind : -9223372036854775808 ≤ x.kind ∧ x.kind ≤ 9223372036854775807
  text : x.text.size ≤ 281474976710656
  list : x.list.length ≤ 281474976710656
  pairs : x.pairs.length ≤ 281474976710656
  scores : x.scores.length ≤ 281474976710656
  texts : ∀ s ∈ x.list, s.size ≤ 281474976710656
  fields : ∀ p ∈ x.pairs, p.1.size ≤ 281474976710656 ∧ p.2.size ≤ 281474976710656
  members : ∀ p ∈ x.scores, (-9223372036854775808 ≤ p.1 ∧ p.1 ≤ 9223372036854775807) ∧ p.2.size ≤ 281474976710656

theorem textsV_get (l : List ByteArray) (i : Nat) (s : ByteArray) (h : l[i]? = some s) : (textsV l)[i]? = some (.string s) := by
  simp [textsV, h]
theorem textsV_length (l : List ByteArray) : (textsV l).length = l.length := by simp [textsV]

theorem pairsV_get : ∀ (l : List (ByteArray × ByteArray)) (i : Nat) (p : ByteArray × ByteArray), l[i]? = some p → (pairsV l)[2 * i]? = some (.string p.1) ∧ (pairsV l)[2 * i + 1]? = some (.string p.2)
  | [], i, p, h => by simp at h
  | q :: l, 0, p, h => by
    simp only [List.getElem?_cons_zero, Option.some.injEq] at h
    subst h
    exact ⟨rfl, rfl⟩
  | q :: l, i + 1, p, h => by
    have := pairsV_get l i p (by simpa using h)
    rw [show 2 * (i + 1) = 2 * i + 1 + 1 by omega]
    exact ⟨by simpa [pairsV] using this.1, by simpa [pairsV] using this.2⟩
theorem pairsV_length : ∀ l : List (ByteArray × ByteArray), (pairsV l).length = 2 * l.length
  | [] => rfl
  | q :: l => by
    have := pairsV_length l
    simp only [pairsV, List.flatMap_cons, List.length_append, List.length_cons, List.length_nil] at this ⊢
    omega
theorem scoresV_get : ∀ (l : List (Int × ByteArray)) (i : Nat) (p : Int × ByteArray), l[i]? = some p → (scoresV l)[2 * i]? = some (.int .i64 p.1) ∧ (scoresV l)[2 * i + 1]? = some (.string p.2)
  | [], i, p, h => by simp at h
  | q :: l, 0, p, h => by
    simp only [List.getElem?_cons_zero, Option.some.injEq] at h
    subst h
    exact ⟨rfl, rfl⟩
  | q :: l, i + 1, p, h => by
    have := scoresV_get l i p (by simpa using h)
    rw [show 2 * (i + 1) = 2 * i + 1 + 1 by omega]
    exact ⟨by simpa [scoresV] using this.1, by simpa [scoresV] using this.2⟩
theorem scoresV_length : ∀ l : List (Int × ByteArray), (scoresV l).length = 2 * l.length
  | [] => rfl
  | q :: l => by
    have := scoresV_length l
    simp only [scoresV, List.flatMap_cons, List.length_append, List.length_cons, List.length_nil] at this ⊢
    omega

theorem ItemV.keep {w w' : World} {B : Nat} {v : Value} {x : Itm} (h : ItemV w B v x) (hk : ∀ p : Addr, p.block < B → w'.cell? p = w.cell? p) : ItemV w' B v x := by
  obtain ⟨A1, c1, A2, c2, A3, c3, e, h1, h2, h3⟩ := h
  exact ⟨A1, c1, A2, c2, A3, c3, e, h1.keep hk, h2.keep hk, h3.keep hk⟩
theorem ItemV.fr {w w' : World} {B : Nat} {S : List Nat} {v : Value} {x : Itm} (h : ItemV w B v x) (hf : Fr S w w') (hB : B ≤ w.heap.size) (hS : ∀ k, k ∈ S → B ≤ k) : ItemV w' B v x :=
  h.keep fun _ hp => (hf.belowOf hB hS).cell hp
theorem ItemV.more {w : World} {B B' : Nat} {v : Value} {x : Itm} (h : ItemV w B v x) (hB : B ≤ B') : ItemV w B' v x := by
  obtain ⟨A1, c1, A2, c2, A3, c3, e, h1, h2, h3⟩ := h
  exact ⟨A1, c1, A2, c2, A3, c3, e, h1.more hB, h2.more hB, h3.more hB⟩

/-- the address of a slice that has an element. -/
theorem Sl.at_ {w : World} {B size n c : Nat} {A : Option Addr} {xs : List Value} (h : Sl w B size (.slice A n c) n xs) (hn : 0 < n) :
    ∃ b off, A = some ⟨b, off, none⟩ ∧ b < B ∧ n ≤ c ∧ c ≤ maxLen ∧ ∀ j u, xs[j]? = some u → w.cell? ⟨b, off + j, none⟩ = some u := by
  obtain ⟨A', c', e, hl, hc, hm, hr⟩ := h
  cases e
  obtain ⟨b, off, e2, hb, hcell⟩ := hr hn
  exact ⟨b, off, e2, hb, hc, hm, hcell⟩

/-- an item that names nothing but its kind's. -/
def bareB (x : Itm) : Bool :=
  (x.kind == 1 || x.text.size == 0) && (x.kind == 2 || x.kind == 3 || x.list.length == 0) && (x.kind == 4 || x.pairs.length == 0) && (x.kind == 5 || x.scores.length == 0)
def many (x : Itm) : Nat := x.list.length + x.pairs.length + x.scores.length
end Go.Proofs.Ytfkfdmonnebmmaa
