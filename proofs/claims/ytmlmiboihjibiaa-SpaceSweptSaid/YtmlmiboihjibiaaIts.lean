/- Rows of items: what a slice of items reads as. -/
import Derived.Test.YtmlmiboihjibiaaBase
import Derived.Test.YtmlmiboihjibiaaItf
set_option linter.unusedVariables false
set_option linter.unusedSimpArgs false
namespace Go.Proofs.Ytmlmiboihjibiaa
open Go.RowKit

def ItemsV (w : World) (B : Nat) (v : Value) (l : List Itm) : Prop :=
  ∃ A c, ∃ rs : List (List Value), v = .slice A l.length c ∧ rs.length = l.length ∧ (∀ (i : Nat) (x : Itm), l[i]? = some x → ∃ cs : List Value, rs[i]? = some cs ∧ cs.length = 5 ∧ ItemV w B (.agg cs.toArray) x) ∧ Sl w B 5 v l.length rs.flatten

theorem flat5 : ∀ (rs : List (List Value)) (i j : Nat) (cs : List Value), (∀ c ∈ rs, c.length = 5) → rs[i]? = some cs → j < 5 → rs.flatten[i * 5 + j]? = cs[j]?
  | [], i, j, cs, _, h, _ => by simp at h
  | r :: rs, 0, j, cs, hl, h, hj => by
    simp at h
    subst h
    rw [Nat.zero_mul, Nat.zero_add, List.flatten_cons, List.getElem?_append_left (by rw [hl r (by simp)]; exact hj)]
  | r :: rs, i + 1, j, cs, hl, h, hj => by
    have hr := hl r (by simp)
    rw [List.flatten_cons, List.getElem?_append_right (by omega), hr, show (i + 1) * 5 + j - 5 = i * 5 + j from by omega]
    exact flat5 rs i j cs (fun c hc => hl c (by simp [hc])) (by simpa using h) hj

/-- the five cells of an item at a place. -/
structure At5 (w : World) (B b o : Nat) (x : Itm) (A1 A2 A3 : Option Addr) (c1 c2 c3 : Nat) : Prop where
  k0 : w.cell? ⟨b, o, none⟩ = some (.int .i64 x.kind)
  k1 : w.cell? ⟨b, o + 1, none⟩ = some (.string x.text)
  k2 : w.cell? ⟨b, o + 2, none⟩ = some (.slice A1 x.list.length c1)
  k3 : w.cell? ⟨b, o + 3, none⟩ = some (.slice A2 x.pairs.length c2)
  k4 : w.cell? ⟨b, o + 4, none⟩ = some (.slice A3 x.scores.length c3)
  s1 : Sl w B 1 (.slice A1 x.list.length c1) x.list.length (textsV x.list)
  s2 : Sl w B 2 (.slice A2 x.pairs.length c2) x.pairs.length (pairsV x.pairs)
  s3 : Sl w B 2 (.slice A3 x.scores.length c3) x.scores.length (scoresV x.scores)
theorem At5.item {w : World} {B b o : Nat} {x : Itm} {A1 A2 A3 : Option Addr} {c1 c2 c3 : Nat} (h : At5 w B b o x A1 A2 A3 c1 c2 c3) : ItemV w B (.agg #[.int .i64 x.kind, .string x.text, .slice A1 x.list.length c1, .slice A2 x.pairs.length c2, .slice A3 x.scores.length c3]) x :=
  ⟨A1, c1, A2, c2, A3, c3, rfl, h.s1, h.s2, h.s3⟩
theorem At5.fr {w w' : World} {B b o : Nat} {x : Itm} {A1 A2 A3 : Option Addr} {c1 c2 c3 : Nat} {S : List Nat} (h : At5 w B b o x A1 A2 A3 c1 c2 c3) (hf : Fr S w w') (hb : b < B) (hB : B ≤ w.heap.size) (hS : ∀ k, k ∈ S → B ≤ k) : At5 w' B b o x A1 A2 A3 c1 c2 c3 := by
  have hn : b ∉ S := fun hm => by have := hS b hm; omega
  exact ⟨hf.cell h.k0 hn, hf.cell h.k1 hn, hf.cell h.k2 hn, hf.cell h.k3 hn, hf.cell h.k4 hn, h.s1.fr hf hB hS, h.s2.fr hf hB hS, h.s3.fr hf hB hS⟩

theorem ItemsV.form {w : World} {B : Nat} {v : Value} {l : List Itm} (h : ItemsV w B v l) : ∃ A c, v = .slice A l.length c := by
  obtain ⟨A, c, rs, rfl, _⟩ := h
  exact ⟨A, c, rfl⟩
/-- a row that is not empty: where it lies, and each item's cells. -/
theorem ItemsV.at_ {w : World} {B : Nat} {A : Option Addr} {c : Nat} {l : List Itm} (h : ItemsV w B (.slice A l.length c) l) (hn : 0 < l.length) :
    ∃ b off, A = some ⟨b, off, none⟩ ∧ b < B ∧ l.length ≤ c ∧ c ≤ maxLen ∧ ∀ (i : Nat) (x : Itm), l[i]? = some x → ∃ A1 A2 A3 c1 c2 c3, At5 w B b (off + i * 5) x A1 A2 A3 c1 c2 c3 := by
  obtain ⟨A', c', rs, hv, hl, hi, hs⟩ := h
  cases hv
  obtain ⟨b, off, rfl, hb, hc, hm, hcell⟩ := hs.at_ hn
  refine ⟨b, off, rfl, hb, hc, hm, fun i x hx => ?_⟩
  obtain ⟨cs, hcs, h5, hit⟩ := hi i x hx
  have all5 : ∀ c ∈ rs, c.length = 5 := fun c hc => by
    obtain ⟨j, hj, rfl⟩ := List.getElem_of_mem hc
    obtain ⟨d, hd, h5', _⟩ := hi j _ (List.getElem?_eq_getElem (show j < l.length by omega))
    rw [List.getElem?_eq_getElem hj] at hd
    cases hd
    exact h5'
  obtain ⟨A1, c1, A2, c2, A3, c3, he, s1, s2, s3⟩ := hit
  have he' : cs = [.int .i64 x.kind, .string x.text, .slice A1 x.list.length c1, .slice A2 x.pairs.length c2, .slice A3 x.scores.length c3] := by
    have := congrArg Array.toList (Value.agg.inj he)
    simpa using this
  subst he'
  have g : ∀ j u, j < 5 → [Value.int .i64 x.kind, .string x.text, .slice A1 x.list.length c1, .slice A2 x.pairs.length c2, .slice A3 x.scores.length c3][j]? = some u → w.cell? ⟨b, off + (i * 5 + j), none⟩ = some u := fun j u hj hu =>
    hcell _ _ (by rw [flat5 rs i j _ all5 hcs hj]; exact hu)
  exact ⟨A1, A2, A3, c1, c2, c3, g 0 _ (by decide) rfl, by rw [Nat.add_assoc]; exact g 1 _ (by decide) rfl, by rw [Nat.add_assoc]; exact g 2 _ (by decide) rfl, by rw [Nat.add_assoc]; exact g 3 _ (by decide) rfl, by rw [Nat.add_assoc]; exact g 4 _ (by decide) rfl, s1, s2, s3⟩
theorem ItemsV.fr {w w' : World} {B : Nat} {S : List Nat} {v : Value} {l : List Itm} (h : ItemsV w B v l) (hf : Fr S w w') (hB : B ≤ w.heap.size) (hS : ∀ k, k ∈ S → B ≤ k) : ItemsV w' B v l := by
  obtain ⟨A, c, rs, rfl, hl, hi, hs⟩ := h
  exact ⟨A, c, rs, rfl, hl, fun i x hx => by
    obtain ⟨cs, h1, h2, h3⟩ := hi i x hx
    exact ⟨cs, h1, h2, h3.fr hf hB hS⟩, hs.fr hf hB hS⟩
theorem ItemsV.more {w : World} {B B' : Nat} {v : Value} {l : List Itm} (h : ItemsV w B v l) (hB : B ≤ B') : ItemsV w B' v l := by
  obtain ⟨A, c, rs, rfl, hl, hi, hs⟩ := h
  exact ⟨A, c, rs, rfl, hl, fun i x hx => by
    obtain ⟨cs, h1, h2, h3⟩ := hi i x hx
    exact ⟨cs, h1, h2, h3.more hB⟩, hs.more hB⟩
theorem ItemsV.nil (w : World) (B : Nat) : ItemsV w B (.slice none 0 0) [] := ⟨none, 0, [], rfl, rfl, fun i x h => by simp at h, Sl.nil _ _ _⟩
end Go.Proofs.Ytmlmiboihjibiaa
