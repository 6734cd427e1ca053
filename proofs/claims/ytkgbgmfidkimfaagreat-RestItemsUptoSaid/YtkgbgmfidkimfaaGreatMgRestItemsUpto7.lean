/- Several sets: how often a text stands in them, and which are chosen; what a map that counts holds. No walk. Rows of items: what a slice of items reads as. -/
import Derived.Test.YtkgbgmfidkimfaaGreatMgRestItemsUpto18
import Derived.Test.YtkgbgmfidkimfaaGreatMgRestItemsUpto1
import Derived.Maps.OwnOps
import Derived.Maps.RangeWalk
import Derived.Test.YtkgbgmfidkimfaaGreatBase
import Derived.Test.YtkgbgmfidkimfaaGreatItf
set_option linter.unusedVariables false
set_option linter.unusedSimpArgs false
namespace Go.Proofs.YtkgbgmfidkimfaaGreat
open Go.RowKit

def kS (s : ByteArray) : Lit := .string s.data.toList
theorem kS_inj {a b : ByteArray} (h : kS a = kS b) : a = b := by
  have e := Lit.string.inj h
  rw [← unB_data a, ← unB_data b, e]
theorem kS_key (s : ByteArray) : WideAt.IsKeyLit (kS s) := by unfold kS WideAt.IsKeyLit; trivial
def nI (n : Nat) : DataW Unit := .lit (.int .i64 n)

def cntS (ts : List ByteArray) (s : ByteArray) : Nat := (ts.filter fun t => decide (t = s)).length
theorem cntS_append (a b : List ByteArray) (s : ByteArray) : cntS (a ++ b) s = cntS a s + cntS b s := by unfold cntS; simp
theorem cntS_one (t s : ByteArray) : cntS [t] s = if t = s then 1 else 0 := by
  unfold cntS
  by_cases e : t = s <;> simp [e]
theorem cntS_le (ts : List ByteArray) (s : ByteArray) : cntS ts s ≤ ts.length := List.length_filter_le _ _
theorem hasT_append (a b : List ByteArray) (s : ByteArray) : hasT (a ++ b) s = (hasT a s || hasT b s) := by
  rw [Bool.eq_iff_iff, Bool.or_eq_true, hasT_iff, hasT_iff, hasT_iff, List.mem_append]
/-- a map that counts the texts of a list. -/
structure Cnt (D : DataW Unit) (ts : List ByteArray) : Prop where
  at_ : ∀ s, D.atKey (kS s) (nI 0) = nI (cntS ts s)
  has : ∀ s, Maps.has D (kS s) = hasT ts s
  isMap : Maps.IsMap D
theorem Cnt.start : Cnt (.map []) [] := ⟨fun s => rfl, fun s => rfl, Maps.isMap_empty⟩
theorem Cnt.put {D : DataW Unit} {ts : List ByteArray} (h : Cnt D ts) (s : ByteArray) : Cnt (D.put (kS s) (nI (cntS ts s + 1))) (ts ++ [s]) := by
  refine ⟨fun t => ?_, fun t => ?_, h.isMap.put _ _⟩
  · rw [cntS_append, cntS_one]
    by_cases e : s = t
    · subst e
      rw [Maps.atKey_put_same h.isMap (kS_key s), if_pos rfl]
    · rw [Maps.atKey_put_other (fun e' => e (kS_inj e').symm), h.at_, if_neg e, Nat.add_zero]
  · by_cases e : t = s
    · subst e
      rw [Maps.has_put_same h.isMap (kS_key t)]
      exact (hasT_iff.2 (by simp)).symm
    · rw [Maps.has_put_other (fun e' => e (kS_inj e')), h.has, Bool.eq_iff_iff, hasT_iff, hasT_iff]
      simp [e]

/-- how many of some have a text. -/
def hasN (l : List Itm) (s : ByteArray) : Nat := (l.filter fun x => hasT x.list s).length
def allT (l : List Itm) : List ByteArray := l.flatMap (·.list)
theorem rises_nodup {l : List ByteArray} (h : rises ltS l = true) : l.Nodup := by
  refine (rises_pw ltS_tr h).imp fun {a b} h => ?_
  rintro rfl
  have := of_decide_eq_true h
  rw [ordB_refl] at this
  omega
theorem count_nodup : ∀ {l : List ByteArray}, l.Nodup → ∀ s, cntS l s = if hasT l s = true then 1 else 0
  | [], _, s => rfl
  | t :: l, h, s => by
    have h' := List.nodup_cons.1 h
    have ih := count_nodup h'.2 s
    rw [show t :: l = [t] ++ l from rfl, cntS_append, cntS_one, hasT_append, ih]
    by_cases e : t = s
    · subst e
      have h1 : hasT [t] t = true := hasT_iff.2 (by simp)
      have h2 : ¬ hasT l t = true := fun hm => h'.1 (hasT_iff.1 hm)
      simp [h1, h2]
    · have h1 : hasT [t] s = false := by
        rcases hh : hasT [t] s with _ | _
        · rfl
        · exact absurd (show s = t by simpa using hasT_iff.1 hh) (fun h => e h.symm)
      simp [h1, e]
theorem count_rises {l : List ByteArray} (h : rises ltS l = true) (s : ByteArray) : cntS l s = if hasT l s = true then 1 else 0 := count_nodup (rises_nodup h) s
theorem count_all : ∀ {l : List Itm}, (∀ x ∈ l, rises ltS x.list = true) → ∀ s, cntS (allT l) s = hasN l s
  | [], _, s => rfl
  | x :: l, h, s => by
    have ih := count_all (l := l) (fun y hy => h y (by simp [hy])) s
    unfold allT at ih ⊢
    unfold hasN at ih ⊢
    rw [List.flatMap_cons, cntS_append, ih, count_rises (h x (by simp)), List.filter_cons]
    split
    · rw [List.length_cons]; omega
    · omega
theorem hasN_le (l : List Itm) (s : ByteArray) : hasN l s ≤ l.length := List.length_filter_le _ _

/-- the first code that is none. -/
def firstCode (k : Int) : List Itm → Int
  | [] => 0
  | x :: l => if asCode k x ≠ 0 then asCode k x else firstCode k l
theorem firstCode_ok {k : Int} : ∀ {l : List Itm}, firstCode k l = 0 → ∀ x ∈ l, asCode k x = 0
  | [], _, x, hx => by cases hx
  | y :: l, h, x, hx => by
    unfold firstCode at h
    by_cases e : asCode k y = 0
    · rw [if_neg (by simpa using e)] at h
      rcases List.mem_cons.1 hx with rfl | hx
      · exact e
      · exact firstCode_ok h x hx
    · rw [if_pos e] at h
      exact absurd h e
theorem firstCode_at {k : Int} : ∀ {l : List Itm} {i : Nat} {x : Itm}, (∀ y ∈ l.take i, asCode k y = 0) → l[i]? = some x → asCode k x ≠ 0 → firstCode k l = asCode k x
  | [], i, x, _, h, _ => by simp at h
  | y :: l, 0, x, _, h, hx => by
    simp at h
    subst h
    unfold firstCode
    rw [if_pos hx]
  | y :: l, i + 1, x, hp, h, hx => by
    have hy : asCode k y = 0 := hp y (by simp)
    unfold firstCode
    rw [if_neg (by simpa using hy)]
    exact firstCode_at (i := i) (fun z hz => hp z (by rw [List.take_succ_cons]; exact List.mem_cons_of_mem _ hz)) (by simpa using h) hx
theorem firstCode_all {k : Int} : ∀ {l : List Itm}, (∀ y ∈ l, asCode k y = 0) → firstCode k l = 0
  | [], _ => rfl
  | y :: l, h => by
    unfold firstCode
    rw [if_neg (by simpa using h y (by simp))]
    exact firstCode_all fun z hz => h z (by simp [hz])
def setsCode (l : List Itm) : Int := if l.length = 0 then 1 else firstCode 3 l
def firstL : List Itm → List ByteArray
  | [] => []
  | x :: _ => x.list
/-- those that are chosen. -/
def pick (p : Nat → Bool → Bool) (l : List Itm) (s : ByteArray) : Bool := p (hasN l s) (hasT (firstL l) s)
def setsR (p : Nat → Bool → Bool) (l : List Itm) : List ByteArray := if setsCode l = 0 then setU ((allT l).filter (pick p l)) else []

/-- what was collected so far of those that are chosen. -/
structure Coll (ts : List ByteArray) (p : ByteArray → Bool) (left : Lit → Bool) (d : List ByteArray) : Prop where
  nodup : d.Nodup
  mem : ∀ s, s ∈ d ↔ s ∈ ts ∧ left (kS s) = false ∧ p s = true
theorem Coll.start {D : DataW Unit} {ts : List ByteArray} {p : ByteArray → Bool} (h : Cnt D ts) : Coll ts p (Maps.has D) [] :=
  ⟨List.nodup_nil, fun s => ⟨(fun h => by cases h), (fun ⟨h1, h2, _⟩ => by rw [h.has, hasT_iff.2 h1] at h2; cases h2)⟩⟩
theorem left_not {left : Lit → Bool} {x s : ByteArray} : (left (kS s) && !(kS s).sameKey (kS x)) = false ↔ left (kS s) = false ∨ s = x := by
  by_cases e : s = x
  · subst e
    have : (kS s).sameKey (kS s) = true := by unfold kS Lit.sameKey; simp
    simp [this]
  · have : (kS s).sameKey (kS x) = false := Maps.sameKey_ne (fun h => e (kS_inj h))
    simp [this, e]
theorem Coll.take {ts : List ByteArray} {p : ByteArray → Bool} {left : Lit → Bool} {d : List ByteArray} (h : Coll ts p left d) {x : ByteArray} (hx : x ∈ ts) (hl : left (kS x) = true) (hp : p x = true) : Coll ts p (fun z => left z && !z.sameKey (kS x)) (d ++ [x]) := by
  have hn : x ∉ d := fun hm => by have := ((h.mem x).1 hm).2.1; rw [hl] at this; cases this
  refine ⟨List.nodup_append.2 ⟨h.nodup, by simp, fun a ha b hb => ?_⟩, fun s => ?_⟩
  · simp at hb
    subst hb
    rintro rfl
    exact hn ha
  · show _ ↔ s ∈ ts ∧ (left (kS s) && !(kS s).sameKey (kS x)) = false ∧ _
    rw [left_not, List.mem_append, h.mem]
    constructor
    · rintro (⟨h1, h2, h3⟩ | h1)
      · exact ⟨h1, .inl h2, h3⟩
      · simp at h1; subst h1; exact ⟨hx, .inr rfl, hp⟩
    · rintro ⟨h1, h2 | rfl, h3⟩
      · exact .inl ⟨h1, h2, h3⟩
      · exact .inr (by simp)
theorem Coll.leave {ts : List ByteArray} {p : ByteArray → Bool} {left : Lit → Bool} {d : List ByteArray} (h : Coll ts p left d) {x : ByteArray} (hp : p x = false) : Coll ts p (fun z => left z && !z.sameKey (kS x)) d := by
  refine ⟨h.nodup, fun s => ?_⟩
  show _ ↔ s ∈ ts ∧ (left (kS s) && !(kS s).sameKey (kS x)) = false ∧ _
  rw [left_not, h.mem]
  constructor
  · rintro ⟨h1, h2, h3⟩
    exact ⟨h1, .inl h2, h3⟩
  · rintro ⟨h1, h2 | rfl, h3⟩
    · exact ⟨h1, h2, h3⟩
    · rw [hp] at h3; cases h3
theorem sortB_rises {d : List ByteArray} (h : d.Nodup) : rises ltS (sortB d) = true := by
  refine pw_rises ?_
  have h2 : (sortB d).Nodup := (sortB_perm d).nodup_iff.2 h
  have := (sortB_le d).and h2
  refine this.imp fun {a b} ⟨h1, hne⟩ => decide_eq_true ?_
  rcases Int.lt_trichotomy (ordB a b) 0 with h3 | h3 | h3
  · exact h3
  · exact absurd (ordB_eq h3) hne
  · exact absurd (by have := ordB_anti a b; omega) h1
theorem Coll.done {ts : List ByteArray} {p : ByteArray → Bool} {left : Lit → Bool} {d : List ByteArray} (h : Coll ts p left d) (hl : ∀ k, left k = false) : sortB d = setU (ts.filter p) := by
  refine rises_ext (sortB_rises h.nodup) (setU_rises _) (fun s => ?_)
  rw [(sortB_perm d).mem_iff, h.mem, setU_mem, List.mem_filter]
  exact ⟨fun ⟨a, _, c⟩ => ⟨a, c⟩, fun ⟨a, c⟩ => ⟨a, hl _, c⟩⟩
theorem Coll.le {ts : List ByteArray} {p : ByteArray → Bool} {left : Lit → Bool} {d : List ByteArray} (h : Coll ts p left d) : d.length ≤ ts.length := by
  have := sortB_rises h.nodup
  have h2 := rises_sub this (l := ts) (fun s hs => ((h.mem s).1 ((sortB_perm d).mem_iff.1 hs)).1)
  rw [sortB_length] at h2
  exact h2
end Go.Proofs.YtkgbgmfidkimfaaGreat

namespace Go.Proofs.YtkgbgmfidkimfaaGreat
open Go.RowKit

def ItemsV (w : World) (B : Nat) (v : Value) (l : List Itm) : Prop :=
  ∃ A c, ∃ rs : List (List Value), v = .slice A l.length c ∧ rs.length = l.length ∧ (∀ (i : Nat) (x : Itm), l[i]? = some x → ∃ cs : List Value, rs[i]? = some cs ∧ cs.length = 5 ∧ ItemV w B (.agg cs.toArray) x) ∧ Sl w B 5 v l.length rs.flatten

theorem flat5 : ∀ (rs : List (List Value)) (i j : Nat) (cs : List Value), (∀ c ∈ rs, c.length = 5) → rs[i]? = some cs → j < 5 → rs.flatten[i * 5 + j]? = cs[j]?
  | [], i, j, cs, _, h, _ => by simp at h
  | r :: rs, 0, j, cs, hl, h, hj => by
    simp at h
    subst h
    rw [Nat.zero_mul, Nat.zero_add, List.flatten_cons, List.getElem?_append_left (by rw [hl r (by simp)]; exact hj)]
  | r :: rs, i + 1, j, cs, hl, h, hj => by
    have hr := hl r (by simp)
    rw [List.flatten_cons, List.getElem?_append_right (by omega), hr, show (i + 1) * 5 + j - 5 = i * 5 + j from by omega]
    exact flat5 rs i j cs (fun c hc => hl c (by simp [hc])) (by simpa using h) hj

/-- the five cells of an item at a place. -/
structure At5 (w : World) (B b o : Nat) (x : Itm) (A1 A2 A3 : Option Addr) (c1 c2 c3 : Nat) : Prop where
  k0 : w.cell? ⟨b, o, none⟩ = some (.int .i64 x.kind)
  k1 : w.cell? ⟨b, o + 1, none⟩ = some (.string x.text)
  k2 : w.cell? ⟨b, o + 2, none⟩ = some (.slice A1 x.list.length c1)
  k3 : w.cell? ⟨b, o + 3, none⟩ = some (.slice A2 x.pairs.length c2)
  k4 : w.cell? ⟨b, o + 4, none⟩ = some (.slice A3 x.scores.length c3)
  s1 : Sl w B 1 (.slice A1 x.list.length c1) x.list.length (textsV x.list)
  s2 : Sl w B 2 (.slice A2 x.pairs.length c2) x.pairs.length (pairsV x.pairs)
  s3 : Sl w B 2 (.slice A3 x.scores.length c3) x.scores.length (scoresV x.scores)
theorem At5.item {w : World} {B b o : Nat} {x : Itm} {A1 A2 A3 : Option Addr} {c1 c2 c3 : Nat} (h : At5 w B b o x A1 A2 A3 c1 c2 c3) : ItemV w B (.agg #[.int .i64 x.kind, .string x.text, .slice A1 x.list.length c1, .slice A2 x.pairs.length c2, .slice A3 x.scores.length c3]) x :=
  ⟨A1, c1, A2, c2, A3, c3, rfl, h.s1, h.s2, h.s3⟩
theorem At5.fr {w w' : World} {B b o : Nat} {x : Itm} {A1 A2 A3 : Option Addr} {c1 c2 c3 : Nat} {S : List Nat} (h : At5 w B b o x A1 A2 A3 c1 c2 c3) (hf : Fr S w w') (hb : b < B) (hB : B ≤ w.heap.size) (hS : ∀ k, k ∈ S → B ≤ k) : At5 w' B b o x A1 A2 A3 c1 c2 c3 := by
  have hn : b ∉ S := fun hm => by have := hS b hm; omega
  exact ⟨hf.cell h.k0 hn, hf.cell h.k1 hn, hf.cell h.k2 hn, hf.cell h.k3 hn, hf.cell h.k4 hn, h.s1.fr hf hB hS, h.s2.fr hf hB hS, h.s3.fr hf hB hS⟩

theorem ItemsV.form {w : World} {B : Nat} {v : Value} {l : List Itm} (h : ItemsV w B v l) : ∃ A c, v = .slice A l.length c := by
  obtain ⟨A, c, rs, rfl, _⟩ := h
  exact ⟨A, c, rfl⟩
/-- a row that is not empty: where it lies, and each item's cells. -/
theorem ItemsV.at_ {w : World} {B : Nat} {A : Option Addr} {c : Nat} {l : List Itm} (h : ItemsV w B (.slice A l.length c) l) (hn : 0 < l.length) :
    ∃ b off, A = some ⟨b, off, none⟩ ∧ b < B ∧ l.length ≤ c ∧ c ≤ maxLen ∧ ∀ (i : Nat) (x : Itm), l[i]? = some x → ∃ A1 A2 A3 c1 c2 c3, At5 w B b (off + i * 5) x A1 A2 A3 c1 c2 c3 := by
  obtain ⟨A', c', rs, hv, hl, hi, hs⟩ := h
  cases hv
  obtain ⟨b, off, rfl, hb, hc, hm, hcell⟩ := hs.at_ hn
  refine ⟨b, off, rfl, hb, hc, hm, fun i x hx => ?_⟩
  obtain ⟨cs, hcs, h5, hit⟩ := hi i x hx
  have all5 : ∀ c ∈ rs, c.length = 5 := fun c hc => by
    obtain ⟨j, hj, rfl⟩ := List.getElem_of_mem hc
    obtain ⟨d, hd, h5', _⟩ := hi j _ (List.getElem?_eq_getElem (show j < l.length by omega))
    rw [List.getElem?_eq_getElem hj] at hd
    cases hd
    exact h5'
  obtain ⟨A1, c1, A2, c2, A3, c3, he, s1, s2, s3⟩ := hit
  have he' : cs = [.int .i64 x.kind, .string x.text, .slice A1 x.list.length c1, .slice A2 x.pairs.length c2, .slice A3 x.scores.length c3] := by
    have := congrArg Array.toList (Value.agg.inj he)
    simpa using this
  subst he'
  have g : ∀ j u, j < 5 → [Value.int .i64 x.kind, .string x.text, .slice A1 x.list.length c1, .slice A2 x.pairs.length c2, .slice A3 x.scores.length c3][j]? = some u → w.cell? ⟨b, off + (i * 5 + j), none⟩ = some u := fun j u hj hu =>
    hcell _ _ (by rw [flat5 rs i j _ all5 hcs hj]; exact hu)
  exact ⟨A1, A2, A3, c1, c2, c3, g 0 _ (by decide) rfl, by rw [Nat.add_assoc]; exact g 1 _ (by decide) rfl, by rw [Nat.add_assoc]; exact g 2 _ (by decide) rfl, by rw [Nat.add_assoc]; exact g 3 _ (by decide) rfl, by rw [Nat.add_assoc]; exact g 4 _ (by decide) rfl, s1, s2, s3⟩
theorem ItemsV.fr {w w' : World} {B : Nat} {S : List Nat} {v : Value} {l : List Itm} (h : ItemsV w B v l) (hf : Fr S w w') (hB : B ≤ w.heap.size) (hS : ∀ k, k ∈ S → B ≤ k) : ItemsV w' B v l := by
  obtain ⟨A, c, rs, rfl, hl, hi, hs⟩ := h
  exact ⟨A, c, rs, rfl, hl, fun i x hx => by
    obtain ⟨cs, h1, h2, h3⟩ := hi i x hx
    exact ⟨cs, h1, h2, h3.fr hf hB hS⟩, hs.fr hf hB hS⟩
theorem ItemsV.more {w : World} {B B' : Nat} {v : Value} {l : List Itm} (h : ItemsV w B v l) (hB : B ≤ B') : ItemsV w B' v l := by
  obtain ⟨A, c, rs, rfl, hl, hi, hs⟩ := h
  exact ⟨A, c, rs, rfl, hl, fun i x hx => by
    obtain ⟨cs, h1, h2, h3⟩ := hi i x hx
    exact ⟨cs, h1, h2, h3.more hB⟩, hs.more hB⟩
theorem ItemsV.nil (w : World) (B : Nat) : ItemsV w B (.slice none 0 0) [] := ⟨none, 0, [], rfl, rfl, fun i x h => by simp at h, Sl.nil _ _ _⟩
end Go.Proofs.YtkgbgmfidkimfaaGreat
