/- Hashes, plain: what their calls answer. No walk. -/
import Derived.Test.YtfkfdmonnebmmaaHpA
import Derived.Test.YtfkfdmonnebmmaaHwB
import Derived.Test.YtfkfdmonnebmmaaLpA
set_option linter.unusedVariables false
set_option linter.unusedSimpArgs false
namespace Go.Proofs.Ytfkfdmonnebmmaa

section
variable {α : Type} (key : α → ByteArray)
/-- the one that has a key. -/
def getK (l : List α) (f : ByteArray) : Option α := l.find? fun q => decide (key q = f)
theorem eq_low {l : List α} {f : ByteArray} {m : Nat} {q : α} (hr : rises (ltK key) l = true) (hq : l[m]? = some q) : key q = f ↔ hitK key l f = true ∧ m = lowK key l f := by
  constructor
  · rintro rfl
    exact ⟨hit_there key hr hq, (hit_of key hr hq).symm⟩
  · rintro ⟨h, rfl⟩
    obtain ⟨q', hq', he⟩ := (hitK_iff key).1 h
    rw [hq] at hq'
    cases hq'
    exact he
theorem getK_mem {l : List α} {f : ByteArray} {q : α} (h : getK key l f = some q) : q ∈ l ∧ key q = f := ⟨List.mem_of_find?_eq_some h, by have := List.find?_some h; simpa using this⟩
theorem getK_none {l : List α} {f : ByteArray} (h : getK key l f = none) : ∀ q ∈ l, key q ≠ f := fun q hq => by
  have := List.find?_eq_none.1 h q hq
  simpa using this
theorem getK_hit {l : List α} {f : ByteArray} (hr : rises (ltK key) l = true) (h : hitK key l f = true) : l[lowK key l f]? = getK key l f ∧ (getK key l f).isSome = true := by
  obtain ⟨q, hq, he⟩ := (hitK_iff key).1 h
  have hm := List.mem_of_getElem? hq
  cases hg : getK key l f with
  | none => exact absurd he (getK_none key hg q hm)
  | some q' =>
    obtain ⟨hm', he'⟩ := getK_mem key hg
    obtain ⟨k, hk⟩ := List.getElem?_of_mem hm'
    have e1 := hit_of key hr hk
    rw [he'] at e1
    rw [e1, hk]
    exact ⟨rfl, rfl⟩
theorem getK_miss {l : List α} {f : ByteArray} (hr : rises (ltK key) l = true) (h : hitK key l f = false) : getK key l f = none := by
  cases hg : getK key l f with
  | none => rfl
  | some q' =>
    obtain ⟨hm', he'⟩ := getK_mem key hg
    obtain ⟨k, hk⟩ := List.getElem?_of_mem hm'
    have := hit_there key hr hk
    rw [he', h] at this
    cases this
theorem getK_some {l : List α} {q : α} (hr : rises (ltK key) l = true) (h : q ∈ l) : getK key l (key q) = some q := by
  obtain ⟨k, hk⟩ := List.getElem?_of_mem h
  have h1 := hit_there key hr hk
  have h2 := getK_hit key hr h1
  rw [← h2.1, hit_of key hr hk]
  exact hk
theorem putK_in {l : List α} (p : α) : p ∈ putK key l p := by
  unfold putK
  by_cases h : hitK key l (key p) = true
  · rw [if_pos h]
    obtain ⟨q, hq, _⟩ := (hitK_iff key).1 h
    exact List.mem_iff_getElem?.2 ⟨lowK key l (key p), List.getElem?_set_self (List.getElem?_eq_some_iff.1 hq).1⟩
  · rw [if_neg h]
    simp
theorem putK_keep {l : List α} {p q : α} (hr : rises (ltK key) l = true) (hq : q ∈ l) (hne : key q ≠ key p) : q ∈ putK key l p := by
  obtain ⟨k, hk⟩ := List.getElem?_of_mem hq
  unfold putK
  by_cases h : hitK key l (key p) = true
  · rw [if_pos h]
    refine List.mem_iff_getElem?.2 ⟨k, ?_⟩
    rw [List.getElem?_set_ne]
    · exact hk
    · intro e
      exact hne ((eq_low key hr hk).2 ⟨h, e.symm⟩)
  · rw [if_neg h]
    have : q ∈ l.take (lowK key l (key p)) ++ l.drop (lowK key l (key p)) := by rw [List.take_append_drop]; exact hq
    rcases List.mem_append.1 this with h | h
    · exact List.mem_append.2 (.inl h)
    · exact List.mem_append.2 (.inr (.tail _ h))
theorem getK_put {l : List α} (p : α) (f : ByteArray) (hr : rises (ltK key) l = true) : getK key (putK key l p) f = if key p = f then some p else getK key l f := by
  have hr2 := putK_rises key p hr
  by_cases h : key p = f
  · rw [if_pos h, ← h]
    exact getK_some key hr2 (putK_in key p)
  · rw [if_neg h]
    cases hg : getK key l f with
    | some q =>
      obtain ⟨hm, he⟩ := getK_mem key hg
      have := getK_some key hr2 (putK_keep key (p := p) hr hm (by rw [he]; exact fun e => h e.symm))
      rw [he] at this
      exact this
    | none =>
      cases hg2 : getK key (putK key l p) f with
      | none => rfl
      | some q =>
        obtain ⟨hm, he⟩ := getK_mem key hg2
        rcases putK_mem key hm with rfl | hm
        · exact absurd he h
        · exact absurd he (getK_none key hg q hm)
theorem fold_rises : ∀ (l : List α) {xs : List α}, rises (ltK key) xs = true → rises (ltK key) (l.foldl (putK key) xs) = true
  | [], _, h => h
  | p :: r, _, h => fold_rises r (putK_rises key p h)
theorem fold_mem : ∀ (l : List α) {xs : List α} {q : α}, q ∈ l.foldl (putK key) xs → q ∈ l ∨ q ∈ xs
  | [], _, _, h => .inr h
  | p :: r, _, _, h => by
    rcases fold_mem r h with h | h
    · exact .inl (.tail _ h)
    · rcases putK_mem key h with rfl | h
      · exact .inl (.head _)
      · exact .inr h
theorem putK_len (l : List α) (p : α) : l.length ≤ (putK key l p).length ∧ (putK key l p).length ≤ l.length + 1 := by
  rw [putK_length]
  split <;> omega
theorem fold_len : ∀ (l xs : List α), (l.foldl (putK key) xs).length ≤ xs.length + l.length ∧ xs.length ≤ (l.foldl (putK key) xs).length
  | [], xs => ⟨Nat.le_refl _, Nat.le_refl _⟩
  | p :: r, xs => by
    have h1 := fold_len r (putK key xs p)
    have h2 := putK_len key xs p
    rw [List.foldl_cons, List.length_cons]
    omega
/-- the last of some that has a key. -/
def lastK (l : List α) (f : ByteArray) : Option α := l.foldl (fun a p => if key p = f then some p else a) none
theorem lastK_acc (f : ByteArray) : ∀ (l : List α) (a : Option α), l.foldl (fun a p => if key p = f then some p else a) a = (match lastK key l f with | some q => some q | none => a)
  | [], a => rfl
  | p :: r, a => by
    unfold lastK
    rw [List.foldl_cons, List.foldl_cons, lastK_acc f r, lastK_acc f r (if key p = f then some p else none)]
    cases lastK key r f with
    | some q => rfl
    | none =>
      by_cases h : key p = f
      · simp [h]
      · simp [h]
theorem getK_fold (f : ByteArray) : ∀ (l : List α) {xs : List α}, rises (ltK key) xs = true → getK key (l.foldl (putK key) xs) f = (match lastK key l f with | some q => some q | none => getK key xs f)
  | [], xs, h => rfl
  | p :: r, xs, h => by
    rw [List.foldl_cons, getK_fold f r (putK_rises key p h), getK_put key p f h]
    have : lastK key (p :: r) f = (match lastK key r f with | some q => some q | none => if key p = f then some p else none) := by
      unfold lastK
      rw [List.foldl_cons]
      exact lastK_acc key f r _
    rw [this]
    cases lastK key r f with
    | some q => rfl
    | none =>
      by_cases h2 : key p = f
      · simp [h2]
      · simp [h2]
end

def putF (x : Itm) (l : List (ByteArray × ByteArray)) : List (ByteArray × ByteArray) := l.foldl (putK Prod.fst) x.pairs
def pairsCode (x : Itm) (l : List (ByteArray × ByteArray)) : Int := if asCode 4 x ≠ 0 then asCode 4 x else if l.length = 0 then 1 else if l.any longP = true then 2 else 0
def putCode (x : Itm) (l : List (ByteArray × ByteArray)) : Int := if pairsCode x l ≠ 0 then pairsCode x l else if 24 < (putF x l).length then 2 else 0
def putY (x : Itm) (l : List (ByteArray × ByteArray)) : Itm := if putCode x l = 0 then ofP (putF x l) else newI 0
def putN (x : Itm) (l : List (ByteArray × ByteArray)) : Int := if putCode x l = 0 then ((putF x l).length : Int) - x.pairs.length else 0
def getCode (x : Itm) (f : ByteArray) : Int := if asCode 4 x ≠ 0 then asCode 4 x else match getK Prod.fst x.pairs f with | some _ => 0 | none => 5
def getS (x : Itm) (f : ByteArray) : ByteArray := if asCode 4 x ≠ 0 then ⟨#[]⟩ else match getK Prod.fst x.pairs f with | some q => q.2 | none => ⟨#[]⟩
def dropP (x : Itm) (l : List ByteArray) : List (ByteArray × ByteArray) := x.pairs.filter fun p => !(l.any fun y => decide (y = p.1))
def dropY (x : Itm) (l : List ByteArray) : Itm := if asCode 4 x = 0 then ofP (dropP x l) else newI 0
def dropN (x : Itm) (l : List ByteArray) : Int := if asCode 4 x = 0 then (x.pairs.length : Int) - (dropP x l).length else 0

/-- a hash's pairs stand in order. -/
theorem pairs_rise {x : Itm} (h : asCode 4 x = 0) : rises (ltK Prod.fst) x.pairs = true := by
  have hok := asOk_of h
  rcases hok.kind with h0 | h4
  · have hm := hok.none h0
    unfold many at hm
    have : x.pairs = [] := List.eq_nil_of_length_eq_zero (by omega)
    rw [this]
    rfl
  · have hc := hok.some (by omega)
    have hb := hok.bare
    unfold checkItm at hc
    rw [if_neg (by omega), if_neg (by rw [hb]; decide), if_neg (by omega)] at hc
    by_cases hm : many x = 0
    · rw [if_pos hm] at hc; cases hc
    · rw [if_neg hm] at hc
      by_cases h2 : 24 < many x ∨ longI x = true
      · rw [if_pos h2] at hc; cases hc
      · rw [if_neg h2] at hc
        by_cases h3 : (x.kind = 3 ∧ rises ltS x.list = false) ∨ (x.kind = 4 ∧ rises ltP x.pairs = false)
        · rw [if_pos h3] at hc; cases hc
        · have : ¬ rises ltP x.pairs = false := fun e => h3 (.inr ⟨h4, e⟩)
          have : rises ltP x.pairs = true := by simpa using this
          exact this
theorem ok_pairs {x : Itm} (h : asCode 4 x = 0) : x.pairs.length ≤ 24 ∧ ∀ p ∈ x.pairs, p.1.size ≤ 60 ∧ p.2.size ≤ 60 := by
  have hok := asOk_of h
  have := hok.le24
  unfold many at this
  exact ⟨by omega, hok.fields⟩
theorem not_long {l : List (ByteArray × ByteArray)} (h : ¬ l.any longP = true) : ∀ p ∈ l, p.1.size ≤ 60 ∧ p.2.size ≤ 60 := by
  intro p hp
  rw [Bool.not_eq_true, List.any_eq_false] at h
  have := h p hp
  unfold longP at this
  simp at this
  omega
end Go.Proofs.Ytfkfdmonnebmmaa
