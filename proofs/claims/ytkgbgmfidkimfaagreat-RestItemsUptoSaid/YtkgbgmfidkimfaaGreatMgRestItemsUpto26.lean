/- Scores, plain: their order; one put at its place. No program in sight. -/
import Derived.Test.YtkgbgmfidkimfaaGreatMgRestItemsUpto3
import Derived.Test.YtkgbgmfidkimfaaGreatItC
import Derived.Test.YtkgbgmfidkimfaaGreatSlA
set_option linter.unusedVariables false
set_option linter.unusedSimpArgs false
namespace Go.Proofs.YtkgbgmfidkimfaaGreat

theorem ordC_refl (a : Int × ByteArray) : ordC a a = 0 := by unfold ordC; rw [if_pos rfl]; exact ordB_refl _
theorem ordC_eq {a b : Int × ByteArray} (h : ordC a b = 0) : a = b := by
  unfold ordC at h
  by_cases h1 : a.1 = b.1
  · rw [if_pos h1] at h
    exact Prod.ext h1 (ordB_eq h)
  · rw [if_neg h1] at h
    omega
theorem ordC_anti (a b : Int × ByteArray) : ordC b a = - ordC a b := by
  unfold ordC
  by_cases h1 : a.1 = b.1
  · rw [if_pos h1, if_pos h1.symm]
    exact ordB_anti _ _
  · rw [if_neg h1, if_neg (fun h => h1 h.symm)]
    omega
theorem ordC_trans {a b c : Int × ByteArray} (h1 : ordC a b < 0) (h2 : ordC b c < 0) : ordC a c < 0 := by
  unfold ordC at *
  by_cases e1 : a.1 = b.1
  · rw [if_pos e1] at h1
    by_cases e2 : b.1 = c.1
    · rw [if_pos e2] at h2
      rw [if_pos (e1.trans e2)]
      exact ordB_trans h1 h2
    · rw [if_neg e2] at h2
      rw [if_neg (by omega)]
      omega
  · rw [if_neg e1] at h1
    by_cases e2 : b.1 = c.1
    · rw [if_neg (by omega)]
      omega
    · rw [if_neg e2] at h2
      rw [if_neg (by omega)]
      omega
theorem ltC_trans (a b c : Int × ByteArray) (h1 : ltC a b = true) (h2 : ltC b c = true) : ltC a c = true :=
  decide_eq_true (ordC_trans (of_decide_eq_true h1) (of_decide_eq_true h2))

/-- how many stand ahead of a score. -/
def lowC (l : List (Int × ByteArray)) (s : Int × ByteArray) : Nat := (l.takeWhile fun q => decide (ordC q s < 0)).length
theorem lowC_le (l : List (Int × ByteArray)) (s : Int × ByteArray) : lowC l s ≤ l.length := (List.takeWhile_sublist _).length_le
theorem lowC_lt : ∀ {l : List (Int × ByteArray)} {s : Int × ByteArray} {k : Nat} {q : Int × ByteArray}, k < lowC l s → l[k]? = some q → ordC q s < 0
  | [], s, k, q, h, hq => by simp at hq
  | x :: r, s, k, q, h, hq => by
    unfold lowC at h
    rw [List.takeWhile_cons] at h
    by_cases hx : ordC x s < 0
    · rw [if_pos (by simpa using hx)] at h
      match k with
      | 0 => rw [List.getElem?_cons_zero] at hq; cases hq; exact hx
      | k' + 1 =>
        rw [List.getElem?_cons_succ] at hq
        exact lowC_lt (l := r) (k := k') (by unfold lowC; simp at h; omega) hq
    · rw [if_neg (by simpa using hx)] at h
      simp at h
theorem lowC_at : ∀ {l : List (Int × ByteArray)} {s q : Int × ByteArray}, l[lowC l s]? = some q → ¬ ordC q s < 0
  | [], s, q, hq => by simp at hq
  | x :: r, s, q, hq => by
    unfold lowC at hq
    rw [List.takeWhile_cons] at hq
    by_cases hx : ordC x s < 0
    · rw [if_pos (by simpa using hx), List.length_cons, List.getElem?_cons_succ] at hq
      exact lowC_at (l := r) hq
    · rw [if_neg (by simpa using hx)] at hq
      simp at hq
      rw [← hq]
      exact hx
theorem lowC_ge {l : List (Int × ByteArray)} {s : Int × ByteArray} {k : Nat} {q : Int × ByteArray} (hr : rises ltC l = true) (hk : lowC l s ≤ k) (hq : l[k]? = some q) : ¬ ordC q s < 0 := by
  obtain ⟨hlt, _⟩ := List.getElem?_eq_some_iff.1 hq
  obtain ⟨q0, h0⟩ : ∃ q0, l[lowC l s]? = some q0 := ⟨_, List.getElem?_eq_getElem (by omega)⟩
  have n0 := lowC_at h0
  rcases Nat.lt_or_ge (lowC l s) k with h | h
  · intro hlt
    have := of_decide_eq_true (rises_lt ltC_trans hr h h0 hq)
    exact n0 (ordC_trans this hlt)
  · have e : k = lowC l s := by omega
    rw [e, h0] at hq
    cases hq
    exact n0
/-- a score put at its place. -/
def insC (l : List (Int × ByteArray)) (s : Int × ByteArray) : List (Int × ByteArray) := l.take (lowC l s) ++ s :: l.drop (lowC l s)
/-- the others. -/
def offC (l : List (Int × ByteArray)) (m : ByteArray) : List (Int × ByteArray) := l.filter fun q => !decide (q.2 = m)
def putC (l : List (Int × ByteArray)) (s : Int × ByteArray) : List (Int × ByteArray) := insC (offC l s.2) s

/-- scores as they must be: they rise, each member once, numbers and members within their limits. -/
structure ScOk (l : List (Int × ByteArray)) : Prop where
  rise : rises ltC l = true
  dist : (l.map (·.2)).Nodup
  ok : ∀ s ∈ l, isInt s.1 = true ∧ s.2.size ≤ 60
theorem ScOk.nil : ScOk [] := ⟨rfl, List.nodup_nil, fun s h => by cases h⟩
theorem ScOk.sub {l l' : List (Int × ByteArray)} (h : ScOk l) (hs : l'.Sublist l) : ScOk l' :=
  ⟨pw_rises ((rises_pw ltC_trans h.rise).sublist hs), h.dist.sublist (hs.map _), fun s hs' => h.ok s (hs.subset hs')⟩
theorem ScOk.off {l : List (Int × ByteArray)} (h : ScOk l) (m : ByteArray) : ScOk (offC l m) := h.sub List.filter_sublist
theorem off_no (l : List (Int × ByteArray)) (m : ByteArray) : ∀ q ∈ offC l m, q.2 ≠ m := by
  intro q hq
  have := (List.mem_filter.1 hq).2
  simpa using this
theorem offC_len (l : List (Int × ByteArray)) (m : ByteArray) : (offC l m).length ≤ l.length := List.length_filter_le _ _
theorem insC_len (l : List (Int × ByteArray)) (s : Int × ByteArray) : (insC l s).length = l.length + 1 := by
  have := lowC_le l s
  unfold insC
  rw [List.length_append, List.length_cons, List.length_take, List.length_drop]
  omega
theorem insC_mem {l : List (Int × ByteArray)} {s q : Int × ByteArray} : q ∈ insC l s ↔ q = s ∨ q ∈ l := by
  unfold insC
  rw [List.mem_append, List.mem_cons]
  constructor
  · rintro (h | h | h)
    · exact .inr (List.mem_of_mem_take h)
    · exact .inl h
    · exact .inr (List.mem_of_mem_drop h)
  · rintro (h | h)
    · exact .inr (.inl h)
    · rw [← List.take_append_drop (lowC l s) l] at h
      rcases List.mem_append.1 h with h | h
      · exact .inl h
      · exact .inr (.inr h)
theorem ScOk.ins {l : List (Int × ByteArray)} {s : Int × ByteArray} (h : ScOk l) (hn : ∀ q ∈ l, q.2 ≠ s.2) (hs : isInt s.1 = true ∧ s.2.size ≤ 60) : ScOk (insC l s) := by
  have hpw := rises_pw ltC_trans h.rise
  have hlow : ∀ q ∈ l.take (lowC l s), ltC q s = true := by
    intro q hq
    obtain ⟨j, hj⟩ := List.getElem?_of_mem hq
    rw [List.getElem?_take] at hj
    split at hj
    · rename_i hlt
      exact decide_eq_true (lowC_lt hlt hj)
    · cases hj
  have hhigh : ∀ q ∈ l.drop (lowC l s), ltC s q = true := by
    intro q hq
    obtain ⟨j, hj⟩ := List.getElem?_of_mem hq
    rw [List.getElem?_drop] at hj
    have h1 := lowC_ge h.rise (Nat.le_add_right (lowC l s) j) hj
    have h2 := ordC_anti s q
    rcases Int.lt_trichotomy (ordC s q) 0 with h3 | h3 | h3
    · exact decide_eq_true h3
    · exact absurd (congrArg Prod.snd (ordC_eq h3)).symm (hn q (List.mem_of_mem_drop hq))
    · omega
  refine ⟨pw_rises ?_, ?_, fun q hq => ?_⟩
  · unfold insC
    rw [List.pairwise_append]
    refine ⟨hpw.sublist (List.take_sublist _ _), List.pairwise_cons.2 ⟨hhigh, hpw.sublist (List.drop_sublist _ _)⟩, ?_⟩
    intro a ha b hb
    rcases List.mem_cons.1 hb with rfl | hb
    · exact hlow a ha
    · exact ltC_trans _ _ _ (hlow a ha) (hhigh b hb)
  · unfold insC
    have hp : (l.take (lowC l s) ++ s :: l.drop (lowC l s)).Perm (s :: l) := by
      have := List.perm_middle (a := s) (l₁ := l.take (lowC l s)) (l₂ := l.drop (lowC l s))
      rw [List.take_append_drop] at this
      exact this
    rw [(hp.map (·.2)).nodup_iff, List.map_cons, List.nodup_cons]
    refine ⟨fun hm => ?_, h.dist⟩
    obtain ⟨q, hq, he⟩ := List.mem_map.1 hm
    exact hn q hq he
  · rcases insC_mem.1 hq with rfl | hq
    · exact hs
    · exact h.ok q hq
theorem ScOk.put {l : List (Int × ByteArray)} {s : Int × ByteArray} (h : ScOk l) (hs : isInt s.1 = true ∧ s.2.size ≤ 60) : ScOk (putC l s) := (h.off s.2).ins (off_no l s.2) hs
theorem ScOk.fold : ∀ (l : List (Int × ByteArray)) {xs : List (Int × ByteArray)}, ScOk xs → (∀ s ∈ l, isInt s.1 = true ∧ s.2.size ≤ 60) → ScOk (l.foldl putC xs)
  | [], _, h, _ => h
  | s :: r, _, h, hs => ScOk.fold r (h.put (hs s (.head _))) (fun q hq => hs q (.tail _ hq))
theorem putC_len (l : List (Int × ByteArray)) (s : Int × ByteArray) : (putC l s).length ≤ l.length + 1 := by
  have := offC_len l s.2
  unfold putC
  rw [insC_len]
  omega
theorem foldC_len : ∀ (l xs : List (Int × ByteArray)), (l.foldl putC xs).length ≤ xs.length + l.length
  | [], xs => Nat.le_refl _
  | s :: r, xs => by
    have h1 := foldC_len r (putC xs s)
    have h2 := putC_len xs s
    rw [List.foldl_cons, List.length_cons]
    omega

/-- the one of a member taken out. -/
theorem off_some {l : List (Int × ByteArray)} {m : ByteArray} {k : Nat} {s : Int × ByteArray} (hd : (l.map (·.2)).Nodup) (hk : l[k]? = some s) (hm : s.2 = m) : offC l m = l.take k ++ l.drop (k + 1) := by
  obtain ⟨hlt, he⟩ := List.getElem?_eq_some_iff.1 hk
  have e : l = l.take k ++ s :: l.drop (k + 1) := by rw [← he, ← List.drop_eq_getElem_cons hlt, List.take_append_drop]
  generalize l.take k = a at *
  generalize l.drop (k + 1) = b at *
  subst hm
  rw [e, List.map_append, List.map_cons] at hd
  rw [e]
  have h2 := (List.nodup_append.1 hd)
  have h3 := List.nodup_cons.1 h2.2.1
  unfold offC
  rw [List.filter_append, List.filter_cons]
  simp only [decide_true, Bool.not_true, Bool.false_eq_true, if_false]
  rw [List.filter_eq_self.2, List.filter_eq_self.2]
  · intro q hq
    have : q.2 ≠ s.2 := fun he => h3.1 (by rw [← he]; exact List.mem_map_of_mem hq)
    simpa using this
  · intro q hq
    have : q.2 ≠ s.2 := fun he => h2.2.2 q.2 (List.mem_map_of_mem hq) s.2 (.head _) he
    simpa using this
theorem off_none {l : List (Int × ByteArray)} {m : ByteArray} (h : ∀ q ∈ l, q.2 ≠ m) : offC l m = l := by
  unfold offC
  rw [List.filter_eq_self]
  intro q hq
  simpa using h q hq
theorem idx_split (m : ByteArray) (l : List (Int × ByteArray)) : (idxOf (fun q : Int × ByteArray => decide (q.2 = m)) l = -1 ∧ ∀ q ∈ l, q.2 ≠ m) ∨ ∃ (k : Nat) (s : Int × ByteArray), idxOf (fun q : Int × ByteArray => decide (q.2 = m)) l = k ∧ l[k]? = some s ∧ s.2 = m ∧ ∀ (j : Nat) t, j < k → l[j]? = some t → t.2 ≠ m := by
  cases h : l.findIdx? (fun q : Int × ByteArray => decide (q.2 = m)) with
  | none =>
    refine .inl ⟨by unfold idxOf; rw [h], fun q hq => ?_⟩
    have := List.findIdx?_eq_none_iff.1 h q hq
    simpa using this
  | some k =>
    obtain ⟨hlt, hp, hno⟩ := List.findIdx?_eq_some_iff_getElem.1 h
    refine .inr ⟨k, l[k], by unfold idxOf; rw [h], List.getElem?_eq_getElem hlt, by simpa using hp, fun j t hj ht => ?_⟩
    obtain ⟨hjl, rfl⟩ := List.getElem?_eq_some_iff.1 ht
    have := hno j hj
    simpa using this

/-- what is wrong with some that come. -/
def someC : List (Int × ByteArray) → Int
  | [] => 0
  | s :: r => if isInt s.1 = false then 3 else if 60 < s.2.size then 2 else someC r
theorem someC_step {l : List (Int × ByteArray)} {k : Nat} {s : Int × ByteArray} (h : l[k]? = some s) : someC (l.drop k) = if isInt s.1 = false then 3 else if 60 < s.2.size then 2 else someC (l.drop (k + 1)) := by
  obtain ⟨hlt, rfl⟩ := List.getElem?_eq_some_iff.1 h
  rw [List.drop_eq_getElem_cons hlt]
  rfl
theorem someC_end {l : List (Int × ByteArray)} {k : Nat} (h : l.length ≤ k) : someC (l.drop k) = 0 := by
  rw [List.drop_of_length_le h]
  rfl
theorem someC_ok : ∀ {l : List (Int × ByteArray)}, someC l = 0 → ∀ s ∈ l, isInt s.1 = true ∧ s.2.size ≤ 60
  | [], _, s, hs => by cases hs
  | q :: r, h, s, hs => by
    unfold someC at h
    by_cases h1 : isInt q.1 = false
    · rw [if_pos h1] at h; cases h
    · rw [if_neg h1] at h
      by_cases h2 : 60 < q.2.size
      · rw [if_pos h2] at h; cases h
      · rw [if_neg h2] at h
        rcases List.mem_cons.1 hs with rfl | hs
        · exact ⟨by simpa using h1, by omega⟩
        · exact someC_ok h s hs
def scsCode (l : List (Int × ByteArray)) : Int := if l.length = 0 then 1 else someC l
theorem scsCode_ok {l : List (Int × ByteArray)} (h : scsCode l = 0) : l.length ≠ 0 ∧ ∀ s ∈ l, isInt s.1 = true ∧ s.2.size ≤ 60 := by
  unfold scsCode at h
  by_cases h0 : l.length = 0
  · rw [if_pos h0] at h; cases h
  · rw [if_neg h0] at h
    exact ⟨h0, someC_ok h⟩

def scoreI (l : List (Int × ByteArray)) : Itm := ⟨5, ⟨#[]⟩, [], [], l⟩
def ofC (l : List (Int × ByteArray)) : Itm := if l.length = 0 then newI 0 else scoreI l
def putF5 (x : Itm) (l : List (Int × ByteArray)) : List (Int × ByteArray) := l.foldl putC x.scores
def pre5 (x : Itm) (l : List (Int × ByteArray)) : Int := if asCode 5 x ≠ 0 then asCode 5 x else scsCode l
def put5 (x : Itm) (l : List (Int × ByteArray)) : Int := if pre5 x l ≠ 0 then pre5 x l else if 24 < (putF5 x l).length then 2 else 0
def put5Y (x : Itm) (l : List (Int × ByteArray)) : Itm := if put5 x l = 0 then ofC (putF5 x l) else newI 0
def put5N (x : Itm) (l : List (Int × ByteArray)) : Int := if put5 x l = 0 then ((putF5 x l).length : Int) - x.scores.length else 0
def dropC (x : Itm) (l : List ByteArray) : List (Int × ByteArray) := x.scores.filter fun p => !(l.any fun y => decide (y = p.2))
def drop5Y (x : Itm) (l : List ByteArray) : Itm := if asCode 5 x = 0 then ofC (dropC x l) else newI 0
def drop5N (x : Itm) (l : List ByteArray) : Int := if asCode 5 x = 0 then (x.scores.length : Int) - (dropC x l).length else 0
def rankI (x : Itm) (m : ByteArray) : Int := idxOf (fun q : Int × ByteArray => decide (q.2 = m)) x.scores
def rankCode (x : Itm) (m : ByteArray) : Int := if asCode 5 x ≠ 0 then asCode 5 x else if rankI x m < 0 then 5 else 0
def rankN (x : Itm) (m : ByteArray) : Int := if rankCode x m = 0 then rankI x m else 0
def numN (x : Itm) (m : ByteArray) : Int := if rankCode x m = 0 then (x.scores.getD (rankI x m).toNat (0, ⟨#[]⟩)).1 else 0
def range5 (x : Itm) (f t : Int) : List ByteArray := if asCode 5 x = 0 then rangeOf (x.scores.map (·.2)) f t else []
def withinC (l : List (Int × ByteArray)) (a b : Int) : List ByteArray := (l.filter fun s => decide (a ≤ s.1) && decide (s.1 ≤ b)).map (·.2)
def within5 (x : Itm) (a b : Int) : List ByteArray := if asCode 5 x = 0 then withinC x.scores a b else []

/-- scores of an item that is right. -/
theorem scores_ok {x : Itm} (h : asCode 5 x = 0) : ScOk x.scores ∧ x.scores.length ≤ 24 := by
  have hok := asOk_of h
  have h24 : x.scores.length ≤ 24 := by have := hok.le24; unfold many at this; omega
  refine ⟨?_, h24⟩
  rcases hok.kind with h0 | h5
  · have hm := hok.none h0
    unfold many at hm
    have : x.scores = [] := List.eq_nil_of_length_eq_zero (by omega)
    rw [this]
    exact ScOk.nil
  · have hc := hok.some (by omega)
    have hb := hok.bare
    unfold checkItm at hc
    rw [if_neg (by omega), if_neg (by rw [hb]; decide), if_neg (by omega)] at hc
    by_cases hm : many x = 0
    · rw [if_pos hm] at hc; cases hc
    · rw [if_neg hm] at hc
      by_cases h2 : 24 < many x ∨ longI x = true
      · rw [if_pos h2] at hc; cases hc
      · rw [if_neg h2, if_neg (by omega)] at hc
        unfold scoresCode at hc
        by_cases c1 : (x.scores.any fun p => !isInt p.1) = true
        · rw [if_pos c1] at hc; cases hc
        · rw [if_neg c1] at hc
          by_cases c2 : (x.scores.map (·.2)).Nodup
          · rw [if_neg (fun h => h c2)] at hc
            by_cases c3 : rises ltC x.scores = true
            · exact ⟨c3, c2, hok.members⟩
            · rw [if_neg c3] at hc; cases hc
          · rw [if_pos c2] at hc; cases hc
theorem ScOk.small {l : List (Int × ByteArray)} (h : ScOk l) : ∀ s ∈ l, (-9223372036854775808 ≤ s.1 ∧ s.1 ≤ 9223372036854775807) ∧ s.2.size ≤ 281474976710656 := fun s hs => by
  obtain ⟨h1, h2⟩ := h.ok s hs
  unfold isInt at h1
  simp at h1
  omega
theorem scoreI_small {l : List (Int × ByteArray)} (hl : l.length ≤ 1000000) (ht : ∀ s ∈ l, (-9223372036854775808 ≤ s.1 ∧ s.1 ≤ 9223372036854775807) ∧ s.2.size ≤ 281474976710656) : (scoreI l).Small :=
  ⟨by show -9223372036854775808 ≤ (5 : Int) ∧ (5 : Int) ≤ 9223372036854775807; omega, by show (⟨#[]⟩ : ByteArray).size ≤ _; decide, by show 0 ≤ _; omega, by show 0 ≤ _; omega, by show l.length ≤ _; omega, (fun p hp => by cases hp), (fun p hp => by cases hp), ht⟩
theorem pre5_ok {x : Itm} {l : List (Int × ByteArray)} (h : pre5 x l = 0) : asCode 5 x = 0 ∧ scsCode l = 0 := by
  unfold pre5 at h
  by_cases ha : asCode 5 x = 0
  · rw [if_neg (by simpa using ha)] at h
    exact ⟨ha, h⟩
  · rw [if_pos ha] at h; exact absurd h ha
theorem put5_ok {x : Itm} {l : List (Int × ByteArray)} (h : put5 x l = 0) : pre5 x l = 0 ∧ (putF5 x l).length ≤ 24 := by
  unfold put5 at h
  by_cases ha : pre5 x l = 0
  · rw [if_neg (by simpa using ha)] at h
    by_cases hb : 24 < (putF5 x l).length
    · rw [if_pos hb] at h; cases h
    · exact ⟨ha, by omega⟩
  · rw [if_pos ha] at h; exact absurd h ha
theorem putF5_ok {x : Itm} {l : List (Int × ByteArray)} (h : pre5 x l = 0) : ScOk (putF5 x l) := by
  obtain ⟨ha, hs⟩ := pre5_ok h
  exact ScOk.fold l (scores_ok ha).1 (scsCode_ok hs).2
theorem ofC_small {l : List (Int × ByteArray)} (hl : l.length ≤ 1000000) (h : ScOk l) : (ofC l).Small := by
  unfold ofC
  split
  · exact newI_small 0 (by decide)
  · exact scoreI_small hl h.small
theorem put5Y_small (x : Itm) (l : List (Int × ByteArray)) : (put5Y x l).Small := by
  unfold put5Y
  split
  · rename_i h
    obtain ⟨hp, h24⟩ := put5_ok h
    exact ofC_small (by omega) (putF5_ok hp)
  · exact newI_small 0 (by decide)
theorem dropC_ok {x : Itm} (l : List ByteArray) (h : asCode 5 x = 0) : ScOk (dropC x l) ∧ (dropC x l).length ≤ 24 := by
  obtain ⟨h1, h2⟩ := scores_ok h
  have := List.length_filter_le (fun p : Int × ByteArray => !(l.any fun y => decide (y = p.2))) x.scores
  exact ⟨h1.sub List.filter_sublist, by unfold dropC; omega⟩
theorem drop5Y_small (x : Itm) (l : List ByteArray) : (drop5Y x l).Small := by
  unfold drop5Y
  split
  · rename_i h
    have := dropC_ok l h
    exact ofC_small (by omega) this.1
  · exact newI_small 0 (by decide)
/-- members of the first so many scores of which p says so. -/
def memTo (p : Nat → Int × ByteArray → Bool) (l : List (Int × ByteArray)) : Nat → List ByteArray
  | 0 => []
  | k + 1 => match l[k]? with
    | some s => if p k s = true then memTo p l k ++ [s.2] else memTo p l k
    | none => memTo p l k
theorem memTo_step {p : Nat → Int × ByteArray → Bool} {l : List (Int × ByteArray)} {k : Nat} {s : Int × ByteArray} (h : l[k]? = some s) : memTo p l (k + 1) = if p k s = true then memTo p l k ++ [s.2] else memTo p l k := by
  rw [memTo, h]
theorem memTo_len (p : Nat → Int × ByteArray → Bool) (l : List (Int × ByteArray)) : ∀ k, (memTo p l k).length ≤ k
  | 0 => Nat.le_refl _
  | k + 1 => by
    have := memTo_len p l k
    unfold memTo
    split
    · split
      · rw [List.length_append, List.length_singleton]; omega
      · omega
    · omega
theorem memTo_within (a b : Int) (l : List (Int × ByteArray)) : ∀ k, k ≤ l.length → memTo (fun _ s => decide (a ≤ s.1) && decide (s.1 ≤ b)) l k = withinC (l.take k) a b
  | 0, _ => by simp [memTo, withinC]
  | k + 1, h => by
    obtain ⟨s, hs⟩ : ∃ s, l[k]? = some s := ⟨_, List.getElem?_eq_getElem (by omega)⟩
    rw [memTo_step hs, memTo_within a b l k (by omega)]
    unfold withinC
    rw [List.take_add_one, hs, Option.toList_some, List.filter_append, List.map_append]
    cases hc : (decide (a ≤ s.1) && decide (s.1 ≤ b)) <;> simp [List.filter_cons, hc]
theorem memTo_range (a b : Nat) (l : List (Int × ByteArray)) : ∀ k, k ≤ l.length → memTo (fun i _ => decide (a ≤ i) && decide (i < b)) l k = (((l.map (·.2)).take k).take b).drop a
  | 0, _ => by simp [memTo]
  | k + 1, h => by
    obtain ⟨s, hs⟩ : ∃ s, l[k]? = some s := ⟨_, List.getElem?_eq_getElem (by omega)⟩
    have hs2 : (l.map (·.2))[k]? = some s.2 := by rw [List.getElem?_map, hs]; rfl
    rw [memTo_step hs, memTo_range a b l k (by omega)]
    generalize l.map (·.2) = L at *
    have hk : k < L.length := (List.getElem?_eq_some_iff.1 hs2).1
    have hl : (L.take k).length = k := by rw [List.length_take]; omega
    rw [List.take_add_one, hs2, Option.toList_some]
    by_cases h1 : k < b
    · rw [List.take_of_length_le (l := L.take k ++ [s.2]) (by rw [List.length_append, hl, List.length_singleton]; omega), List.take_of_length_le (l := L.take k) (by omega)]
      by_cases h2 : a ≤ k
      · rw [if_pos (by simp [h1, h2]), List.drop_append_of_le_length (by omega)]
      · rw [if_neg (by simp [h2]), List.drop_of_length_le (by omega), List.drop_of_length_le (by rw [List.length_append, hl, List.length_singleton]; omega)]
    · rw [if_neg (by simp [h1]), List.take_append_of_le_length (by omega)]
end Go.Proofs.YtkgbgmfidkimfaaGreat
