/- Scores, plain: what stands behind a put: places, numbers, the last one of a member. -/
import Derived.Test.YtmlmiboihjibiaaScE
set_option linter.unusedVariables false
set_option linter.unusedSimpArgs false
namespace Go.Proofs.Ytmlmiboihjibiaa

theorem bytesLess_cb : ∀ a b : List UInt8, Op.bytesLess a b = decide (Lib.compareBytes a b < 0)
  | [], [] => rfl
  | [], y :: s => rfl
  | x :: r, [] => rfl
  | x :: r, y :: s => by
    show (decide (x < y) || (x == y && Op.bytesLess r s)) = decide ((if x < y then -1 else if y < x then 1 else Lib.compareBytes r s) < (0 : Int))
    rw [bytesLess_cb r s]
    by_cases h1 : x < y
    · rw [if_pos h1]; simp [h1]
    · rw [if_neg h1]
      by_cases h2 : y < x
      · rw [if_pos h2]
        have hne : ¬ x = y := by rintro rfl; exact UInt8.lt_irrefl _ h2
        simp [h1, hne]
      · rw [if_neg h2]
        have e : x = y := by
          apply UInt8.toNat_inj.1
          rw [UInt8.lt_iff_toNat_lt] at h1 h2
          omega
        subst e
        simp [h1]
theorem less_ord (a b : ByteArray) : Op.bytesLess a.toList b.toList = decide (ordB a b < 0) := by
  rw [ByteArray.toList_eq, ByteArray.toList_eq, bytesLess_cb]
  rfl
/-- a text that stands behind another one is not at most that. -/
theorem not_leq {a b : ByteArray} (h : ordB a b < 0) : Op.bytesLess b.toList a.toList = false ∧ (b.toList == a.toList) = false := by
  have h2 := ordB_anti a b
  refine ⟨by rw [less_ord]; exact decide_eq_false (by omega), ?_⟩
  refine neqB' ?_
  rintro rfl
  rw [ordB_refl] at h
  exact absurd h (by decide)

theorem as_scoreI {L : List (Int × ByteArray)} (h0 : L.length ≠ 0) (h24 : L.length ≤ 24) (ok : ScOk L) : asCode 5 (scoreI L) = 0 := by
  have hm : many (scoreI L) = L.length := by show 0 + 0 + L.length = L.length; omega
  have hb : bareB (scoreI L) = true := rfl
  have hl : longI (scoreI L) = false := by
    show ([].any longS || [].any longP || L.any longC) = false
    have : L.any longC = false := by
      rw [List.any_eq_false]
      intro p hp
      have := (ok.ok p hp).2
      unfold longC
      simp
      omega
    rw [this]
    rfl
  have hs : scoresCode L = 0 := by
    unfold scoresCode
    rw [if_neg, if_neg (fun h => h ok.dist), if_pos ok.rise]
    rw [Bool.not_eq_true, List.any_eq_false]
    intro p hp
    rw [(ok.ok p hp).1]
    decide
  have hc : checkItm (scoreI L) = 0 := by
    unfold checkItm
    rw [if_neg (by show ¬ ¬ (1 ≤ (5 : Int) ∧ (5 : Int) ≤ 5); decide), if_neg (by rw [hb]; decide), if_neg (by show ¬ (5 : Int) = 1; decide), if_neg (by rw [hm]; exact h0), if_neg (by rw [hm, hl]; intro h; rcases h with h | h; omega; cases h)]
    rw [if_neg]
    · exact hs
    · rintro (⟨h, _⟩ | ⟨h, _⟩)
      · cases h
      · cases h
  have hn : nothingI (scoreI L) = false := rfl
  unfold asCode
  rw [if_neg (by rw [hn]; decide), if_pos hc]
  rfl

theorem putF5_pos {x : Itm} {l : List (Int × ByteArray)} (h : l.length ≠ 0) : (putF5 x l).length ≠ 0 := by
  have : ∀ (l xs : List (Int × ByteArray)), l.length ≠ 0 → (l.foldl putC xs).length ≠ 0 := by
    intro l
    induction l with
    | nil => intro xs h; exact absurd rfl h
    | cons p r ih =>
      intro xs _
      rw [List.foldl_cons]
      by_cases hr : r.length = 0
      · have : r = [] := List.eq_nil_of_length_eq_zero hr
        subst this
        show (putC xs p).length ≠ 0
        unfold putC
        rw [insC_len]
        omega
      · exact ih _ hr
  exact this l x.scores h
theorem put5_end {x : Itm} {l : List (Int × ByteArray)} (h : put5 x l = 0) : put5Y x l = scoreI (putF5 x l) ∧ asCode 5 (scoreI (putF5 x l)) = 0 ∧ ScOk (putF5 x l) ∧ (putF5 x l).length ≤ 24 ∧ put5N x l = ((putF5 x l).length : Int) - x.scores.length ∧ asCode 5 x = 0 ∧ (∀ s ∈ l, isInt s.1 = true ∧ s.2.size ≤ 60) := by
  obtain ⟨hp, h24⟩ := put5_ok h
  obtain ⟨ha, hs⟩ := pre5_ok hp
  obtain ⟨h0, hok⟩ := scsCode_ok hs
  have hpos := putF5_pos (x := x) h0
  refine ⟨?_, as_scoreI hpos h24 (putF5_ok hp), putF5_ok hp, h24, ?_, ha, hok⟩
  · unfold put5Y ofC
    rw [if_pos h, if_neg hpos]
  · unfold put5N
    rw [if_pos h]

/-- rank and number of one that is there. -/
theorem rank_of {F : List (Int × ByteArray)} {k : Nat} {s : Int × ByteArray} (hy : asCode 5 (scoreI F) = 0) (hd : (F.map (·.2)).Nodup) (hk : F[k]? = some s) :
    rankCode (scoreI F) s.2 = 0 ∧ rankN (scoreI F) s.2 = k ∧ numN (scoreI F) s.2 = s.1 := by
  have hr : rankI (scoreI F) s.2 = k := by
    refine idxOf_found (q := fun q : Int × ByteArray => decide (q.2 = s.2)) ?_ hk (decide_eq_true rfl)
    intro j t hj ht
    have ht : F[j]? = some t := ht
    refine decide_eq_false fun e => ?_
    obtain ⟨hjl, hj2⟩ := List.getElem?_eq_some_iff.1 ht
    obtain ⟨hkl, hk2⟩ := List.getElem?_eq_some_iff.1 hk
    have := List.pairwise_iff_getElem.1 hd j k (by rw [List.length_map]; exact hjl) (by rw [List.length_map]; exact hkl) hj
    rw [List.getElem_map, List.getElem_map, hj2, hk2] at this
    exact this e
  have hc : rankCode (scoreI F) s.2 = 0 := by
    unfold rankCode
    rw [if_neg (by simpa using hy), hr, if_neg (by omega)]
  refine ⟨hc, by unfold rankN; rw [if_pos hc, hr], ?_⟩
  unfold numN
  rw [if_pos hc, hr, Int.toNat_natCast]
  show (F.getD k _).1 = s.1
  rw [List.getD_eq_getElem?_getD, hk]
  rfl

theorem rangeOf_whole {α : Type} (l : List α) : rangeOf l 0 (-1) = l := by
  have hb : spanB l.length 0 (-1) = l.length ∧ spanA l.length 0 (-1) = 0 := by
    unfold spanA spanB
    simp only [Int.lt_irrefl, if_false, show (-1 : Int) < 0 from by decide, if_true]
    by_cases h : (0 : Int) > min (-1 + (l.length : Int)) ((l.length : Int) - 1)
    · rw [if_pos h, if_pos h]; omega
    · rw [if_neg h, if_neg h]; omega
  unfold rangeOf
  rw [hb.1, hb.2, List.take_length, List.drop_zero]
theorem range5_all {F : List (Int × ByteArray)} (hy : asCode 5 (scoreI F) = 0) : range5 (scoreI F) 0 (-1) = F.map (·.2) := by
  unfold range5
  rw [if_pos hy]
  exact rangeOf_whole _
theorem within5_all {F : List (Int × ByteArray)} (a b : Int) (hy : asCode 5 (scoreI F) = 0) : within5 (scoreI F) a b = withinC F a b := by
  unfold within5
  rw [if_pos hy]
  rfl
theorem within_at {F : List (Int × ByteArray)} {k : Nat} {s : Int × ByteArray} (a b : Int) (hk : F[k]? = some s) (hw : (decide (a ≤ s.1) && decide (s.1 ≤ b)) = true) : (withinC F a b)[(withinC (F.take k) a b).length]? = some s.2 := by
  have e : F = F.take k ++ s :: F.drop (k + 1) := by
    obtain ⟨hlt, he⟩ := List.getElem?_eq_some_iff.1 hk
    rw [← he, ← List.drop_eq_getElem_cons hlt, List.take_append_drop]
  have hs : withinC F a b = withinC (F.take k) a b ++ s.2 :: withinC (F.drop (k + 1)) a b := by
    have : withinC F a b = withinC (F.take k ++ s :: F.drop (k + 1)) a b := congrArg (fun L => withinC L a b) e
    rw [this]
    unfold withinC
    rw [List.filter_append, List.filter_cons, if_pos hw, List.map_append, List.map_cons]
  rw [hs, List.getElem?_append_right (Nat.le_refl _), Nat.sub_self]
  rfl
/-- one behind the other. -/
theorem next_gt {F : List (Int × ByteArray)} {k : Nat} {p s : Int × ByteArray} (hr : rises ltC F = true) (hp : F[k]? = some p) (hs : F[k + 1]? = some s) : p.1 < s.1 ∨ (p.1 = s.1 ∧ ordB p.2 s.2 < 0) := by
  have h := of_decide_eq_true (rises_lt ltC_trans hr (Nat.lt_succ_self k) hp hs)
  unfold ordC at h
  by_cases e : p.1 = s.1
  · rw [if_pos e] at h; exact .inr ⟨e, h⟩
  · rw [if_neg e] at h; exact .inl (by omega)

theorem put_keep {l : List (Int × ByteArray)} {p q : Int × ByteArray} (hq : q ∈ l) (hne : q.2 ≠ p.2) : q ∈ putC l p :=
  insC_mem.2 (.inr (List.mem_filter.2 ⟨hq, by simpa using hne⟩))
theorem put_in (l : List (Int × ByteArray)) (p : Int × ByteArray) : p ∈ putC l p := insC_mem.2 (.inl rfl)
theorem fold_keep : ∀ (r : List (Int × ByteArray)) {xs : List (Int × ByteArray)} {q : Int × ByteArray}, q ∈ xs → (∀ s ∈ r, s.2 ≠ q.2) → q ∈ r.foldl putC xs
  | [], _, _, h, _ => h
  | p :: r, _, q, h, hn => fold_keep r (put_keep h (fun e => hn p (.head _) e.symm)) (fun s hs => hn s (.tail _ hs))
/-- the number of the last one of a member, among some; else what it was. -/
def lastN (l : List (Int × ByteArray)) (m : ByteArray) (d : Int) : Int := l.foldl (fun a q => if q.2 = m then q.1 else a) d
theorem lastN_snoc (l : List (Int × ByteArray)) (m : ByteArray) (d : Int) (s : Int × ByteArray) : lastN (l ++ [s]) m d = if s.2 = m then s.1 else lastN l m d := by
  unfold lastN
  rw [List.foldl_append]
  rfl
theorem last_in (m : ByteArray) : ∀ (r : List (Int × ByteArray)) {xs : List (Int × ByteArray)} {d : Int}, (d, m) ∈ xs → (lastN r m d, m) ∈ r.foldl putC xs
  | [], _, _, h => h
  | p :: r, xs, d, h => by
    unfold lastN
    rw [List.foldl_cons, List.foldl_cons]
    by_cases e : p.2 = m
    · rw [if_pos e]
      have : (p.1, m) ∈ putC xs p := by rw [← e]; exact put_in xs p
      exact last_in m r this
    · rw [if_neg e]
      exact last_in m r (put_keep h (fun e2 => e e2.symm))
/-- what a member has behind a put. -/
theorem num_last {x : Itm} {l : List (Int × ByteArray)} {k : Nat} {s : Int × ByteArray} (hk : l[k]? = some s) : (lastN (l.drop k) s.2 s.1, s.2) ∈ putF5 x l := by
  obtain ⟨hlt, he⟩ := List.getElem?_eq_some_iff.1 hk
  have e : l.drop k = s :: l.drop (k + 1) := by rw [← he]; exact List.drop_eq_getElem_cons hlt
  unfold putF5
  rw [← List.take_append_drop k l, List.foldl_append, e]
  have hd : (List.take k l ++ (s :: l.drop (k + 1))).drop k = s :: l.drop (k + 1) := by rw [← e, List.take_append_drop, e]
  rw [hd]
  unfold lastN
  rw [List.foldl_cons, List.foldl_cons, if_pos rfl]
  exact last_in s.2 _ (put_in _ s)
theorem num_put {x : Itm} {l : List (Int × ByteArray)} {k : Nat} {s : Int × ByteArray} (h : put5 x l = 0) (hk : l[k]? = some s) : rankCode (scoreI (putF5 x l)) s.2 = 0 ∧ numN (scoreI (putF5 x l)) s.2 = lastN (l.drop k) s.2 s.1 := by
  obtain ⟨-, hy, ok, -⟩ := put5_end h
  obtain ⟨j, hj⟩ := List.getElem?_of_mem (num_last (x := x) hk)
  have := rank_of hy ok.dist hj
  exact ⟨this.1, this.2.2⟩
/-- the next one of those from k on. -/
theorem lastN_step {l : List (Int × ByteArray)} {k h : Nat} {t : Int × ByteArray} (m : ByteArray) (d : Int) (hkh : k ≤ h) (ht : l[h]? = some t) : lastN ((l.take (h + 1)).drop k) m d = if t.2 = m then t.1 else lastN ((l.take h).drop k) m d := by
  have hlt := (List.getElem?_eq_some_iff.1 ht).1
  rw [List.take_add_one, ht, Option.toList_some, List.drop_append_of_le_length (by rw [List.length_take]; omega), lastN_snoc]
theorem lastN_none (l : List (Int × ByteArray)) (k : Nat) (m : ByteArray) (d : Int) : lastN ((l.take k).drop k) m d = d := by
  rw [List.drop_of_length_le (by rw [List.length_take]; omega)]
  rfl
end Go.Proofs.Ytmlmiboihjibiaa
