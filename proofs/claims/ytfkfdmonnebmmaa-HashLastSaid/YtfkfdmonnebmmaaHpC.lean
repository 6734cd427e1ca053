/- Hashes, plain: what is got behind a put. -/
import Derived.Test.YtfkfdmonnebmmaaHwH
set_option linter.unusedVariables false
set_option linter.unusedSimpArgs false
namespace Go.Proofs.Ytfkfdmonnebmmaa

theorem as_pairI {L : List (ByteArray × ByteArray)} (h0 : L.length ≠ 0) (h24 : L.length ≤ 24) (hs : ∀ p ∈ L, p.1.size ≤ 60 ∧ p.2.size ≤ 60) (hr : rises (ltK Prod.fst) L = true) : asCode 4 (pairI L) = 0 := by
  have hm : many (pairI L) = L.length := by show 0 + L.length + 0 = L.length; omega
  have hb : bareB (pairI L) = true := rfl
  have hl : longI (pairI L) = false := by
    show ([].any longS || L.any longP || [].any longC) = false
    have : L.any longP = false := by
      rw [List.any_eq_false]
      intro p hp
      have := hs p hp
      unfold longP
      simp
      omega
    rw [this]
    rfl
  have hc : checkItm (pairI L) = 0 := by
    unfold checkItm
    rw [if_neg (by show ¬ ¬ (1 ≤ (4 : Int) ∧ (4 : Int) ≤ 5); decide), if_neg (by rw [hb]; decide), if_neg (by show ¬ (4 : Int) = 1; decide), if_neg (by rw [hm]; exact h0), if_neg (by rw [hm, hl]; intro h; rcases h with h | h; omega; cases h)]
    rw [if_neg]
    · rfl
    · rintro (⟨h, _⟩ | ⟨_, h⟩)
      · cases h
      · have : rises ltP L = true := hr
        have h : rises ltP L = false := h
        rw [this] at h
        cases h
  have hn : nothingI (pairI L) = false := rfl
  unfold asCode
  rw [if_neg (by rw [hn]; decide), if_pos hc]
  rfl

theorem lens_of {x : Itm} {l : List (ByteArray × ByteArray)} (h : pairsCode x l = 0) : l.length ≠ 0 := by
  unfold pairsCode at h
  by_cases ha : asCode 4 x = 0
  · rw [if_neg (by simpa using ha)] at h
    by_cases hb : l.length = 0
    · rw [if_pos hb] at h; cases h
    · exact hb
  · rw [if_pos ha] at h; exact absurd h ha
theorem putF_pos {x : Itm} {l : List (ByteArray × ByteArray)} (h : l.length ≠ 0) : (putF x l).length ≠ 0 := by
  unfold putF
  cases l with
  | nil => exact absurd rfl h
  | cons p r =>
    rw [List.foldl_cons]
    have h1 := (fold_len Prod.fst r (putK Prod.fst x.pairs p)).2
    have h2 := List.length_pos_of_mem (putK_in Prod.fst (l := x.pairs) p)
    omega

/-- what is got behind a put. -/
theorem get_put {x : Itm} {l : List (ByteArray × ByteArray)} (f : ByteArray) (h : putCode x l = 0) :
    getCode (putY x l) f = (match lastK Prod.fst l f with | some _ => 0 | none => getCode x f) ∧ getS (putY x l) f = (match lastK Prod.fst l f with | some q => q.2 | none => getS x f) := by
  obtain ⟨hp, h24⟩ := putOk h
  obtain ⟨ha, -⟩ := pairsOk hp
  have h0 := putF_pos (x := x) (lens_of hp)
  have hr : rises (ltK Prod.fst) (putF x l) = true := fold_rises _ _ (pairs_rise ha)
  have hy : putY x l = pairI (putF x l) := by
    unfold putY ofP
    rw [if_pos h, if_neg h0]
  have hA := as_pairI h0 h24 (putF_sizes hp) hr
  have hg := getK_fold Prod.fst f l (pairs_rise ha)
  rw [hy]
  unfold getCode getS
  simp only [hA, ha, ne_eq, not_true_eq_false, if_false]
  rw [show (pairI (putF x l)).pairs = l.foldl (putK Prod.fst) x.pairs from rfl, hg]
  cases lastK Prod.fst l f <;> exact ⟨rfl, rfl⟩
theorem lastK_step {l : List (ByteArray × ByteArray)} {f : ByteArray} {k : Nat} {p : ByteArray × ByteArray} (h : l[k]? = some p) : lastK Prod.fst (l.take (k + 1)) f = if p.1 = f then some p else lastK Prod.fst (l.take k) f := by
  unfold lastK
  rw [List.take_add_one, h, Option.toList_some, List.foldl_append]
  rfl
def wantOf (o : Option (ByteArray × ByteArray)) : ByteArray := match o with | some q => q.2 | none => ⟨#[]⟩
end Go.Proofs.Ytfkfdmonnebmmaa
