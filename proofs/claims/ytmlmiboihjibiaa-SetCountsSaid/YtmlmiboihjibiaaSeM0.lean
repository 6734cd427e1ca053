/- Sets that come pass Check; what was added is there, what was removed is not. No walk. (Printed by sets4.py.) -/
import Derived.Test.YtmlmiboihjibiaaSeE
import Derived.Test.YtmlmiboihjibiaaSeC
set_option linter.unusedVariables false
set_option linter.unusedSimpArgs false
namespace Go.Proofs.Ytmlmiboihjibiaa
open Go.RowKit

theorem ofK_as {r : List ByteArray} (hr : rises ltS r = true) (h24 : r.length ≤ 24) (ht : ∀ s ∈ r, s.size ≤ 60) : asCode 3 (ofK 3 r) = 0 := by
  unfold ofK
  by_cases h0 : r.length = 0
  · rw [if_pos h0]; rfl
  · rw [if_neg h0]
    have e : many (kindI 3 r) = r.length := by show r.length + 0 + 0 = r.length; omega
    have hl : longI (kindI 3 r) = false := by
      have : r.any longS = false := by
        rw [List.any_eq_false]
        intro s hs
        unfold longS
        have := ht s hs
        simp
        omega
      unfold longI kindI
      simp [this]
    have hc : checkItm (kindI 3 r) = 0 := by
      unfold checkItm
      rw [if_neg (by show ¬ ¬ ((1 : Int) ≤ 3 ∧ (3 : Int) ≤ 5); decide), if_neg (by show ¬ (bareB (kindI 3 r) = false); rw [show bareB (kindI 3 r) = true from rfl]; decide), if_neg (by show ¬ (3 : Int) = 1; decide), if_neg (by rw [e]; omega), if_neg (by
        rw [e, hl]
        simp
        omega), if_neg (by
        rintro (⟨_, h⟩ | ⟨h, _⟩)
        · rw [show (kindI 3 r).list = r from rfl, hr] at h; cases h
        · exact absurd (show (3 : Int) = 4 from h) (by decide))]
      rfl
    unfold asCode
    rw [if_neg (by unfold nothingI; simp [kindI]), if_pos hc, if_pos (show (kindI 3 r).kind = 3 from rfl)]
theorem add3_as {x : Itm} {l : List ByteArray} (h : add3 x l = 0) : asCode 3 (add3Y x l) = 0 ∧ (add3Y x l).list = addL3 x l ∧ add3Y x l = ofK 3 (addL3 x l) := by
  obtain ⟨h1, h2⟩ := add3_ok h
  have e : add3Y x l = ofK 3 (addL3 x l) := if_pos h
  rw [e]
  exact ⟨ofK_as (setU_rises _) h2 (addL3_texts h1), ofK_list 3 _, rfl⟩
theorem add3_has {x : Itm} {l : List ByteArray} (h : add3 x l = 0) {s : ByteArray} (hs : s ∈ l) : (decide (asCode 3 (add3Y x l) = 0) && hasT (add3Y x l).list s) = true := by
  obtain ⟨h1, h2, _⟩ := add3_as h
  rw [decide_eq_true h1, Bool.true_and, h2, hasT_iff]
  exact setU_mem.2 (List.mem_append.2 (.inr hs))
/-- what is added twice is added once. -/
theorem add3_twice {x : Itm} {l : List ByteArray} (h : add3 x l = 0) : add3 (add3Y x l) l = 0 ∧ add3N (add3Y x l) l = 0 ∧ add3Y (add3Y x l) l = add3Y x l := by
  obtain ⟨h1, h2, h3⟩ := add3_as h
  have e : addL3 (add3Y x l) l = addL3 x l := by
    unfold addL3
    rw [h2]
    refine rises_ext (setU_rises _) (setU_rises _) (fun s => ?_)
    unfold addL3
    rw [setU_mem, List.mem_append, setU_mem]
    constructor
    · rintro (h | h)
      · exact h
      · exact List.mem_append.2 (.inr h)
    · exact .inl
  obtain ⟨h4, h5⟩ := add3_ok h
  have hc : add3 (add3Y x l) l = 0 := by
    have hp : pre3 (add3Y x l) l = 0 := by
      unfold pre3
      rw [if_neg (fun hn => hn h1)]
      exact (pre3_ok h4).2
    unfold add3
    rw [if_neg (fun hn => hn hp), e, if_neg (by omega)]
  refine ⟨hc, ?_, ?_⟩
  · unfold add3N
    rw [if_pos hc, e, h2]
    omega
  · rw [show add3Y (add3Y x l) l = ofK 3 (addL3 (add3Y x l) l) from if_pos hc, e, h3]
theorem add3_num {x : Itm} {l : List ByteArray} (h : add3 x l = 0) : ((add3Y x l).list.length : Int) = x.list.length + add3N x l ∧ -24 ≤ add3N x l ∧ add3N x l ≤ 24 ∧ asCode 3 x = 0 := by
  obtain ⟨h1, h2, _⟩ := add3_as h
  obtain ⟨h4, h5⟩ := add3_ok h
  have h6 := (setOk (pre3_ok h4).1).2
  have e : add3N x l = ((addL3 x l).length : Int) - x.list.length := if_pos h
  rw [h2, e]
  exact ⟨by omega, by omega, by omega, (pre3_ok h4).1⟩
theorem rem3_as {x : Itm} {l : List ByteArray} (h : asCode 3 x = 0) : asCode 3 (remOfY 3 x l) = 0 ∧ (remOfY 3 x l).list = lessL x.list l ∧ (∀ s ∈ l, hasT (remOfY 3 x l).list s = false) ∧ ((remOfY 3 x l).list.length : Int) = x.list.length - remOfK 3 x l ∧ 0 ≤ remOfK 3 x l ∧ remOfK 3 x l ≤ 24 := by
  have e : remOfY 3 x l = ofK 3 (lessL x.list l) := if_pos h
  have ek : remOfK 3 x l = (x.list.length : Int) - (lessL x.list l).length := if_pos h
  have hok := setOk h
  have hl : (lessL x.list l).length ≤ x.list.length := List.length_filter_le _ _
  have e2 : (remOfY 3 x l).list = lessL x.list l := by rw [e]; exact ofK_list 3 _
  refine ⟨by rw [e]; exact ofK_as (filter_rises _ hok.1) (by omega) (fun s hs => (asOk_of h).texts s (List.mem_filter.1 hs).1), e2, fun s hs => ?_, by rw [e2, ek]; omega, by rw [ek]; omega, by rw [ek]; omega⟩
  rw [e2]
  rcases hh : hasT (lessL x.list l) s with _ | _
  · rfl
  · have := (List.mem_filter.1 (hasT_iff.1 hh)).2
    rw [hasT_iff.2 hs] at this
    cases this

end Go.Proofs.Ytmlmiboihjibiaa
