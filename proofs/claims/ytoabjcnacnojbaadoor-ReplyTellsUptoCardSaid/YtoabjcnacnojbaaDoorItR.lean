/- The walk of the reference's CheckItem, second: the loops. The reference's CheckItem, all cases joined. -/
import Derived.Test.YtoabjcnacnojbaaDoorItC
import Derived.Deep.RegionHeld3
import Derived.Deep.DrawnRows
set_option linter.unusedVariables false
set_option linter.unusedSimpArgs false
namespace Go.Proofs.YtoabjcnacnojbaaDoor
open Go.RowKit

theorem any_step {α : Type} {q : α → Bool} {l : List α} {m : Nat} {s : α} (h : l[m]? = some s) : (l.drop m).any q = (q s || (l.drop (m + 1)).any q) := by
  obtain ⟨h1, e1⟩ := List.getElem?_eq_some_iff.1 h
  rw [List.drop_eq_getElem_cons h1, e1]
  rfl
theorem any_end {α : Type} {q : α → Bool} {l : List α} {m : Nat} (h : l.length ≤ m) : (l.drop m).any q = false := by
  rw [List.drop_of_length_le h]
  rfl

def badI (p : Int × ByteArray) : Bool := !isInt p.1
theorem allInt {l : List (Int × ByteArray)} (h : l.any badI = false) : ∀ p ∈ l, isInt p.1 = true := by
  intro p hp
  have := List.any_eq_false.1 h p hp
  simpa [badI] using this
theorem dupAt {l : List (Int × ByteArray)} {n m : Nat} {t s : Int × ByteArray} (ht : l[n]? = some t) (hs : l[m]? = some s) (hn : n < m) (he : t.2 = s.2) : ¬ (l.map (·.2)).Nodup := by
  intro h
  have h1 : (l.map (·.2))[n]? = some s.2 := by simp [ht, he]
  have h2 : (l.map (·.2))[m]? = some s.2 := by simp [hs]
  have l1 := (List.getElem?_eq_some_iff.1 h1).1
  have := (List.getElem?_inj l1 h).1 (h1.trans h2.symm)
  omega
theorem noneStep {l : List (Int × ByteArray)} {n : Nat} {t : Int × ByteArray} {s : ByteArray} (h : ∀ (j : Nat) q, j < n → l[j]? = some q → q.2 ≠ s) (ht : l[n]? = some t) (hne : ¬ t.2 = s) : ∀ (j : Nat) q, j < n + 1 → l[j]? = some q → q.2 ≠ s := by
  intro j q hj hq
  rcases Nat.lt_or_ge j n with h1 | h1
  · exact h j q h1 hq
  · have e : j = n := by omega
    subst e
    rw [ht] at hq
    cases hq
    exact hne
theorem nodupNext {l : List (Int × ByteArray)} {m : Nat} {s : Int × ByteArray} (h : ((l.take m).map (·.2)).Nodup) (hs : l[m]? = some s) (hno : ∀ (j : Nat) q, j < m → l[j]? = some q → q.2 ≠ s.2) : ((l.take (m + 1)).map (·.2)).Nodup := by
  rw [members_take hs, nodup_snoc]
  refine ⟨h, ?_⟩
  rw [often_pos]
  intro hm
  obtain ⟨q, hq, e⟩ := List.mem_map.1 hm
  obtain ⟨j, hj⟩ := List.getElem?_of_mem hq
  rw [List.getElem?_take] at hj
  split at hj
  · exact hno j q (by assumption) hj e
  · cases hj

attribute [local go_sem ↓] Go.wp_at_zero Go.wp_at_succ

end Go.Proofs.YtoabjcnacnojbaaDoor

namespace Go.Proofs.YtoabjcnacnojbaaDoor
open Go.RowKit

end Go.Proofs.YtoabjcnacnojbaaDoor
