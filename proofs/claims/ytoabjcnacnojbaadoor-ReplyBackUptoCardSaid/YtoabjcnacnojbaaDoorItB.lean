/- The walks of small functions that only read: the order of texts; bounds. The walks of bare and Many. The walks of slices.IndexFunc and ContainsFunc at an item's rows, and of long. The walks of slices.ContainsFunc at an item's rows, and of the program's long. The walks of the program's rising, at texts. The walks of the orders of pairs and scores. -/
import Derived.Test.YtoabjcnacnojbaaDoorProg
import Derived.Test.YtoabjcnacnojbaaDoorBase
import Derived.Laws.AppendOwn
import Derived.Maps.AppendAt
import Derived.Deep.LoopGhost
import Derived.Deep.DeepCutAuto
import Derived.IntWalk
set_option linter.unusedVariables false
set_option linter.unusedSimpArgs false
namespace Go.Proofs.YtoabjcnacnojbaaDoor
open Go.RowKit
attribute [local go_sem] byteAt_eq

theorem between_any (n a b : Int) (w : World) : Calls Tryd.prog 27 #[.int .i64 n, .int .i64 a, .int .i64 b] w fun e w' => e = .returned (.bool (decide (a ≤ n) && decide (n ≤ b))) ∧ w' = w := by
  by_cases h : a ≤ n
  · go_enter Tryd.func27, Tryd.ntmps27
    go_wp2
    go_ret
    simp [h]
  · go_enter Tryd.func27, Tryd.ntmps27
    go_wp2
    go_ret
    simp [h]
    try omega

theorem refInt_any (n : Int) (w : World) : Calls Tryd.prog 28 #[.int .i64 n] w fun e w' => e = .returned (.bool (isInt n)) ∧ w' = w := by
  go_enter Tryd.func28, Tryd.ntmps28
  go_wp2_with fail
  refine (between_any _ _ _ _).mono ?_
  rintro e w1 ⟨rfl, rfl⟩
  go_wp2
  go_ret
  exact ⟨rfl, rfl⟩

end Go.Proofs.YtoabjcnacnojbaaDoor

namespace Go.Proofs.YtoabjcnacnojbaaDoor
open Go.RowKit

theorem eqNil (t : ByteArray) : (t.toList == ByteArray.toList ⟨#[]⟩) = decide (t.size = 0) := by
  rw [eqB]
  by_cases h : t.size = 0
  · have : t = ⟨#[]⟩ := by
      cases t with
      | mk d => 
        congr 1
        exact Array.eq_empty_of_size_eq_zero h
    subst this
    exact (decide_eq_true rfl).trans (decide_eq_true rfl).symm
  · have : t ≠ ⟨#[]⟩ := fun e => h (by rw [e]; rfl)
    simp [h, this]

end Go.Proofs.YtoabjcnacnojbaaDoor

namespace Go.Proofs.YtoabjcnacnojbaaDoor
open Go.RowKit

/-- the first place where q is so, else -1. -/
def idxOf {α : Type} (q : α → Bool) (l : List α) : Int := match l.findIdx? q with | some i => i | none => -1

theorem idxOf_found {α : Type} {q : α → Bool} {l : List α} {k : Nat} {s : α} (h : ∀ (j : Nat) t, j < k → l[j]? = some t → q t = false) (hk : l[k]? = some s) (hq : q s = true) : idxOf q l = k := by
  have : l.findIdx? q = some k := by
    rw [List.findIdx?_eq_some_iff_getElem]
    obtain ⟨hlt, he⟩ := List.getElem?_eq_some_iff.1 hk
    exact ⟨hlt, by rw [he]; exact hq, fun j hj => by rw [h j _ hj (List.getElem?_eq_getElem (by omega))]; decide⟩
  unfold idxOf; rw [this]
theorem idxOf_none {α : Type} {q : α → Bool} {l : List α} (h : ∀ (j : Nat) t, l[j]? = some t → q t = false) : idxOf q l = -1 := by
  have : l.findIdx? q = none := by
    rw [List.findIdx?_eq_none_iff]
    intro t ht
    obtain ⟨j, hj⟩ := List.getElem?_of_mem ht
    exact h j t hj
  unfold idxOf; rw [this]

def longS (s : ByteArray) : Bool := decide (60 < s.size)

def longP (s : ByteArray × ByteArray) : Bool := decide (60 < s.1.size) || decide (60 < s.2.size)

def longC (s : Int × ByteArray) : Bool := decide (60 < s.2.size)

end Go.Proofs.YtoabjcnacnojbaaDoor

namespace Go.Proofs.YtoabjcnacnojbaaDoor
open Go.RowKit

theorem idxOf_any {α : Type} (q : α → Bool) (l : List α) : 0 ≤ idxOf q l ↔ l.any q = true := by
  cases h : l.any q with
  | false =>
    have : idxOf q l = -1 := idxOf_none (fun j t ht => by
      have := List.any_eq_false.1 h t (List.mem_of_getElem? ht)
      simpa using this)
    rw [this]
    simp
  | true =>
    obtain ⟨t, ht, hq⟩ := List.any_eq_true.1 h
    unfold idxOf
    cases hf : l.findIdx? q with
    | none =>
      rw [List.findIdx?_eq_none_iff] at hf
      have := hf t ht
      rw [hq] at this
      cases this
    | some i => simp

/-- has one of them too many bytes? -/
def longI (x : Itm) : Bool := x.list.any longS || x.pairs.any longP || x.scores.any longC

end Go.Proofs.YtoabjcnacnojbaaDoor

namespace Go.Proofs.YtoabjcnacnojbaaDoor
open Go.RowKit

/-- does each stand behind the one ahead? -/
def rises {α : Type} (lt : α → α → Bool) : List α → Bool
  | [] => true
  | [_] => true
  | a :: b :: r => lt a b && rises lt (b :: r)

theorem rises_step {α : Type} {lt : α → α → Bool} {l : List α} {m : Nat} {a b : α} (ha : l[m]? = some a) (hb : l[m + 1]? = some b) : rises lt (l.drop m) = (lt a b && rises lt (l.drop (m + 1))) := by
  obtain ⟨h1, e1⟩ := List.getElem?_eq_some_iff.1 ha
  obtain ⟨h2, e2⟩ := List.getElem?_eq_some_iff.1 hb
  have d2 : l.drop (m + 1) = b :: l.drop (m + 2) := by rw [List.drop_eq_getElem_cons h2, e2]
  rw [List.drop_eq_getElem_cons h1, e1, d2]
  rfl
theorem rises_end {α : Type} {lt : α → α → Bool} {l : List α} {m : Nat} (h : l.length ≤ m + 1) : rises lt (l.drop m) = true := by
  have : (l.drop m).length ≤ 1 := by simp; omega
  match l.drop m, this with
  | [], _ => rfl
  | [_], _ => rfl

def ltS (a b : ByteArray) : Bool := decide (ordB a b < 0)

end Go.Proofs.YtoabjcnacnojbaaDoor

namespace Go.Proofs.YtoabjcnacnojbaaDoor
open Go.RowKit

def ltP (a b : ByteArray × ByteArray) : Bool := decide (ordB a.1 b.1 < 0)
/-- the order of scores, of numbers that are not too far apart. -/
def ordC (a b : Int × ByteArray) : Int := if a.1 = b.1 then ordB a.2 b.2 else a.1 - b.1
def ltC (a b : Int × ByteArray) : Bool := decide (ordC a b < 0)

end Go.Proofs.YtoabjcnacnojbaaDoor
