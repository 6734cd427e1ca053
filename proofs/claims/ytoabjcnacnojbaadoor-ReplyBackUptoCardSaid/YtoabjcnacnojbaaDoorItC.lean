/- The walk of the program's rising, at pairs. The walk of the program's rising, at scores. Items, plain: what is wrong with one. No walk. The walk of the reference's scoreLess. A map that counts texts, as a datum. No walk. Items, plain: their bytes, and what bytes tell. No program in sight. The walk of the program's scores: what is wrong with scores. The walk of the program's item.Check. (Printed by checkleaves.py.) The walk of the reference's CheckItem, first: where its form tells. (Printed by refcheck.py.) -/
import Derived.Test.YtoabjcnacnojbaaDoorItB
import Derived.Deep.RegionWith
import Derived.Maps.Own
import Derived.Maps.OwnOps
import Derived.Maps.Views
import Derived.StringKeys
import Derived.Carry
import Derived.WalkArith
set_option linter.unusedVariables false
set_option linter.unusedSimpArgs false
namespace Go.Proofs.YtoabjcnacnojbaaDoor
open Go.RowKit

end Go.Proofs.YtoabjcnacnojbaaDoor

namespace Go.Proofs.YtoabjcnacnojbaaDoor
open Go.RowKit

end Go.Proofs.YtoabjcnacnojbaaDoor

namespace Go.Proofs.YtoabjcnacnojbaaDoor

/-- what is wrong with scores: a number, twice one member, the order. -/
def scoresCode (l : List (Int × ByteArray)) : Int :=
  if l.any (fun p => !isInt p.1) then 3 else if ¬ (l.map (·.2)).Nodup then 6 else if rises ltC l then 0 else 4

/-- what is wrong with an item. -/
def checkItm (x : Itm) : Int :=
  if ¬ (1 ≤ x.kind ∧ x.kind ≤ 5) then 7
  else if bareB x = false then 1
  else if x.kind = 1 then (if 60 < x.text.size then 2 else 0)
  else if many x = 0 then 5
  else if 24 < many x ∨ longI x = true then 2
  else if (x.kind = 3 ∧ rises ltS x.list = false) ∨ (x.kind = 4 ∧ rises ltP x.pairs = false) then 4
  else scoresCode x.scores
end Go.Proofs.YtoabjcnacnojbaaDoor

namespace Go.Proofs.YtoabjcnacnojbaaDoor
open Go.RowKit

/-- the reference's order of scores. -/
def ltR (a b : Int × ByteArray) : Bool := decide (a.1 < b.1) || (a.1 == b.1 && decide (ordB a.2 b.2 < 0))

theorem ltR_eq {a b : Int × ByteArray} : ltR a b = ltC a b := by
  unfold ltR ltC ordC
  by_cases h : a.1 = b.1
  · have h2 : ¬ a.1 < b.1 := by omega
    simp [h]
  · rw [if_neg h, Bool.eq_iff_iff]
    simp [h]
    omega

end Go.Proofs.YtoabjcnacnojbaaDoor

namespace Go.Proofs.YtoabjcnacnojbaaDoor
open Go.RowKit Go.WideMaps Go.Maps

/-- how often. -/
def often (ms : List ByteArray) (s : ByteArray) : Nat := ms.countP (fun t => decide (t = s))

/-- the datum reads, at each text, as how often it is among these. -/
structure Counts {H : Type} (D : DataW H) (ms : List ByteArray) : Prop where
  isMap : IsMap D
  at_ : ∀ s : ByteArray, D.atKey (.string s.data.toList) (.lit (.int .i64 0)) = .lit (.int .i64 (often ms s : Nat))

theorem Counts.nil {H : Type} : Counts (H := H) (.map []) [] := ⟨⟨[], rfl⟩, fun s => rfl⟩

theorem Counts.step {H : Type} {D : DataW H} {ms : List ByteArray} {s : ByteArray} {c : Int} (h : Counts D ms) (hc : D.atKey (.string s.data.toList) (.lit (.int .i64 0)) = .lit (.int .i64 c)) :
    c = (often ms s : Nat) ∧ Counts (D.put (.string s.data.toList) (.lit (.int .i64 (c + 1)))) (ms ++ [s]) := by
  have e : c = (often ms s : Nat) := by
    rw [h.at_ s] at hc
    injection hc with hc
    injection hc with _ hc
    exact hc.symm
  refine ⟨e, ?_, fun t => ?_⟩
  · obtain ⟨es, rfl⟩ := h.isMap
    exact ⟨_, rfl⟩
  · by_cases ht : t = s
    · subst ht
      rw [atKey_put_same h.isMap (by trivial), e]
      simp [often, List.countP_append]
    · rw [atKey_put_other (fun he => ht (by
        injection he with he
        cases t; cases s
        congr 1
        exact Array.toList_inj.1 he)), h.at_ t]
      simp [often, List.countP_append, Ne.symm ht]

theorem often_pos {ms : List ByteArray} {s : ByteArray} : 0 < often ms s ↔ s ∈ ms := by
  unfold often
  rw [List.countP_pos_iff]
  constructor
  · rintro ⟨t, ht, h⟩
    rw [← of_decide_eq_true h]
    exact ht
  · intro h
    exact ⟨s, h, decide_eq_true rfl⟩

theorem nodup_snoc {ms : List ByteArray} {s : ByteArray} : (ms ++ [s]).Nodup ↔ ms.Nodup ∧ ¬ 0 < often ms s := by
  rw [often_pos, List.nodup_append]
  constructor
  · rintro ⟨h1, _, h3⟩
    exact ⟨h1, fun hm => h3 s hm s (by simp) rfl⟩
  · rintro ⟨h1, h2⟩
    refine ⟨h1, by simp, fun a ha b hb => ?_⟩
    rw [List.mem_singleton.1 hb]
    rintro rfl
    exact h2 ha
end Go.Proofs.YtoabjcnacnojbaaDoor

namespace Go.Proofs.YtoabjcnacnojbaaDoor

def byteN (n : Nat) : UInt8 := UInt8.ofNat n
def encText (s : ByteArray) : List UInt8 := byteN s.size :: s.data.toList
def encNum (n : Nat) : List UInt8 := [byteN (n / 16777216), byteN (n / 65536), byteN (n / 256), byteN n]
def encPair (p : ByteArray × ByteArray) : List UInt8 := encText p.1 ++ encText p.2
def encScore (p : Int × ByteArray) : List UInt8 := encNum (p.1 + 999999999).toNat ++ encText p.2
/-- the bytes of an item that is right. -/
def encItm (x : Itm) : List UInt8 :=
  byteN x.kind.toNat :: (if x.kind = 1 then x.text.data.toList else byteN (many x) :: (x.list.flatMap encText ++ (x.pairs.flatMap encPair ++ x.scores.flatMap encScore)))

/-- some bytes from the beginning, and the rest. -/
def takeB (n : Nat) (s : ByteArray) : Option (ByteArray × ByteArray) := if s.size < n then none else some (s.extract 0 n, s.extract n s.size)
def oneB (s : ByteArray) : Option (Nat × ByteArray) := if s.size < 1 then none else some (byteAt s 0, s.extract 1 s.size)
def num4B (s : ByteArray) : Option (Nat × ByteArray) :=
  if s.size < 4 then none else some (((byteAt s 0 * 256 + byteAt s 1) * 256 + byteAt s 2) * 256 + byteAt s 3, s.extract 4 s.size)
def toldB (s : ByteArray) : Option (ByteArray × ByteArray) := (oneB s).bind fun p => takeB p.1 p.2

/-- an item of nothing yet. -/
def newI (k : Int) : Itm := ⟨k, ByteArray.empty, [], [], []⟩

/-- an element more. -/
def readEl (x : Itm) (s : ByteArray) : Option (Itm × ByteArray) :=
  if x.kind = 4 then (toldB s).bind fun p => (toldB p.2).map fun q => ({ x with pairs := x.pairs ++ [(p.1, q.1)] }, q.2)
  else if x.kind = 5 then (num4B s).bind fun p => (toldB p.2).map fun q => ({ x with scores := x.scores ++ [((p.1 : Int) - 999999999, q.1)] }, q.2)
  else (toldB s).map fun p => ({ x with list := x.list ++ [p.1] }, p.2)
def readEls : Nat → Itm → ByteArray → Option (Itm × ByteArray)
  | 0, x, s => some (x, s)
  | n + 1, x, s => (readEl x s).bind fun p => readEls n p.1 p.2
/-- the item that bytes tell, right or not. -/
def decItm (s : ByteArray) : Option Itm :=
  (oneB s).bind fun p =>
    if p.1 = 1 then some { newI 1 with text := p.2 }
    else if 2 ≤ p.1 ∧ p.1 ≤ 5 then (oneB p.2).bind fun q => (readEls q.1 (newI p.1) q.2).bind fun r => if r.2.size = 0 then some r.1 else none
    else none
def decCode (s : ByteArray) : Int := match decItm s with
  | none => 1
  | some x => checkItm x
def decAns (s : ByteArray) : Itm := match decItm s with
  | none => newI 0
  | some x => if checkItm x = 0 then x else newI 0
end Go.Proofs.YtoabjcnacnojbaaDoor

namespace Go.Proofs.YtoabjcnacnojbaaDoor
open Go.RowKit Go.WideMaps Go.Maps

set_option maxRecDepth 100000 in
theorem mapKey : Keyed Tryd.prog 9 := string_keyed Tryd.underlying9
theorem zeroInt (w : World) : (zeroValue 3).run Tryd.prog w = .ok (.int .i64 0) w := by kernel_rfl

theorem scoresCode_bad {l : List (Int × ByteArray)} {k : Nat} {p : Int × ByteArray} (hk : l[k]? = some p) (h : isInt p.1 = false) : scoresCode l = 3 := by
  unfold scoresCode
  rw [if_pos (List.any_eq_true.2 ⟨p, List.mem_of_getElem? hk, by simp [h]⟩)]
theorem any_bad {l : List (Int × ByteArray)} (h : ∀ p ∈ l, isInt p.1 = true) : (l.any fun p => !isInt p.1) = false := by
  rw [List.any_eq_false]
  intro p hp
  simp [h p hp]
theorem scoresCode_twice {l : List (Int × ByteArray)} (h : ∀ p ∈ l, isInt p.1 = true) (h2 : ¬ (l.map (·.2)).Nodup) : scoresCode l = 6 := by
  unfold scoresCode
  rw [if_neg (by rw [any_bad h]; decide), if_pos h2]
theorem scoresCode_rises {l : List (Int × ByteArray)} (h : ∀ p ∈ l, isInt p.1 = true) (h2 : (l.map (·.2)).Nodup) : scoresCode l = if rises ltC l then 0 else 4 := by
  unfold scoresCode
  rw [if_neg (by rw [any_bad h]; decide), if_neg (fun h3 => h3 h2)]

theorem all_below {l : List (Int × ByteArray)} {k : Nat} (hk : l.length ≤ k) (h : ∀ (j : Nat) p, j < k → l[j]? = some p → isInt p.1 = true) : ∀ p ∈ l, isInt p.1 = true := by
  intro p hp
  obtain ⟨j, hj⟩ := List.getElem?_of_mem hp
  exact h j p (by have := (List.getElem?_eq_some_iff.1 hj).1; omega) hj

theorem members_take {l : List (Int × ByteArray)} {k : Nat} {p : Int × ByteArray} (hk : l[k]? = some p) : (l.take (k + 1)).map (·.2) = (l.take k).map (·.2) ++ [p.2] := by
  rw [List.take_add_one, hk]
  simp

/-- the map that counts, of the first k members; whether one of them is there twice. -/
structure Counted (l : List (Int × ByteArray)) (k B : Nat) (D : DataW Unit) (t : Bool) (wr : World) : Prop where
  own : wr.ownsMap Tryd.prog 9 (plainElem Tryd.prog 3) B k D
  counts : Counts D ((l.take k).map (·.2))
  twice : t = true ↔ ¬ ((l.take k).map (·.2)).Nodup
  ints : ∀ (j : Nat) p, j < k → l[j]? = some p → isInt p.1 = true

theorem ints_step {l : List (Int × ByteArray)} {k : Nat} {p : Int × ByteArray} (hk : l[k]? = some p) (hi : isInt p.1 = true) (h : ∀ (j : Nat) p, j < k → l[j]? = some p → isInt p.1 = true) :
    ∀ (j : Nat) p, j < k + 1 → l[j]? = some p → isInt p.1 = true := by
  intro j q hj hq
  rcases Nat.lt_or_ge j k with h1 | h1
  · exact h j q h1 hq
  · have e : j = k := by omega
    subst e
    rw [hk] at hq
    cases hq
    exact hi

theorem often_snoc (ms : List ByteArray) (s : ByteArray) : often (ms ++ [s]) s = often ms s + 1 := by
  simp [often, List.countP_append]

theorem Counted.bounds {l : List (Int × ByteArray)} {k B : Nat} {D : DataW Unit} {t : Bool} {wr : World} {s : ByteArray} {c : Int} (h : Counted l k B D t wr)
    (hc : D.atKey (.string s.data.toList) (.lit (.int .i64 0)) = .lit (.int .i64 c)) : 0 ≤ c ∧ c ≤ k := by
  have hs := h.counts.step hc
  have hle : often ((l.take k).map (·.2)) s ≤ k := by
    unfold often
    refine Nat.le_trans List.countP_le_length ?_
    rw [List.length_map]
    exact List.length_take_le _ _
  omega

/-- a round: the map written once. -/
theorem Counted.step {l : List (Int × ByteArray)} {k B : Nat} {D : DataW Unit} {t : Bool} {wr w1 : World} {p : Int × ByteArray} {c : Int} (h : Counted l k B D t wr) (hk : l[k]? = some p) (hi : isInt p.1 = true)
    (hc : D.atKey (.string p.2.data.toList) (.lit (.int .i64 0)) = .lit (.int .i64 c)) (own : w1.ownsMap Tryd.prog 9 (plainElem Tryd.prog 3) B (k + 1) (D.put (.string p.2.data.toList) (.lit (.int .i64 (c + 1))))) :
    0 ≤ c ∧ c ≤ k ∧ Counted l (k + 1) B (D.put (.string p.2.data.toList) (.lit (.int .i64 (c + 1)))) (t || decide (1 < c + 1)) w1 := by
  have hs := h.counts.step hc
  have hle : often ((l.take k).map (·.2)) p.2 ≤ k := by
    unfold often
    refine Nat.le_trans List.countP_le_length ?_
    rw [List.length_map]
    exact List.length_take_le _ _
  refine ⟨by omega, by omega, own, by rw [members_take hk]; exact hs.2, ?_, ints_step hk hi h.ints⟩
  rw [members_take hk, nodup_snoc]
  have := h.twice
  have e : (1 < c + 1) ↔ 0 < often ((l.take k).map (·.2)) p.2 := by omega
  rw [Bool.or_eq_true, decide_eq_true_eq, e, this]
  constructor
  · rintro (h1 | h1) ⟨h2, h3⟩
    · exact h1 h2
    · exact h3 h1
  · intro h1
    by_cases h2 : ((l.take k).map (·.2)).Nodup
    · exact .inr (Decidable.not_not.1 fun h3 => h1 ⟨h2, h3⟩)
    · exact .inl h2

end Go.Proofs.YtoabjcnacnojbaaDoor

namespace Go.Proofs.YtoabjcnacnojbaaDoor
open Go.RowKit

theorem five {w : World} {g t : Nat} {a b c d e : Value} (h : Whole w g t [a, b, c, d, e]) :
    w.cell? ⟨g, 0, none⟩ = some a ∧ w.cell? ⟨g, 1, none⟩ = some b ∧ w.cell? ⟨g, 2, none⟩ = some c ∧ w.cell? ⟨g, 3, none⟩ = some d ∧ w.cell? ⟨g, 4, none⟩ = some e :=
  ⟨h.cell 0, h.cell 1, h.cell 2, h.cell 3, h.cell 4⟩

end Go.Proofs.YtoabjcnacnojbaaDoor

namespace Go.Proofs.YtoabjcnacnojbaaDoor
open Go.RowKit

theorem nilOf {t : ByteArray} (h : t.size = 0) : t = ⟨#[]⟩ := by
  cases t with
  | mk d =>
    congr 1
    exact Array.eq_empty_of_size_eq_zero h
theorem neNil {t : ByteArray} (h : ¬ t.size = 0) : (t.toList != []) = true ∧ t.toList.isEmpty = false := by
  have := eqNil t
  rw [show ByteArray.toList ⟨#[]⟩ = [] from by decide +kernel, decide_eq_false h] at this
  have h2 : t.toList ≠ [] := by simpa using this
  exact ⟨by simpa using h2, by simpa using h2⟩

end Go.Proofs.YtoabjcnacnojbaaDoor
