/- Items that must be nothing, or of a kind: the program's Nothing and As, the reference's IsNothing. Items that must be nothing: the reference's IsNothing. Items that must be nothing, or of a kind: the reference's CheckAs. The program's item.Of. The reference's filled; the program's list.ready. The program's list.of. The program's list.Some: what is wrong with some that come. The reference's CheckSome: what is wrong with some that come. The blocks of a call that takes an item and hands one back. What a law holds while it calls: blocks of items, items that read, rows that read. -/
import Derived.Test.YtkgbgmfidkimfaaGreatItC
import Derived.Test.YtkgbgmfidkimfaaGreatItR
import Derived.Test.YtkgbgmfidkimfaaGreatItf
set_option linter.unusedVariables false
set_option linter.unusedSimpArgs false
namespace Go.Proofs.YtkgbgmfidkimfaaGreat
open Go.RowKit

def nothingI (x : Itm) : Bool := x.kind == 0 && bareB x
/-- what is wrong with an item that must be nothing, or of a kind. -/
def asCode (k : Int) (x : Itm) : Int := if nothingI x = true then 0 else if checkItm x = 0 then (if x.kind = k then 0 else 7) else checkItm x

set_option maxRecDepth 100000 in
theorem nothing_any (x : Itm) (v : Value) (w : World) (B : Nat) (hs : x.Small) (hB : B ≤ w.heap.size) (h : ItemV w B v x) :
    Calls Tryz.prog 134 #[v] w fun e w' => e = .returned (.bool (nothingI x)) ∧ Fr [] w w' := by
  have Bq := Lib.hid (fun W (hf : Fr [] w W) => bare_any x v W B hs (h.fr hf hB (by simp)))
  obtain ⟨A1, c1, A2, c2, A3, c3, rfl, h1, h2, h3⟩ := h
  have F0 : Fr [] w (w.alloc (.cells #[.int .i64 x.kind, .string x.text, .slice A1 x.list.length c1, .slice A2 x.pairs.length c2, .slice A3 x.scores.length c3] 26)) := (Fr.refl [] w).alloc _
  have hE : nothingI x = (x.kind == 0 && bareB x) := rfl
  clear h1 h2 h3 hs
  generalize nothingI x = r at *
  generalize bareB x = b at *
  generalize x.list.length = n1 at *
  generalize x.pairs.length = n2 at *
  generalize x.scores.length = n3 at *
  generalize x.kind = k at *
  by_cases hk : k = 0
  · subst hk
    rw [show ((0 : Int) == 0) = true from rfl, Bool.true_and] at hE
    subst hE
    go_enter Tryz.func134, Tryz.ntmps134
    go_wp2_with fail
    refine (Bq.out _ F0).mono ?_
    rintro e w1 ⟨rfl, f1⟩
    go_wp2
    go_ret
    exact ⟨rfl, F0.trans f1⟩
  · have q : (k == 0) = false := by simpa using hk
    rw [q, Bool.false_and] at hE
    subst hE
    clear hk
    go_enter Tryz.func134, Tryz.ntmps134
    go_wp2
    go_ret
    exact ⟨rfl, F0⟩

set_option maxRecDepth 100000 in
theorem as_any (x : Itm) (k : Int) (v : Value) (w : World) (B : Nat) (hs : x.Small) (hB : B ≤ w.heap.size) (h : ItemV w B v x) :
    Calls Tryz.prog 101 #[v, .int .i64 k] w fun e w' => e = .returned (.int .i64 (asCode k x)) ∧ Fr [] w w' := by
  have NO := Lib.hid (fun W (hf : Fr [] w W) => nothing_any x v W B hs (Nat.le_trans hB hf.size) (h.fr hf hB (by simp)))
  have CK := Lib.hid (fun W (hf : Fr [] w W) => itemCheck_any x v W B hs (Nat.le_trans hB hf.size) (h.fr hf hB (by simp)))
  obtain ⟨A1, c1, A2, c2, A3, c3, rfl, h1, h2, h3⟩ := h
  have F0 : Fr [] w (w.alloc (.cells #[.int .i64 x.kind, .string x.text, .slice A1 x.list.length c1, .slice A2 x.pairs.length c2, .slice A3 x.scores.length c3] 26)) := (Fr.refl [] w).alloc _
  have V0 := Lib.hid (show Whole (w.alloc (.cells #[.int .i64 x.kind, .string x.text, .slice A1 x.list.length c1, .slice A2 x.pairs.length c2, .slice A3 x.scores.length c3] 26)) w.heap.size 26 [.int .i64 x.kind, .string x.text, .slice A1 x.list.length c1, .slice A2 x.pairs.length c2, .slice A3 x.scores.length c3] from Whole.new w _ _)
  have hE : asCode k x = if nothingI x = true then 0 else if checkItm x = 0 then (if x.kind = k then 0 else 7) else checkItm x := rfl
  clear h1 h2 h3 hs
  generalize asCode k x = r at *
  generalize nothingI x = b at *
  generalize checkItm x = c at *
  generalize x.list.length = n1 at *
  generalize x.pairs.length = n2 at *
  generalize x.scores.length = n3 at *
  generalize x.kind = j at *
  obtain ⟨d0, d1, d2, d3, d4⟩ := five V0.out
  cases b
  · rw [if_neg (by decide)] at hE
    by_cases hc : c = 0
    · subst hc
      rw [if_pos rfl] at hE
      by_cases hj : j = k
      · subst hj
        rw [if_pos rfl] at hE
        subst hE
        have q : (j != j) = false := by simp
        go_enter Tryz.func101, Tryz.ntmps101
        go_wp2_with fail
        refine (NO.out _ F0).mono ?_
        rintro e w1 ⟨rfl, f1⟩
        have F1 := F0.trans f1
        have V1 := Lib.hid (V0.out.fr f1 (by simp))
        clear d0 d1 d2 d3 d4
        obtain ⟨d0, d1, d2, d3, d4⟩ := five V1.out
        go_wp2_with fail
        refine (CK.out _ F1).mono ?_
        rintro e w2 ⟨rfl, f2⟩
        have V2 := Lib.hid (V1.out.fr f2 (by simp))
        clear d0 d1 d2 d3 d4
        obtain ⟨d0, d1, d2, d3, d4⟩ := five V2.out
        go_wp2
        go_ret
        exact ⟨rfl, F1.trans f2⟩
      · rw [if_neg hj] at hE
        subst hE
        have q : (j != k) = true := by simpa using hj
        clear hj
        go_enter Tryz.func101, Tryz.ntmps101
        go_wp2_with fail
        refine (NO.out _ F0).mono ?_
        rintro e w1 ⟨rfl, f1⟩
        have F1 := F0.trans f1
        have V1 := Lib.hid (V0.out.fr f1 (by simp))
        clear d0 d1 d2 d3 d4
        obtain ⟨d0, d1, d2, d3, d4⟩ := five V1.out
        go_wp2_with fail
        refine (CK.out _ F1).mono ?_
        rintro e w2 ⟨rfl, f2⟩
        have V2 := Lib.hid (V1.out.fr f2 (by simp))
        clear d0 d1 d2 d3 d4
        obtain ⟨d0, d1, d2, d3, d4⟩ := five V2.out
        go_wp2
        go_ret
        exact ⟨rfl, F1.trans f2⟩
    · rw [if_neg hc] at hE
      subst hE
      have q : (r != 0) = true := by simpa using hc
      clear hc
      go_enter Tryz.func101, Tryz.ntmps101
      go_wp2_with fail
      refine (NO.out _ F0).mono ?_
      rintro e w1 ⟨rfl, f1⟩
      have F1 := F0.trans f1
      have V1 := Lib.hid (V0.out.fr f1 (by simp))
      clear d0 d1 d2 d3 d4
      obtain ⟨d0, d1, d2, d3, d4⟩ := five V1.out
      go_wp2_with fail
      refine (CK.out _ F1).mono ?_
      rintro e w2 ⟨rfl, f2⟩
      go_wp2
      go_ret
      exact ⟨rfl, F1.trans f2⟩
  · rw [if_pos rfl] at hE
    subst hE
    go_enter Tryz.func101, Tryz.ntmps101
    go_wp2_with fail
    refine (NO.out _ F0).mono ?_
    rintro e w1 ⟨rfl, f1⟩
    go_wp2
    go_ret
    exact ⟨rfl, F0.trans f1⟩
end Go.Proofs.YtkgbgmfidkimfaaGreat

namespace Go.Proofs.YtkgbgmfidkimfaaGreat
open Go.RowKit

theorem nothingI_iff (x : Itm) : nothingI x = (x.kind == 0 && (x.text.size == 0 && many x == 0)) := by
  unfold nothingI
  by_cases hk : x.kind = 0
  · rw [hk]
    unfold bareB many
    rw [hk]
    generalize x.text.size = a
    generalize x.list.length = n1
    generalize x.pairs.length = n2
    generalize x.scores.length = n3
    rw [Bool.eq_iff_iff]
    simp
    omega
  · have q : (x.kind == 0) = false := by simpa using hk
    rw [q, Bool.false_and, Bool.false_and]

set_option maxRecDepth 100000 in
theorem isNothing_any (x : Itm) (v : Value) (w : World) (B : Nat) (hs : x.Small) (hB : B ≤ w.heap.size) (h : ItemV w B v x) :
    Calls Tryz.prog 99 #[v] w fun e w' => e = .returned (.bool (nothingI x)) ∧ Fr [] w w' := by
  obtain ⟨A1, c1, A2, c2, A3, c3, rfl, h1, h2, h3⟩ := h
  have F0 : Fr [] w (w.alloc (.cells #[.int .i64 x.kind, .string x.text, .slice A1 x.list.length c1, .slice A2 x.pairs.length c2, .slice A3 x.scores.length c3] 26)) := (Fr.refl [] w).alloc _
  have hE := nothingI_iff x
  rw [show (many x == 0) = (x.list.length + x.pairs.length + x.scores.length == 0) from rfl] at hE
  have s1 := hs.list
  have s2 := hs.pairs
  have s3 := hs.scores
  clear h1 h2 h3 hs
  generalize nothingI x = r at *
  generalize x.list.length = n1 at *
  generalize x.pairs.length = n2 at *
  generalize x.scores.length = n3 at *
  generalize x.text = t at *
  generalize x.kind = k at *
  by_cases hk : k = 0
  · subst hk
    by_cases ht : t.size = 0
    · obtain rfl := nilOf ht
      by_cases hm : n1 + n2 + n3 = 0
      · obtain rfl : n1 = 0 := by omega
        obtain rfl : n2 = 0 := by omega
        obtain rfl : n3 = 0 := by omega
        obtain rfl : r = true := hE
        clear hm ht
        go_enter Tryz.func99, Tryz.ntmps99
        go_wp2
        go_ret
        exact ⟨rfl, F0⟩
      · have hr : r = false := by rw [hE]; simp; omega
        subst hr
        have q : ((n1 : Int) + (n2 : Int) + (n3 : Int) == 0) = false := by simp; omega
        have q2 : ¬ ((n1 : Int) + (n2 : Int) + (n3 : Int) = 0) := by omega
        clear hE hm ht
        go_enter Tryz.func99, Tryz.ntmps99
        go_wp2
        go_ret
        exact ⟨rfl, F0⟩
    · obtain ⟨yT1, yT2⟩ := neNil ht
      have yT3 : (t.toList == []) = false := by simpa using yT1
      have hr : r = false := by rw [hE, beq_eq_false_iff_ne.2 ht]; rfl
      subst hr
      clear hE ht
      go_enter Tryz.func99, Tryz.ntmps99
      go_wp2
      go_ret
      exact ⟨rfl, F0⟩
  · have q : (k == 0) = false := by simpa using hk
    rw [q, Bool.false_and] at hE
    subst hE
    clear hk
    go_enter Tryz.func99, Tryz.ntmps99
    go_wp2
    go_ret
    exact ⟨rfl, F0⟩
end Go.Proofs.YtkgbgmfidkimfaaGreat

namespace Go.Proofs.YtkgbgmfidkimfaaGreat
open Go.RowKit

set_option maxRecDepth 100000 in
theorem checkAs_any (x : Itm) (k : Int) (v : Value) (w : World) (B : Nat) (hs : x.Small) (hB : B ≤ w.heap.size) (h : ItemV w B v x) :
    Calls Tryz.prog 40 #[v, .int .i64 k] w fun e w' => e = .returned (.int .i64 (asCode k x)) ∧ Fr [] w w' := by
  have NO := Lib.hid (fun W (hf : Fr [] w W) => isNothing_any x v W B hs (Nat.le_trans hB hf.size) (h.fr hf hB (by simp)))
  have CK := Lib.hid (fun W (hf : Fr [] w W) => refCheck_any x v W B hs (Nat.le_trans hB hf.size) (h.fr hf hB (by simp)))
  obtain ⟨A1, c1, A2, c2, A3, c3, rfl, h1, h2, h3⟩ := h
  have F0 : Fr [] w (w.alloc (.cells #[.int .i64 x.kind, .string x.text, .slice A1 x.list.length c1, .slice A2 x.pairs.length c2, .slice A3 x.scores.length c3] 26)) := (Fr.refl [] w).alloc _
  have V0 := Lib.hid (show Whole (w.alloc (.cells #[.int .i64 x.kind, .string x.text, .slice A1 x.list.length c1, .slice A2 x.pairs.length c2, .slice A3 x.scores.length c3] 26)) w.heap.size 26 [.int .i64 x.kind, .string x.text, .slice A1 x.list.length c1, .slice A2 x.pairs.length c2, .slice A3 x.scores.length c3] from Whole.new w _ _)
  have hE : asCode k x = if nothingI x = true then 0 else if checkItm x = 0 then (if x.kind = k then 0 else 7) else checkItm x := rfl
  clear h1 h2 h3 hs
  generalize asCode k x = r at *
  generalize nothingI x = b at *
  generalize checkItm x = c at *
  generalize x.list.length = n1 at *
  generalize x.pairs.length = n2 at *
  generalize x.scores.length = n3 at *
  generalize x.kind = j at *
  obtain ⟨d0, d1, d2, d3, d4⟩ := five V0.out
  cases b
  · rw [if_neg (by decide)] at hE
    by_cases hc : c = 0
    · subst hc
      rw [if_pos rfl] at hE
      by_cases hj : j = k
      · subst hj
        rw [if_pos rfl] at hE
        subst hE
        have q : (j != j) = false := by simp
        go_enter Tryz.func40, Tryz.ntmps40
        go_wp2_with fail
        refine (NO.out _ F0).mono ?_
        rintro e w1 ⟨rfl, f1⟩
        have F1 := F0.trans f1
        have V1 := Lib.hid (V0.out.fr f1 (by simp))
        clear d0 d1 d2 d3 d4
        obtain ⟨d0, d1, d2, d3, d4⟩ := five V1.out
        go_wp2_with fail
        refine (CK.out _ F1).mono ?_
        rintro e w2 ⟨rfl, f2⟩
        have V2 := Lib.hid (V1.out.fr f2 (by simp))
        clear d0 d1 d2 d3 d4
        obtain ⟨d0, d1, d2, d3, d4⟩ := five V2.out
        go_wp2
        go_ret
        exact ⟨rfl, F1.trans f2⟩
      · rw [if_neg hj] at hE
        subst hE
        have q : (j != k) = true := by simpa using hj
        clear hj
        go_enter Tryz.func40, Tryz.ntmps40
        go_wp2_with fail
        refine (NO.out _ F0).mono ?_
        rintro e w1 ⟨rfl, f1⟩
        have F1 := F0.trans f1
        have V1 := Lib.hid (V0.out.fr f1 (by simp))
        clear d0 d1 d2 d3 d4
        obtain ⟨d0, d1, d2, d3, d4⟩ := five V1.out
        go_wp2_with fail
        refine (CK.out _ F1).mono ?_
        rintro e w2 ⟨rfl, f2⟩
        have V2 := Lib.hid (V1.out.fr f2 (by simp))
        clear d0 d1 d2 d3 d4
        obtain ⟨d0, d1, d2, d3, d4⟩ := five V2.out
        go_wp2
        go_ret
        exact ⟨rfl, F1.trans f2⟩
    · rw [if_neg hc] at hE
      subst hE
      have q : (r == 0) = false := by simpa using hc
      clear hc
      go_enter Tryz.func40, Tryz.ntmps40
      go_wp2_with fail
      refine (NO.out _ F0).mono ?_
      rintro e w1 ⟨rfl, f1⟩
      have F1 := F0.trans f1
      have V1 := Lib.hid (V0.out.fr f1 (by simp))
      clear d0 d1 d2 d3 d4
      obtain ⟨d0, d1, d2, d3, d4⟩ := five V1.out
      go_wp2_with fail
      refine (CK.out _ F1).mono ?_
      rintro e w2 ⟨rfl, f2⟩
      go_wp2
      go_ret
      exact ⟨rfl, F1.trans f2⟩
  · rw [if_pos rfl] at hE
    subst hE
    go_enter Tryz.func40, Tryz.ntmps40
    go_wp2_with fail
    refine (NO.out _ F0).mono ?_
    rintro e w1 ⟨rfl, f1⟩
    go_wp2
    go_ret
    exact ⟨rfl, F0.trans f1⟩
end Go.Proofs.YtkgbgmfidkimfaaGreat

namespace Go.Proofs.YtkgbgmfidkimfaaGreat
open Go.RowKit

theorem fr_set5 {w wr : World} {o : Nat} (h : Fr [] w wr) (ho : w.heap.size ≤ o) (a b c d e : Value) : Fr [] w (set5 wr o a b c d e) :=
  ((((h.setCell (p := ⟨o, 0, none⟩) (.inr ho) _).setCell (p := ⟨o, 1, none⟩) (.inr ho) _).setCell (p := ⟨o, 2, none⟩) (.inr ho) _).setCell (p := ⟨o, 3, none⟩) (.inr ho) _).setCell (p := ⟨o, 4, none⟩) (.inr ho) _

end Go.Proofs.YtkgbgmfidkimfaaGreat

namespace Go.Proofs.YtkgbgmfidkimfaaGreat
open Go.RowKit

end Go.Proofs.YtkgbgmfidkimfaaGreat

namespace Go.Proofs.YtkgbgmfidkimfaaGreat
open Go.RowKit

def listI (l : List ByteArray) : Itm := ⟨2, ⟨#[]⟩, l, [], []⟩

end Go.Proofs.YtkgbgmfidkimfaaGreat

namespace Go.Proofs.YtkgbgmfidkimfaaGreat
open Go.RowKit

def someCode (l : List ByteArray) : Int := if l.length = 0 then 1 else if l.any longS = true then 2 else 0

end Go.Proofs.YtkgbgmfidkimfaaGreat

namespace Go.Proofs.YtkgbgmfidkimfaaGreat
open Go.RowKit

end Go.Proofs.YtkgbgmfidkimfaaGreat

namespace Go.Proofs.YtkgbgmfidkimfaaGreat
open Go.RowKit

/-- an argument's block, at the heap's end. -/
structure BX (w : World) (cs : List Value) (wr : World) : Prop where
  b : Whole wr w.heap.size 26 cs
  f : Fr [] w wr
theorem BX.new (w : World) (a b c d e : Value) : BX w [a, b, c, d, e] (w.alloc (.cells #[a, b, c, d, e] 26)) := ⟨Whole.new w _ _, (Fr.refl [] w).alloc _⟩
theorem BX.go {w wr w1 : World} {cs : List Value} (h : BX w cs wr) (k : Fr [] wr w1) : BX w cs w1 := ⟨h.b.fr k (by simp), h.f.trans k⟩

/-- an argument's block, and the answer's n blocks behind it. -/
structure BO (w : World) (n : Nat) (cs : List Value) (wr : World) : Prop where
  b : Whole wr w.heap.size 26 cs
  o : Whole wr (w.heap.size + n) 26 [.int .i64 0, .string ⟨#[]⟩, .slice none 0 0, .slice none 0 0, .slice none 0 0]
  f : Fr [] w wr
theorem BO.new (w : World) (a b c d e : Value) : BO w 1 [a, b, c, d, e] ((w.alloc (.cells #[a, b, c, d, e] 26)).alloc (.cells #[.int .i64 0, .string ⟨#[]⟩, .slice none 0 0, .slice none 0 0, .slice none 0 0] 26)) :=
  ⟨(Whole.new w _ _).alloc _, by
    have := Whole.new (w.alloc (.cells #[a, b, c, d, e] 26)) 26 [.int .i64 0, .string ⟨#[]⟩, .slice none 0 0, .slice none 0 0, .slice none 0 0]
    simpa using this, ((Fr.refl [] w).alloc _).alloc _⟩
/-- a text's block between them. -/
theorem BO.new2 (w : World) (a b c d e s : Value) : BO w 2 [a, b, c, d, e] (((w.alloc (.cells #[a, b, c, d, e] 26)).alloc (.cells #[s] 9)).alloc (.cells #[.int .i64 0, .string ⟨#[]⟩, .slice none 0 0, .slice none 0 0, .slice none 0 0] 26)) :=
  ⟨((Whole.new w _ _).alloc _).alloc _, by
    have := Whole.new ((w.alloc (.cells #[a, b, c, d, e] 26)).alloc (.cells #[s] 9)) 26 [.int .i64 0, .string ⟨#[]⟩, .slice none 0 0, .slice none 0 0, .slice none 0 0]
    simpa using this, (((Fr.refl [] w).alloc _).alloc _).alloc _⟩
/-- a row's block between them. -/
theorem BO.newL (w : World) (a b c d e s : Value) : BO w 2 [a, b, c, d, e] (((w.alloc (.cells #[a, b, c, d, e] 26)).alloc (.cells #[s] 22)).alloc (.cells #[.int .i64 0, .string ⟨#[]⟩, .slice none 0 0, .slice none 0 0, .slice none 0 0] 26)) :=
  ⟨((Whole.new w _ _).alloc _).alloc _, by
    have := Whole.new ((w.alloc (.cells #[a, b, c, d, e] 26)).alloc (.cells #[s] 22)) 26 [.int .i64 0, .string ⟨#[]⟩, .slice none 0 0, .slice none 0 0, .slice none 0 0]
    simpa using this, (((Fr.refl [] w).alloc _).alloc _).alloc _⟩
theorem BO.go {w wr w1 : World} {n : Nat} {cs : List Value} (h : BO w n cs wr) (k : Fr [] wr w1) : BO w n cs w1 := ⟨h.b.fr k (by simp), h.o.fr k (by simp), h.f.trans k⟩
/-- a step that turns blocks that came later. -/
theorem BO.step {w wr w1 : World} {n : Nat} {cs : List Value} {S : List Nat} (h : BO w n cs wr) (k : Fr S wr w1) (hS : ∀ g, g ∈ S → w.heap.size + n < g) : BO w n cs w1 :=
  ⟨h.b.fr k (fun hm => by have := hS _ hm; omega), h.o.fr k (fun hm => by have := hS _ hm; omega), h.f.step k (fun g hg => .inr (by have := hS g hg; omega))⟩
theorem BO.alloc {w wr : World} {n : Nat} {cs : List Value} (h : BO w n cs wr) (o : Obj) : BO w n cs (wr.alloc o) := h.go ((Fr.refl [] wr).alloc o)
theorem BO.end5 {w wr : World} {n : Nat} {cs : List Value} (h : BO w n cs wr) (a b c d e : Value) : Fr [] w (set5 wr (w.heap.size + n) a b c d e) := fr_set5 h.f (by omega) _ _ _ _ _
theorem BO.lt {w wr : World} {n : Nat} {cs : List Value} (h : BO w n cs wr) : w.heap.size + n < wr.heap.size := h.o.lt

theorem ItemO.form {w : World} {base : Nat} {v : Value} {x : Itm} (h : ItemO w base v x) : ∃ A1 c1 A2 c2 A3 c3, v = .agg #[.int .i64 x.kind, .string x.text, .slice A1 x.list.length c1, .slice A2 x.pairs.length c2, .slice A3 x.scores.length c3] := by
  obtain ⟨v1, v2, v3, rfl, o1, o2, o3⟩ := h
  obtain ⟨A1, c1, rfl⟩ := sl_form (own_sl o1)
  obtain ⟨A2, c2, rfl⟩ := sl_form (own_sl o2)
  obtain ⟨A3, c3, rfl⟩ := sl_form (own_sl o3)
  exact ⟨A1, c1, A2, c2, A3, c3, rfl⟩
theorem ItemV.form {w : World} {B : Nat} {v : Value} {x : Itm} (h : ItemV w B v x) : ∃ A1 c1 A2 c2 A3 c3, v = .agg #[.int .i64 x.kind, .string x.text, .slice A1 x.list.length c1, .slice A2 x.pairs.length c2, .slice A3 x.scores.length c3] := by
  obtain ⟨A1, c1, A2, c2, A3, c3, rfl, _⟩ := h
  exact ⟨A1, c1, A2, c2, A3, c3, rfl⟩
theorem own_later {w : World} {base e size n : Nat} {v : Value} {xs : List Value} (h : w.ownsRow base e size v n xs) {p : Addr} (hp : p.block < base) (u : Value) : (w.setCell p u).ownsRow base e size v n xs :=
  own_set u h (fun he => by have := (h.lt _ he).1; omega)
theorem own_later5 {w : World} {base e size n o : Nat} {v : Value} {xs : List Value} (h : w.ownsRow base e size v n xs) (ho : o < base) (a b c d f : Value) : (set5 w o a b c d f).ownsRow base e size v n xs :=
  own_later (p := ⟨o, 4, none⟩) (own_later (p := ⟨o, 3, none⟩) (own_later (p := ⟨o, 2, none⟩) (own_later (p := ⟨o, 1, none⟩) (own_later (p := ⟨o, 0, none⟩) h ho _) ho _) ho _) ho _) ho _
/-- five stores into a block that came ahead of an item's rows. -/
theorem itemO_later {w : World} {base o : Nat} {v : Value} {x : Itm} (h : ItemO w base v x) (ho : o < base) (a b c d e : Value) : ItemO (set5 w o a b c d e) base v x := by
  obtain ⟨v1, v2, v3, rfl, o1, o2, o3⟩ := h
  exact ⟨_, _, _, rfl, own_later5 o1 ho _ _ _ _ _, own_later5 o2 ho _ _ _ _ _, own_later5 o3 ho _ _ _ _ _⟩
theorem ItemO.go {w w' : World} {base : Nat} {v : Value} {x : Itm} (h : ItemO w base v x) (hf : Fr [] w w') : ItemO w' base v x := by
  obtain ⟨v1, v2, v3, rfl, o1, o2, o3⟩ := h
  exact ⟨_, _, _, rfl, own_fr o1 hf (by simp), own_fr o2 hf (by simp), own_fr o3 hf (by simp)⟩
theorem ItemO.less {w : World} {base base' : Nat} {v : Value} {x : Itm} (h : ItemO w base v x) (hb : base' ≤ base) : ItemO w base' v x := by
  obtain ⟨v1, v2, v3, rfl, o1, o2, o3⟩ := h
  exact ⟨_, _, _, rfl, own_base o1 hb, own_base o2 hb, own_base o3 hb⟩
end Go.Proofs.YtkgbgmfidkimfaaGreat

namespace Go.Proofs.YtkgbgmfidkimfaaGreat
open Go.RowKit

structure Env (w0 : World) (bl : List (Nat × List Value)) (its : List (Value × Itm)) (rs : List (Nat × Value × Nat × List Value)) (wr : World) : Prop where
  bl : ∀ p, p ∈ bl → Whole wr p.1 26 p.2
  its : ∀ p, p ∈ its → ItemV wr wr.heap.size p.1 p.2
  rs : ∀ p, p ∈ rs → Sl wr wr.heap.size p.1 p.2.1 p.2.2.1 p.2.2.2
  f : Fr [] w0 wr

section
variable {w0 wr w1 : World} {bl : List (Nat × List Value)} {its : List (Value × Itm)} {rs : List (Nat × Value × Nat × List Value)}
theorem Env.start (w0 : World) : Env w0 [] [] [] w0 := ⟨(fun p hp => by cases hp), (fun p hp => by cases hp), (fun p hp => by cases hp), Fr.refl [] w0⟩
theorem Env.go (h : Env w0 bl its rs wr) (k : Fr [] wr w1) : Env w0 bl its rs w1 :=
  ⟨fun p hp => (h.bl p hp).fr k (by simp), fun p hp => ((h.its p hp).fr k (Nat.le_refl _) (by simp)).more k.size, fun p hp => ((h.rs p hp).fr k (Nat.le_refl _) (by simp)).more k.size, h.f.trans k⟩
theorem Env.alloc (h : Env w0 bl its rs wr) (o : Obj) : Env w0 bl its rs (wr.alloc o) := h.go ((Fr.refl [] wr).alloc o)
theorem Env.drew (h : Env w0 bl its rs wr) : Env w0 bl its rs wr.drew := h.go (Fr.refl [] wr).drew
theorem Env.drewN (h : Env w0 bl its rs wr) (n : Nat) : Env w0 bl its rs (wr.drewN n) := h.go ((Fr.refl [] wr).drewN n)
/-- a new block of an item. -/
theorem Env.box (h : Env w0 bl its rs wr) (a b c d e : Value) : Env w0 ((wr.heap.size, [a, b, c, d, e]) :: bl) its rs (wr.alloc (.cells #[a, b, c, d, e] 26)) := by
  have k := h.alloc (.cells #[a, b, c, d, e] 26)
  refine ⟨fun p hp => ?_, k.its, k.rs, k.f⟩
  rcases List.mem_cons.1 hp with rfl | hp
  · exact Whole.new wr _ _
  · exact k.bl p hp
theorem Env.item {v : Value} {x : Itm} (h : Env w0 bl its rs wr) (hv : ItemV wr wr.heap.size v x) : Env w0 bl ((v, x) :: its) rs wr :=
  ⟨h.bl, (fun p hp => by
    rcases List.mem_cons.1 hp with rfl | hp
    · exact hv
    · exact h.its p hp), h.rs, h.f⟩
theorem Env.row {size n : Nat} {v : Value} {xs : List Value} (h : Env w0 bl its rs wr) (hv : Sl wr wr.heap.size size v n xs) : Env w0 bl its ((size, v, n, xs) :: rs) wr :=
  ⟨h.bl, h.its, (fun p hp => by
    rcases List.mem_cons.1 hp with rfl | hp
    · exact hv
    · exact h.rs p hp), h.f⟩
theorem Env.put {g : Nat} {cs : List Value} (h : Env w0 bl its rs wr) (hw : Whole wr g 26 cs) : Env w0 ((g, cs) :: bl) its rs wr :=
  ⟨(fun p hp => by
    rcases List.mem_cons.1 hp with rfl | hp
    · exact hw
    · exact h.bl p hp), h.its, h.rs, h.f⟩
theorem whole_set5 {w : World} {g : Nat} {a b c d e a' b' c' d' e' : Value} (h : Whole w g 26 [a, b, c, d, e]) : Whole (set5 w g a' b' c' d' e') g 26 [a', b', c', d', e'] :=
  ((((h.set_ 0 a').set_ 1 b').set_ 2 c').set_ 3 d').set_ 4 e'
theorem Env.block {g : Nat} {cs : List Value} (h : Env w0 ((g, cs) :: bl) its rs wr) : Whole wr g 26 cs := h.bl _ (.head _)
end

def INPost (k code : Int) (y : Itm) (w : World) (e : Ending) (w' : World) : Prop := ∃ u, e = .returned (.tuple #[u, .int .i64 k, .int .i64 code]) ∧ ItemO w' w.heap.size u y ∧ Fr [] w w'
def OwnI (base : Nat) (x : Itm) (w : World) (e : Ending) (w' : World) : Prop := ∃ u, e = .returned u ∧ ItemO w' base u x ∧ Fr [] w w'
def SEPost (s : ByteArray) (code : Int) (w : World) (e : Ending) (w' : World) : Prop := e = .returned (.tuple #[.string s, .int .i64 code]) ∧ Fr [] w w'
end Go.Proofs.YtkgbgmfidkimfaaGreat
