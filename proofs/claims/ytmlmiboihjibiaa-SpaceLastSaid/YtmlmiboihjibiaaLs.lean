/- Items that must be nothing, or of a kind: the program's Nothing and As, the reference's IsNothing. Items that must be nothing: the reference's IsNothing. Items that must be nothing, or of a kind: the reference's CheckAs. The program's item.Of. The reference's filled; the program's list.ready. The program's list.of. The program's list.Some: what is wrong with some that come. The reference's CheckSome: what is wrong with some that come. -/
import Derived.Test.YtmlmiboihjibiaaItC
import Derived.Test.YtmlmiboihjibiaaItR
import Derived.Test.YtmlmiboihjibiaaItf
set_option linter.unusedVariables false
set_option linter.unusedSimpArgs false
namespace Go.Proofs.Ytmlmiboihjibiaa
open Go.RowKit

def nothingI (x : Itm) : Bool := x.kind == 0 && bareB x
/-- what is wrong with an item that must be nothing, or of a kind. -/
def asCode (k : Int) (x : Itm) : Int := if nothingI x = true then 0 else if checkItm x = 0 then (if x.kind = k then 0 else 7) else checkItm x

set_option maxRecDepth 100000 in
theorem nothing_any (x : Itm) (v : Value) (w : World) (B : Nat) (hs : x.Small) (hB : B ≤ w.heap.size) (h : ItemV w B v x) :
    Calls Try.prog 83 #[v] w fun e w' => e = .returned (.bool (nothingI x)) ∧ Fr [] w w' := by
  have Bq := Lib.hid (fun W (hf : Fr [] w W) => bare_any x v W B hs (h.fr hf hB (by simp)))
  obtain ⟨A1, c1, A2, c2, A3, c3, rfl, h1, h2, h3⟩ := h
  have F0 : Fr [] w (w.alloc (.cells #[.int .i64 x.kind, .string x.text, .slice A1 x.list.length c1, .slice A2 x.pairs.length c2, .slice A3 x.scores.length c3] 26)) := (Fr.refl [] w).alloc _
  have hE : nothingI x = (x.kind == 0 && bareB x) := rfl
  clear h1 h2 h3 hs
  generalize nothingI x = r at *
  generalize bareB x = b at *
  generalize x.list.length = n1 at *
  generalize x.pairs.length = n2 at *
  generalize x.scores.length = n3 at *
  generalize x.kind = k at *
  by_cases hk : k = 0
  · subst hk
    rw [show ((0 : Int) == 0) = true from rfl, Bool.true_and] at hE
    subst hE
    go_enter Try.func83, Try.ntmps83
    go_wp2_with fail
    refine (Bq.out _ F0).mono ?_
    rintro e w1 ⟨rfl, f1⟩
    go_wp2
    go_ret
    exact ⟨rfl, F0.trans f1⟩
  · have q : (k == 0) = false := by simpa using hk
    rw [q, Bool.false_and] at hE
    subst hE
    clear hk
    go_enter Try.func83, Try.ntmps83
    go_wp2
    go_ret
    exact ⟨rfl, F0⟩

set_option maxRecDepth 100000 in
theorem as_any (x : Itm) (k : Int) (v : Value) (w : World) (B : Nat) (hs : x.Small) (hB : B ≤ w.heap.size) (h : ItemV w B v x) :
    Calls Try.prog 114 #[v, .int .i64 k] w fun e w' => e = .returned (.int .i64 (asCode k x)) ∧ Fr [] w w' := by
  have NO := Lib.hid (fun W (hf : Fr [] w W) => nothing_any x v W B hs (Nat.le_trans hB hf.size) (h.fr hf hB (by simp)))
  have CK := Lib.hid (fun W (hf : Fr [] w W) => itemCheck_any x v W B hs (Nat.le_trans hB hf.size) (h.fr hf hB (by simp)))
  obtain ⟨A1, c1, A2, c2, A3, c3, rfl, h1, h2, h3⟩ := h
  have F0 : Fr [] w (w.alloc (.cells #[.int .i64 x.kind, .string x.text, .slice A1 x.list.length c1, .slice A2 x.pairs.length c2, .slice A3 x.scores.length c3] 26)) := (Fr.refl [] w).alloc _
  have V0 := Lib.hid (show Whole (w.alloc (.cells #[.int .i64 x.kind, .string x.text, .slice A1 x.list.length c1, .slice A2 x.pairs.length c2, .slice A3 x.scores.length c3] 26)) w.heap.size 26 [.int .i64 x.kind, .string x.text, .slice A1 x.list.length c1, .slice A2 x.pairs.length c2, .slice A3 x.scores.length c3] from Whole.new w _ _)
  have hE : asCode k x = if nothingI x = true then 0 else if checkItm x = 0 then (if x.kind = k then 0 else 7) else checkItm x := rfl
  clear h1 h2 h3 hs
  generalize asCode k x = r at *
  generalize nothingI x = b at *
  generalize checkItm x = c at *
  generalize x.list.length = n1 at *
  generalize x.pairs.length = n2 at *
  generalize x.scores.length = n3 at *
  generalize x.kind = j at *
  obtain ⟨d0, d1, d2, d3, d4⟩ := five V0.out
  cases b
  · rw [if_neg (by decide)] at hE
    by_cases hc : c = 0
    · subst hc
      rw [if_pos rfl] at hE
      by_cases hj : j = k
      · subst hj
        rw [if_pos rfl] at hE
        subst hE
        have q : (j != j) = false := by simp
        go_enter Try.func114, Try.ntmps114
        go_wp2_with fail
        refine (NO.out _ F0).mono ?_
        rintro e w1 ⟨rfl, f1⟩
        have F1 := F0.trans f1
        have V1 := Lib.hid (V0.out.fr f1 (by simp))
        clear d0 d1 d2 d3 d4
        obtain ⟨d0, d1, d2, d3, d4⟩ := five V1.out
        go_wp2_with fail
        refine (CK.out _ F1).mono ?_
        rintro e w2 ⟨rfl, f2⟩
        have V2 := Lib.hid (V1.out.fr f2 (by simp))
        clear d0 d1 d2 d3 d4
        obtain ⟨d0, d1, d2, d3, d4⟩ := five V2.out
        go_wp2
        go_ret
        exact ⟨rfl, F1.trans f2⟩
      · rw [if_neg hj] at hE
        subst hE
        have q : (j != k) = true := by simpa using hj
        clear hj
        go_enter Try.func114, Try.ntmps114
        go_wp2_with fail
        refine (NO.out _ F0).mono ?_
        rintro e w1 ⟨rfl, f1⟩
        have F1 := F0.trans f1
        have V1 := Lib.hid (V0.out.fr f1 (by simp))
        clear d0 d1 d2 d3 d4
        obtain ⟨d0, d1, d2, d3, d4⟩ := five V1.out
        go_wp2_with fail
        refine (CK.out _ F1).mono ?_
        rintro e w2 ⟨rfl, f2⟩
        have V2 := Lib.hid (V1.out.fr f2 (by simp))
        clear d0 d1 d2 d3 d4
        obtain ⟨d0, d1, d2, d3, d4⟩ := five V2.out
        go_wp2
        go_ret
        exact ⟨rfl, F1.trans f2⟩
    · rw [if_neg hc] at hE
      subst hE
      have q : (r != 0) = true := by simpa using hc
      clear hc
      go_enter Try.func114, Try.ntmps114
      go_wp2_with fail
      refine (NO.out _ F0).mono ?_
      rintro e w1 ⟨rfl, f1⟩
      have F1 := F0.trans f1
      have V1 := Lib.hid (V0.out.fr f1 (by simp))
      clear d0 d1 d2 d3 d4
      obtain ⟨d0, d1, d2, d3, d4⟩ := five V1.out
      go_wp2_with fail
      refine (CK.out _ F1).mono ?_
      rintro e w2 ⟨rfl, f2⟩
      go_wp2
      go_ret
      exact ⟨rfl, F1.trans f2⟩
  · rw [if_pos rfl] at hE
    subst hE
    go_enter Try.func114, Try.ntmps114
    go_wp2_with fail
    refine (NO.out _ F0).mono ?_
    rintro e w1 ⟨rfl, f1⟩
    go_wp2
    go_ret
    exact ⟨rfl, F0.trans f1⟩
end Go.Proofs.Ytmlmiboihjibiaa

namespace Go.Proofs.Ytmlmiboihjibiaa
open Go.RowKit

theorem nothingI_iff (x : Itm) : nothingI x = (x.kind == 0 && (x.text.size == 0 && many x == 0)) := by
  unfold nothingI
  by_cases hk : x.kind = 0
  · rw [hk]
    unfold bareB many
    rw [hk]
    generalize x.text.size = a
    generalize x.list.length = n1
    generalize x.pairs.length = n2
    generalize x.scores.length = n3
    rw [Bool.eq_iff_iff]
    simp
    omega
  · have q : (x.kind == 0) = false := by simpa using hk
    rw [q, Bool.false_and, Bool.false_and]

set_option maxRecDepth 100000 in
theorem isNothing_any (x : Itm) (v : Value) (w : World) (B : Nat) (hs : x.Small) (hB : B ≤ w.heap.size) (h : ItemV w B v x) :
    Calls Try.prog 32 #[v] w fun e w' => e = .returned (.bool (nothingI x)) ∧ Fr [] w w' := by
  obtain ⟨A1, c1, A2, c2, A3, c3, rfl, h1, h2, h3⟩ := h
  have F0 : Fr [] w (w.alloc (.cells #[.int .i64 x.kind, .string x.text, .slice A1 x.list.length c1, .slice A2 x.pairs.length c2, .slice A3 x.scores.length c3] 26)) := (Fr.refl [] w).alloc _
  have hE := nothingI_iff x
  rw [show (many x == 0) = (x.list.length + x.pairs.length + x.scores.length == 0) from rfl] at hE
  have s1 := hs.list
  have s2 := hs.pairs
  have s3 := hs.scores
  clear h1 h2 h3 hs
  generalize nothingI x = r at *
  generalize x.list.length = n1 at *
  generalize x.pairs.length = n2 at *
  generalize x.scores.length = n3 at *
  generalize x.text = t at *
  generalize x.kind = k at *
  by_cases hk : k = 0
  · subst hk
    by_cases ht : t.size = 0
    · obtain rfl := nilOf ht
      by_cases hm : n1 + n2 + n3 = 0
      · obtain rfl : n1 = 0 := by omega
        obtain rfl : n2 = 0 := by omega
        obtain rfl : n3 = 0 := by omega
        obtain rfl : r = true := hE
        clear hm ht
        go_enter Try.func32, Try.ntmps32
        go_wp2
        go_ret
        exact ⟨rfl, F0⟩
      · have hr : r = false := by rw [hE]; simp; omega
        subst hr
        have q : ((n1 : Int) + (n2 : Int) + (n3 : Int) == 0) = false := by simp; omega
        have q2 : ¬ ((n1 : Int) + (n2 : Int) + (n3 : Int) = 0) := by omega
        clear hE hm ht
        go_enter Try.func32, Try.ntmps32
        go_wp2
        go_ret
        exact ⟨rfl, F0⟩
    · obtain ⟨yT1, yT2⟩ := neNil ht
      have yT3 : (t.toList == []) = false := by simpa using yT1
      have hr : r = false := by rw [hE, beq_eq_false_iff_ne.2 ht]; rfl
      subst hr
      clear hE ht
      go_enter Try.func32, Try.ntmps32
      go_wp2
      go_ret
      exact ⟨rfl, F0⟩
  · have q : (k == 0) = false := by simpa using hk
    rw [q, Bool.false_and] at hE
    subst hE
    clear hk
    go_enter Try.func32, Try.ntmps32
    go_wp2
    go_ret
    exact ⟨rfl, F0⟩
end Go.Proofs.Ytmlmiboihjibiaa

namespace Go.Proofs.Ytmlmiboihjibiaa
open Go.RowKit

set_option maxRecDepth 100000 in
theorem checkAs_any (x : Itm) (k : Int) (v : Value) (w : World) (B : Nat) (hs : x.Small) (hB : B ≤ w.heap.size) (h : ItemV w B v x) :
    Calls Try.prog 53 #[v, .int .i64 k] w fun e w' => e = .returned (.int .i64 (asCode k x)) ∧ Fr [] w w' := by
  have NO := Lib.hid (fun W (hf : Fr [] w W) => isNothing_any x v W B hs (Nat.le_trans hB hf.size) (h.fr hf hB (by simp)))
  have CK := Lib.hid (fun W (hf : Fr [] w W) => refCheck_any x v W B hs (Nat.le_trans hB hf.size) (h.fr hf hB (by simp)))
  obtain ⟨A1, c1, A2, c2, A3, c3, rfl, h1, h2, h3⟩ := h
  have F0 : Fr [] w (w.alloc (.cells #[.int .i64 x.kind, .string x.text, .slice A1 x.list.length c1, .slice A2 x.pairs.length c2, .slice A3 x.scores.length c3] 26)) := (Fr.refl [] w).alloc _
  have V0 := Lib.hid (show Whole (w.alloc (.cells #[.int .i64 x.kind, .string x.text, .slice A1 x.list.length c1, .slice A2 x.pairs.length c2, .slice A3 x.scores.length c3] 26)) w.heap.size 26 [.int .i64 x.kind, .string x.text, .slice A1 x.list.length c1, .slice A2 x.pairs.length c2, .slice A3 x.scores.length c3] from Whole.new w _ _)
  have hE : asCode k x = if nothingI x = true then 0 else if checkItm x = 0 then (if x.kind = k then 0 else 7) else checkItm x := rfl
  clear h1 h2 h3 hs
  generalize asCode k x = r at *
  generalize nothingI x = b at *
  generalize checkItm x = c at *
  generalize x.list.length = n1 at *
  generalize x.pairs.length = n2 at *
  generalize x.scores.length = n3 at *
  generalize x.kind = j at *
  obtain ⟨d0, d1, d2, d3, d4⟩ := five V0.out
  cases b
  · rw [if_neg (by decide)] at hE
    by_cases hc : c = 0
    · subst hc
      rw [if_pos rfl] at hE
      by_cases hj : j = k
      · subst hj
        rw [if_pos rfl] at hE
        subst hE
        have q : (j != j) = false := by simp
        go_enter Try.func53, Try.ntmps53
        go_wp2_with fail
        refine (NO.out _ F0).mono ?_
        rintro e w1 ⟨rfl, f1⟩
        have F1 := F0.trans f1
        have V1 := Lib.hid (V0.out.fr f1 (by simp))
        clear d0 d1 d2 d3 d4
        obtain ⟨d0, d1, d2, d3, d4⟩ := five V1.out
        go_wp2_with fail
        refine (CK.out _ F1).mono ?_
        rintro e w2 ⟨rfl, f2⟩
        have V2 := Lib.hid (V1.out.fr f2 (by simp))
        clear d0 d1 d2 d3 d4
        obtain ⟨d0, d1, d2, d3, d4⟩ := five V2.out
        go_wp2
        go_ret
        exact ⟨rfl, F1.trans f2⟩
      · rw [if_neg hj] at hE
        subst hE
        have q : (j != k) = true := by simpa using hj
        clear hj
        go_enter Try.func53, Try.ntmps53
        go_wp2_with fail
        refine (NO.out _ F0).mono ?_
        rintro e w1 ⟨rfl, f1⟩
        have F1 := F0.trans f1
        have V1 := Lib.hid (V0.out.fr f1 (by simp))
        clear d0 d1 d2 d3 d4
        obtain ⟨d0, d1, d2, d3, d4⟩ := five V1.out
        go_wp2_with fail
        refine (CK.out _ F1).mono ?_
        rintro e w2 ⟨rfl, f2⟩
        have V2 := Lib.hid (V1.out.fr f2 (by simp))
        clear d0 d1 d2 d3 d4
        obtain ⟨d0, d1, d2, d3, d4⟩ := five V2.out
        go_wp2
        go_ret
        exact ⟨rfl, F1.trans f2⟩
    · rw [if_neg hc] at hE
      subst hE
      have q : (r == 0) = false := by simpa using hc
      clear hc
      go_enter Try.func53, Try.ntmps53
      go_wp2_with fail
      refine (NO.out _ F0).mono ?_
      rintro e w1 ⟨rfl, f1⟩
      have F1 := F0.trans f1
      have V1 := Lib.hid (V0.out.fr f1 (by simp))
      clear d0 d1 d2 d3 d4
      obtain ⟨d0, d1, d2, d3, d4⟩ := five V1.out
      go_wp2_with fail
      refine (CK.out _ F1).mono ?_
      rintro e w2 ⟨rfl, f2⟩
      go_wp2
      go_ret
      exact ⟨rfl, F1.trans f2⟩
  · rw [if_pos rfl] at hE
    subst hE
    go_enter Try.func53, Try.ntmps53
    go_wp2_with fail
    refine (NO.out _ F0).mono ?_
    rintro e w1 ⟨rfl, f1⟩
    go_wp2
    go_ret
    exact ⟨rfl, F0.trans f1⟩
end Go.Proofs.Ytmlmiboihjibiaa

namespace Go.Proofs.Ytmlmiboihjibiaa
open Go.RowKit

theorem fr_set5 {w wr : World} {o : Nat} (h : Fr [] w wr) (ho : w.heap.size ≤ o) (a b c d e : Value) : Fr [] w (set5 wr o a b c d e) :=
  ((((h.setCell (p := ⟨o, 0, none⟩) (.inr ho) _).setCell (p := ⟨o, 1, none⟩) (.inr ho) _).setCell (p := ⟨o, 2, none⟩) (.inr ho) _).setCell (p := ⟨o, 3, none⟩) (.inr ho) _).setCell (p := ⟨o, 4, none⟩) (.inr ho) _

end Go.Proofs.Ytmlmiboihjibiaa

namespace Go.Proofs.Ytmlmiboihjibiaa
open Go.RowKit

end Go.Proofs.Ytmlmiboihjibiaa

namespace Go.Proofs.Ytmlmiboihjibiaa
open Go.RowKit

def listI (l : List ByteArray) : Itm := ⟨2, ⟨#[]⟩, l, [], []⟩

end Go.Proofs.Ytmlmiboihjibiaa

namespace Go.Proofs.Ytmlmiboihjibiaa
open Go.RowKit

def someCode (l : List ByteArray) : Int := if l.length = 0 then 1 else if l.any longS = true then 2 else 0

end Go.Proofs.Ytmlmiboihjibiaa

namespace Go.Proofs.Ytmlmiboihjibiaa
open Go.RowKit

end Go.Proofs.Ytmlmiboihjibiaa
