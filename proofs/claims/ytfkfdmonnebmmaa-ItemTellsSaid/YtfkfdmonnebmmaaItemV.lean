/- The walks of the program's writer of an item's bytes. -/
import Derived.Test.YtfkfdmonnebmmaaItemN
import Derived.Test.YtfkfdmonnebmmaaItemQ
import Derived.Test.YtfkfdmonnebmmaaOwn
import Derived.Test.YtfkfdmonnebmmaaBldA
import Derived.Deep.RegionWith
set_option linter.unusedVariables false
set_option linter.unusedSimpArgs false
namespace Go.Proofs.Ytfkfdmonnebmmaa
open Go.RowKit

/-- what is right of an item that is. -/
structure RightI (x : Itm) : Prop where
  kind : 1 ≤ x.kind ∧ x.kind ≤ 5
  bare : bareB x = true
  many : many x ≤ 24
  text : x.text.size ≤ 60
  texts : ∀ s ∈ x.list, s.size ≤ 60
  fields : ∀ p ∈ x.pairs, p.1.size ≤ 60 ∧ p.2.size ≤ 60
  members : ∀ p ∈ x.scores, isInt p.1 = true ∧ p.2.size ≤ 60

theorem scoresCode_ok {l : List (Int × ByteArray)} (h : scoresCode l = 0) : (∀ p ∈ l, isInt p.1 = true) ∧ (l.map (·.2)).Nodup ∧ rises ltC l = true := by
  unfold scoresCode at h
  by_cases h1 : (l.any fun p => !isInt p.1) = true
  · rw [if_pos h1] at h; cases h
  · rw [if_neg h1] at h
    by_cases h2 : ¬ (l.map (·.2)).Nodup
    · rw [if_pos h2] at h; cases h
    · rw [if_neg h2] at h
      by_cases h3 : rises ltC l = true
      · refine ⟨fun p hp => ?_, Decidable.not_not.1 h2, h3⟩
        have h1' : (l.any fun p => !isInt p.1) = false := by
          cases hc : (l.any fun p => !isInt p.1) with
          | false => rfl
          | true => exact absurd hc h1
        have := List.any_eq_false.1 h1' p hp
        simpa using this
      · rw [if_neg h3] at h; cases h

theorem right_of {x : Itm} (h : checkItm x = 0) : RightI x := by
  unfold checkItm at h
  by_cases h1 : ¬ (1 ≤ x.kind ∧ x.kind ≤ 5)
  · rw [if_pos h1] at h; cases h
  rw [if_neg h1] at h
  by_cases h2 : bareB x = false
  · rw [if_pos h2] at h; cases h
  rw [if_neg h2] at h
  have hb : bareB x = true := by simpa using h2
  have hform := hb
  simp only [bareB, Bool.and_eq_true, Bool.or_eq_true, beq_iff_eq] at hform
  by_cases h3 : x.kind = 1
  · rw [if_pos h3] at h
    by_cases h4 : 60 < x.text.size
    · rw [if_pos h4] at h; cases h
    · have l1 : x.list.length = 0 := by omega
      have l2 : x.pairs.length = 0 := by omega
      have l3 : x.scores.length = 0 := by omega
      refine ⟨Decidable.not_not.1 h1, hb, by unfold Go.Proofs.Ytfkfdmonnebmmaa.many; omega, by omega, ?_, ?_, ?_⟩
      · rw [List.eq_nil_of_length_eq_zero l1]; intro s hs; cases hs
      · rw [List.eq_nil_of_length_eq_zero l2]; intro s hs; cases hs
      · rw [List.eq_nil_of_length_eq_zero l3]; intro s hs; cases hs
  rw [if_neg h3] at h
  by_cases h4 : Go.Proofs.Ytfkfdmonnebmmaa.many x = 0
  · rw [if_pos h4] at h; cases h
  rw [if_neg h4] at h
  by_cases h5 : 24 < Go.Proofs.Ytfkfdmonnebmmaa.many x ∨ longI x = true
  · rw [if_pos h5] at h; cases h
  rw [if_neg h5] at h
  by_cases h6 : (x.kind = 3 ∧ rises ltS x.list = false) ∨ (x.kind = 4 ∧ rises ltP x.pairs = false)
  · rw [if_pos h6] at h; cases h
  rw [if_neg h6] at h
  have hs := scoresCode_ok h
  have hl : longI x = false := by simpa using fun e => h5 (.inr e)
  unfold longI at hl
  simp only [Bool.or_eq_false_iff] at hl
  refine ⟨Decidable.not_not.1 h1, hb, by omega, by omega, ?_, ?_, ?_⟩
  · intro s hs
    have := List.any_eq_false.1 hl.1.1 s hs
    simp [longS] at this
    exact this
  · intro p hp
    have := List.any_eq_false.1 hl.1.2 p hp
    simp [longP] at this
    exact this
  · intro p hp
    have := List.any_eq_false.1 hl.2 p hp
    simp [longC] at this
    exact ⟨hs.1 p hp, this⟩

theorem u8_of (k : Nat) : IntKind.u8.wrap (k : Int) = ((byteN k).toNat : Int) := by
  rw [show (byteN k).toNat = k % 256 by simp [byteN]]
  simp only [IntKind.wrap, IntKind.signed, IntKind.bits]
  simp

theorem byteN_toNat {n : Nat} : (byteN n).toNat = n % 256 := by simp [byteN]

theorem Wrote.next {T g off base : Nat} {own own' : Option Nat} {cs cs' : List Value} {m : List UInt8} {w w1 w2 : World} (hl : cs'.length = cs.length) (he : ∀ i, i ≠ off → i ≠ off + 1 → cs'[i]? = cs[i]?)
    (ho : own' = own ∨ ∃ k, own' = some k ∧ w.heap.size ≤ k) (hf : Fr (g :: own.toList) w w1) (k : Wrote T g off base own' cs' m w1 w2) : Wrote T g off base own cs m w w2 := by
  obtain ⟨o2, c2, b2, l2, e2, h2, f2⟩ := k
  refine ⟨o2, c2, b2, l2.trans hl, fun i hi hj => (e2 i hi hj).trans (he i hi hj), ?_, ?_⟩
  · rcases h2 with rfl | ⟨k2, rfl, hk2⟩
    · exact ho
    · exact .inr ⟨k2, rfl, Nat.le_trans hf.size hk2⟩
  · refine hf.step f2 ?_
    intro x hx
    rcases List.mem_cons.1 hx with rfl | hx
    · exact .inl (by simp)
    · rcases ho with rfl | ⟨k1, rfl, hk1⟩
      · exact .inl (by simp [hx])
      · simp at hx; subst hx; exact .inr hk1

/-- what a write leaves, and draws ahead of it. -/
theorem Wrote.drewN {T g off base : Nat} {own : Option Nat} {cs : List Value} {m : List UInt8} {w w2 : World} {n : Nat} (h : Wrote T g off base own cs m (w.drewN n) w2) : Wrote T g off base own cs m w w2 := by
  obtain ⟨o2, c2, b2, l2, e2, h2, f2⟩ := h
  exact ⟨o2, c2, b2, l2, e2, h2, ⟨f2.os, f2.tape, f2.output, f2.size, f2.block⟩⟩
theorem Wrote.drew {T g off base : Nat} {own : Option Nat} {cs : List Value} {m : List UInt8} {w w2 : World} (h : Wrote T g off base own cs m w.drew w2) : Wrote T g off base own cs m w w2 := by
  obtain ⟨o2, c2, b2, l2, e2, h2, f2⟩ := h
  exact ⟨o2, c2, b2, l2, e2, h2, ⟨f2.os, f2.tape, f2.output, f2.size, f2.block⟩⟩

theorem BldIn.drew {T g off base : Nat} {own : Option Nat} {cs : List Value} {m : List UInt8} {w : World} (h : BldIn T g off base own cs m w) : BldIn T g off base own cs m w.drew :=
  ⟨h.whole, h.addr, h.buf, h.base, h.ne, h.lies⟩

/-- a writer, in block g of type T. -/
theorem writerText_any {g base : Nat} {own : Option Nat} {cs : List Value} {l : List UInt8} (s : ByteArray) {w : World} (h : BldIn 129 g 0 base own cs l w) (hs : s.size ≤ 60) (hl : l.length ≤ 100000) (hB : base ≤ w.heap.size) :
    Calls Try.prog 106 #[.pointer (some ⟨g, 0, none⟩), .string s] w fun e w' => e = .returned (.tuple #[]) ∧ Wrote 129 g 0 base own cs (l ++ encText s) w w' := by
  have W1 := writeByte_any (byteN s.size) h (by omega) hB
  have e1 : ((byteN s.size).toNat : Int) = s.size := by rw [byteN_toNat]; omega
  rw [e1] at W1
  have H1 := Lib.hid W1
  have W2 := Lib.hid (fun W own' cs' (hW : BldIn 129 g 0 base own' cs' (l ++ [byteN s.size]) W) (hz : w.heap.size ≤ W.heap.size) => writeString_any s hW (by simp; omega) (Nat.le_trans hB hz))
  clear W1 h e1
  go_enter Try.func106, Try.ntmps106
  go_wp2_with fail
  refine H1.out.mono ?_
  rintro e w1 ⟨rfl, own', cs', b1, l1, e1, o1, f1⟩
  have B1 := Lib.hid b1
  have L1 := Lib.hid l1
  have E1 := Lib.hid e1
  have O1 := Lib.hid o1
  have hz := f1.size
  clear b1 l1 e1 o1
  go_wp2_with fail
  refine (W2.out _ _ _ B1.out hz).mono ?_
  rintro e w2 ⟨rfl, hw2⟩
  have HW2 := Lib.hid hw2
  clear hw2
  go_wp2
  go_end0
  have hw := HW2.out.next L1.out E1.out O1.out f1
  rw [List.append_assoc] at hw
  exact ⟨rfl, hw⟩

set_option maxHeartbeats 800000 in
set_option maxRecDepth 100000 in
theorem writerNumber_any {g base : Nat} {own : Option Nat} {cs : List Value} {l : List UInt8} (n : Nat) {w : World} (h : BldIn 129 g 0 base own cs l w) (hn : n < 4294967296) (hl : l.length ≤ 100000) (hB : base ≤ w.heap.size) :
    Calls Try.prog 107 #[.pointer (some ⟨g, 0, none⟩), .int .i64 n] w fun e w' => e = .returned (.tuple #[]) ∧ Wrote 129 g 0 base own cs (l ++ encNum n) w w' := by
  have HB := Lib.hid h
  have w24 : IntKind.i64.wrap 24 = 24 := by decide
  have w16 : IntKind.i64.wrap 16 = 16 := by decide
  have w8 : IntKind.i64.wrap 8 = 8 := by decide
  have w0 : IntKind.i64.wrap 0 = 0 := by decide
  clear h
  have WB := Lib.hid (fun (W : World) own' cs' (l' : List UInt8) (k : Nat) (v : Int) (hW : BldIn 129 g 0 base own' cs' l' W) (hl' : l'.length ≤ 100003) (hz : base ≤ W.heap.size) (hv : v = ((byteN k).toNat : Int)) => (show Calls Try.prog 103 #[.pointer (some ⟨g, 0, none⟩), .int .u8 v] W _ from hv ▸ writeByte_any (byteN k) hW (by omega) hz))
  have E0 := Lib.hid (show IntKind.u8.wrap ((n : Int) / 16777216) = ((byteN (n / 16777216)).toNat : Int) by have := u8_of (n / 16777216); rw [Int.natCast_ediv] at this; exact this)
  have E1 := Lib.hid (show IntKind.u8.wrap ((n : Int) / 65536) = ((byteN (n / 65536)).toNat : Int) by have := u8_of (n / 65536); rw [Int.natCast_ediv] at this; exact this)
  have E2 := Lib.hid (show IntKind.u8.wrap ((n : Int) / 256) = ((byteN (n / 256)).toNat : Int) by have := u8_of (n / 256); rw [Int.natCast_ediv] at this; exact this)
  have E3 := Lib.hid (u8_of n)
  go_enter Try.func107, Try.ntmps107
  go_wp2
  refine wp_loop_rounds 5 ?_
  rw [rounds_succ]
  go_wp2
  go_region_with (go_at_call 103; go_must (refine (WB.out _ _ _ _ (n / 16777216) _ HB.out.drew (by first | omega | (simp; omega)) hB E0.out).mono ?_; rintro e w1 ⟨rfl, o1, s1, b1, l1, q1, p1, f1⟩))
  have f1' : Fr (g :: own.toList) w w1 := ⟨f1.os, f1.tape, f1.output, f1.size, f1.block⟩
  have B1 := Lib.hid b1
  have L1 := Lib.hid l1
  have Q1 := Lib.hid q1
  have P1 := Lib.hid p1
  have G1 := Lib.hid f1'
  have Z0 := Lib.hid (show w.heap.size ≤ w1.heap.size from f1'.size)
  clear b1 l1 q1 p1 f1 f1'
  go_wp2
  rw [rounds_succ]
  go_wp2
  go_region_with (go_at_call 103; refine (WB.out _ _ _ _ (n / 65536) _ B1.out.drew (by first | omega | (simp; omega)) (Nat.le_trans hB Z0.out) E1.out).mono ?_; rintro e w2 ⟨rfl, o2, s2, b2, l2, q2, p2, f2⟩)
  have f2' : Fr (g :: o1.toList) w1 w2 := ⟨f2.os, f2.tape, f2.output, f2.size, f2.block⟩
  have B2 := Lib.hid b2
  have L2 := Lib.hid l2
  have Q2 := Lib.hid q2
  have P2 := Lib.hid p2
  have G2 := Lib.hid f2'
  have Z1 := Lib.hid (show w.heap.size ≤ w2.heap.size from Nat.le_trans Z0.out f2'.size)
  clear b2 l2 q2 p2 f2 f2'
  go_wp2
  rw [rounds_succ]
  go_wp2
  go_region_with (go_at_call 103; refine (WB.out _ _ _ _ (n / 256) _ B2.out.drew (by first | omega | (simp; omega)) (Nat.le_trans hB Z1.out) E2.out).mono ?_; rintro e w3 ⟨rfl, o3, s3, b3, l3, q3, p3, f3⟩)
  have f3' : Fr (g :: o2.toList) w2 w3 := ⟨f3.os, f3.tape, f3.output, f3.size, f3.block⟩
  have B3 := Lib.hid b3
  have L3 := Lib.hid l3
  have Q3 := Lib.hid q3
  have P3 := Lib.hid p3
  have G3 := Lib.hid f3'
  have Z2 := Lib.hid (show w.heap.size ≤ w3.heap.size from Nat.le_trans Z1.out f3'.size)
  clear b3 l3 q3 p3 f3 f3'
  go_wp2
  rw [rounds_succ]
  go_wp2
  go_region_with (go_at_call 103; refine (WB.out _ _ _ _ n _ B3.out.drew (by first | omega | (simp; omega)) (Nat.le_trans hB Z2.out) E3.out).mono ?_; rintro e w4 ⟨rfl, o4, s4, b4, l4, q4, p4, f4⟩)
  have f4' : Fr (g :: o3.toList) w3 w4 := ⟨f4.os, f4.tape, f4.output, f4.size, f4.block⟩
  have B4 := Lib.hid b4
  have L4 := Lib.hid l4
  have Q4 := Lib.hid q4
  have P4 := Lib.hid p4
  have G4 := Lib.hid f4'
  have Z3 := Lib.hid (show w.heap.size ≤ w4.heap.size from Nat.le_trans Z2.out f4'.size)
  clear b4 l4 q4 p4 f4 f4'
  go_wp2
  rw [rounds_succ]
  go_wp2
  go_end0
  have h4 : Wrote 129 g 0 base own cs ((((l ++ [byteN (n / 16777216)]) ++ [byteN (n / 65536)]) ++ [byteN (n / 256)]) ++ [byteN n]) w w4 :=
    Wrote.next L1.out Q1.out P1.out G1.out (Wrote.next L2.out Q2.out P2.out G2.out (Wrote.next L3.out Q3.out P3.out G3.out ⟨_, _, B4.out, L4.out, Q4.out, P4.out, G4.out⟩))
  refine ⟨rfl, ?_⟩
  simpa [encNum] using h4
end Go.Proofs.Ytfkfdmonnebmmaa
