/- The writer of an item; Encode; what is encoded is decoded as it was; the laws' beginning. -/
import Derived.Test.YtkgbgmfidkimfaaGreatItC
import Derived.Test.YtkgbgmfidkimfaaGreatBase
import Derived.Test.YtkgbgmfidkimfaaGreatItD
import Derived.Deep.RegionWith
import Derived.Deep.RegionHeld3
import Derived.Deep.DrawnRows
import Derived.Test.YtkgbgmfidkimfaaGreatItf
import Derived.Test.YtkgbgmfidkimfaaGreatItW
import Derived.Test.YtkgbgmfidkimfaaGreatTal
set_option linter.unusedVariables false
set_option linter.unusedSimpArgs false
namespace Go.Proofs.YtkgbgmfidkimfaaGreat
open Go.RowKit

theorem u8_of (k : Nat) : IntKind.u8.wrap (k : Int) = ((byteN k).toNat : Int) := by
  rw [show (byteN k).toNat = k % 256 by simp [byteN]]
  simp only [IntKind.wrap, IntKind.signed, IntKind.bits]
  simp

theorem byteN_toNat {n : Nat} : (byteN n).toNat = n % 256 := by simp [byteN]

theorem Wrote.next {T g off base : Nat} {own own' : Option Nat} {cs cs' : List Value} {m : List UInt8} {w w1 w2 : World} (hl : cs'.length = cs.length) (he : ∀ i, i ≠ off → i ≠ off + 1 → cs'[i]? = cs[i]?)
    (ho : own' = own ∨ ∃ k, own' = some k ∧ w.heap.size ≤ k) (hf : Fr (g :: own.toList) w w1) (k : Wrote T g off base own' cs' m w1 w2) : Wrote T g off base own cs m w w2 := by
  obtain ⟨o2, c2, b2, l2, e2, h2, f2⟩ := k
  refine ⟨o2, c2, b2, l2.trans hl, fun i hi hj => (e2 i hi hj).trans (he i hi hj), ?_, ?_⟩
  · rcases h2 with rfl | ⟨k2, rfl, hk2⟩
    · exact ho
    · exact .inr ⟨k2, rfl, Nat.le_trans hf.size hk2⟩
  · refine hf.step f2 ?_
    intro x hx
    rcases List.mem_cons.1 hx with rfl | hx
    · exact .inl (by simp)
    · rcases ho with rfl | ⟨k1, rfl, hk1⟩
      · exact .inl (by simp [hx])
      · simp at hx; subst hx; exact .inr hk1

/-- what a write leaves, and draws ahead of it. -/
theorem Wrote.drewN {T g off base : Nat} {own : Option Nat} {cs : List Value} {m : List UInt8} {w w2 : World} {n : Nat} (h : Wrote T g off base own cs m (w.drewN n) w2) : Wrote T g off base own cs m w w2 := by
  obtain ⟨o2, c2, b2, l2, e2, h2, f2⟩ := h
  exact ⟨o2, c2, b2, l2, e2, h2, ⟨f2.os, f2.tape, f2.output, f2.size, f2.block⟩⟩
theorem Wrote.drew {T g off base : Nat} {own : Option Nat} {cs : List Value} {m : List UInt8} {w w2 : World} (h : Wrote T g off base own cs m w.drew w2) : Wrote T g off base own cs m w w2 := by
  obtain ⟨o2, c2, b2, l2, e2, h2, f2⟩ := h
  exact ⟨o2, c2, b2, l2, e2, h2, ⟨f2.os, f2.tape, f2.output, f2.size, f2.block⟩⟩

theorem BldIn.drew {T g off base : Nat} {own : Option Nat} {cs : List Value} {m : List UInt8} {w : World} (h : BldIn T g off base own cs m w) : BldIn T g off base own cs m w.drew :=
  ⟨h.whole, h.addr, h.buf, h.base, h.ne, h.lies⟩

/-- a writer, in block g of type T. -/
theorem writerText_any {g base : Nat} {own : Option Nat} {cs : List Value} {l : List UInt8} (s : ByteArray) {w : World} (h : BldIn 132 g 0 base own cs l w) (hs : s.size ≤ 60) (hl : l.length ≤ 100000) (hB : base ≤ w.heap.size) :
    Calls Tryz.prog 121 #[.pointer (some ⟨g, 0, none⟩), .string s] w fun e w' => e = .returned (.tuple #[]) ∧ Wrote 132 g 0 base own cs (l ++ encText s) w w' := by
  have W1 := writeByte_any (byteN s.size) h (by omega) hB
  have e1 : ((byteN s.size).toNat : Int) = s.size := by rw [byteN_toNat]; omega
  rw [e1] at W1
  have H1 := Lib.hid W1
  have W2 := Lib.hid (fun W own' cs' (hW : BldIn 132 g 0 base own' cs' (l ++ [byteN s.size]) W) (hz : w.heap.size ≤ W.heap.size) => writeString_any s hW (by simp; omega) (Nat.le_trans hB hz))
  clear W1 h e1
  go_enter Tryz.func121, Tryz.ntmps121
  go_wp2_with fail
  refine H1.out.mono ?_
  rintro e w1 ⟨rfl, own', cs', b1, l1, e1, o1, f1⟩
  have B1 := Lib.hid b1
  have L1 := Lib.hid l1
  have E1 := Lib.hid e1
  have O1 := Lib.hid o1
  have hz := f1.size
  clear b1 l1 e1 o1
  go_wp2_with fail
  refine (W2.out _ _ _ B1.out hz).mono ?_
  rintro e w2 ⟨rfl, hw2⟩
  have HW2 := Lib.hid hw2
  clear hw2
  go_wp2
  go_end0
  have hw := HW2.out.next L1.out E1.out O1.out f1
  rw [List.append_assoc] at hw
  exact ⟨rfl, hw⟩

set_option maxHeartbeats 800000 in
set_option maxRecDepth 100000 in
theorem writerNumber_any {g base : Nat} {own : Option Nat} {cs : List Value} {l : List UInt8} (n : Nat) {w : World} (h : BldIn 132 g 0 base own cs l w) (hn : n < 4294967296) (hl : l.length ≤ 100000) (hB : base ≤ w.heap.size) :
    Calls Tryz.prog 122 #[.pointer (some ⟨g, 0, none⟩), .int .i64 n] w fun e w' => e = .returned (.tuple #[]) ∧ Wrote 132 g 0 base own cs (l ++ encNum n) w w' := by
  have HB := Lib.hid h
  have w24 : IntKind.i64.wrap 24 = 24 := by decide
  have w16 : IntKind.i64.wrap 16 = 16 := by decide
  have w8 : IntKind.i64.wrap 8 = 8 := by decide
  have w0 : IntKind.i64.wrap 0 = 0 := by decide
  clear h
  have WB := Lib.hid (fun (W : World) own' cs' (l' : List UInt8) (k : Nat) (v : Int) (hW : BldIn 132 g 0 base own' cs' l' W) (hl' : l'.length ≤ 100003) (hz : base ≤ W.heap.size) (hv : v = ((byteN k).toNat : Int)) => (show Calls Tryz.prog 118 #[.pointer (some ⟨g, 0, none⟩), .int .u8 v] W _ from hv ▸ writeByte_any (byteN k) hW (by omega) hz))
  have E0 := Lib.hid (show IntKind.u8.wrap ((n : Int) / 16777216) = ((byteN (n / 16777216)).toNat : Int) by have := u8_of (n / 16777216); rw [Int.natCast_ediv] at this; exact this)
  have E1 := Lib.hid (show IntKind.u8.wrap ((n : Int) / 65536) = ((byteN (n / 65536)).toNat : Int) by have := u8_of (n / 65536); rw [Int.natCast_ediv] at this; exact this)
  have E2 := Lib.hid (show IntKind.u8.wrap ((n : Int) / 256) = ((byteN (n / 256)).toNat : Int) by have := u8_of (n / 256); rw [Int.natCast_ediv] at this; exact this)
  have E3 := Lib.hid (u8_of n)
  go_enter Tryz.func122, Tryz.ntmps122
  go_wp2
  refine wp_loop_rounds 5 ?_
  rw [rounds_succ]
  go_wp2
  go_region_with (go_at_call 118; go_must (refine (WB.out _ _ _ _ (n / 16777216) _ HB.out.drew (by first | omega | (simp; omega)) hB E0.out).mono ?_; rintro e w1 ⟨rfl, o1, s1, b1, l1, q1, p1, f1⟩))
  have f1' : Fr (g :: own.toList) w w1 := ⟨f1.os, f1.tape, f1.output, f1.size, f1.block⟩
  have B1 := Lib.hid b1
  have L1 := Lib.hid l1
  have Q1 := Lib.hid q1
  have P1 := Lib.hid p1
  have G1 := Lib.hid f1'
  have Z0 := Lib.hid (show w.heap.size ≤ w1.heap.size from f1'.size)
  clear b1 l1 q1 p1 f1 f1'
  go_wp2
  rw [rounds_succ]
  go_wp2
  go_region_with (go_at_call 118; refine (WB.out _ _ _ _ (n / 65536) _ B1.out.drew (by first | omega | (simp; omega)) (Nat.le_trans hB Z0.out) E1.out).mono ?_; rintro e w2 ⟨rfl, o2, s2, b2, l2, q2, p2, f2⟩)
  have f2' : Fr (g :: o1.toList) w1 w2 := ⟨f2.os, f2.tape, f2.output, f2.size, f2.block⟩
  have B2 := Lib.hid b2
  have L2 := Lib.hid l2
  have Q2 := Lib.hid q2
  have P2 := Lib.hid p2
  have G2 := Lib.hid f2'
  have Z1 := Lib.hid (show w.heap.size ≤ w2.heap.size from Nat.le_trans Z0.out f2'.size)
  clear b2 l2 q2 p2 f2 f2'
  go_wp2
  rw [rounds_succ]
  go_wp2
  go_region_with (go_at_call 118; refine (WB.out _ _ _ _ (n / 256) _ B2.out.drew (by first | omega | (simp; omega)) (Nat.le_trans hB Z1.out) E2.out).mono ?_; rintro e w3 ⟨rfl, o3, s3, b3, l3, q3, p3, f3⟩)
  have f3' : Fr (g :: o2.toList) w2 w3 := ⟨f3.os, f3.tape, f3.output, f3.size, f3.block⟩
  have B3 := Lib.hid b3
  have L3 := Lib.hid l3
  have Q3 := Lib.hid q3
  have P3 := Lib.hid p3
  have G3 := Lib.hid f3'
  have Z2 := Lib.hid (show w.heap.size ≤ w3.heap.size from Nat.le_trans Z1.out f3'.size)
  clear b3 l3 q3 p3 f3 f3'
  go_wp2
  rw [rounds_succ]
  go_wp2
  go_region_with (go_at_call 118; refine (WB.out _ _ _ _ n _ B3.out.drew (by first | omega | (simp; omega)) (Nat.le_trans hB Z2.out) E3.out).mono ?_; rintro e w4 ⟨rfl, o4, s4, b4, l4, q4, p4, f4⟩)
  have f4' : Fr (g :: o3.toList) w3 w4 := ⟨f4.os, f4.tape, f4.output, f4.size, f4.block⟩
  have B4 := Lib.hid b4
  have L4 := Lib.hid l4
  have Q4 := Lib.hid q4
  have P4 := Lib.hid p4
  have G4 := Lib.hid f4'
  have Z3 := Lib.hid (show w.heap.size ≤ w4.heap.size from Nat.le_trans Z2.out f4'.size)
  clear b4 l4 q4 p4 f4 f4'
  go_wp2
  rw [rounds_succ]
  go_wp2
  go_end0
  have h4 : Wrote 132 g 0 base own cs ((((l ++ [byteN (n / 16777216)]) ++ [byteN (n / 65536)]) ++ [byteN (n / 256)]) ++ [byteN n]) w w4 :=
    Wrote.next L1.out Q1.out P1.out G1.out (Wrote.next L2.out Q2.out P2.out G2.out (Wrote.next L3.out Q3.out P3.out G3.out ⟨_, _, B4.out, L4.out, Q4.out, P4.out, G4.out⟩))
  refine ⟨rfl, ?_⟩
  simpa [encNum] using h4
end Go.Proofs.YtkgbgmfidkimfaaGreat

namespace Go.Proofs.YtkgbgmfidkimfaaGreat
open Go.RowKit

theorem u8_small {n : Nat} : IntKind.u8.wrap (n : Int) = ((byteN n).toNat : Int) := u8_of n

theorem encText_length (s : ByteArray) : (encText s).length = s.size + 1 := by simp [encText]
theorem encNum_length (n : Nat) : (encNum n).length = 4 := rfl

/-- some bytes told of each of some: at most so many. -/
theorem flat_le {α : Type} (f : α → List UInt8) (b : Nat) : ∀ (l : List α), (∀ x ∈ l, (f x).length ≤ b) → (l.flatMap f).length ≤ l.length * b
  | [], _ => by simp
  | x :: l, h => by
    have h1 := flat_le f b l (fun y hy => h y (by simp [hy]))
    have h2 := h x (by simp)
    rw [List.flatMap_cons, List.length_append, List.length_cons, Nat.succ_mul]
    omega

theorem take_flat {α : Type} (f : α → List UInt8) {l : List α} {k : Nat} {x : α} (h : l[k]? = some x) : (l.take (k + 1)).flatMap f = (l.take k).flatMap f ++ f x := by
  rw [List.take_add_one, h]
  simp

/-- the blocks of Bytes: the item's, the writer's. -/
structure BytIn (w : World) (cs : List Value) (l : List UInt8) (wr : World) : Prop where
  box : Whole wr w.heap.size 26 cs
  bld : ∃ own ds, BldIn 132 (w.heap.size + 1) 0 (w.heap.size + 1) own ds l wr
  fr : Fr [] w wr

theorem BytIn.wrote {w wr w1 : World} {cs : List Value} {own : Option Nat} {ds : List Value} {l m : List UInt8} (h : BytIn w cs l wr) (hb : BldIn 132 (w.heap.size + 1) 0 (w.heap.size + 1) own ds l wr) (hw : Wrote 132 (w.heap.size + 1) 0 (w.heap.size + 1) own ds m wr w1) : BytIn w cs m w1 := by
  obtain ⟨o', d', b', _, _, _, f⟩ := hw
  exact ⟨hb.keep f h.box (by decide) (by decide), ⟨o', d', b'⟩, h.fr.step f (fun k hk => .inr (by have := Wrote.of_base hb k hk; omega))⟩

theorem BldIn.fr0 {T g off base : Nat} {own : Option Nat} {cs : List Value} {m : List UInt8} {w w1 : World} (h : BldIn T g off base own cs m w) (hf : Fr [] w w1) : BldIn T g off base own cs m w1 := by
  obtain ⟨v, hv, hown, hob⟩ := h.buf
  exact ⟨h.whole.fr hf (by simp), h.addr, ⟨v, hv, own_fr hown hf (fun k _ => by simp), hob⟩, h.base, h.ne, h.lies⟩

theorem BytIn.fr0 {w wr w1 : World} {cs : List Value} {l : List UInt8} (h : BytIn w cs l wr) (hf : Fr [] wr w1) : BytIn w cs l w1 := by
  obtain ⟨o, d, b⟩ := h.bld
  exact ⟨h.box.fr hf (by simp), ⟨o, d, b.fr0 hf⟩, h.fr.trans hf⟩

theorem Wrote.keep {T g off base : Nat} {own : Option Nat} {cs : List Value} {l m : List UInt8} {w w1 : World} (hb : BldIn T g off base own cs l w) (hw : Wrote T g off base own cs m w w1) {b T' : Nat} {ds : List Value} (h : Whole w b T' ds) (h1 : T' ≠ T) (h2 : T' ≠ 5) : Whole w1 b T' ds := by
  obtain ⟨_, _, _, _, _, _, f⟩ := hw
  exact hb.keep f h h1 h2

theorem BytIn.start (w : World) (cs : List Value) : BytIn w cs [] ((w.alloc (.cells cs.toArray 26)).alloc (.cells #[.pointer none, .slice none 0 0] 132)) := by
  refine ⟨(Whole.new w _ _).alloc _, ⟨none, [.pointer none, .slice none 0 0], ⟨?_, .inl rfl, ⟨.slice none 0 0, rfl, ⟨rfl, .inl ⟨rfl, rfl⟩⟩, rfl⟩, Nat.le_refl _, by decide, by kernel_rfl⟩⟩, ((Fr.refl [] w).alloc _).alloc _⟩
  have := Whole.new (w.alloc (.cells cs.toArray 26)) 132 [.pointer none, .slice none 0 0]
  simpa using this

set_option maxHeartbeats 1000000 in
set_option maxRecDepth 100000 in
/-- a text. -/
theorem bytesT_any (x : Itm) (v : Value) (w : World) (B : Nat) (hx : RightI x) (h : ItemV w B v x) (hk : x.kind = 1) :
    Calls Tryz.prog 83 #[v] w fun e w' => e = .returned (.string ⟨(encItm x).toArray⟩) ∧ Fr [] w w' := by
  obtain ⟨A1, c1, A2, c2, A3, c3, rfl, h1, h2, h3⟩ := h
  have hE : encItm x = [byteN 1] ++ x.text.data.toList := by unfold encItm; rw [if_pos hk, hk]; rfl
  have S0 := BytIn.start w [.int .i64 x.kind, .string x.text, .slice A1 x.list.length c1, .slice A2 x.pairs.length c2, .slice A3 x.scores.length c3]
  rw [hk] at S0 ⊢
  have ht := hx.text
  have HE := Lib.hid hE
  clear h1 h2 h3 hE hk hx
  generalize x.text = t at *
  generalize encItm x = E at *
  generalize x.list.length = n1 at *
  generalize x.pairs.length = n2 at *
  generalize x.scores.length = n3 at *
  obtain ⟨d0, d1, d2, d3, d4⟩ := five S0.box
  obtain ⟨own, ds, b0⟩ := S0.bld
  have W1 := Lib.hid (fun W (hW : BldIn 132 (w.heap.size + 1) 0 (w.heap.size + 1) own ds [] W) (hz : w.heap.size + 1 ≤ W.heap.size) => writeByte_any (byteN 1) hW (by simp) hz)
  rw [show ((byteN 1).toNat : Int) = 1 from rfl] at W1
  have B0 := Lib.hid b0
  have HS := Lib.hid S0
  clear b0 S0
  go_enter Tryz.func83, Tryz.ntmps83
  go_wp2
  go_region_with (go_at_call 118; go_must (refine (W1.out _ B0.out.drew (by simp)).mono ?_; rintro e w1 ⟨rfl, hw1⟩))
  have S1 := HS.out.wrote B0.out hw1.drew
  rw [List.nil_append] at S1
  clear d0 d1 d2 d3 d4 hw1
  obtain ⟨d0, d1, d2, d3, d4⟩ := five S1.box
  obtain ⟨own1, ds1, b1⟩ := S1.bld
  have W2 := Lib.hid (fun W (hW : BldIn 132 (w.heap.size + 1) 0 (w.heap.size + 1) own1 ds1 [byteN 1] W) (hz : w.heap.size + 1 ≤ W.heap.size) => writeString_any t hW (by simp; omega) hz)
  have B1 := Lib.hid b1
  have HS1 := Lib.hid S1
  have Z1 : w.heap.size + 1 ≤ w1.heap.size := by have := b1.whole.lt; omega
  clear b1 S1
  go_wp2
  go_region_with (go_at_call 119; go_must (refine (W2.out _ B1.out.drew Z1).mono ?_; rintro e w2 ⟨rfl, hw2⟩))
  have S2 := HS1.out.wrote B1.out hw2.drew
  clear d0 d1 d2 d3 d4 hw2
  obtain ⟨own2, ds2, b2⟩ := S2.bld
  have T := Lib.hid (string_any b2 (by simp))
  have F2 := Lib.hid S2.fr
  have HB2 := Lib.hid (Wrote.of_base b2)
  clear b2 S2
  go_wp2_with fail
  refine T.out.mono ?_
  rintro e w3 ⟨rfl, f3⟩
  go_wp2
  go_ret
  rw [HE.out]
  exact ⟨rfl, F2.out.step f3 (fun k hk => .inr (by have := HB2.out k (List.mem_cons_of_mem _ hk); omega))⟩

theorem scoreNum {n : Int} (h : isInt n = true) : n + 999999999 = (((n + 999999999).toNat : Nat) : Int) ∧ (n + 999999999).toNat < 4294967296 := by
  simp only [isInt, Bool.and_eq_true, decide_eq_true_eq] at h
  omega

set_option maxHeartbeats 800000 in
set_option maxRecDepth 100000 in
/-- no text. -/
theorem bytesL_any (x : Itm) (v : Value) (w : World) (B : Nat) (hs : x.Small) (hB : B ≤ w.heap.size) (hx : RightI x) (h : ItemV w B v x) (hk : x.kind ≠ 1) :
    Calls Tryz.prog 83 #[v] w fun e w' => e = .returned (.string ⟨(encItm x).toArray⟩) ∧ Fr [] w w' := by
  have M := Lib.hid (fun W (hf : Fr [] w W) => many_any x v W B hs (h.fr hf hB (by simp)))
  obtain ⟨A1, c1, A2, c2, A3, c3, rfl, h1, h2, h3⟩ := h
  have hE : encItm x = ([byteN x.kind.toNat] ++ [byteN (many x)]) ++ x.list.flatMap encText ++ x.pairs.flatMap encPair ++ x.scores.flatMap encScore := by unfold encItm; rw [if_neg hk]; simp
  have S0 := BytIn.start w [.int .i64 x.kind, .string x.text, .slice A1 x.list.length c1, .slice A2 x.pairs.length c2, .slice A3 x.scores.length c3]
  have hm := hx.many
  have l1 : x.list.length ≤ 24 := by unfold many at hm; omega
  have l2 : x.pairs.length ≤ 24 := by unfold many at hm; omega
  have l3 : x.scores.length ≤ 24 := by unfold many at hm; omega
  obtain ⟨hk1, hk2⟩ := hx.kind
  have k1 : (x.kind == 1) = false := by simpa using hk
  have EK := Lib.hid (show IntKind.u8.wrap x.kind = ((byteN x.kind.toNat).toNat : Int) by have := u8_of x.kind.toNat; rw [show ((x.kind.toNat : Nat) : Int) = x.kind by omega] at this; exact this)
  have EM := Lib.hid (u8_of (many x))
  have HE := Lib.hid hE
  have HX := Lib.hid hx
  have H1 := Lib.hid h1
  have H2 := Lib.hid h2
  have H3 := Lib.hid h3
  clear h1 h2 h3 hE hk hx hs
  obtain ⟨d0, d1, d2, d3, d4⟩ := five S0.box
  obtain ⟨own, ds, b0⟩ := S0.bld
  have WB := Lib.hid (fun W own' ds' (l' : List UInt8) (k : Nat) (v : Int) (hW : BldIn 132 (w.heap.size + 1) 0 (w.heap.size + 1) own' ds' l' W) (hl' : l'.length ≤ 100003) (hz : w.heap.size + 1 ≤ W.heap.size) (hv : v = ((byteN k).toNat : Int)) => (show Calls Tryz.prog 118 #[.pointer (some ⟨w.heap.size + 1, 0, none⟩), .int .u8 v] W _ from hv ▸ writeByte_any (byteN k) hW (by omega) hz))
  have B0 := Lib.hid b0
  have HS := Lib.hid S0
  clear b0 S0
  go_enter Tryz.func83, Tryz.ntmps83
  go_wp2
  go_region_with (go_at_call 118; have hq := WB.out _ _ _ [] x.kind.toNat (IntKind.u8.wrap x.kind) B0.out.drew (by simp) (by simp) EK.out; refine hq.mono ?_; clear hq; rintro e w1 ⟨rfl, hw1⟩)
  have S1 := HS.out.wrote B0.out hw1.drew
  rw [List.nil_append] at S1
  clear d0 d1 d2 d3 d4 hw1
  obtain ⟨d0, d1, d2, d3, d4⟩ := five S1.box
  obtain ⟨own1, ds1, b1⟩ := S1.bld
  have B1 := Lib.hid b1
  have HS1 := Lib.hid S1
  have Z1 : w.heap.size + 1 ≤ w1.heap.size := by have := b1.whole.lt; omega
  clear b1 S1
  go_wp2
  go_region_with (first
    | (go_at_call 89; have hq := M.out _ HS1.out.fr.drew; refine hq.mono ?_; clear hq; rintro e w2 ⟨rfl, f2⟩; have f2' : Fr [] w1 w2 := ⟨f2.os, f2.tape, f2.output, f2.size, f2.block⟩; have Z2 : w.heap.size + 1 ≤ w2.heap.size := Nat.le_trans Z1 f2'.size; have B2 := Lib.hid (B1.out.fr0 f2'); have HS2 := Lib.hid (HS1.out.fr0 f2'); clear f2 f2')
    | (go_at_call 118; have hq := WB.out _ _ _ [byteN x.kind.toNat] (many x) (IntKind.u8.wrap ((many x : Nat) : Int)) B2.out (by simp) Z2 EM.out; refine hq.mono ?_; clear hq; rintro e w3 ⟨rfl, hw3⟩))
  have S3 := HS2.out.wrote B2.out hw3
  clear d0 d1 d2 d3 d4 hw3
  obtain ⟨d0, d1, d2, d3, d4⟩ := five S3.box
  have HS3 := Lib.hid S3
  clear S3
  have P0 := Lib.hid (show ([byteN x.kind.toNat] ++ [byteN (many x)]).length = 2 from rfl)
  generalize [byteN x.kind.toNat] ++ [byteN (many x)] = p0 at *
  clear B0 HS B1 HS1 B2 HS2 Z1 Z2 EK EM WB M
  go_wp2
  clear d0 d1 d2 d3 d4
  go_loopg [42] x.list.length (fun g i wr => ∃ (m : Nat), g = x.list.length - m ∧ i = .int .i64 m ∧ m ≤ x.list.length ∧ BytIn w [.int .i64 x.kind, .string x.text, .slice A1 x.list.length c1, .slice A2 x.pairs.length c2, .slice A3 x.scores.length c3] (p0 ++ (x.list.take m).flatMap encText) wr)
  case atStart => exact ⟨0, rfl, rfl, Nat.zero_le _, by simpa using HS3.out⟩
  clear HS3
  case round =>
  obtain ⟨m, rfl, rfl, hm1, hS⟩ := hrel
  have HS := Lib.hid hS
  obtain ⟨d0, d1, d2, d3, d4⟩ := five hS.box
  clear hS
  by_cases hlt : m < x.list.length
  · obtain ⟨b, off, e, hb, hc, hmx, hcell⟩ := H1.out.at_ (by omega)
    obtain ⟨s, hs⟩ : ∃ s, x.list[m]? = some s := ⟨_, List.getElem?_eq_getElem hlt⟩
    have hc1 : wr.cell? ⟨b, off + m, none⟩ = some (.string s) := HS.out.fr.cell (hcell m _ (textsV_get _ m s hs)) (by simp)
    have hs60 := HX.out.texts s (List.mem_of_getElem? hs)
    have hlen : (p0 ++ (x.list.take m).flatMap encText).length ≤ 100000 := by
      have := flat_le encText 61 (x.list.take m) (fun y hy => by rw [encText_length]; have := HX.out.texts y (List.mem_of_mem_take hy); omega)
      have h2 := List.length_take_le m x.list
      rw [List.length_append, P0.out]
      have : (x.list.take m).length * 61 ≤ 24 * 61 := Nat.mul_le_mul_right _ (by omega)
      omega
    obtain ⟨own, ds, b0⟩ := HS.out.bld
    have TX := Lib.hid (writerText_any s b0 hs60 hlen (by have := b0.whole.lt; omega))
    have TK := Lib.hid (take_flat encText hs)
    have BL := Lib.hid b0
    have HEQ := e
    subst HEQ
    clear hcell hs b0 hlen
    go_wp2_with fail
    refine TX.out.mono ?_
    rintro e w4 ⟨rfl, hw4⟩
    have S4 := HS.out.wrote BL.out hw4
    rw [List.append_assoc, ← TK.out] at S4
    have HS4 := Lib.hid S4
    clear S4 hw4 d0 d1 d2 d3 d4
    go_wp2
    go_roundg (x.list.length - (m + 1))
    case measure => omega
    case rel => exact ⟨m + 1, rfl, by simp, by omega, HS4.out⟩
  have HSa := Lib.hid (show BytIn w [.int .i64 x.kind, .string x.text, .slice A1 x.list.length c1, .slice A2 x.pairs.length c2, .slice A3 x.scores.length c3] (p0 ++ x.list.flatMap encText) wr by have := HS.out; rw [List.take_of_length_le (by omega)] at this; exact this)
  clear HS
  go_wp2
  clear d0 d1 d2 d3 d4 hlt hm1
  have HP := Lib.hid (show (p0 ++ x.list.flatMap encText).length ≤ 10000 by
    have := flat_le encText 61 x.list (fun y hy => by rw [encText_length]; have := HX.out.texts y hy; omega)
    rw [List.length_append, P0.out]
    have : x.list.length * 61 ≤ 24 * 61 := Nat.mul_le_mul_right _ (by omega)
    omega)
  clear P0
  generalize p0 ++ x.list.flatMap encText = p1 at *
  go_loopg [53] x.pairs.length (fun g i wr => ∃ (m : Nat), g = x.pairs.length - m ∧ i = .int .i64 m ∧ m ≤ x.pairs.length ∧ BytIn w [.int .i64 x.kind, .string x.text, .slice A1 x.list.length c1, .slice A2 x.pairs.length c2, .slice A3 x.scores.length c3] (p1 ++ (x.pairs.take m).flatMap encPair) wr)
  case atStart => exact ⟨0, rfl, rfl, Nat.zero_le _, by simpa using HSa.out⟩
  clear HSa
  case round =>
  obtain ⟨m, rfl, rfl, hm1, hS⟩ := hrel
  have HS := Lib.hid hS
  obtain ⟨d0, d1, d2, d3, d4⟩ := five hS.box
  clear hS
  by_cases hlt : m < x.pairs.length
  · obtain ⟨b, off, e, hb, hc, hmx, hcell⟩ := H2.out.at_ (by omega)
    obtain ⟨s, hs⟩ : ∃ s, x.pairs[m]? = some s := ⟨_, List.getElem?_eq_getElem hlt⟩
    have hc1 : wr.cell? ⟨b, off + 2 * m, none⟩ = some (.string s.1) := HS.out.fr.cell (hcell _ _ (pairsV_get _ m s hs).1) (by simp)
    have hc2 : wr.cell? ⟨b, off + 2 * m + 1, none⟩ = some (.string s.2) := HS.out.fr.cell (hcell _ _ (pairsV_get _ m s hs).2) (by simp)
    rw [Nat.mul_comm 2 m] at hc1 hc2
    have hs60 := HX.out.fields s (List.mem_of_getElem? hs)
    have hlen : (p1 ++ (x.pairs.take m).flatMap encPair).length ≤ 90000 := by
      have := flat_le encPair 130 (x.pairs.take m) (fun y hy => by have := HX.out.fields y (List.mem_of_mem_take hy); simp only [encPair, List.length_append, encText_length, encNum_length]; omega)
      have h2 := List.length_take_le m x.pairs
      rw [List.length_append]
      have : (x.pairs.take m).length * 130 ≤ 24 * 130 := Nat.mul_le_mul_right _ (by omega)
      have := HP.out
      omega
    obtain ⟨own, ds, b0⟩ := HS.out.bld
    have FA : Fr [] wr (wr.alloc (.cells #[.string s.1, .string s.2] 57)) := (Fr.refl [] wr).alloc _
    have BA := Lib.hid (b0.fr0 FA)
    have SA := Lib.hid (HS.out.fr0 FA)
    have WA := Lib.hid (show Whole (wr.alloc (.cells #[.string s.1, .string s.2] 57)) wr.heap.size 57 [.string s.1, .string s.2] from Whole.new wr _ _)
    have TK := Lib.hid (take_flat encPair hs)
    have HB := Lib.hid (show w.heap.size + 1 ≤ wr.heap.size by have := b0.whole.lt; omega)
    have T1 := Lib.hid (writerText_any s.1 BA.out hs60.1 (by omega) (by have := HB.out; simp; omega))
    have HEQ := e
    subst HEQ
    clear hcell hs b0 FA
    go_wp2_with fail
    refine T1.out.mono ?_
    rintro e w4 ⟨rfl, hw4⟩
    have S4 := Lib.hid (SA.out.wrote BA.out hw4)
    have W4 := Lib.hid (Wrote.keep BA.out hw4 WA.out (by decide) (by decide))
    have pc : w4.cell? ⟨wr.heap.size, 1, none⟩ = some (.string s.2) := W4.out.cell 1
    have HZ4 := Lib.hid (show w.heap.size + 1 ≤ w4.heap.size by obtain ⟨_, _, q⟩ := S4.out.bld; have := q.whole.lt; omega)
    obtain ⟨own2, ds2, b2⟩ := S4.out.bld
    have T2 := Lib.hid (writerText_any s.2 b2 hs60.2 (by rw [List.length_append, encText_length]; omega) HZ4.out)
    have B2 := Lib.hid b2
    clear b2 hw4 d0 d1 d2 d3 d4
    obtain ⟨d0, d1, d2, d3, d4⟩ := five S4.out.box
    go_wp2_with fail
    refine T2.out.mono ?_
    rintro e w5 ⟨rfl, hw5⟩
    have S5 := S4.out.wrote B2.out hw5
    rw [List.append_assoc, List.append_assoc] at S5
    have HS5 := Lib.hid (show BytIn w [.int .i64 x.kind, .string x.text, .slice A1 x.list.length c1, .slice (some ⟨b, off, none⟩) x.pairs.length c2, .slice A3 x.scores.length c3] (p1 ++ (x.pairs.take (m + 1)).flatMap encPair) w5 by rw [TK.out]; exact S5)
    clear S5 hw5 d0 d1 d2 d3 d4 pc
    go_wp2
    go_roundg (x.pairs.length - (m + 1))
    case measure => omega
    case rel => exact ⟨m + 1, rfl, by simp, by omega, HS5.out⟩
  have HSa := Lib.hid (show BytIn w [.int .i64 x.kind, .string x.text, .slice A1 x.list.length c1, .slice A2 x.pairs.length c2, .slice A3 x.scores.length c3] (p1 ++ x.pairs.flatMap encPair) wr by have := HS.out; rw [List.take_of_length_le (by omega)] at this; exact this)
  clear HS
  go_wp2
  clear d0 d1 d2 d3 d4 hlt hm1
  have HP2 := Lib.hid (show (p1 ++ x.pairs.flatMap encPair).length ≤ 20000 by
    have := flat_le encPair 130 x.pairs (fun y hy => by have := HX.out.fields y hy; simp only [encPair, List.length_append, encText_length]; omega)
    have h3 := HP.out
    rw [List.length_append]
    have : x.pairs.length * 130 ≤ 24 * 130 := Nat.mul_le_mul_right _ (by omega)
    omega)
  clear HP
  have HP := HP2
  clear HP2
  have HE2 := Lib.hid (show encItm x = (p1 ++ x.pairs.flatMap encPair) ++ x.scores.flatMap encScore from HE.out)
  clear HE
  generalize p1 ++ x.pairs.flatMap encPair = p2 at *
  go_loopg [69] x.scores.length (fun g i wr => ∃ (m : Nat), g = x.scores.length - m ∧ i = .int .i64 m ∧ m ≤ x.scores.length ∧ BytIn w [.int .i64 x.kind, .string x.text, .slice A1 x.list.length c1, .slice A2 x.pairs.length c2, .slice A3 x.scores.length c3] (p2 ++ (x.scores.take m).flatMap encScore) wr)
  case atStart => exact ⟨0, rfl, rfl, Nat.zero_le _, by simpa using HSa.out⟩
  clear HSa
  case round =>
  obtain ⟨m, rfl, rfl, hm1, hS⟩ := hrel
  have HS := Lib.hid hS
  obtain ⟨d0, d1, d2, d3, d4⟩ := five hS.box
  clear hS
  by_cases hlt : m < x.scores.length
  · obtain ⟨b, off, e, hb, hc, hmx, hcell⟩ := H3.out.at_ (by omega)
    obtain ⟨s, hs⟩ : ∃ s, x.scores[m]? = some s := ⟨_, List.getElem?_eq_getElem hlt⟩
    have hc1 : wr.cell? ⟨b, off + 2 * m, none⟩ = some (.int .i64 s.1) := HS.out.fr.cell (hcell _ _ (scoresV_get _ m s hs).1) (by simp)
    have hc2 : wr.cell? ⟨b, off + 2 * m + 1, none⟩ = some (.string s.2) := HS.out.fr.cell (hcell _ _ (scoresV_get _ m s hs).2) (by simp)
    rw [Nat.mul_comm 2 m] at hc1 hc2
    have hs60 := HX.out.members s (List.mem_of_getElem? hs)
    have hlen : (p2 ++ (x.scores.take m).flatMap encScore).length ≤ 90000 := by
      have := flat_le encScore 130 (x.scores.take m) (fun y hy => by have := HX.out.members y (List.mem_of_mem_take hy); simp only [encScore, List.length_append, encText_length, encNum_length]; omega)
      have h2 := List.length_take_le m x.scores
      rw [List.length_append]
      have : (x.scores.take m).length * 130 ≤ 24 * 130 := Nat.mul_le_mul_right _ (by omega)
      have := HP.out
      omega
    obtain ⟨own, ds, b0⟩ := HS.out.bld
    have FA : Fr [] wr (wr.alloc (.cells #[.int .i64 s.1, .string s.2] 60)) := (Fr.refl [] wr).alloc _
    have BA := Lib.hid (b0.fr0 FA)
    have SA := Lib.hid (HS.out.fr0 FA)
    have WA := Lib.hid (show Whole (wr.alloc (.cells #[.int .i64 s.1, .string s.2] 60)) wr.heap.size 60 [.int .i64 s.1, .string s.2] from Whole.new wr _ _)
    have TK := Lib.hid (take_flat encScore hs)
    have HB := Lib.hid (show w.heap.size + 1 ≤ wr.heap.size by have := b0.whole.lt; omega)
    obtain ⟨hn1, hn2⟩ := scoreNum hs60.1
    have N1 := writerNumber_any (s.1 + 999999999).toNat BA.out hn2 (by omega) (by have := HB.out; simp; omega)
    rw [← hn1] at N1
    have T1 := Lib.hid N1
    have wn : IntKind.i64.wrap (s.1 + 999999999) = s.1 + 999999999 := IntWalk.i64_in _ (by omega)
    clear N1 hn1
    have HEQ := e
    subst HEQ
    clear hcell hs b0 FA
    go_wp2_with fail
    refine T1.out.mono ?_
    rintro e w4 ⟨rfl, hw4⟩
    have S4 := Lib.hid (SA.out.wrote BA.out hw4)
    have W4 := Lib.hid (Wrote.keep BA.out hw4 WA.out (by decide) (by decide))
    have pc : w4.cell? ⟨wr.heap.size, 1, none⟩ = some (.string s.2) := W4.out.cell 1
    have HZ4 := Lib.hid (show w.heap.size + 1 ≤ w4.heap.size by obtain ⟨_, _, q⟩ := S4.out.bld; have := q.whole.lt; omega)
    obtain ⟨own2, ds2, b2⟩ := S4.out.bld
    have T2 := Lib.hid (writerText_any s.2 b2 hs60.2 (by rw [List.length_append, encNum_length]; omega) HZ4.out)
    have B2 := Lib.hid b2
    clear b2 hw4 d0 d1 d2 d3 d4
    obtain ⟨d0, d1, d2, d3, d4⟩ := five S4.out.box
    go_wp2_with fail
    refine T2.out.mono ?_
    rintro e w5 ⟨rfl, hw5⟩
    have S5 := S4.out.wrote B2.out hw5
    rw [List.append_assoc, List.append_assoc] at S5
    have HS5 := Lib.hid (show BytIn w [.int .i64 x.kind, .string x.text, .slice A1 x.list.length c1, .slice A2 x.pairs.length c2, .slice (some ⟨b, off, none⟩) x.scores.length c3] (p2 ++ (x.scores.take (m + 1)).flatMap encScore) w5 by rw [TK.out]; exact S5)
    clear S5 hw5 d0 d1 d2 d3 d4 pc
    go_wp2
    go_roundg (x.scores.length - (m + 1))
    case measure => omega
    case rel => exact ⟨m + 1, rfl, by simp, by omega, HS5.out⟩
  have HSa := Lib.hid (show BytIn w [.int .i64 x.kind, .string x.text, .slice A1 x.list.length c1, .slice A2 x.pairs.length c2, .slice A3 x.scores.length c3] (p2 ++ x.scores.flatMap encScore) wr by have := HS.out; rw [List.take_of_length_le (by omega)] at this; exact this)
  clear HS
  have hne : p2 ++ x.scores.flatMap encScore ≠ [] := by
    rw [← HE2.out]
    unfold encItm
    simp
  obtain ⟨own, ds, b0⟩ := HSa.out.bld
  have T := Lib.hid (string_any b0 hne)
  have F2 := Lib.hid HSa.out.fr
  have HB2 := Lib.hid (Wrote.of_base b0)
  clear b0 hne
  go_wp2_with fail
  refine T.out.mono ?_
  rintro e w9 ⟨rfl, f9⟩
  go_wp2
  go_ret
  rw [HE2.out]
  exact ⟨rfl, F2.out.step f9 (fun k hk => .inr (by have := HB2.out k (List.mem_cons_of_mem _ hk); omega))⟩

theorem bytes_any (x : Itm) (v : Value) (w : World) (B : Nat) (hs : x.Small) (hB : B ≤ w.heap.size) (hx : RightI x) (h : ItemV w B v x) :
    Calls Tryz.prog 83 #[v] w fun e w' => e = .returned (.string ⟨(encItm x).toArray⟩) ∧ Fr [] w w' := by
  by_cases hk : x.kind = 1
  · exact bytesT_any x v w B hx h hk
  · exact bytesL_any x v w B hs hB hx h hk

/-- what Encode answers. -/
def encAns (x : Itm) : ByteArray := if checkItm x = 0 then ⟨(encItm x).toArray⟩ else ByteArray.empty

set_option maxHeartbeats 800000 in
theorem encode_any (x : Itm) (v : Value) (w : World) (B : Nat) (hs : x.Small) (hB : B ≤ w.heap.size) (h : ItemV w B v x) :
    Calls Tryz.prog 26 #[v] w fun e w' => e = .returned (.tuple #[.string (encAns x), .int .i64 (checkItm x)]) ∧ Fr [] w w' := by
  have C := Lib.hid (fun W (hf : Fr [] w W) => itemCheck_any x v W B hs (Nat.le_trans hB hf.size) (h.fr hf hB (by simp)))
  have Y := Lib.hid (fun W (hf : Fr [] w W) (hc : checkItm x = 0) => bytes_any x v W B hs (Nat.le_trans hB hf.size) (right_of hc) (h.fr hf hB (by simp)))
  obtain ⟨A1, c1, A2, c2, A3, c3, rfl, h1, h2, h3⟩ := h
  have F0 : Fr [] w (w.alloc (.cells #[.int .i64 x.kind, .string x.text, .slice A1 x.list.length c1, .slice A2 x.pairs.length c2, .slice A3 x.scores.length c3] 26)) := (Fr.refl [] w).alloc _
  have V0 := Lib.hid (show Whole (w.alloc (.cells #[.int .i64 x.kind, .string x.text, .slice A1 x.list.length c1, .slice A2 x.pairs.length c2, .slice A3 x.scores.length c3] 26)) w.heap.size 26 [.int .i64 x.kind, .string x.text, .slice A1 x.list.length c1, .slice A2 x.pairs.length c2, .slice A3 x.scores.length c3] from Whole.new w _ _)
  have hA : encAns x = if checkItm x = 0 then ⟨(encItm x).toArray⟩ else ByteArray.empty := rfl
  clear h1 h2 h3 hs
  generalize encAns x = a at *
  generalize checkItm x = c at *
  generalize (⟨(encItm x).toArray⟩ : ByteArray) = y at *
  by_cases hc : c = 0
  · subst hc
    rw [if_pos rfl] at hA
    subst hA
    go_enter Tryz.func26, Tryz.ntmps26
    go_wp2_with fail
    refine (C.out _ F0).mono ?_
    rintro e w1 ⟨rfl, f1⟩
    have F1 := F0.trans f1
    obtain ⟨d0, d1, d2, d3, d4⟩ := five (V0.out.fr f1 (by simp))
    go_wp2_with fail
    refine (Y.out _ F1 (by first | rfl | trivial)).mono ?_
    rintro e w2 ⟨rfl, f2⟩
    go_wp2
    go_ret2
    exact ⟨rfl, F1.trans f2⟩
  · rw [if_neg hc] at hA
    subst hA
    have q : (c != 0) = true := by simpa using hc
    clear hc Y
    go_enter Tryz.func26, Tryz.ntmps26
    go_wp2_with fail
    refine (C.out _ F0).mono ?_
    rintro e w1 ⟨rfl, f1⟩
    go_wp2
    go_ret2
    exact ⟨rfl, F0.trans f1⟩
end Go.Proofs.YtkgbgmfidkimfaaGreat

namespace Go.Proofs.YtkgbgmfidkimfaaGreat
open Go.RowKit

end Go.Proofs.YtkgbgmfidkimfaaGreat

namespace Go.Proofs.YtkgbgmfidkimfaaGreat

/-- bytes as a text. -/
def toB (l : List UInt8) : ByteArray := ⟨l.toArray⟩
theorem toB_size (l : List UInt8) : (toB l).size = l.length := by simp [toB, ByteArray.size]
theorem toB_list (l : List UInt8) : (toB l).data.toList = l := by simp [toB]
theorem toB_of (s : ByteArray) : toB s.data.toList = s := by cases s; simp [toB]
theorem toB_inj {a b : List UInt8} (h : toB a = toB b) : a = b := by rw [← toB_list a, ← toB_list b, h]
theorem ext_list {s t : ByteArray} (h : s.data.toList = t.data.toList) : s = t := by rw [← toB_of s, ← toB_of t, h]
theorem extract_list (s : ByteArray) (a b : Nat) : (s.extract a b).data.toList = (s.data.toList.drop a).take (b - a) := by
  simp only [ByteArray.data_extract, Array.toList_extract, List.extract_eq_take_drop]
theorem take_toB (l m : List UInt8) : (toB (l ++ m)).extract 0 l.length = toB l := by
  apply ext_list
  rw [extract_list, toB_list, toB_list]
  simp
theorem drop_toB (l m : List UInt8) : (toB (l ++ m)).extract l.length (toB (l ++ m)).size = toB m := by
  apply ext_list
  rw [extract_list, toB_list, toB_list, toB_size]
  simp

theorem takeB_toB (l m : List UInt8) : takeB l.length (toB (l ++ m)) = some (toB l, toB m) := by
  unfold takeB
  rw [if_neg (by rw [toB_size]; simp), take_toB, drop_toB]
theorem oneB_toB (c : UInt8) (l : List UInt8) : oneB (toB (c :: l)) = some (c.toNat, toB l) := by
  unfold oneB
  rw [if_neg (by rw [toB_size]; simp)]
  have := drop_toB [c] l
  rw [show ([c] : List UInt8).length = 1 from rfl] at this
  rw [show c :: l = [c] ++ l from rfl, this]
  rfl
theorem byteN_lt {n : Nat} (h : n < 256) : (byteN n).toNat = n := by rw [byteN_toNat]; omega

theorem toldB_toB (s : ByteArray) (m : List UInt8) (hs : s.size < 256) : toldB (toB (encText s ++ m)) = some (s, toB m) := by
  unfold toldB encText
  rw [List.cons_append, oneB_toB, Option.bind_some, byteN_lt hs]
  have := takeB_toB s.data.toList m
  rw [toB_of, show s.data.toList.length = s.size by simp] at this
  exact this

theorem num4B_toB (n : Nat) (m : List UInt8) (hn : n < 4294967296) : num4B (toB (encNum n ++ m)) = some (n, toB m) := by
  unfold num4B
  rw [if_neg (by rw [toB_size]; simp [encNum])]
  have h1 := drop_toB (encNum n) m
  rw [show (encNum n).length = 4 from rfl] at h1
  rw [h1]
  have b0 : byteAt (toB (encNum n ++ m)) 0 = n / 16777216 % 256 := by rw [toB, byteAt_of]; simp [encNum, byteN_toNat]
  have b1 : byteAt (toB (encNum n ++ m)) 1 = n / 65536 % 256 := by rw [toB, byteAt_of]; simp [encNum, byteN_toNat]
  have b2 : byteAt (toB (encNum n ++ m)) 2 = n / 256 % 256 := by rw [toB, byteAt_of]; simp [encNum, byteN_toNat]
  have b3 : byteAt (toB (encNum n ++ m)) 3 = n % 256 := by rw [toB, byteAt_of]; simp [encNum, byteN_toNat]
  rw [b0, b1, b2, b3]
  congr 2
  omega

theorem readEls_list (k : Int) (e : ByteArray) (ps : List (ByteArray × ByteArray)) (sc : List (Int × ByteArray)) (k4 : k ≠ 4) (k5 : k ≠ 5) (rest : List UInt8) : ∀ (l acc : List ByteArray), (∀ s ∈ l, s.size < 256) →
    readEls l.length ⟨k, e, acc, ps, sc⟩ (toB (l.flatMap encText ++ rest)) = some (⟨k, e, acc ++ l, ps, sc⟩, toB rest)
  | [], acc, _ => by simp [readEls]
  | s :: l, acc, h => by
    rw [List.length_cons, readEls, List.flatMap_cons, List.append_assoc]
    unfold readEl
    rw [if_neg k4, if_neg k5, toldB_toB s _ (h s (by simp)), Option.map_some, Option.bind_some, readEls_list k e ps sc k4 k5 rest l (acc ++ [s]) (fun t ht => h t (by simp [ht]))]
    simp

theorem readEls_pairs (e : ByteArray) (li : List ByteArray) (sc : List (Int × ByteArray)) (rest : List UInt8) : ∀ (l acc : List (ByteArray × ByteArray)), (∀ p ∈ l, p.1.size < 256 ∧ p.2.size < 256) →
    readEls l.length ⟨4, e, li, acc, sc⟩ (toB (l.flatMap encPair ++ rest)) = some (⟨4, e, li, acc ++ l, sc⟩, toB rest)
  | [], acc, _ => by simp [readEls]
  | p :: l, acc, h => by
    rw [List.length_cons, readEls, List.flatMap_cons, List.append_assoc]
    unfold readEl
    rw [if_pos rfl]
    unfold encPair
    rw [List.append_assoc, toldB_toB p.1 _ (h p (by simp)).1, Option.bind_some, toldB_toB p.2 _ (h p (by simp)).2, Option.map_some, Option.bind_some]
    have := readEls_pairs e li sc rest l (acc ++ [p]) (fun t ht => h t (by simp [ht]))
    unfold encPair at this
    rw [this]
    simp

theorem readEls_scores (e : ByteArray) (li : List ByteArray) (ps : List (ByteArray × ByteArray)) (rest : List UInt8) : ∀ (l acc : List (Int × ByteArray)), (∀ p ∈ l, isInt p.1 = true ∧ p.2.size < 256) →
    readEls l.length ⟨5, e, li, ps, acc⟩ (toB (l.flatMap encScore ++ rest)) = some (⟨5, e, li, ps, acc ++ l⟩, toB rest)
  | [], acc, _ => by simp [readEls]
  | p :: l, acc, h => by
    rw [List.length_cons, readEls, List.flatMap_cons, List.append_assoc]
    unfold readEl
    rw [if_neg (show ¬ (5 : Int) = 4 by decide), if_pos rfl]
    have hp := h p (by simp)
    have hi := hp.1
    simp only [isInt, Bool.and_eq_true, decide_eq_true_eq] at hi
    unfold encScore
    rw [List.append_assoc, num4B_toB _ _ (by omega), Option.bind_some, toldB_toB p.2 _ hp.2, Option.map_some, Option.bind_some]
    have := readEls_scores e li ps rest l (acc ++ [p]) (fun t ht => h t (by simp [ht]))
    unfold encScore at this
    have e2 : (((p.1 + 999999999).toNat : Nat) : Int) - 999999999 = p.1 := by omega
    simp only [e2]
    rw [this]
    simp

/-- WHAT IS ENCODED IS DECODED AS IT WAS. -/
theorem dec_enc {x : Itm} (h : RightI x) : decItm (toB (encItm x)) = some x := by
  have hb := h.bare
  have hk := h.kind
  have hm := h.many
  have hc : (byteN x.kind.toNat).toNat = x.kind.toNat := byteN_lt (by omega)
  simp only [bareB, Bool.and_eq_true, Bool.or_eq_true, beq_iff_eq] at hb
  unfold decItm encItm
  rw [oneB_toB, Option.bind_some, hc]
  by_cases h1 : x.kind = 1
  · rw [if_pos h1, if_pos (by omega)]
    have l1 := List.eq_nil_of_length_eq_zero (show x.list.length = 0 by omega)
    have l2 := List.eq_nil_of_length_eq_zero (show x.pairs.length = 0 by omega)
    have l3 := List.eq_nil_of_length_eq_zero (show x.scores.length = 0 by omega)
    cases x
    simp_all [newI, toB_of]
  · rw [if_neg h1, if_neg (by omega), if_pos (by omega), oneB_toB, Option.bind_some, byteN_lt (by omega)]
    have ht : x.text = ByteArray.empty := nilOf (by omega)
    have ek : ((x.kind.toNat : Nat) : Int) = x.kind := by omega
    rw [ek]
    by_cases h4 : x.kind = 4
    · have l1 := List.eq_nil_of_length_eq_zero (show x.list.length = 0 by omega)
      have l3 := List.eq_nil_of_length_eq_zero (show x.scores.length = 0 by omega)
      have e : many x = x.pairs.length := by unfold many; rw [l1, l3]; simp
      have := readEls_pairs ByteArray.empty [] [] [] x.pairs [] (fun p hp => by have := h.fields p hp; omega)
      rw [e, l1, l3, h4]
      simp only [List.flatMap_nil, List.nil_append, List.append_nil] at this ⊢
      rw [show newI 4 = ⟨4, ByteArray.empty, [], [], []⟩ from rfl, this, Option.bind_some, if_pos (by rw [toB_size]; rfl)]
      cases x
      simp_all
    · by_cases h5 : x.kind = 5
      · have l1 := List.eq_nil_of_length_eq_zero (show x.list.length = 0 by omega)
        have l2 := List.eq_nil_of_length_eq_zero (show x.pairs.length = 0 by omega)
        have e : many x = x.scores.length := by unfold many; rw [l1, l2]; simp
        have := readEls_scores ByteArray.empty [] [] [] x.scores [] (fun p hp => by have := h.members p hp; exact ⟨this.1, by omega⟩)
        rw [e, l1, l2, h5]
        simp only [List.flatMap_nil, List.nil_append, List.append_nil] at this ⊢
        rw [show newI 5 = ⟨5, ByteArray.empty, [], [], []⟩ from rfl, this, Option.bind_some, if_pos (by rw [toB_size]; rfl)]
        cases x
        simp_all
      · have l2 := List.eq_nil_of_length_eq_zero (show x.pairs.length = 0 by omega)
        have l3 := List.eq_nil_of_length_eq_zero (show x.scores.length = 0 by omega)
        have e : many x = x.list.length := by unfold many; rw [l2, l3]; simp
        have := readEls_list x.kind ByteArray.empty [] [] h4 h5 [] x.list [] (fun s hs => by have := h.texts s hs; omega)
        rw [e, l2, l3]
        simp only [List.flatMap_nil, List.nil_append, List.append_nil] at this ⊢
        rw [show newI x.kind = ⟨x.kind, ByteArray.empty, [], [], []⟩ from rfl, this, Option.bind_some, if_pos (by rw [toB_size]; rfl)]
        cases x
        simp_all

theorem byteN_of (c : UInt8) : byteN c.toNat = c := by simp [byteN]

theorem takeB_list {n : Nat} {s t r : ByteArray} (h : takeB n s = some (t, r)) : s.data.toList = t.data.toList ++ r.data.toList ∧ t.size = n := by
  unfold takeB at h
  by_cases h1 : s.size < n
  · rw [if_pos h1] at h; cases h
  · rw [if_neg h1] at h
    cases h
    refine ⟨?_, by simp; omega⟩
    rw [extract_list, extract_list]
    have hl : s.data.toList.length = s.size := by simp
    rw [List.take_of_length_le (l := List.drop n s.data.toList) (by simp)]
    simp
theorem oneB_list {n : Nat} {s r : ByteArray} (h : oneB s = some (n, r)) : s.data.toList = byteN n :: r.data.toList ∧ n < 256 := by
  unfold oneB at h
  by_cases h1 : s.size < 1
  · rw [if_pos h1] at h; cases h
  · rw [if_neg h1] at h
    cases h
    refine ⟨?_, byteAt_lt s 0⟩
    have hl : s.data.toList.length = s.size := by simp
    rw [extract_list]
    match hs : s.data.toList with
    | [] => rw [hs] at hl; simp at hl; omega
    | c :: l =>
      have e : byteAt s 0 = c.toNat := by unfold byteAt; rw [hs]; rfl
      rw [e, byteN_of]
      rw [hs] at hl
      simp at hl
      simp
      rw [List.take_of_length_le (by omega)]
theorem toldB_list {s t r : ByteArray} (h : toldB s = some (t, r)) : s.data.toList = encText t ++ r.data.toList := by
  unfold toldB at h
  obtain ⟨p, hp, h2⟩ := Option.bind_eq_some_iff.1 h
  obtain ⟨n, q⟩ := p
  have h3 := oneB_list hp
  obtain ⟨h5, h6⟩ := takeB_list h2
  simp only at h5 h6
  rw [h3.1, h5, ← h6]
  rfl
theorem num4B_list {n : Nat} {s r : ByteArray} (h : num4B s = some (n, r)) : s.data.toList = encNum n ++ r.data.toList ∧ n < 4294967296 := by
  unfold num4B at h
  by_cases h1 : s.size < 4
  · rw [if_pos h1] at h; cases h
  · rw [if_neg h1] at h
    cases h
    have g0 := byteAt_lt s 0
    have g1 := byteAt_lt s 1
    have g2 := byteAt_lt s 2
    have g3 := byteAt_lt s 3
    refine ⟨?_, by omega⟩
    have hl : s.data.toList.length = s.size := by simp
    rw [extract_list]
    match hs : s.data.toList with
    | a :: b :: c :: d :: l =>
      have e0 : byteAt s 0 = a.toNat := by unfold byteAt; rw [hs]; rfl
      have e1 : byteAt s 1 = b.toNat := by unfold byteAt; rw [hs]; rfl
      have e2 : byteAt s 2 = c.toNat := by unfold byteAt; rw [hs]; rfl
      have e3 : byteAt s 3 = d.toNat := by unfold byteAt; rw [hs]; rfl
      rw [hs] at hl
      simp at hl
      rw [e0, e1, e2, e3]
      rw [e0] at g0
      rw [e1] at g1
      rw [e2] at g2
      rw [e3] at g3
      have k0 : byteN ((((a.toNat * 256 + b.toNat) * 256 + c.toNat) * 256 + d.toNat) / 16777216) = a := by
        rw [show (((a.toNat * 256 + b.toNat) * 256 + c.toNat) * 256 + d.toNat) / 16777216 = a.toNat by omega, byteN_of]
      have mod : ∀ (n : Nat) (c : UInt8), n % 256 = c.toNat → byteN n = c := by
        intro n c h
        apply UInt8.toNat.inj
        rw [byteN_toNat, h]
      have k1 : byteN ((((a.toNat * 256 + b.toNat) * 256 + c.toNat) * 256 + d.toNat) / 65536) = b := mod _ _ (by omega)
      have k2 : byteN ((((a.toNat * 256 + b.toNat) * 256 + c.toNat) * 256 + d.toNat) / 256) = c := mod _ _ (by omega)
      have k3 : byteN (((a.toNat * 256 + b.toNat) * 256 + c.toNat) * 256 + d.toNat) = d := mod _ _ (by omega)
      unfold encNum
      rw [k0, k1, k2, k3]
      simp
      rw [List.take_of_length_le (by omega)]
    | [] => rw [hs] at hl; simp at hl; omega
    | [a] => rw [hs] at hl; simp at hl; omega
    | [a, b] => rw [hs] at hl; simp at hl; omega
    | [a, b, c] => rw [hs] at hl; simp at hl; omega

/-- the bytes of what stands in an item. -/
def encAll (x : Itm) : List UInt8 := x.list.flatMap encText ++ (x.pairs.flatMap encPair ++ x.scores.flatMap encScore)

/-- an item that grows in its kind's list alone. -/
def OnlyI (x : Itm) : Prop := x.text = ByteArray.empty ∧ (x.kind = 4 → x.list = [] ∧ x.scores = []) ∧ (x.kind = 5 → x.list = [] ∧ x.pairs = []) ∧ (x.kind ≠ 4 → x.kind ≠ 5 → x.pairs = [] ∧ x.scores = [])

theorem readEl_list {x x' : Itm} {s r : ByteArray} (ho : OnlyI x) (h : readEl x s = some (x', r)) : OnlyI x' ∧ x'.kind = x.kind ∧ many x' = many x + 1 ∧ encAll x ++ s.data.toList = encAll x' ++ r.data.toList := by
  obtain ⟨ot, o4, o5, oo⟩ := ho
  unfold readEl at h
  by_cases h4 : x.kind = 4
  · rw [if_pos h4] at h
    obtain ⟨p, hp, h2⟩ := Option.bind_eq_some_iff.1 h
    obtain ⟨q, hq, h3⟩ := Option.map_eq_some_iff.1 h2
    cases h3
    have t1 := toldB_list hp
    have t2 := toldB_list hq
    obtain ⟨a1, a2⟩ := o4 h4
    refine ⟨⟨ot, o4, (fun h => absurd (h.symm.trans h4) (by decide)), fun h => absurd h4 h⟩, rfl, by unfold many; simp; omega, ?_⟩
    rw [t1, t2]
    simp [encAll, a1, a2, encPair]
  · rw [if_neg h4] at h
    by_cases h5 : x.kind = 5
    · rw [if_pos h5] at h
      obtain ⟨p, hp, h2⟩ := Option.bind_eq_some_iff.1 h
      obtain ⟨q, hq, h3⟩ := Option.map_eq_some_iff.1 h2
      cases h3
      have t1 := num4B_list hp
      have t2 := toldB_list hq
      obtain ⟨a1, a2⟩ := o5 h5
      refine ⟨⟨ot, fun h => absurd h h4, o5, fun _ h => absurd h5 h⟩, rfl, by unfold many; simp; omega, ?_⟩
      have e2 : ((p.1 : Int) - 999999999 + 999999999).toNat = p.1 := by omega
      rw [t1.1, t2]
      simp only [encAll, a1, a2, encScore, List.flatMap_append, List.flatMap_cons, List.flatMap_nil, e2]
      simp
    · rw [if_neg h5] at h
      obtain ⟨p, hp, h3⟩ := Option.map_eq_some_iff.1 h
      cases h3
      have t1 := toldB_list hp
      obtain ⟨a1, a2⟩ := oo h4 h5
      refine ⟨⟨ot, fun h => absurd h h4, fun h => absurd h h5, oo⟩, rfl, by unfold many; simp; omega, ?_⟩
      rw [t1]
      simp [encAll, a1, a2]

theorem readEls_all : ∀ (n : Nat) {x x' : Itm} {s r : ByteArray}, OnlyI x → readEls n x s = some (x', r) → OnlyI x' ∧ x'.kind = x.kind ∧ many x' = many x + n ∧ encAll x ++ s.data.toList = encAll x' ++ r.data.toList
  | 0, x, x', s, r, ho, h => by
    rw [readEls] at h
    cases h
    exact ⟨ho, rfl, rfl, rfl⟩
  | n + 1, x, x', s, r, ho, h => by
    rw [readEls] at h
    obtain ⟨p, hp, h2⟩ := Option.bind_eq_some_iff.1 h
    obtain ⟨y, q⟩ := p
    obtain ⟨a1, a2, a3, a4⟩ := readEl_list ho hp
    obtain ⟨b1, b2, b3, b4⟩ := readEls_all n a1 h2
    exact ⟨b1, b2.trans a2, by omega, a4.trans b4⟩

/-- .. AND NOTHING ELSE IS. -/
theorem enc_dec {s : ByteArray} {x : Itm} (h : decItm s = some x) : toB (encItm x) = s := by
  apply ext_list
  rw [toB_list]
  unfold decItm at h
  obtain ⟨p, hp, h2⟩ := Option.bind_eq_some_iff.1 h
  obtain ⟨n, r⟩ := p
  obtain ⟨e1, hn⟩ := oneB_list hp
  rw [e1]
  by_cases h1 : n = 1
  · rw [if_pos h1] at h2
    subst h1
    cases h2
    rfl
  · rw [if_neg h1] at h2
    by_cases h3 : 2 ≤ n ∧ n ≤ 5
    · rw [if_pos h3] at h2
      obtain ⟨q, hq, h4⟩ := Option.bind_eq_some_iff.1 h2
      obtain ⟨m, r2⟩ := q
      obtain ⟨e2, hm⟩ := oneB_list hq
      obtain ⟨z, hz, h5⟩ := Option.bind_eq_some_iff.1 h4
      obtain ⟨y, r3⟩ := z
      by_cases h6 : r3.size = 0
      · rw [if_pos h6] at h5
        cases h5
        have hnew : OnlyI (newI n) := ⟨rfl, fun _ => ⟨rfl, rfl⟩, fun _ => ⟨rfl, rfl⟩, fun _ _ => ⟨rfl, rfl⟩⟩
        obtain ⟨b1, b2, b3, b4⟩ := readEls_all m hnew hz
        have hr3 : r3.data.toList = [] := by
          have := nilOf h6
          rw [this]
        have hk : y.kind = n := b2
        have e3 : y.kind.toNat = n := by omega
        unfold encItm
        rw [if_neg (show ¬ y.kind = 1 by omega), e3, e2]
        have hz0 : many (newI (n : Int)) = 0 := rfl
        have hmany : many y = m := by omega
        rw [hmany]
        rw [hr3] at b4
        have : encAll (newI n) = [] := rfl
        rw [this] at b4
        simp only [List.nil_append, List.append_nil] at b4
        rw [b4]
        rfl
      · rw [if_neg h6] at h5; cases h5
    · rw [if_neg h3] at h2; cases h2
end Go.Proofs.YtkgbgmfidkimfaaGreat

namespace Go.Proofs.YtkgbgmfidkimfaaGreat
open Go.RowKit

theorem tally_enc : encAns tallyI = bsI [5, 3, 59, 154, 201, 254, 1, 98, 59, 154, 202, 1, 1, 97, 59, 154, 202, 1, 1, 99] := by decide +kernel
theorem tally_dec : decCode (bsI [5, 3, 59, 154, 201, 254, 1, 98, 59, 154, 202, 1, 1, 97, 59, 154, 202, 1, 1, 99]) = 0 ∧ decAns (bsI [5, 3, 59, 154, 201, 254, 1, 98, 59, 154, 202, 1, 1, 97, 59, 154, 202, 1, 1, 99]) = tallyI := by
  have h := dec_enc (right_of tally_check)
  have e : toB (encItm tallyI) = bsI [5, 3, 59, 154, 201, 254, 1, 98, 59, 154, 202, 1, 1, 97, 59, 154, 202, 1, 1, 99] := by
    rw [← tally_enc]
    unfold encAns
    rw [if_pos tally_check]
    rfl
  rw [e] at h
  exact dec_ok h tally_check

theorem begun_bytes : ((bsI [5, 3, 59, 154, 201, 254, 1, 98, 59, 154, 202, 1, 1, 97, 59, 154, 202, 1, 1, 99]).extract 0 8) = ⟨#[5, 3, 59, 154, 201, 254, 1, 98]⟩ := by decide +kernel
theorem begun_size : (bsI [5, 3, 59, 154, 201, 254, 1, 98, 59, 154, 202, 1, 1, 97, 59, 154, 202, 1, 1, 99]).size = 20 := by decide +kernel

attribute [local go_sem ↓] Go.wp_at_zero Go.wp_at_succ

set_option maxHeartbeats 400000 in
set_option maxRecDepth 100000 in
theorem itemBegun_any (w : World) : Calls Tryz.prog 4 #[] w fun e w' => e = .returned (.bool true) ∧ Fr [] w w' := by
  have C1 := Lib.hid (fun (W : World) v (h : ItemO W w.heap.size v tallyI) => (show Calls Tryz.prog 26 #[v] W fun e w' => e = .returned (.tuple #[.string (bsI [5, 3, 59, 154, 201, 254, 1, 98, 59, 154, 202, 1, 1, 97, 59, 154, 202, 1, 1, 99]), .int .i64 0]) ∧ Fr [] W w' from by
    have := encode_any tallyI v W W.heap.size tally_small (Nat.le_refl _) h.item
    rw [tally_check, tally_enc] at this
    exact this))
  have C2 := Lib.hid (fun (W : World) => (show Calls Tryz.prog 27 #[.string (bsI [5, 3, 59, 154, 201, 254, 1, 98, 59, 154, 202, 1, 1, 97, 59, 154, 202, 1, 1, 99])] W fun e w' => ∃ v, e = .returned (.tuple #[v, .int .i64 0]) ∧ ItemO w' W.heap.size v tallyI ∧ Fr [] W w' from by
    have := decode_any (bsI [5, 3, 59, 154, 201, 254, 1, 98, 59, 154, 202, 1, 1, 97, 59, 154, 202, 1, 1, 99]) W (by rw [begun_size]; omega)
    unfold DecPost at this
    rw [tally_dec.1, tally_dec.2] at this
    exact this))
  have C3 := Lib.hid (fun (W : World) v b (h : ItemO W b v tallyI) => (show Calls Tryz.prog 32 #[v] W fun e w' => e = .returned (.int .i64 0) ∧ Fr [] W w' from by
    have := itemCheck_any tallyI v W W.heap.size tally_small (Nat.le_refl _) h.item
    rw [tally_check] at this
    exact this))
  have C4 := Lib.hid (fun (W : World) v u b b' (h : ItemO W b v tallyI) (k : ItemO W b' u tallyI) => (show Calls Tryz.prog 12 #[v, u] W fun e w' => e = .returned (.bool true) ∧ Fr [] W w' from by
    have := sameItem_any tallyI tallyI v u W W.heap.size tally_small tally_small (Nat.le_refl _) h.item k.item
    rw [sameI_refl] at this
    exact this))
  have HS := Lib.hid begun_bytes
  have HZ := begun_size
  generalize bsI [5, 3, 59, 154, 201, 254, 1, 98, 59, 154, 202, 1, 1, 97, 59, 154, 202, 1, 1, 99] = B at *
  have hz : 20 ≤ B.size := by omega
  have hz2 : B.size ≤ 20 := by omega
  clear HZ
  go_enter Tryz.func4, Tryz.ntmps4
  go_wp2_with fail
  refine (tally_any _).mono ?_
  rintro e w1 ⟨va, rfl, h1, f1⟩
  have H1 := Lib.hid h1
  clear h1
  go_wp2_with fail
  refine (C1.out _ _ H1.out).mono ?_
  rintro e w2 ⟨rfl, f2⟩
  go_wp2_with fail
  refine (C2.out _).mono ?_
  rintro e w3 ⟨v, rfl, h3, f3⟩
  have H3 := Lib.hid h3
  obtain ⟨v1, v2, v3, rfl, o1, o2, o3⟩ := h3
  obtain ⟨A1, c1, rfl⟩ := sl_form (own_sl o1)
  obtain ⟨A2, c2, rfl⟩ := sl_form (own_sl o2)
  obtain ⟨A3, c3, rfl⟩ := sl_form (own_sl o3)
  clear o1 o2 o3
  go_wp2_with fail
  have hz8 : (8 : Int) ≤ (B.size : Int) := by omega
  have hz9 : (0 : Int) ≤ (B.size : Int) := by omega
  have qz : ((B.size : Int) == 20) = true := by simp; omega
  have hs8 := HS.out
  have fz : Fr [] w (w3.alloc (.cells #[.int .i64 tallyI.kind, .string tallyI.text, .slice A1 tallyI.list.length c1, .slice A2 tallyI.pairs.length c2, .slice A3 tallyI.scores.length c3] 26)) := ((f1.trans f2).trans f3).alloc _
  have HF := Lib.hid fz
  have HV := Lib.hid (show Whole (w3.alloc (.cells #[.int .i64 tallyI.kind, .string tallyI.text, .slice A1 tallyI.list.length c1, .slice A2 tallyI.pairs.length c2, .slice A3 tallyI.scores.length c3] 26)) w3.heap.size 26 [.int .i64 tallyI.kind, .string tallyI.text, .slice A1 tallyI.list.length c1, .slice A2 tallyI.pairs.length c2, .slice A3 tallyI.scores.length c3] from Whole.new w3 _ _)
  have H4 := Lib.hid (show ItemO (w3.alloc (.cells #[.int .i64 tallyI.kind, .string tallyI.text, .slice A1 tallyI.list.length c1, .slice A2 tallyI.pairs.length c2, .slice A3 tallyI.scores.length c3] 26)) w2.heap.size (.agg #[.int .i64 tallyI.kind, .string tallyI.text, .slice A1 tallyI.list.length c1, .slice A2 tallyI.pairs.length c2, .slice A3 tallyI.scores.length c3]) tallyI from H3.out.fr0 ((Fr.refl [] w3).alloc _))
  clear fz f1 f2 f3
  obtain ⟨z0, z1, z2, z3, z4⟩ := five HV.out
  have tok1 : True := trivial
  go_region_held3 (fun wx => wx.cell? ⟨w3.heap.size, 0, none⟩ = some (.int .i64 tallyI.kind) ∧ wx.cell? ⟨w3.heap.size, 1, none⟩ = some (.string tallyI.text) ∧ wx.cell? ⟨w3.heap.size, 2, none⟩ = some (.slice A1 tallyI.list.length c1) ∧ wx.cell? ⟨w3.heap.size, 3, none⟩ = some (.slice A2 tallyI.pairs.length c2) ∧ wx.cell? ⟨w3.heap.size, 4, none⟩ = some (.slice A3 tallyI.scores.length c3)) (go_keep) (first
    | (go_at_call 31
       have _t := tok1
       refine (tally_any _).mono ?_
       rintro e w5 ⟨vb, rfl, h5, f5⟩
       have H5 := Lib.hid h5
       have F5 := Lib.hid f5.dr
       obtain ⟨z0, z1, z2, z3, z4⟩ := five (HV.out.fr F5.out (by simp))
       clear h5 f5 tok1 _t)
    | (go_at_call 32
       have hq := C3.out _ _ _ H5.out
       refine hq.mono ?_
       clear hq
       rintro e w6 ⟨rfl, f6⟩
       have F6 := Lib.hid (F5.out.trans f6)
       obtain ⟨d0, d1, d2, d3, d4⟩ := five (HV.out.fr F6.out (by simp))
       clear f6)
    | (go_at_call 31
       refine (tally_any _).mono ?_
       rintro e w7 ⟨vc, rfl, h7, f7⟩
       have H7 := Lib.hid h7
       have F7 := Lib.hid (F6.out.trans f7)
       obtain ⟨e0, e1, e2, e3, e4⟩ := five (HV.out.fr F7.out (by simp))
       clear h7 f7)
    | (go_at_call 12
       have hq := C4.out _ _ _ _ _ (H4.out.fr0 F7.out) H7.out
       refine hq.mono ?_
       clear hq
       rintro e w8 ⟨rfl, f8⟩
       have F8 := Lib.hid (HF.out.trans (F7.out.trans f8))
       obtain ⟨g0, g1, g2, g3, g4⟩ := five ((HV.out.fr F7.out (by simp)).fr f8 (by simp))
       clear f8))
  all_goals
    go_wp2
    go_ret
    exact ⟨rfl, F8.out⟩
end Go.Proofs.YtkgbgmfidkimfaaGreat

namespace Go.Proofs.YtkgbgmfidkimfaaGreat
open Go.RowKit

theorem dec_ne {s : ByteArray} (h : decCode s ≠ 0) : decAns s = newI 0 := by
  unfold decCode at h
  unfold decAns
  cases hd : decItm s with
  | none => rfl
  | some x =>
    rw [hd] at h
    exact if_neg h
theorem dec_eq {s : ByteArray} (h : decCode s = 0) : checkItm (decAns s) = 0 ∧ encAns (decAns s) = s := by
  cases hd : decItm s with
  | none => unfold decCode at h; rw [hd] at h; cases h
  | some x =>
    have hc : checkItm x = 0 := by unfold decCode at h; rw [hd] at h; exact h
    have ha := (dec_ok hd hc).2
    rw [ha]
    refine ⟨hc, ?_⟩
    unfold encAns
    rw [if_pos hc]
    exact enc_dec hd
theorem enc_ok {x : Itm} (h : checkItm x = 0) : decCode (encAns x) = 0 ∧ decAns (encAns x) = x := by
  have e : encAns x = toB (encItm x) := by unfold encAns; rw [if_pos h]; rfl
  rw [e]
  exact dec_ok (dec_enc (right_of h)) h

theorem enc_size {x : Itm} (h : RightI x) : (⟨(encItm x).toArray⟩ : ByteArray).size ≤ 281474976710656 := by
  have hm := h.many
  unfold many at hm
  have hs : (⟨(encItm x).toArray⟩ : ByteArray).size = (encItm x).length := toB_size _
  rw [hs]
  have h1 := flat_le encText 61 x.list (fun y hy => by rw [encText_length]; have := h.texts y hy; omega)
  have h2 := flat_le encPair 130 x.pairs (fun y hy => by have := h.fields y hy; simp only [encPair, List.length_append, encText_length]; omega)
  have h3 := flat_le encScore 130 x.scores (fun y hy => by have := h.members y hy; simp only [encScore, List.length_append, encText_length, encNum_length]; omega)
  have ht := h.text
  have hl : x.text.data.toList.length = x.text.size := by simp
  unfold encItm
  split <;> simp only [List.length_cons, List.length_append] <;> omega

end Go.Proofs.YtkgbgmfidkimfaaGreat
