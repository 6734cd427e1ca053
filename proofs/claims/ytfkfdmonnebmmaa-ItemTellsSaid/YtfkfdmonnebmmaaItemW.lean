/- The walks of the program's Bytes and Encode. -/
import Derived.Test.YtfkfdmonnebmmaaItemV
set_option linter.unusedVariables false
set_option linter.unusedSimpArgs false
namespace Go.Proofs.Ytfkfdmonnebmmaa
open Go.RowKit

theorem u8_small {n : Nat} : IntKind.u8.wrap (n : Int) = ((byteN n).toNat : Int) := u8_of n

theorem encText_length (s : ByteArray) : (encText s).length = s.size + 1 := by simp [encText]
theorem encNum_length (n : Nat) : (encNum n).length = 4 := rfl

/-- some bytes told of each of some: at most so many. -/
theorem flat_le {α : Type} (f : α → List UInt8) (b : Nat) : ∀ (l : List α), (∀ x ∈ l, (f x).length ≤ b) → (l.flatMap f).length ≤ l.length * b
  | [], _ => by simp
  | x :: l, h => by
    have h1 := flat_le f b l (fun y hy => h y (by simp [hy]))
    have h2 := h x (by simp)
    rw [List.flatMap_cons, List.length_append, List.length_cons, Nat.succ_mul]
    omega

theorem take_flat {α : Type} (f : α → List UInt8) {l : List α} {k : Nat} {x : α} (h : l[k]? = some x) : (l.take (k + 1)).flatMap f = (l.take k).flatMap f ++ f x := by
  rw [List.take_add_one, h]
  simp

/-- the blocks of Bytes: the item's, the writer's. -/
structure BytIn (w : World) (cs : List Value) (l : List UInt8) (wr : World) : Prop where
  box : Whole wr w.heap.size 33 cs
  bld : ∃ own ds, BldIn 129 (w.heap.size + 1) 0 (w.heap.size + 1) own ds l wr
  fr : Fr [] w wr

theorem BytIn.wrote {w wr w1 : World} {cs : List Value} {own : Option Nat} {ds : List Value} {l m : List UInt8} (h : BytIn w cs l wr) (hb : BldIn 129 (w.heap.size + 1) 0 (w.heap.size + 1) own ds l wr) (hw : Wrote 129 (w.heap.size + 1) 0 (w.heap.size + 1) own ds m wr w1) : BytIn w cs m w1 := by
  obtain ⟨o', d', b', _, _, _, f⟩ := hw
  exact ⟨hb.keep f h.box (by decide) (by decide), ⟨o', d', b'⟩, h.fr.step f (fun k hk => .inr (by have := Wrote.of_base hb k hk; omega))⟩

theorem BldIn.fr0 {T g off base : Nat} {own : Option Nat} {cs : List Value} {m : List UInt8} {w w1 : World} (h : BldIn T g off base own cs m w) (hf : Fr [] w w1) : BldIn T g off base own cs m w1 := by
  obtain ⟨v, hv, hown, hob⟩ := h.buf
  exact ⟨h.whole.fr hf (by simp), h.addr, ⟨v, hv, own_fr hown hf (fun k _ => by simp), hob⟩, h.base, h.ne, h.lies⟩

theorem BytIn.fr0 {w wr w1 : World} {cs : List Value} {l : List UInt8} (h : BytIn w cs l wr) (hf : Fr [] wr w1) : BytIn w cs l w1 := by
  obtain ⟨o, d, b⟩ := h.bld
  exact ⟨h.box.fr hf (by simp), ⟨o, d, b.fr0 hf⟩, h.fr.trans hf⟩

theorem Wrote.keep {T g off base : Nat} {own : Option Nat} {cs : List Value} {l m : List UInt8} {w w1 : World} (hb : BldIn T g off base own cs l w) (hw : Wrote T g off base own cs m w w1) {b T' : Nat} {ds : List Value} (h : Whole w b T' ds) (h1 : T' ≠ T) (h2 : T' ≠ 5) : Whole w1 b T' ds := by
  obtain ⟨_, _, _, _, _, _, f⟩ := hw
  exact hb.keep f h h1 h2

theorem BytIn.start (w : World) (cs : List Value) : BytIn w cs [] ((w.alloc (.cells cs.toArray 33)).alloc (.cells #[.pointer none, .slice none 0 0] 129)) := by
  refine ⟨(Whole.new w _ _).alloc _, ⟨none, [.pointer none, .slice none 0 0], ⟨?_, .inl rfl, ⟨.slice none 0 0, rfl, ⟨rfl, .inl ⟨rfl, rfl⟩⟩, rfl⟩, Nat.le_refl _, by decide, by kernel_rfl⟩⟩, ((Fr.refl [] w).alloc _).alloc _⟩
  have := Whole.new (w.alloc (.cells cs.toArray 33)) 129 [.pointer none, .slice none 0 0]
  simpa using this

set_option maxHeartbeats 1000000 in
set_option maxRecDepth 100000 in
/-- a text. -/
theorem bytesT_any (x : Itm) (v : Value) (w : World) (B : Nat) (hx : RightI x) (h : ItemV w B v x) (hk : x.kind = 1) :
    Calls Try.prog 52 #[v] w fun e w' => e = .returned (.string ⟨(encItm x).toArray⟩) ∧ Fr [] w w' := by
  obtain ⟨A1, c1, A2, c2, A3, c3, rfl, h1, h2, h3⟩ := h
  have hE : encItm x = [byteN 1] ++ x.text.data.toList := by unfold encItm; rw [if_pos hk, hk]; rfl
  have S0 := BytIn.start w [.int .i64 x.kind, .string x.text, .slice A1 x.list.length c1, .slice A2 x.pairs.length c2, .slice A3 x.scores.length c3]
  rw [hk] at S0 ⊢
  have ht := hx.text
  have HE := Lib.hid hE
  clear h1 h2 h3 hE hk hx
  generalize x.text = t at *
  generalize encItm x = E at *
  generalize x.list.length = n1 at *
  generalize x.pairs.length = n2 at *
  generalize x.scores.length = n3 at *
  obtain ⟨d0, d1, d2, d3, d4⟩ := five S0.box
  obtain ⟨own, ds, b0⟩ := S0.bld
  have W1 := Lib.hid (fun W (hW : BldIn 129 (w.heap.size + 1) 0 (w.heap.size + 1) own ds [] W) (hz : w.heap.size + 1 ≤ W.heap.size) => writeByte_any (byteN 1) hW (by simp) hz)
  rw [show ((byteN 1).toNat : Int) = 1 from rfl] at W1
  have B0 := Lib.hid b0
  have HS := Lib.hid S0
  clear b0 S0
  go_enter Try.func52, Try.ntmps52
  go_wp2
  go_region_with (go_at_call 103; go_must (refine (W1.out _ B0.out.drew (by simp)).mono ?_; rintro e w1 ⟨rfl, hw1⟩))
  have S1 := HS.out.wrote B0.out hw1.drew
  rw [List.nil_append] at S1
  clear d0 d1 d2 d3 d4 hw1
  obtain ⟨d0, d1, d2, d3, d4⟩ := five S1.box
  obtain ⟨own1, ds1, b1⟩ := S1.bld
  have W2 := Lib.hid (fun W (hW : BldIn 129 (w.heap.size + 1) 0 (w.heap.size + 1) own1 ds1 [byteN 1] W) (hz : w.heap.size + 1 ≤ W.heap.size) => writeString_any t hW (by simp; omega) hz)
  have B1 := Lib.hid b1
  have HS1 := Lib.hid S1
  have Z1 : w.heap.size + 1 ≤ w1.heap.size := by have := b1.whole.lt; omega
  clear b1 S1
  go_wp2
  go_region_with (go_at_call 104; go_must (refine (W2.out _ B1.out.drew Z1).mono ?_; rintro e w2 ⟨rfl, hw2⟩))
  have S2 := HS1.out.wrote B1.out hw2.drew
  clear d0 d1 d2 d3 d4 hw2
  obtain ⟨own2, ds2, b2⟩ := S2.bld
  have T := Lib.hid (string_any b2 (by simp))
  have F2 := Lib.hid S2.fr
  have HB2 := Lib.hid (Wrote.of_base b2)
  clear b2 S2
  go_wp2_with fail
  refine T.out.mono ?_
  rintro e w3 ⟨rfl, f3⟩
  go_wp2
  go_ret
  rw [HE.out]
  exact ⟨rfl, F2.out.step f3 (fun k hk => .inr (by have := HB2.out k (List.mem_cons_of_mem _ hk); omega))⟩

theorem scoreNum {n : Int} (h : isInt n = true) : n + 999999999 = (((n + 999999999).toNat : Nat) : Int) ∧ (n + 999999999).toNat < 4294967296 := by
  simp only [isInt, Bool.and_eq_true, decide_eq_true_eq] at h
  omega

set_option maxHeartbeats 800000 in
set_option maxRecDepth 100000 in
/-- no text. -/
theorem bytesL_any (x : Itm) (v : Value) (w : World) (B : Nat) (hs : x.Small) (hB : B ≤ w.heap.size) (hx : RightI x) (h : ItemV w B v x) (hk : x.kind ≠ 1) :
    Calls Try.prog 52 #[v] w fun e w' => e = .returned (.string ⟨(encItm x).toArray⟩) ∧ Fr [] w w' := by
  have M := Lib.hid (fun W (hf : Fr [] w W) => many_any x v W B hs (h.fr hf hB (by simp)))
  obtain ⟨A1, c1, A2, c2, A3, c3, rfl, h1, h2, h3⟩ := h
  have hE : encItm x = ([byteN x.kind.toNat] ++ [byteN (many x)]) ++ x.list.flatMap encText ++ x.pairs.flatMap encPair ++ x.scores.flatMap encScore := by unfold encItm; rw [if_neg hk]; simp
  have S0 := BytIn.start w [.int .i64 x.kind, .string x.text, .slice A1 x.list.length c1, .slice A2 x.pairs.length c2, .slice A3 x.scores.length c3]
  have hm := hx.many
  have l1 : x.list.length ≤ 24 := by unfold many at hm; omega
  have l2 : x.pairs.length ≤ 24 := by unfold many at hm; omega
  have l3 : x.scores.length ≤ 24 := by unfold many at hm; omega
  obtain ⟨hk1, hk2⟩ := hx.kind
  have k1 : (x.kind == 1) = false := by simpa using hk
  have EK := Lib.hid (show IntKind.u8.wrap x.kind = ((byteN x.kind.toNat).toNat : Int) by have := u8_of x.kind.toNat; rw [show ((x.kind.toNat : Nat) : Int) = x.kind by omega] at this; exact this)
  have EM := Lib.hid (u8_of (many x))
  have HE := Lib.hid hE
  have HX := Lib.hid hx
  have H1 := Lib.hid h1
  have H2 := Lib.hid h2
  have H3 := Lib.hid h3
  clear h1 h2 h3 hE hk hx hs
  obtain ⟨d0, d1, d2, d3, d4⟩ := five S0.box
  obtain ⟨own, ds, b0⟩ := S0.bld
  have WB := Lib.hid (fun W own' ds' (l' : List UInt8) (k : Nat) (v : Int) (hW : BldIn 129 (w.heap.size + 1) 0 (w.heap.size + 1) own' ds' l' W) (hl' : l'.length ≤ 100003) (hz : w.heap.size + 1 ≤ W.heap.size) (hv : v = ((byteN k).toNat : Int)) => (show Calls Try.prog 103 #[.pointer (some ⟨w.heap.size + 1, 0, none⟩), .int .u8 v] W _ from hv ▸ writeByte_any (byteN k) hW (by omega) hz))
  have B0 := Lib.hid b0
  have HS := Lib.hid S0
  clear b0 S0
  go_enter Try.func52, Try.ntmps52
  go_wp2
  go_region_with (go_at_call 103; have hq := WB.out _ _ _ [] x.kind.toNat (IntKind.u8.wrap x.kind) B0.out.drew (by simp) (by simp) EK.out; refine hq.mono ?_; clear hq; rintro e w1 ⟨rfl, hw1⟩)
  have S1 := HS.out.wrote B0.out hw1.drew
  rw [List.nil_append] at S1
  clear d0 d1 d2 d3 d4 hw1
  obtain ⟨d0, d1, d2, d3, d4⟩ := five S1.box
  obtain ⟨own1, ds1, b1⟩ := S1.bld
  have B1 := Lib.hid b1
  have HS1 := Lib.hid S1
  have Z1 : w.heap.size + 1 ≤ w1.heap.size := by have := b1.whole.lt; omega
  clear b1 S1
  go_wp2
  go_region_with (first
    | (go_at_call 68; have hq := M.out _ HS1.out.fr.drew; refine hq.mono ?_; clear hq; rintro e w2 ⟨rfl, f2⟩; have f2' : Fr [] w1 w2 := ⟨f2.os, f2.tape, f2.output, f2.size, f2.block⟩; have Z2 : w.heap.size + 1 ≤ w2.heap.size := Nat.le_trans Z1 f2'.size; have B2 := Lib.hid (B1.out.fr0 f2'); have HS2 := Lib.hid (HS1.out.fr0 f2'); clear f2 f2')
    | (go_at_call 103; have hq := WB.out _ _ _ [byteN x.kind.toNat] (many x) (IntKind.u8.wrap ((many x : Nat) : Int)) B2.out (by simp) Z2 EM.out; refine hq.mono ?_; clear hq; rintro e w3 ⟨rfl, hw3⟩))
  have S3 := HS2.out.wrote B2.out hw3
  clear d0 d1 d2 d3 d4 hw3
  obtain ⟨d0, d1, d2, d3, d4⟩ := five S3.box
  have HS3 := Lib.hid S3
  clear S3
  have P0 := Lib.hid (show ([byteN x.kind.toNat] ++ [byteN (many x)]).length = 2 from rfl)
  generalize [byteN x.kind.toNat] ++ [byteN (many x)] = p0 at *
  clear B0 HS B1 HS1 B2 HS2 Z1 Z2 EK EM WB M
  go_wp2
  clear d0 d1 d2 d3 d4
  go_loopg [42] x.list.length (fun g i wr => ∃ (m : Nat), g = x.list.length - m ∧ i = .int .i64 m ∧ m ≤ x.list.length ∧ BytIn w [.int .i64 x.kind, .string x.text, .slice A1 x.list.length c1, .slice A2 x.pairs.length c2, .slice A3 x.scores.length c3] (p0 ++ (x.list.take m).flatMap encText) wr)
  case atStart => exact ⟨0, rfl, rfl, Nat.zero_le _, by simpa using HS3.out⟩
  clear HS3
  case round =>
  obtain ⟨m, rfl, rfl, hm1, hS⟩ := hrel
  have HS := Lib.hid hS
  obtain ⟨d0, d1, d2, d3, d4⟩ := five hS.box
  clear hS
  by_cases hlt : m < x.list.length
  · obtain ⟨b, off, e, hb, hc, hmx, hcell⟩ := H1.out.at_ (by omega)
    obtain ⟨s, hs⟩ : ∃ s, x.list[m]? = some s := ⟨_, List.getElem?_eq_getElem hlt⟩
    have hc1 : wr.cell? ⟨b, off + m, none⟩ = some (.string s) := HS.out.fr.cell (hcell m _ (textsV_get _ m s hs)) (by simp)
    have hs60 := HX.out.texts s (List.mem_of_getElem? hs)
    have hlen : (p0 ++ (x.list.take m).flatMap encText).length ≤ 100000 := by
      have := flat_le encText 61 (x.list.take m) (fun y hy => by rw [encText_length]; have := HX.out.texts y (List.mem_of_mem_take hy); omega)
      have h2 := List.length_take_le m x.list
      rw [List.length_append, P0.out]
      have : (x.list.take m).length * 61 ≤ 24 * 61 := Nat.mul_le_mul_right _ (by omega)
      omega
    obtain ⟨own, ds, b0⟩ := HS.out.bld
    have TX := Lib.hid (writerText_any s b0 hs60 hlen (by have := b0.whole.lt; omega))
    have TK := Lib.hid (take_flat encText hs)
    have BL := Lib.hid b0
    have HEQ := e
    subst HEQ
    clear hcell hs b0 hlen
    go_wp2_with fail
    refine TX.out.mono ?_
    rintro e w4 ⟨rfl, hw4⟩
    have S4 := HS.out.wrote BL.out hw4
    rw [List.append_assoc, ← TK.out] at S4
    have HS4 := Lib.hid S4
    clear S4 hw4 d0 d1 d2 d3 d4
    go_wp2
    go_roundg (x.list.length - (m + 1))
    case measure => omega
    case rel => exact ⟨m + 1, rfl, by simp, by omega, HS4.out⟩
  have HSa := Lib.hid (show BytIn w [.int .i64 x.kind, .string x.text, .slice A1 x.list.length c1, .slice A2 x.pairs.length c2, .slice A3 x.scores.length c3] (p0 ++ x.list.flatMap encText) wr by have := HS.out; rw [List.take_of_length_le (by omega)] at this; exact this)
  clear HS
  go_wp2
  clear d0 d1 d2 d3 d4 hlt hm1
  have HP := Lib.hid (show (p0 ++ x.list.flatMap encText).length ≤ 10000 by
    have := flat_le encText 61 x.list (fun y hy => by rw [encText_length]; have := HX.out.texts y hy; omega)
    rw [List.length_append, P0.out]
    have : x.list.length * 61 ≤ 24 * 61 := Nat.mul_le_mul_right _ (by omega)
    omega)
  clear P0
  generalize p0 ++ x.list.flatMap encText = p1 at *
  go_loopg [53] x.pairs.length (fun g i wr => ∃ (m : Nat), g = x.pairs.length - m ∧ i = .int .i64 m ∧ m ≤ x.pairs.length ∧ BytIn w [.int .i64 x.kind, .string x.text, .slice A1 x.list.length c1, .slice A2 x.pairs.length c2, .slice A3 x.scores.length c3] (p1 ++ (x.pairs.take m).flatMap encPair) wr)
  case atStart => exact ⟨0, rfl, rfl, Nat.zero_le _, by simpa using HSa.out⟩
  clear HSa
  case round =>
  obtain ⟨m, rfl, rfl, hm1, hS⟩ := hrel
  have HS := Lib.hid hS
  obtain ⟨d0, d1, d2, d3, d4⟩ := five hS.box
  clear hS
  by_cases hlt : m < x.pairs.length
  · obtain ⟨b, off, e, hb, hc, hmx, hcell⟩ := H2.out.at_ (by omega)
    obtain ⟨s, hs⟩ : ∃ s, x.pairs[m]? = some s := ⟨_, List.getElem?_eq_getElem hlt⟩
    have hc1 : wr.cell? ⟨b, off + 2 * m, none⟩ = some (.string s.1) := HS.out.fr.cell (hcell _ _ (pairsV_get _ m s hs).1) (by simp)
    have hc2 : wr.cell? ⟨b, off + 2 * m + 1, none⟩ = some (.string s.2) := HS.out.fr.cell (hcell _ _ (pairsV_get _ m s hs).2) (by simp)
    rw [Nat.mul_comm 2 m] at hc1 hc2
    have hs60 := HX.out.fields s (List.mem_of_getElem? hs)
    have hlen : (p1 ++ (x.pairs.take m).flatMap encPair).length ≤ 90000 := by
      have := flat_le encPair 130 (x.pairs.take m) (fun y hy => by have := HX.out.fields y (List.mem_of_mem_take hy); simp only [encPair, List.length_append, encText_length, encNum_length]; omega)
      have h2 := List.length_take_le m x.pairs
      rw [List.length_append]
      have : (x.pairs.take m).length * 130 ≤ 24 * 130 := Nat.mul_le_mul_right _ (by omega)
      have := HP.out
      omega
    obtain ⟨own, ds, b0⟩ := HS.out.bld
    have FA : Fr [] wr (wr.alloc (.cells #[.string s.1, .string s.2] 64)) := (Fr.refl [] wr).alloc _
    have BA := Lib.hid (b0.fr0 FA)
    have SA := Lib.hid (HS.out.fr0 FA)
    have WA := Lib.hid (show Whole (wr.alloc (.cells #[.string s.1, .string s.2] 64)) wr.heap.size 64 [.string s.1, .string s.2] from Whole.new wr _ _)
    have TK := Lib.hid (take_flat encPair hs)
    have HB := Lib.hid (show w.heap.size + 1 ≤ wr.heap.size by have := b0.whole.lt; omega)
    have T1 := Lib.hid (writerText_any s.1 BA.out hs60.1 (by omega) (by have := HB.out; simp; omega))
    have HEQ := e
    subst HEQ
    clear hcell hs b0 FA
    go_wp2_with fail
    refine T1.out.mono ?_
    rintro e w4 ⟨rfl, hw4⟩
    have S4 := Lib.hid (SA.out.wrote BA.out hw4)
    have W4 := Lib.hid (Wrote.keep BA.out hw4 WA.out (by decide) (by decide))
    have pc : w4.cell? ⟨wr.heap.size, 1, none⟩ = some (.string s.2) := W4.out.cell 1
    have HZ4 := Lib.hid (show w.heap.size + 1 ≤ w4.heap.size by obtain ⟨_, _, q⟩ := S4.out.bld; have := q.whole.lt; omega)
    obtain ⟨own2, ds2, b2⟩ := S4.out.bld
    have T2 := Lib.hid (writerText_any s.2 b2 hs60.2 (by rw [List.length_append, encText_length]; omega) HZ4.out)
    have B2 := Lib.hid b2
    clear b2 hw4 d0 d1 d2 d3 d4
    obtain ⟨d0, d1, d2, d3, d4⟩ := five S4.out.box
    go_wp2_with fail
    refine T2.out.mono ?_
    rintro e w5 ⟨rfl, hw5⟩
    have S5 := S4.out.wrote B2.out hw5
    rw [List.append_assoc, List.append_assoc] at S5
    have HS5 := Lib.hid (show BytIn w [.int .i64 x.kind, .string x.text, .slice A1 x.list.length c1, .slice (some ⟨b, off, none⟩) x.pairs.length c2, .slice A3 x.scores.length c3] (p1 ++ (x.pairs.take (m + 1)).flatMap encPair) w5 by rw [TK.out]; exact S5)
    clear S5 hw5 d0 d1 d2 d3 d4 pc
    go_wp2
    go_roundg (x.pairs.length - (m + 1))
    case measure => omega
    case rel => exact ⟨m + 1, rfl, by simp, by omega, HS5.out⟩
  have HSa := Lib.hid (show BytIn w [.int .i64 x.kind, .string x.text, .slice A1 x.list.length c1, .slice A2 x.pairs.length c2, .slice A3 x.scores.length c3] (p1 ++ x.pairs.flatMap encPair) wr by have := HS.out; rw [List.take_of_length_le (by omega)] at this; exact this)
  clear HS
  go_wp2
  clear d0 d1 d2 d3 d4 hlt hm1
  have HP2 := Lib.hid (show (p1 ++ x.pairs.flatMap encPair).length ≤ 20000 by
    have := flat_le encPair 130 x.pairs (fun y hy => by have := HX.out.fields y hy; simp only [encPair, List.length_append, encText_length]; omega)
    have h3 := HP.out
    rw [List.length_append]
    have : x.pairs.length * 130 ≤ 24 * 130 := Nat.mul_le_mul_right _ (by omega)
    omega)
  clear HP
  have HP := HP2
  clear HP2
  have HE2 := Lib.hid (show encItm x = (p1 ++ x.pairs.flatMap encPair) ++ x.scores.flatMap encScore from HE.out)
  clear HE
  generalize p1 ++ x.pairs.flatMap encPair = p2 at *
  go_loopg [69] x.scores.length (fun g i wr => ∃ (m : Nat), g = x.scores.length - m ∧ i = .int .i64 m ∧ m ≤ x.scores.length ∧ BytIn w [.int .i64 x.kind, .string x.text, .slice A1 x.list.length c1, .slice A2 x.pairs.length c2, .slice A3 x.scores.length c3] (p2 ++ (x.scores.take m).flatMap encScore) wr)
  case atStart => exact ⟨0, rfl, rfl, Nat.zero_le _, by simpa using HSa.out⟩
  clear HSa
  case round =>
  obtain ⟨m, rfl, rfl, hm1, hS⟩ := hrel
  have HS := Lib.hid hS
  obtain ⟨d0, d1, d2, d3, d4⟩ := five hS.box
  clear hS
  by_cases hlt : m < x.scores.length
  · obtain ⟨b, off, e, hb, hc, hmx, hcell⟩ := H3.out.at_ (by omega)
    obtain ⟨s, hs⟩ : ∃ s, x.scores[m]? = some s := ⟨_, List.getElem?_eq_getElem hlt⟩
    have hc1 : wr.cell? ⟨b, off + 2 * m, none⟩ = some (.int .i64 s.1) := HS.out.fr.cell (hcell _ _ (scoresV_get _ m s hs).1) (by simp)
    have hc2 : wr.cell? ⟨b, off + 2 * m + 1, none⟩ = some (.string s.2) := HS.out.fr.cell (hcell _ _ (scoresV_get _ m s hs).2) (by simp)
    rw [Nat.mul_comm 2 m] at hc1 hc2
    have hs60 := HX.out.members s (List.mem_of_getElem? hs)
    have hlen : (p2 ++ (x.scores.take m).flatMap encScore).length ≤ 90000 := by
      have := flat_le encScore 130 (x.scores.take m) (fun y hy => by have := HX.out.members y (List.mem_of_mem_take hy); simp only [encScore, List.length_append, encText_length, encNum_length]; omega)
      have h2 := List.length_take_le m x.scores
      rw [List.length_append]
      have : (x.scores.take m).length * 130 ≤ 24 * 130 := Nat.mul_le_mul_right _ (by omega)
      have := HP.out
      omega
    obtain ⟨own, ds, b0⟩ := HS.out.bld
    have FA : Fr [] wr (wr.alloc (.cells #[.int .i64 s.1, .string s.2] 84)) := (Fr.refl [] wr).alloc _
    have BA := Lib.hid (b0.fr0 FA)
    have SA := Lib.hid (HS.out.fr0 FA)
    have WA := Lib.hid (show Whole (wr.alloc (.cells #[.int .i64 s.1, .string s.2] 84)) wr.heap.size 84 [.int .i64 s.1, .string s.2] from Whole.new wr _ _)
    have TK := Lib.hid (take_flat encScore hs)
    have HB := Lib.hid (show w.heap.size + 1 ≤ wr.heap.size by have := b0.whole.lt; omega)
    obtain ⟨hn1, hn2⟩ := scoreNum hs60.1
    have N1 := writerNumber_any (s.1 + 999999999).toNat BA.out hn2 (by omega) (by have := HB.out; simp; omega)
    rw [← hn1] at N1
    have T1 := Lib.hid N1
    have wn : IntKind.i64.wrap (s.1 + 999999999) = s.1 + 999999999 := IntWalk.i64_in _ (by omega)
    clear N1 hn1
    have HEQ := e
    subst HEQ
    clear hcell hs b0 FA
    go_wp2_with fail
    refine T1.out.mono ?_
    rintro e w4 ⟨rfl, hw4⟩
    have S4 := Lib.hid (SA.out.wrote BA.out hw4)
    have W4 := Lib.hid (Wrote.keep BA.out hw4 WA.out (by decide) (by decide))
    have pc : w4.cell? ⟨wr.heap.size, 1, none⟩ = some (.string s.2) := W4.out.cell 1
    have HZ4 := Lib.hid (show w.heap.size + 1 ≤ w4.heap.size by obtain ⟨_, _, q⟩ := S4.out.bld; have := q.whole.lt; omega)
    obtain ⟨own2, ds2, b2⟩ := S4.out.bld
    have T2 := Lib.hid (writerText_any s.2 b2 hs60.2 (by rw [List.length_append, encNum_length]; omega) HZ4.out)
    have B2 := Lib.hid b2
    clear b2 hw4 d0 d1 d2 d3 d4
    obtain ⟨d0, d1, d2, d3, d4⟩ := five S4.out.box
    go_wp2_with fail
    refine T2.out.mono ?_
    rintro e w5 ⟨rfl, hw5⟩
    have S5 := S4.out.wrote B2.out hw5
    rw [List.append_assoc, List.append_assoc] at S5
    have HS5 := Lib.hid (show BytIn w [.int .i64 x.kind, .string x.text, .slice A1 x.list.length c1, .slice A2 x.pairs.length c2, .slice (some ⟨b, off, none⟩) x.scores.length c3] (p2 ++ (x.scores.take (m + 1)).flatMap encScore) w5 by rw [TK.out]; exact S5)
    clear S5 hw5 d0 d1 d2 d3 d4 pc
    go_wp2
    go_roundg (x.scores.length - (m + 1))
    case measure => omega
    case rel => exact ⟨m + 1, rfl, by simp, by omega, HS5.out⟩
  have HSa := Lib.hid (show BytIn w [.int .i64 x.kind, .string x.text, .slice A1 x.list.length c1, .slice A2 x.pairs.length c2, .slice A3 x.scores.length c3] (p2 ++ x.scores.flatMap encScore) wr by have := HS.out; rw [List.take_of_length_le (by omega)] at this; exact this)
  clear HS
  have hne : p2 ++ x.scores.flatMap encScore ≠ [] := by
    rw [← HE2.out]
    unfold encItm
    simp
  obtain ⟨own, ds, b0⟩ := HSa.out.bld
  have T := Lib.hid (string_any b0 hne)
  have F2 := Lib.hid HSa.out.fr
  have HB2 := Lib.hid (Wrote.of_base b0)
  clear b0 hne
  go_wp2_with fail
  refine T.out.mono ?_
  rintro e w9 ⟨rfl, f9⟩
  go_wp2
  go_ret
  rw [HE2.out]
  exact ⟨rfl, F2.out.step f9 (fun k hk => .inr (by have := HB2.out k (List.mem_cons_of_mem _ hk); omega))⟩

theorem bytes_any (x : Itm) (v : Value) (w : World) (B : Nat) (hs : x.Small) (hB : B ≤ w.heap.size) (hx : RightI x) (h : ItemV w B v x) :
    Calls Try.prog 52 #[v] w fun e w' => e = .returned (.string ⟨(encItm x).toArray⟩) ∧ Fr [] w w' := by
  by_cases hk : x.kind = 1
  · exact bytesT_any x v w B hx h hk
  · exact bytesL_any x v w B hs hB hx h hk

/-- what Encode answers. -/
def encAns (x : Itm) : ByteArray := if checkItm x = 0 then ⟨(encItm x).toArray⟩ else ByteArray.empty

set_option maxHeartbeats 800000 in
theorem encode_any (x : Itm) (v : Value) (w : World) (B : Nat) (hs : x.Small) (hB : B ≤ w.heap.size) (h : ItemV w B v x) :
    Calls Try.prog 17 #[v] w fun e w' => e = .returned (.tuple #[.string (encAns x), .int .i64 (checkItm x)]) ∧ Fr [] w w' := by
  have C := Lib.hid (fun W (hf : Fr [] w W) => itemCheck_any x v W B hs (Nat.le_trans hB hf.size) (h.fr hf hB (by simp)))
  have Y := Lib.hid (fun W (hf : Fr [] w W) (hc : checkItm x = 0) => bytes_any x v W B hs (Nat.le_trans hB hf.size) (right_of hc) (h.fr hf hB (by simp)))
  obtain ⟨A1, c1, A2, c2, A3, c3, rfl, h1, h2, h3⟩ := h
  have F0 : Fr [] w (w.alloc (.cells #[.int .i64 x.kind, .string x.text, .slice A1 x.list.length c1, .slice A2 x.pairs.length c2, .slice A3 x.scores.length c3] 33)) := (Fr.refl [] w).alloc _
  have V0 := Lib.hid (show Whole (w.alloc (.cells #[.int .i64 x.kind, .string x.text, .slice A1 x.list.length c1, .slice A2 x.pairs.length c2, .slice A3 x.scores.length c3] 33)) w.heap.size 33 [.int .i64 x.kind, .string x.text, .slice A1 x.list.length c1, .slice A2 x.pairs.length c2, .slice A3 x.scores.length c3] from Whole.new w _ _)
  have hA : encAns x = if checkItm x = 0 then ⟨(encItm x).toArray⟩ else ByteArray.empty := rfl
  clear h1 h2 h3 hs
  generalize encAns x = a at *
  generalize checkItm x = c at *
  generalize (⟨(encItm x).toArray⟩ : ByteArray) = y at *
  by_cases hc : c = 0
  · subst hc
    rw [if_pos rfl] at hA
    subst hA
    go_enter Try.func17, Try.ntmps17
    go_wp2_with fail
    refine (C.out _ F0).mono ?_
    rintro e w1 ⟨rfl, f1⟩
    have F1 := F0.trans f1
    obtain ⟨d0, d1, d2, d3, d4⟩ := five (V0.out.fr f1 (by simp))
    go_wp2_with fail
    refine (Y.out _ F1 (by first | rfl | trivial)).mono ?_
    rintro e w2 ⟨rfl, f2⟩
    go_wp2
    go_ret2
    exact ⟨rfl, F1.trans f2⟩
  · rw [if_neg hc] at hA
    subst hA
    have q : (c != 0) = true := by simpa using hc
    clear hc Y
    go_enter Try.func17, Try.ntmps17
    go_wp2_with fail
    refine (C.out _ F0).mono ?_
    rintro e w1 ⟨rfl, f1⟩
    go_wp2
    go_ret2
    exact ⟨rfl, F0.trans f1⟩
end Go.Proofs.Ytfkfdmonnebmmaa
