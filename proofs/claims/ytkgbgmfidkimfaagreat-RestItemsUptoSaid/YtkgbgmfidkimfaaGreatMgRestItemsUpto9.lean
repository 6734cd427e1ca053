/- The walks of list.ready and list.of. The walks of text.Span, R.InRange, R.RangeList, clamped. The laws' row: a list of three. The walks of list.of at an owned row, list.Range and list.Trim. (Printed by lists.py.) -/
import Derived.Test.YtkgbgmfidkimfaaGreatMgRestItemsUpto5
import Derived.Test.YtkgbgmfidkimfaaGreatMgRestItemsUpto1
import Derived.Test.YtkgbgmfidkimfaaGreatMgRestItemsUpto3
import Derived.Test.YtkgbgmfidkimfaaGreatSlA
import Derived.Test.YtkgbgmfidkimfaaGreatItf
import Derived.WalkLawsBesides
import Derived.Test.YtkgbgmfidkimfaaGreatMgRestItemsUpto4
set_option linter.unusedVariables false
set_option linter.unusedSimpArgs false
namespace Go.Proofs.YtkgbgmfidkimfaaGreat
open Go.RowKit

set_option maxRecDepth 100000 in
theorem ready_any (x : Itm) (v : Value) (w : World) (B : Nat) (hs : x.Small) (hB : B ≤ w.heap.size) (h : ItemV w B v x) :
    Calls Tryz.prog 43 #[v] w fun e w' => e = .returned (.int .i64 (asCode 2 x)) ∧ Fr [] w w' := by
  have M := Lib.hid (fun W (hf : Fr [] w W) => as_any x 2 v W B hs (Nat.le_trans hB hf.size) (h.fr hf hB (by simp)))
  obtain ⟨A1, c1, A2, c2, A3, c3, rfl, h1, h2, h3⟩ := h
  have F1 : Fr [] w (w.alloc (.cells #[.int .i64 x.kind, .string x.text, .slice A1 x.list.length c1, .slice A2 x.pairs.length c2, .slice A3 x.scores.length c3] 26)) := (Fr.refl [] w).alloc _
  go_enter Tryz.func43, Tryz.ntmps43
  go_wp2_with fail
  refine (M.out _ F1).mono ?_
  rintro e w1 ⟨rfl, f1⟩
  go_wp2
  go_ret
  exact ⟨rfl, F1.trans f1⟩
set_option maxRecDepth 100000 in
theorem listOf_any (l : List ByteArray) (A : Option Addr) (c : Nat) (w : World) (B : Nat) (hs : (listI l).Small) (hB : B ≤ w.heap.size) (h : Sl w B 1 (.slice A l.length c) l.length (textsV l)) :
    Calls Tryz.prog 48 #[.slice A l.length c] w fun e w' => e = .returned (if l.length = 0 then .agg #[.int .i64 0, .string ⟨#[]⟩, .slice none 0 0, .slice none 0 0, .slice none 0 0] else .agg #[.int .i64 2, .string ⟨#[]⟩, .slice A l.length c, .slice none 0 0, .slice none 0 0]) ∧ Fr [] w w' := by
  have hv : ItemV w B (.agg #[.int .i64 2, .string ⟨#[]⟩, .slice A l.length c, .slice none 0 0, .slice none 0 0]) (listI l) := ⟨A, c, none, 0, none, 0, rfl, h, Sl.nil _ _ _, Sl.nil _ _ _⟩
  have O := Lib.hid (fun W (hf : Fr [] w W) => (show Calls Tryz.prog 104 #[.agg #[.int .i64 2, .string ⟨#[]⟩, .slice A l.length c, .slice none 0 0, .slice none 0 0]] W fun e w' => e = .returned (if l.length = 0 then .agg #[.int .i64 0, .string ⟨#[]⟩, .slice none 0 0, .slice none 0 0, .slice none 0 0] else .agg #[.int .i64 2, .string ⟨#[]⟩, .slice A l.length c, .slice none 0 0, .slice none 0 0]) ∧ Fr [] W w' from by have := of_any (listI l) (.agg #[.int .i64 2, .string ⟨#[]⟩, .slice A l.length c, .slice none 0 0, .slice none 0 0]) W B hs (Nat.le_trans hB hf.size) (hv.fr hf hB (by simp)) (show (2 : Int) ≠ 1 by decide); unfold ofV at this; rw [show many (listI l) = l.length from by show l.length + 0 + 0 = l.length; omega] at this; exact this))
  have F1 : Fr [] w (w.alloc (.cells #[.int .i64 0, .string ⟨#[]⟩, .slice none 0 0, .slice none 0 0, .slice none 0 0] 26)) := (Fr.refl [] w).alloc _
  have R1 := Lib.hid (show Whole (w.alloc (.cells #[.int .i64 0, .string ⟨#[]⟩, .slice none 0 0, .slice none 0 0, .slice none 0 0] 26)) w.heap.size 26 [.int .i64 0, .string ⟨#[]⟩, .slice none 0 0, .slice none 0 0, .slice none 0 0] from Whole.new w _ _)
  clear hv h hs
  by_cases hm : l.length = 0
  · rw [if_pos hm] at O ⊢
    clear hm
    go_enter Tryz.func48, Tryz.ntmps48
    go_wp2_with fail
    refine (O.out _ F1).mono ?_
    rintro e w1 ⟨rfl, f1⟩
    have F2 := F1.trans f1
    have R2 := Lib.hid (R1.out.fr f1 (by simp))
    obtain ⟨a0, a1, a2, a3, a4⟩ := five R2.out
    obtain ⟨b0, b2, b3, b4, b5⟩ := fiveF R2.out
    go_wp2
    refine bodyPost_ret (v := .agg #[.int .i64 0, .string ⟨#[]⟩, .slice none 0 0, .slice none 0 0, .slice none 0 0]) (by simp [results, Tryz.results48, go_sem, a0, a1, a2, a3, a4]) rfl ?_
    refine ⟨rfl, fr_set5 F2 (Nat.le_refl _) _ _ _ _ _⟩
  · rw [if_neg hm] at O ⊢
    clear hm
    go_enter Tryz.func48, Tryz.ntmps48
    go_wp2_with fail
    refine (O.out _ F1).mono ?_
    rintro e w1 ⟨rfl, f1⟩
    have F2 := F1.trans f1
    have R2 := Lib.hid (R1.out.fr f1 (by simp))
    obtain ⟨a0, a1, a2, a3, a4⟩ := five R2.out
    obtain ⟨b0, b2, b3, b4, b5⟩ := fiveF R2.out
    go_wp2
    refine bodyPost_ret (v := .agg #[.int .i64 2, .string ⟨#[]⟩, .slice A l.length c, .slice none 0 0, .slice none 0 0]) (by simp [results, Tryz.results48, go_sem, a0, a1, a2, a3, a4]) rfl ?_
    refine ⟨rfl, fr_set5 F2 (Nat.le_refl _) _ _ _ _ _⟩
end Go.Proofs.YtkgbgmfidkimfaaGreat

namespace Go.Proofs.YtkgbgmfidkimfaaGreat
open Go.RowKit

theorem tup2 {a b c d : Int} (h1 : a = b) (h2 : c = d) : Ending.returned (.tuple #[.int .i64 a, .int .i64 c]) = .returned (.tuple #[.int .i64 b, .int .i64 d]) := by rw [h1, h2]

theorem spanH1 (a b : Int) (h : 0 ≤ a) : ((if a > b then 0 else a.toNat : Nat) : Int) = if a > b then 0 else a := by split <;> omega
theorem spanH2 (a b : Int) (h : 0 ≤ a) : ((if a > b then 0 else (b + 1).toNat : Nat) : Int) = if a > b then 0 else b + 1 := by split <;> omega

theorem span_any (n : Nat) (f t : Int) (w : World) (hn : n ≤ 281474976710656) (hf : -9223372036854775808 ≤ f ∧ f ≤ 9223372036854775807) (ht : -9223372036854775808 ≤ t ∧ t ≤ 9223372036854775807) :
    Calls Tryz.prog 52 #[.int .i64 n, .int .i64 f, .int .i64 t] w fun e w' => e = .returned (.tuple #[.int .i64 (spanA n f t : Nat), .int .i64 (spanB n f t : Nat)]) ∧ w = w' := by
  have SA := Lib.hid (show (spanA n f t : Int) = if (if f < 0 then max 0 (f + n) else f) > min (if t < 0 then t + n else t) ((n : Int) - 1) then 0 else (if f < 0 then max 0 (f + n) else f) from spanH1 _ _ (by split <;> omega))
  have SB := Lib.hid (show (spanB n f t : Int) = if (if f < 0 then max 0 (f + n) else f) > min (if t < 0 then t + n else t) ((n : Int) - 1) then 0 else min (if t < 0 then t + n else t) ((n : Int) - 1) + 1 from spanH2 _ _ (by split <;> omega))
  obtain ⟨hf1, hf2⟩ := hf
  obtain ⟨ht1, ht2⟩ := ht
  by_cases h1 : f < 0 <;> by_cases h2 : t < 0
  all_goals
    go_enter Tryz.func52, Tryz.ntmps52
    go_wp2
    all_goals
      go_ret2
      refine ⟨tup2 ?_ ?_, rfl⟩
      · rw [SA.out]
        (repeat' split) <;> omega
      · rw [SB.out]
        (repeat' split) <;> omega

theorem clampI_le (n : Int) : -1000000 ≤ clampI n ∧ clampI n ≤ 1000000 := by unfold clampI; (repeat' split) <;> omega

end Go.Proofs.YtkgbgmfidkimfaaGreat

namespace Go.Proofs.YtkgbgmfidkimfaaGreat
open Go.RowKit

theorem listI_small {l : List ByteArray} (hl : l.length ≤ 1000000) (ht : ∀ s ∈ l, s.size ≤ 281474976710656) : (listI l).Small :=
  ⟨by show -9223372036854775808 ≤ (2 : Int) ∧ (2 : Int) ≤ 9223372036854775807; omega, by show (⟨#[]⟩ : ByteArray).size ≤ _; decide, by show l.length ≤ _; omega, by show 0 ≤ _; omega, by show 0 ≤ _; omega, ht, (fun p hp => by cases hp), (fun p hp => by cases hp)⟩
def tA : ByteArray := ⟨#[97]⟩
def tB : ByteArray := ⟨#[98]⟩
def tC : ByteArray := ⟨#[99]⟩
def tD : ByteArray := ⟨#[100]⟩
def rowI : Itm := listI [tA, tB, tA]
theorem row_small : rowI.Small := listI_small (by decide) (by decide)

set_option maxRecDepth 100000 in
theorem row_any (w : World) : Calls Tryz.prog 33 #[] w (SomeItem rowI w) := by
  go_enter Tryz.func33, Tryz.ntmps33
  go_wp2
  refine bodyPost_ret (v := .agg #[.int .i64 2, .string ⟨#[]⟩, .slice (some ⟨w.heap.size + 1, 0, none⟩) 3 3, .slice none 0 0, .slice none 0 0]) (by simp [results, Tryz.results33, go_sem]) rfl ?_
  have hb := heap_alloc_new (w.alloc (.cells #[.int .i64 2, .string ⟨#[]⟩, .slice (some ⟨w.heap.size + 1, 0, none⟩) 3 3, .slice none 0 0, .slice none 0 0] 26)) (.cells #[.string ⟨#[97]⟩, .string ⟨#[98]⟩, .string ⟨#[97]⟩] 9)
  have hz : (w.alloc (.cells #[.int .i64 2, .string ⟨#[]⟩, .slice (some ⟨w.heap.size + 1, 0, none⟩) 3 3, .slice none 0 0, .slice none 0 0] 26)).heap.size = w.heap.size + 1 := by simp
  rw [hz] at hb
  exact ⟨_, rfl, ⟨_, _, _, rfl, ⟨rfl, .inr ⟨w.heap.size + 1, 3, _, rfl, by omega, hb, Nat.le_refl _, by decide, rfl, rfl⟩⟩, ⟨rfl, .inl ⟨rfl, rfl⟩⟩, ⟨rfl, .inl ⟨rfl, rfl⟩⟩⟩, ((Fr.refl [] w).alloc _).alloc _⟩
end Go.Proofs.YtkgbgmfidkimfaaGreat

namespace Go.Proofs.YtkgbgmfidkimfaaGreat
open Go.RowKit


theorem listOf_own (l : List ByteArray) (base : Nat) (v : Value) (w : World) (hl : l.length ≤ 1000000) (ht : ∀ s ∈ l, s.size ≤ 281474976710656) (h : w.ownsRow base 9 1 v l.length (textsV l)) :
    Calls Tryz.prog 48 #[v] w (OwnI base (ofL l) w) := by
  obtain ⟨A, c, rfl, -⟩ := own_slice h
  refine (listOf_any l A c w w.heap.size (listI_small hl ht) (Nat.le_refl _) (own_sl h)).mono ?_
  rintro e w' ⟨rfl, hf⟩
  unfold ofL
  by_cases h0 : l.length = 0
  · rw [if_pos h0, if_pos h0]
    exact ⟨_, rfl, ItemO.nothing _ _, hf⟩
  · rw [if_neg h0, if_neg h0]
    exact ⟨_, rfl, ⟨_, _, _, rfl, own_fr h hf (by simp), ⟨rfl, .inl ⟨rfl, rfl⟩⟩, ⟨rfl, .inl ⟨rfl, rfl⟩⟩⟩, hf⟩

def rangeA (x : Itm) (f t : Int) : List ByteArray := if asCode 2 x = 0 then rangeOf x.list f t else []
def RangePost (x : Itm) (f t : Int) (w : World) (e : Ending) (w' : World) : Prop :=
  ∃ u, e = .returned (.tuple #[u, .int .i64 (asCode 2 x)]) ∧ w'.ownsRow w.heap.size 9 1 u (rangeA x f t).length (textsV (rangeA x f t)) ∧ Fr [] w w'

theorem rangeOf_texts (l : List ByteArray) (f t : Int) : (((textsV l).drop (spanA l.length f t * 1)).take ((spanB l.length f t - spanA l.length f t) * 1)) = textsV (rangeOf l f t) := by
  unfold rangeOf textsV
  rw [Nat.mul_one, Nat.mul_one, List.take_drop, ← List.map_take, ← List.map_drop]
  have := span_le l.length f t
  rw [show spanA l.length f t + (spanB l.length f t - spanA l.length f t) = spanB l.length f t by omega]

set_option maxHeartbeats 2000000 in
set_option maxRecDepth 100000 in
theorem listRange_any (x : Itm) (v : Value) (f t : Int) (w : World) (B : Nat) (hs : x.Small) (hB : B ≤ w.heap.size) (h : ItemV w B v x) (hf : -9223372036854775808 ≤ f ∧ f ≤ 9223372036854775807) (ht : -9223372036854775808 ≤ t ∧ t ≤ 9223372036854775807) :
    Calls Tryz.prog 16 #[v, .int .i64 f, .int .i64 t] w (RangePost x f t w) := by
  have RD := Lib.hid (fun W (hf : Fr [] w W) => ready_any x v W B hs (Nat.le_trans hB hf.size) (h.fr hf hB (by simp)))
  obtain ⟨A1, c1, A2, c2, A3, c3, rfl, h1, h2, h3⟩ := h
  have D0 := Lib.hid (BX.new w (.int .i64 x.kind) (.string x.text) (.slice A1 x.list.length c1) (.slice A2 x.pairs.length c2) (.slice A3 x.scores.length c3))
  obtain ⟨d0, d1, d2, d3, d4⟩ := five D0.out.b
  unfold RangePost rangeA
  have OK := Lib.hid (fun (h : asCode 2 x = 0) => asOk_of h)
  have H1 := Lib.hid h1
  clear h1 h2 h3 hs
  by_cases ha : asCode 2 x = 0
  · rw [if_pos ha, ha]
    rw [ha] at RD
    have hok := OK.out ha
    have hlen : x.list.length ≤ 24 := by have := hok.le24; unfold many at this; omega
    have hsp := span_le x.list.length f t
    have SP := Lib.hid (fun W => span_any x.list.length f t W (by omega) hf ht)
    have HCL := Lib.hid (fun W (hW : Fr [] w W) => cloneS_row (spanB x.list.length f t - spanA x.list.length f t) _ _ _ W B (by omega) (Nat.le_trans hB hW.size) ((H1.out.fr hW hB (by simp)).cut hsp.1 hsp.2) (by
      rw [rangeOf_texts]; exact texts_one _))
    rw [rangeOf_texts, ← rangeOf_length x.list f t] at HCL
    have hlc : x.list.length ≤ c1 ∧ c1 ≤ 9223372036854775807 := by
      obtain ⟨A', c', e, _, hc, hm, _⟩ := H1.out
      cases e
      unfold maxLen at hm
      exact ⟨hc, by omega⟩
    obtain ⟨hlc1, hlc2⟩ := hlc
    obtain ⟨hsp1, hsp2⟩ := hsp
    have EL := Lib.hid (rangeOf_length x.list f t)
    clear hok OK ha
    rw [EL.out] at HCL
    rw [EL.out]
    generalize rangeOf x.list f t = r at *
    generalize spanA x.list.length f t = a at *
    generalize spanB x.list.length f t = b at *
    generalize x.list.length = n at *
    simp only [Nat.mul_one] at HCL
    obtain ⟨A', hA⟩ : ∃ A', (if c1 = a then A1 else Option.map (fun x => x.add a) A1) = A' := ⟨_, rfl⟩
    rw [hA] at HCL
    go_enter Tryz.func16, Tryz.ntmps16
    go_wp2_with fail
    refine (RD.out _ D0.out.f).mono ?_
    rintro e w1 ⟨rfl, f1⟩
    have D1 := Lib.hid (D0.out.go f1)
    clear d0 d1 d2 d3 d4
    obtain ⟨d0, d1, d2, d3, d4⟩ := five D1.out.b
    go_wp2_with fail
    refine (SP.out _).mono ?_
    rintro e w2 ⟨rfl, rfl⟩
    go_wp2_with fail
    refine (HCL.out _ D1.out.f).mono ?_
    rintro e w3 ⟨u, rfl, ho, f3⟩
    have hz := D1.out.f.size
    go_wp2
    go_ret2
    exact ⟨u, rfl, own_base ho hz, D1.out.f.trans f3⟩
  · rw [if_neg ha]
    have q : (asCode 2 x != 0) = true := by simpa using ha
    clear OK ha
    generalize asCode 2 x = r at *
    go_enter Tryz.func16, Tryz.ntmps16
    go_wp2_with fail
    refine (RD.out _ D0.out.f).mono ?_
    rintro e w1 ⟨rfl, f1⟩
    have D1 := Lib.hid (D0.out.go f1)
    go_wp2
    go_ret2
    exact ⟨_, rfl, World.ownsRow_nil _ _ _ _, D1.out.f⟩

def IEPost (code : Int) (y : Itm) (w : World) (e : Ending) (w' : World) : Prop := ∃ u, e = .returned (.tuple #[u, .int .i64 code]) ∧ ItemO w' w.heap.size u y ∧ Fr [] w w'
def ISPost (s : ByteArray) (code : Int) (y : Itm) (w : World) (e : Ending) (w' : World) : Prop := ∃ u, e = .returned (.tuple #[u, .string s, .int .i64 code]) ∧ ItemO w' w.heap.size u y ∧ Fr [] w w'

set_option maxHeartbeats 2000000 in
set_option maxRecDepth 100000 in
theorem listTrim_any (x : Itm) (v : Value) (f t : Int) (w : World) (B : Nat) (hs : x.Small) (hB : B ≤ w.heap.size) (h : ItemV w B v x) (hf : -9223372036854775808 ≤ f ∧ f ≤ 9223372036854775807) (ht : -9223372036854775808 ≤ t ∧ t ≤ 9223372036854775807) :
    Calls Tryz.prog 14 #[v, .int .i64 f, .int .i64 t] w (IEPost (asCode 2 x) (ofL (rangeA x f t)) w) := by
  have RG := Lib.hid (fun W (hW : Fr [] w W) => listRange_any x v f t W B hs (Nat.le_trans hB hW.size) (h.fr hW hB (by simp)) hf ht)
  have hsm : (rangeA x f t).length ≤ 1000000 ∧ ∀ s ∈ rangeA x f t, s.size ≤ 281474976710656 := by
    unfold rangeA
    by_cases ha : asCode 2 x = 0
    · rw [if_pos ha]
      have hok := asOk_of ha
      refine ⟨?_, fun s hs => by have := hok.texts s (rangeOf_mem hs); omega⟩
      rw [rangeOf_length]
      have := span_le x.list.length f t
      have := hok.le24
      unfold many at this
      omega
    · rw [if_neg ha]
      exact ⟨by simp, by simp⟩
  have OF := Lib.hid (fun W base u hu => listOf_own (rangeA x f t) base u W hsm.1 hsm.2 hu)
  have EZ := Lib.hid (fun (ha : ¬ asCode 2 x = 0) => (show ofL (rangeA x f t) = newI 0 from by unfold rangeA; rw [if_neg ha]; rfl))
  unfold RangePost at RG
  obtain ⟨A1, c1, A2, c2, A3, c3, rfl, h1, h2, h3⟩ := h
  have D0 := Lib.hid (BO.new w (.int .i64 x.kind) (.string x.text) (.slice A1 x.list.length c1) (.slice A2 x.pairs.length c2) (.slice A3 x.scores.length c3))
  obtain ⟨d0, d1, d2, d3, d4⟩ := five D0.out.b
  clear h1 h2 h3 hs hf ht hsm
  generalize ofL (rangeA x f t) = y at *
  generalize rangeA x f t = r at *
  generalize asCode 2 x = a at *
  by_cases ha : a = 0
  · subst ha
    clear EZ
    go_enter Tryz.func14, Tryz.ntmps14
    go_wp2_with fail
    refine (RG.out _ D0.out.f).mono ?_
    rintro e w1 ⟨u, rfl, ho, f1⟩
    have D1 := Lib.hid (D0.out.go f1)
    have hz := D0.out.lt
    have HO := Lib.hid ho
    obtain ⟨U, cu, rfl, -⟩ := own_slice ho
    clear d0 d1 d2 d3 d4 ho
    go_wp2_with fail
    refine (OF.out _ _ _ HO.out).mono ?_
    rintro e w2 ⟨u, rfl, hi, f2⟩
    have D2 := Lib.hid (D1.out.go f2)
    have HI := Lib.hid hi
    obtain ⟨P1, p1, P2, p2, P3, p3, rfl⟩ := hi.form
    clear hi
    obtain ⟨a0, a1, a2, a3, a4⟩ := five D2.out.o
    obtain ⟨b0, b2, b3, b4, b5⟩ := fiveF D2.out.o
    go_wp2
    refine bodyPost_ret (v := .tuple #[.agg #[.int .i64 y.kind, .string y.text, .slice P1 y.list.length p1, .slice P2 y.pairs.length p2, .slice P3 y.scores.length p3], .int .i64 0]) (by simp [results, Tryz.results14, go_sem, a0, a1, a2, a3, a4]) rfl ?_
    exact ⟨_, rfl, (itemO_later HI.out (by omega) _ _ _ _ _).less (by omega), D2.out.end5 _ _ _ _ _⟩
  · rw [EZ.out ha]
    have q : (a != 0) = true := by simpa using ha
    clear EZ OF ha
    go_enter Tryz.func14, Tryz.ntmps14
    go_wp2_with fail
    refine (RG.out _ D0.out.f).mono ?_
    rintro e w1 ⟨u, rfl, ho, f1⟩
    have D1 := Lib.hid (D0.out.go f1)
    obtain ⟨U, cu, rfl, -⟩ := own_slice ho
    clear d0 d1 d2 d3 d4 ho
    obtain ⟨a0, a1, a2, a3, a4⟩ := five D1.out.o
    obtain ⟨b0, b2, b3, b4, b5⟩ := fiveF D1.out.o
    go_wp2
    refine bodyPost_ret (v := .tuple #[.agg #[.int .i64 0, .string ⟨#[]⟩, .slice none 0 0, .slice none 0 0, .slice none 0 0], .int .i64 a]) (by simp [results, Tryz.results14, go_sem, a0, a1, a2, a3, a4]) rfl ?_
    exact ⟨_, rfl, ItemO.nothing _ _, D1.out.end5 _ _ _ _ _⟩
end Go.Proofs.YtkgbgmfidkimfaaGreat
