/- The walk of the program's Decode. -/
import Derived.Test.YtfkfdmonnebmmaaItemT
import Derived.Test.YtfkfdmonnebmmaaItemQ
set_option linter.unusedVariables false
set_option linter.unusedSimpArgs false
namespace Go.Proofs.Ytfkfdmonnebmmaa
open Go.RowKit

/-- an item of the call's own: its rows lie from base on. -/
def ItemO (w : World) (base : Nat) (v : Value) (x : Itm) : Prop :=
  ∃ v1 v2 v3, v = .agg #[.int .i64 x.kind, .string x.text, v1, v2, v3] ∧ w.ownsRow base 9 1 v1 x.list.length (textsV x.list) ∧ w.ownsRow base 64 2 v2 x.pairs.length (pairsV x.pairs) ∧ w.ownsRow base 84 2 v3 x.scores.length (scoresV x.scores)

theorem sl_form {w : World} {B size n : Nat} {v : Value} {xs : List Value} (h : Sl w B size v n xs) : ∃ A c, v = .slice A n c := by
  obtain ⟨A, c, e, _⟩ := h
  exact ⟨A, c, e⟩

theorem ItemO.item {w : World} {base : Nat} {v : Value} {x : Itm} (h : ItemO w base v x) : ItemV w w.heap.size v x := by
  obtain ⟨v1, v2, v3, rfl, o1, o2, o3⟩ := h
  have s1 := own_sl o1
  have s2 := own_sl o2
  have s3 := own_sl o3
  obtain ⟨A1, c1, rfl⟩ := sl_form s1
  obtain ⟨A2, c2, rfl⟩ := sl_form s2
  obtain ⟨A3, c3, rfl⟩ := sl_form s3
  exact ⟨A1, c1, A2, c2, A3, c3, rfl, s1, s2, s3⟩

theorem own_base {w : World} {base base' e size n : Nat} {v : Value} {xs : List Value} (h : w.ownsRow base e size v n xs) (hb : base' ≤ base) : w.ownsRow base' e size v n xs := by
  refine ⟨h.1, ?_⟩
  rcases h.2 with hz | ⟨g, cap, cur, rfl, hbg, rest⟩
  · exact .inl hz
  · exact .inr ⟨g, cap, cur, rfl, by omega, rest⟩

theorem ItemO.nothing (w : World) (base : Nat) : ItemO w base (.agg #[.int .i64 0, .string ⟨#[]⟩, .slice none 0 0, .slice none 0 0, .slice none 0 0]) (newI 0) :=
  ⟨_, _, _, rfl, World.ownsRow_nil _ _ _ _, ⟨rfl, .inl ⟨rfl, rfl⟩⟩, ⟨rfl, .inl ⟨rfl, rfl⟩⟩⟩

theorem fiveF {w : World} {g t : Nat} {a b c d e : Value} (h : Whole w g t [a, b, c, d, e]) :
    w.frozen? ⟨g, 0, none⟩ = false ∧ w.frozen? ⟨g, 1, none⟩ = false ∧ w.frozen? ⟨g, 2, none⟩ = false ∧ w.frozen? ⟨g, 3, none⟩ = false ∧ w.frozen? ⟨g, 4, none⟩ = false :=
  ⟨h.frozen 0, h.frozen 1, h.frozen 2, h.frozen 3, h.frozen 4⟩

theorem read1_false {α : Type} {o : Option (α × ByteArray)} {v : α} {r : ByteArray} (h : Read1 o v r false false) : o = some (v, r) := by
  cases o with
  | none => cases h
  | some p => obtain ⟨rfl, rfl, _⟩ := h; rfl
theorem read1_true {α : Type} {o : Option (α × ByteArray)} {v : α} {r : ByteArray} (h : Read1 o v r false true) : o = none := by
  cases o with
  | none => rfl
  | some p => obtain ⟨_, _, h⟩ := h; cases h

/-- what is left to read tells what is to be read. -/
def LoopR (j m : Nat) (x' x0 : Itm) (s' r : ByteArray) (b2 b' : Bool) : Prop :=
  (b' = false → b2 = false ∧ readEls j x' s' = readEls m x0 r) ∧ (b' = true → b2 = true ∨ readEls m x0 r = none)

theorem loopR_start (m : Nat) (x0 : Itm) (r : ByteArray) (b2 : Bool) : LoopR m m x0 x0 r r b2 b2 := ⟨fun h => ⟨h, rfl⟩, fun h => .inl h⟩
theorem loopR_step {j m : Nat} {x' x'' x0 : Itm} {s' s'' r : ByteArray} {b2 b'' : Bool} (h : LoopR (j + 1) m x' x0 s' r b2 false) (hr : Read1 (readEl x' s') x'' s'' false b'') : LoopR j m x'' x0 s'' r b2 b'' := by
  obtain ⟨h1, h2⟩ := h.1 rfl
  cases b'' with
  | false =>
    have := read1_false hr
    refine ⟨fun _ => ⟨h1, ?_⟩, fun h => ?_⟩
    · rw [← h2, readEls, this, Option.bind_some]
    · cases h
  | true =>
    have := read1_true hr
    refine ⟨fun h => ?_, fun _ => .inr ?_⟩
    · cases h
    · rw [← h2, readEls, this, Option.bind_none]

theorem dec_none1 {s r : ByteArray} {n : Nat} (h : Read1 (oneB s) n r false true) : decItm s = none := by
  unfold decItm; rw [read1_true h]; rfl
theorem dec_text {s r : ByteArray} {n : Nat} (h : Read1 (oneB s) n r false false) (hn : n = 1) : decItm s = some { newI n with text := r } := by
  subst hn
  unfold decItm; rw [read1_false h]; rfl
theorem dec_other {s r : ByteArray} {n : Nat} {b : Bool} (h : Read1 (oneB s) n r false b) (h1 : n ≠ 1) (h2 : ¬ (2 ≤ n ∧ n ≤ 5)) : decItm s = none := by
  cases b with
  | true => exact dec_none1 h
  | false => unfold decItm; rw [read1_false h, Option.bind_some, if_neg h1, if_neg h2]
theorem dec_short {s r r2 s' : ByteArray} {n m j : Nat} {b1 b2 : Bool} {x' : Itm} (h : Read1 (oneB s) n r false b1) (hn : 2 ≤ n ∧ n ≤ 5) (h2 : Read1 (oneB r) m r2 b1 b2) (hl : LoopR j m x' (newI n) s' r2 b2 true) : decItm s = none := by
  cases b1 with
  | true => exact dec_none1 h
  | false =>
    unfold decItm
    rw [read1_false h, Option.bind_some, if_neg (by omega), if_pos hn]
    cases b2 with
    | true => rw [read1_true h2]; rfl
    | false =>
      rw [read1_false h2, Option.bind_some]
      rcases hl.2 rfl with h3 | h3
      · cases h3
      · rw [h3]; rfl
theorem dec_els {s r r2 s' : ByteArray} {n m : Nat} {b1 b2 : Bool} {x' : Itm} (h : Read1 (oneB s) n r false b1) (hn : 2 ≤ n ∧ n ≤ 5) (h2 : Read1 (oneB r) m r2 b1 b2) (hl : LoopR 0 m x' (newI n) s' r2 b2 false) :
    decItm s = if s'.size = 0 then some x' else none := by
  obtain ⟨h3, h4⟩ := hl.1 rfl
  subst h3
  have hb1 : b1 = false := by
    cases b1 with
    | false => rfl
    | true => have := read1_bad h2 rfl; cases this
  subst hb1
  unfold decItm
  rw [read1_false h, Option.bind_some, if_neg (by omega), if_pos hn, read1_false h2, Option.bind_some, ← h4]
  rfl

theorem dec_no {s : ByteArray} (h : decItm s = none) : decCode s = 1 ∧ decAns s = newI 0 := by unfold decCode decAns; rw [h]; exact ⟨rfl, rfl⟩
theorem dec_bad {s : ByteArray} {x : Itm} (h : decItm s = some x) (hc : checkItm x ≠ 0) : decCode s = checkItm x ∧ decAns s = newI 0 := by unfold decCode decAns; rw [h]; exact ⟨rfl, if_neg hc⟩
theorem dec_ok {s : ByteArray} {x : Itm} (h : decItm s = some x) (hc : checkItm x = 0) : decCode s = 0 ∧ decAns s = x := by unfold decCode decAns; rw [h]; exact ⟨hc, if_pos hc⟩

theorem extract_all (r : ByteArray) : r.extract 0 r.size = r := by simp
theorem extract_none (r : ByteArray) : r.extract r.size r.size = ⟨#[]⟩ := by
  apply nilOf
  simp

def DecPost (s : ByteArray) (w : World) (e : Ending) (w' : World) : Prop := ∃ v, e = .returned (.tuple #[v, .int .i64 (decCode s)]) ∧ ItemO w' w.heap.size v (decAns s) ∧ Fr [] w w'

/-- the blocks of Decode: the answer's, the reader's, the item's. -/
structure DecIn (w : World) (gi : Nat) (x : Itm) (v1 v2 v3 : Value) (s : ByteArray) (b : Bool) (wr : World) : Prop where
  out : Whole wr w.heap.size 33 [.int .i64 0, .string ⟨#[]⟩, .slice none 0 0, .slice none 0 0, .slice none 0 0]
  rd : Rd wr (w.heap.size + 1) s b
  gr : Gr gi (gi + 1) x v1 v2 v3 wr
  le : w.heap.size + 1 < gi
  lt : gi < wr.heap.size
  fr : Fr [] w wr
  small : x.Small

theorem DecIn.read {w : World} {gi : Nat} {x : Itm} {v1 v2 v3 : Value} {s s' : ByteArray} {b b' : Bool} {wr w1 : World} (h : DecIn w gi x v1 v2 v3 s b wr) (hr : Rd w1 (w.heap.size + 1) s' b') (hf : Fr [w.heap.size + 1] wr w1) : DecIn w gi x v1 v2 v3 s' b' w1 :=
  ⟨h.out.fr hf (by simp), hr, h.gr.read h.rd hf, h.le, Nat.lt_of_lt_of_le h.lt hf.size, h.fr.step hf (by intro k hk; simp at hk; subst hk; exact .inr (by omega)), h.small⟩

theorem DecIn.el {w : World} {gi : Nat} {x x' : Itm} {v1 v2 v3 v1' v2' v3' : Value} {s s' : ByteArray} {b b' : Bool} {wr w1 : World} (h : DecIn w gi x v1 v2 v3 s b wr) (hg : Gr gi (gi + 1) x' v1' v2' v3' w1) (hr : Rd w1 (w.heap.size + 1) s' b')
    (hf : FrB [w.heap.size + 1, gi] (gi + 1) wr w1) (hs : x'.Small) : DecIn w gi x' v1' v2' v3' s' b' w1 := by
  have hle := h.le
  refine ⟨hf.whole h.out (by omega) (by simp; omega), hr, hg, h.le, Nat.lt_of_lt_of_le h.lt hf.size, ?_, hs⟩
  have hz := h.fr.size
  have := hf.belowOf (D := w.heap.size) hz (by omega) (by intro k hk; simp at hk; rcases hk with rfl | rfl <;> omega)
  exact ⟨this.os.trans h.fr.os, this.tape.trans h.fr.tape, this.output.trans h.fr.output, Nat.le_trans hz this.size, fun k hk _ => (this.block k hk).trans (h.fr.block k hk (by simp))⟩

theorem DecIn.val {w : World} {gi : Nat} {x : Itm} {v1 v2 v3 : Value} {s : ByteArray} {b : Bool} {wr : World} (h : DecIn w gi x v1 v2 v3 s b wr) : ItemO wr (gi + 1) (.agg #[.int .i64 x.kind, .string x.text, v1, v2, v3]) x :=
  ⟨_, _, _, rfl, h.gr.o1, h.gr.o2, h.gr.o3⟩

theorem newI_small (n : Nat) (hn : n < 256) : (newI n).Small :=
  ⟨⟨by show -9223372036854775808 ≤ (n : Int); omega, by show (n : Int) ≤ 9223372036854775807; omega⟩, by show (0 : Nat) ≤ _; omega, by show (0 : Nat) ≤ _; omega, by show (0 : Nat) ≤ _; omega, by show (0 : Nat) ≤ _; omega, fun s hs => absurd hs (by simp [newI]), fun s hs => absurd hs (by simp [newI]), fun s hs => absurd hs (by simp [newI])⟩

/-- a text is laid into the item. -/
theorem DecIn.text {w : World} {gi : Nat} {x : Itm} {v1 v2 v3 : Value} {s : ByteArray} {b : Bool} {wr : World} (h : DecIn w gi x v1 v2 v3 s b wr) (t : ByteArray) (ht : t.size ≤ 281474976710656) :
    DecIn w gi { x with text := t } v1 v2 v3 s b (wr.setCell ⟨gi, 1, none⟩ (.string t)) := by
  have hle := h.le
  exact ⟨h.out.far (p := ⟨gi, 1, none⟩) (by show w.heap.size ≠ gi; omega) _, Whole.far h.rd (p := ⟨gi, 1, none⟩) (by show w.heap.size + 1 ≠ gi; omega) _,
    ⟨h.gr.whole.set_ 1 _, own_set _ h.gr.o1 (own_ne h.gr.o1 h.gr.whole (by decide)), own_set _ h.gr.o2 (own_ne h.gr.o2 h.gr.whole (by decide)), own_set _ h.gr.o3 (own_ne h.gr.o3 h.gr.whole (by decide))⟩,
    h.le, by simpa [World.setCell] using h.lt, h.fr.setCell (p := ⟨gi, 1, none⟩) (.inr (by show w.heap.size ≤ gi; omega)) _, ⟨h.small.kind, ht, h.small.list, h.small.pairs, h.small.scores, h.small.texts, h.small.fields, h.small.members⟩⟩

/-- the element, of whatever kind. -/
theorem element_any (gi g base : Nat) (x : Itm) (v1 v2 v3 : Value) (s : ByteArray) (b : Bool) (w : World) (hG : Gr gi base x v1 v2 v3 w) (hR : Rd w g s b) (hs : s.size ≤ 281474976710656) (hm : many x ≤ 1000) (hB : base ≤ w.heap.size) (hgi : gi < base) (hg : g < base) :
    Calls Try.prog 56 #[.pointer (some ⟨g, 0, none⟩), .pointer (some ⟨gi, 0, none⟩)] w (ElPost gi g base x s b w) := by
  by_cases k4 : x.kind = 4
  · exact elementP_any gi g base x v1 v2 v3 s b w hG hR hs hm hB hgi hg k4
  · by_cases k5 : x.kind = 5
    · exact elementS_any gi g base x v1 v2 v3 s b w hG hR hs hm hB hgi hg k5
    · exact elementL_any gi g base x v1 v2 v3 s b w hG hR hs hm hB hgi hg k4 k5

def Num1 (g : Nat) (s : ByteArray) (b : Bool) (w : World) (e : Ending) (w' : World) : Prop :=
  ∃ (n : Nat) (r : ByteArray) (b' : Bool), e = .returned (.int .i64 n) ∧ Rd w' g r b' ∧ Fr [g] w w' ∧ Read1 (oneB s) n r b b' ∧ n < 256 ∧ r.size ≤ s.size
theorem num1s_any (g : Nat) (s : ByteArray) (b : Bool) (w : World) (h : Rd w g s b) (hs : s.size ≤ 281474976710656) :
    Calls Try.prog 53 #[.pointer (some ⟨g, 0, none⟩), .int .i64 1] w (Num1 g s b w) := by
  by_cases h1 : s.size < 1
  · refine (num1_no g s b w h hs h1).mono ?_
    rintro e w' ⟨rfl, hr, hf⟩
    refine ⟨0, _, true, rfl, hr, hf, ?_, by omega, Nat.zero_le _⟩
    unfold oneB
    rw [if_pos h1]
    exact rfl
  · refine (num1_yes g s b w h hs h1).mono ?_
    rintro e w' ⟨rfl, hr, hf⟩
    refine ⟨_, _, b, rfl, hr, hf, ?_, byteAt_lt s 0, by simp⟩
    unfold oneB
    rw [if_neg h1]
    exact ⟨rfl, rfl, rfl⟩

theorem DecIn.fr0 {w : World} {gi : Nat} {x : Itm} {v1 v2 v3 : Value} {s : ByteArray} {b : Bool} {wr w1 : World} (h : DecIn w gi x v1 v2 v3 s b wr) (hf : Fr [] wr w1) : DecIn w gi x v1 v2 v3 s b w1 :=
  h.read (Whole.fr h.rd hf (by simp)) hf.up

theorem DecIn.short {w : World} {gi : Nat} {x : Itm} {v1 v2 v3 : Value} {s : ByteArray} {b : Bool} {wr : World} (h : DecIn w gi x v1 v2 v3 s b wr) : DecIn w gi x v1 v2 v3 s true (wr.setCell ⟨w.heap.size + 1, 1, none⟩ (.bool true)) :=
  h.read (Whole.set_ h.rd 1 _) ((Fr.refl _ _).setCell (p := ⟨w.heap.size + 1, 1, none⟩) (.inl (by simp)) _)

def set5 (w : World) (o : Nat) (a b c d e : Value) : World := ((((w.setCell ⟨o, 0, none⟩ a).setCell ⟨o, 1, none⟩ b).setCell ⟨o, 2, none⟩ c).setCell ⟨o, 3, none⟩ d).setCell ⟨o, 4, none⟩ e

theorem DecIn.end5 {w : World} {gi : Nat} {x : Itm} {v1 v2 v3 : Value} {s : ByteArray} {b0 : Bool} {wr : World} (h : DecIn w gi x v1 v2 v3 s b0 wr) (a b c d e : Value) : Fr [] w (set5 wr w.heap.size a b c d e) :=
  ((((h.fr.setCell (p := ⟨w.heap.size, 0, none⟩) (.inr (Nat.le_refl _)) _).setCell (p := ⟨w.heap.size, 1, none⟩) (.inr (Nat.le_refl _)) _).setCell (p := ⟨w.heap.size, 2, none⟩) (.inr (Nat.le_refl _)) _).setCell (p := ⟨w.heap.size, 3, none⟩) (.inr (Nat.le_refl _)) _).setCell (p := ⟨w.heap.size, 4, none⟩) (.inr (Nat.le_refl _)) _

theorem own_set5 {w : World} {base e0 size n : Nat} {v : Value} {xs : List Value} {o T : Nat} {cs : List Value} (h : w.ownsRow base e0 size v n xs) (hw : Whole w o T cs) (hT : T ≠ e0) (a b c d e : Value) : (set5 w o a b c d e).ownsRow base e0 size v n xs := by
  have hn := own_ne h hw hT
  exact own_set _ (own_set _ (own_set _ (own_set _ (own_set _ h hn) hn) hn) hn) hn

theorem ItemO.set5 {w : World} {base : Nat} {v : Value} {x : Itm} {o : Nat} {cs : List Value} (h : ItemO w base v x) (hw : Whole w o 33 cs) (a b c d e : Value) : ItemO (set5 w o a b c d e) base v x := by
  obtain ⟨v1, v2, v3, rfl, o1, o2, o3⟩ := h
  exact ⟨v1, v2, v3, rfl, own_set5 o1 hw (by decide) _ _ _ _ _, own_set5 o2 hw (by decide) _ _ _ _ _, own_set5 o3 hw (by decide) _ _ _ _ _⟩

theorem ItemO.base {w : World} {base base' : Nat} {v : Value} {x : Itm} (h : ItemO w base v x) (hb : base' ≤ base) : ItemO w base' v x := by
  obtain ⟨v1, v2, v3, rfl, o1, o2, o3⟩ := h
  exact ⟨v1, v2, v3, rfl, own_base o1 hb, own_base o2 hb, own_base o3 hb⟩

theorem DecIn.val5 {w : World} {gi : Nat} {x : Itm} {v1 v2 v3 : Value} {s : ByteArray} {b0 : Bool} {wr : World} (h : DecIn w gi x v1 v2 v3 s b0 wr) (a b c d e : Value) : ItemO (set5 wr w.heap.size a b c d e) w.heap.size (.agg #[.int .i64 x.kind, .string x.text, v1, v2, v3]) x :=
  (h.val.set5 h.out _ _ _ _ _).base (by have := h.le; omega)

set_option maxHeartbeats 2000000 in
set_option maxRecDepth 100000 in
theorem decode_any (s : ByteArray) (w : World) (hs : s.size ≤ 281474976710656) : Calls Try.prog 18 #[.string s] w (DecPost s w) := by
  have r0 : Rd ((w.alloc (.cells #[.int .i64 0, .string ⟨#[]⟩, .slice none 0 0, .slice none 0 0, .slice none 0 0] 33)).alloc (.cells #[.string s, .bool false] 78)) (w.heap.size + 1) s false := by
    have := Whole.new (w.alloc (.cells #[.int .i64 0, .string ⟨#[]⟩, .slice none 0 0, .slice none 0 0, .slice none 0 0] 33)) 78 [.string s, .bool false]
    simpa [Rd] using this
  have N1 := Lib.hid (num1s_any (w.heap.size + 1) s false _ r0 hs)
  go_enter Try.func18, Try.ntmps18
  go_wp2_with fail
  refine N1.out.mono ?_
  rintro e w1 ⟨n, r, b1, rfl, hr1, f1, hread1, hn, hrs⟩
  have d0 : DecIn w w1.heap.size (newI n) (.slice none 0 0) (.slice none 0 0) (.slice none 0 0) r b1 (w1.alloc (.cells #[.int .i64 n, .string ⟨#[]⟩, .slice none 0 0, .slice none 0 0, .slice none 0 0] 33)) := by
    have hz := f1.size
    simp at hz
    refine ⟨((Whole.new w _ _).alloc _ |>.fr f1 (by simp)).alloc _, Whole.alloc hr1 _, ⟨Whole.new w1 _ _, World.ownsRow_nil _ _ _ _, ⟨rfl, .inl ⟨rfl, rfl⟩⟩, ⟨rfl, .inl ⟨rfl, rfl⟩⟩⟩, by omega, by simp, ?_, newI_small n (by omega)⟩
    exact ((((Fr.refl [] w).alloc _).alloc _).step f1 (by intro k hk; simp at hk; subst hk; exact .inr (by omega))).alloc _
  have HR := Lib.hid hread1
  have D0 := Lib.hid d0
  have x0 : World.cell? _ ⟨w1.heap.size, 0, none⟩ = some (Value.int .i64 (n : Int)) := d0.gr.whole.cell 0
  have e0 := Whole.cell d0.rd 0
  have e1 := Whole.cell d0.rd 1
  clear d0 hread1 hr1 f1 N1 r0
  by_cases n1 : n = 1
  · have q1 : ((n : Int) == 1) = true := by simp [n1]
    have HN1 := Lib.hid n1
    clear n1
    have T := Lib.hid (fun W (hW : Rd W (w.heap.size + 1) r b1) => take_yes (w.heap.size + 1) r.size r b1 W hW (by omega) (by omega))
    rw [extract_all, extract_none] at T
    go_wp2_with fail
    refine (T.out _ D0.out.rd).mono ?_
    rintro e w2 ⟨rfl, hr2, f2⟩
    have d2 := D0.out.read hr2 f2
    have y1 : World.cell? _ ⟨w1.heap.size, 1, none⟩ = some (Value.string ⟨#[]⟩) := d2.gr.whole.cell 1
    have z1 := d2.gr.whole.frozen 1
    have D2 := Lib.hid (d2.text r (by omega))
    clear d2 hr2 f2 x0 e0 e1
    cases b1
    · have HDEC := Lib.hid (dec_text HR.out HN1.out)
      obtain ⟨a0, a1, a2, a3, a4⟩ := five D2.out.out
      obtain ⟨b0, b2, b3, b4, b5⟩ := fiveF D2.out.out
      have e0 := Whole.cell D2.out.rd 0
      have e1 := Whole.cell D2.out.rd 1
      have x0 : World.cell? _ ⟨w1.heap.size, 0, none⟩ = some (Value.int .i64 (n : Int)) := D2.out.gr.whole.cell 0
      have x1 : World.cell? _ ⟨w1.heap.size, 1, none⟩ = some (Value.string r) := D2.out.gr.whole.cell 1
      have x2 : World.cell? _ ⟨w1.heap.size, 2, none⟩ = some (.slice none 0 0 : Value) := D2.out.gr.whole.cell 2
      have x3 : World.cell? _ ⟨w1.heap.size, 3, none⟩ = some (.slice none 0 0 : Value) := D2.out.gr.whole.cell 3
      have x4 : World.cell? _ ⟨w1.heap.size, 4, none⟩ = some (.slice none 0 0 : Value) := D2.out.gr.whole.cell 4
      have C := Lib.hid (fun W (hD : DecIn w w1.heap.size { newI n with text := r } (.slice none 0 0) (.slice none 0 0) (.slice none 0 0) ⟨#[]⟩ false W) => itemCheck_any { newI n with text := r } (.agg #[.int .i64 (n : Int), .string r, .slice none 0 0, .slice none 0 0, .slice none 0 0]) W W.heap.size hD.small (Nat.le_refl _) hD.val.item)
      have HC2 := Lib.hid (fun hc => dec_bad HDEC.out hc)
      have HC3 := Lib.hid (fun hc => dec_ok HDEC.out hc)
      generalize checkItm { newI n with text := r } = c at *
      by_cases hc : c = 0
      · subst hc
        have N := Lib.hid (HC3.out rfl)
        go_wp2_with fail
        refine (C.out _ D2.out).mono ?_
        rintro e w9 ⟨rfl, f9⟩
        have D9 := Lib.hid (D2.out.fr0 f9)
        clear a0 a1 a2 a3 a4 b0 b2 b3 b4 b5 e0 e1 x0 x1 x2 x3 x4
        obtain ⟨a0, a1, a2, a3, a4⟩ := five D9.out.out
        obtain ⟨b0, b2, b3, b4, b5⟩ := fiveF D9.out.out
        have e0 := Whole.cell D9.out.rd 0
        have e1 := Whole.cell D9.out.rd 1
        have x0 : World.cell? _ ⟨w1.heap.size, 0, none⟩ = some (.int .i64 (n : Int) : Value) := D9.out.gr.whole.cell 0
        have x1 : World.cell? _ ⟨w1.heap.size, 1, none⟩ = some (.string r : Value) := D9.out.gr.whole.cell 1
        have x2 : World.cell? _ ⟨w1.heap.size, 2, none⟩ = some (.slice none 0 0 : Value) := D9.out.gr.whole.cell 2
        have x3 : World.cell? _ ⟨w1.heap.size, 3, none⟩ = some (.slice none 0 0 : Value) := D9.out.gr.whole.cell 3
        have x4 : World.cell? _ ⟨w1.heap.size, 4, none⟩ = some (.slice none 0 0 : Value) := D9.out.gr.whole.cell 4
        go_wp2
        refine bodyPost_ret (v := .tuple #[.agg #[.int .i64 (n : Int), .string r, .slice none 0 0, .slice none 0 0, .slice none 0 0], .int .i64 0]) (by simp [results, Try.results18, go_sem, a0, a1, a2, a3, a4]) rfl ?_
        refine ⟨_, by rw [N.out.1], by rw [N.out.2]; exact D9.out.val5 _ _ _ _ _, D9.out.end5 _ _ _ _ _⟩
      · have q : (c != 0) = true := by simpa using hc
        have N := Lib.hid (HC2.out hc)
        clear hc
        go_wp2_with fail
        refine (C.out _ D2.out).mono ?_
        rintro e w9 ⟨rfl, f9⟩
        have D9 := Lib.hid (D2.out.fr0 f9)
        clear a0 a1 a2 a3 a4 b0 b2 b3 b4 b5 e0 e1 x0 x1 x2 x3 x4
        obtain ⟨a0, a1, a2, a3, a4⟩ := five D9.out.out
        obtain ⟨b0, b2, b3, b4, b5⟩ := fiveF D9.out.out
        have e0 := Whole.cell D9.out.rd 0
        have e1 := Whole.cell D9.out.rd 1
        go_wp2
        refine bodyPost_ret (v := .tuple #[.agg #[.int .i64 0, .string ⟨#[]⟩, .slice none 0 0, .slice none 0 0, .slice none 0 0], .int .i64 c]) (by simp [results, Try.results18, go_sem, a0, a1, a2, a3, a4]) rfl ?_
        refine ⟨_, by rw [N.out.1], by rw [N.out.2]; exact ItemO.nothing _ _, D9.out.end5 _ _ _ _ _⟩
    · have N := Lib.hid (dec_no (dec_none1 HR.out))
      obtain ⟨a0, a1, a2, a3, a4⟩ := five D2.out.out
      obtain ⟨b0, b2, b3, b4, b5⟩ := fiveF D2.out.out
      have e0 := Whole.cell D2.out.rd 0
      have e1 := Whole.cell D2.out.rd 1
      go_wp2
      refine bodyPost_ret (v := .tuple #[.agg #[.int .i64 0, .string ⟨#[]⟩, .slice none 0 0, .slice none 0 0, .slice none 0 0], .int .i64 1]) (by simp [results, Try.results18, go_sem, a0, a1, a2, a3, a4]) rfl ?_
      refine ⟨_, by rw [N.out.1], by rw [N.out.2]; exact ItemO.nothing _ _, D2.out.end5 _ _ _ _ _⟩
  have q1 : ((n : Int) == 1) = false := by simp; omega
  have I := Lib.hid (fun W => within_any (n : Int) 2 5 W)
  by_cases n2 : 2 ≤ n ∧ n ≤ 5
  · rw [show (decide (2 ≤ (n : Int)) && decide ((n : Int) ≤ 5)) = true by simp; omega] at I
    have HN2 := Lib.hid n2
    clear n1 n2
    have N2 := Lib.hid (fun W (hW : Rd W (w.heap.size + 1) r b1) => num1s_any (w.heap.size + 1) r b1 W hW (by omega))
    go_wp2_with fail
    refine (I.out _).mono ?_
    rintro e w2 ⟨rfl, rfl⟩
    go_wp2_with fail
    refine (N2.out _ D0.out.rd).mono ?_
    rintro e w2 ⟨m, r2, b2, rfl, hr2, f2, hread2, hm, hrs2⟩
    have D2 := Lib.hid (D0.out.read hr2 f2)
    have HR2 := Lib.hid hread2
    clear hr2 f2 x0 e0 e1 hread2
    go_wp2
    go_loopg [6] (2 * m) (fun gh i wr => ∃ (j : Nat) (x : Itm) (v1 v2 v3 : Value) (s' : ByteArray) (b' : Bool), gh = 2 * j ∧ i = .int .i64 j ∧ x.kind = n ∧ many x + j ≤ 255 ∧ s'.size ≤ 281474976710656 ∧ LoopR j m x (newI n) s' r2 b2 b' ∧ DecIn w w1.heap.size x v1 v2 v3 s' b' wr)
    case atStart => exact ⟨m, newI n, _, _, _, r2, b2, rfl, rfl, rfl, by show 0 + 0 + 0 + m ≤ 255; omega, by omega, loopR_start _ _ _ _, D2.out⟩
    clear D2
    case round =>
    obtain ⟨j, x, v1, v2, v3, s', b', rfl, rfl, hxk, hmj, hss, hloop, hD⟩ := hrel
    have HL := Lib.hid hloop
    have D3 := Lib.hid hD
    have HXK := Lib.hid hxk
    clear hloop hD hxk
    have e0 := Whole.cell D3.out.rd 0
    have e1 := Whole.cell D3.out.rd 1
    cases b'
    · rcases j with _ | j
      · clear e0 e1
        by_cases hz : s'.size = 0
        · obtain rfl := nilOf hz
          have HDEC := Lib.hid ((dec_els HR.out HN2.out HR2.out HL.out).trans (if_pos rfl))
          clear hz
          obtain ⟨A1, c1, rfl⟩ := sl_form (own_sl D3.out.gr.o1)
          obtain ⟨A2, c2, rfl⟩ := sl_form (own_sl D3.out.gr.o2)
          obtain ⟨A3, c3, rfl⟩ := sl_form (own_sl D3.out.gr.o3)
          obtain ⟨a0, a1, a2, a3, a4⟩ := five D3.out.out
          obtain ⟨b0, b2, b3, b4, b5⟩ := fiveF D3.out.out
          have e0 := Whole.cell D3.out.rd 0
          have e1 := Whole.cell D3.out.rd 1
          have x0 : World.cell? _ ⟨w1.heap.size, 0, none⟩ = some (Value.int .i64 x.kind) := D3.out.gr.whole.cell 0
          have x1 : World.cell? _ ⟨w1.heap.size, 1, none⟩ = some (Value.string x.text) := D3.out.gr.whole.cell 1
          have x2 : World.cell? _ ⟨w1.heap.size, 2, none⟩ = some (.slice A1 x.list.length c1 : Value) := D3.out.gr.whole.cell 2
          have x3 : World.cell? _ ⟨w1.heap.size, 3, none⟩ = some (.slice A2 x.pairs.length c2 : Value) := D3.out.gr.whole.cell 3
          have x4 : World.cell? _ ⟨w1.heap.size, 4, none⟩ = some (.slice A3 x.scores.length c3 : Value) := D3.out.gr.whole.cell 4
          have C := Lib.hid (fun W (hD : DecIn w w1.heap.size x (.slice A1 x.list.length c1) (.slice A2 x.pairs.length c2) (.slice A3 x.scores.length c3) ⟨#[]⟩ false W) => itemCheck_any x (.agg #[.int .i64 x.kind, .string x.text, .slice A1 x.list.length c1, .slice A2 x.pairs.length c2, .slice A3 x.scores.length c3]) W W.heap.size hD.small (Nat.le_refl _) hD.val.item)
          have HC2 := Lib.hid (fun hc => dec_bad HDEC.out hc)
          have HC3 := Lib.hid (fun hc => dec_ok HDEC.out hc)
          generalize checkItm x = c at *
          by_cases hc : c = 0
          · subst hc
            have N := Lib.hid (HC3.out rfl)
            go_wp2_with fail
            refine (C.out _ D3.out).mono ?_
            rintro e w9 ⟨rfl, f9⟩
            have D9 := Lib.hid (D3.out.fr0 f9)
            clear a0 a1 a2 a3 a4 b0 b2 b3 b4 b5 e0 e1 x0 x1 x2 x3 x4
            obtain ⟨a0, a1, a2, a3, a4⟩ := five D9.out.out
            obtain ⟨b0, b2, b3, b4, b5⟩ := fiveF D9.out.out
            have e0 := Whole.cell D9.out.rd 0
            have e1 := Whole.cell D9.out.rd 1
            have x0 : World.cell? _ ⟨w1.heap.size, 0, none⟩ = some (.int .i64 x.kind : Value) := D9.out.gr.whole.cell 0
            have x1 : World.cell? _ ⟨w1.heap.size, 1, none⟩ = some (.string x.text : Value) := D9.out.gr.whole.cell 1
            have x2 : World.cell? _ ⟨w1.heap.size, 2, none⟩ = some (.slice A1 x.list.length c1 : Value) := D9.out.gr.whole.cell 2
            have x3 : World.cell? _ ⟨w1.heap.size, 3, none⟩ = some (.slice A2 x.pairs.length c2 : Value) := D9.out.gr.whole.cell 3
            have x4 : World.cell? _ ⟨w1.heap.size, 4, none⟩ = some (.slice A3 x.scores.length c3 : Value) := D9.out.gr.whole.cell 4
            go_wp2
            refine bodyPost_ret (v := .tuple #[.agg #[.int .i64 x.kind, .string x.text, .slice A1 x.list.length c1, .slice A2 x.pairs.length c2, .slice A3 x.scores.length c3], .int .i64 0]) (by simp [results, Try.results18, go_sem, a0, a1, a2, a3, a4]) rfl ?_
            refine ⟨_, by rw [N.out.1], by rw [N.out.2]; exact D9.out.val5 _ _ _ _ _, D9.out.end5 _ _ _ _ _⟩
          · have q : (c != 0) = true := by simpa using hc
            have N := Lib.hid (HC2.out hc)
            clear hc
            go_wp2_with fail
            refine (C.out _ D3.out).mono ?_
            rintro e w9 ⟨rfl, f9⟩
            have D9 := Lib.hid (D3.out.fr0 f9)
            clear a0 a1 a2 a3 a4 b0 b2 b3 b4 b5 e0 e1 x0 x1 x2 x3 x4
            obtain ⟨a0, a1, a2, a3, a4⟩ := five D9.out.out
            obtain ⟨b0, b2, b3, b4, b5⟩ := fiveF D9.out.out
            have e0 := Whole.cell D9.out.rd 0
            have e1 := Whole.cell D9.out.rd 1
            go_wp2
            refine bodyPost_ret (v := .tuple #[.agg #[.int .i64 0, .string ⟨#[]⟩, .slice none 0 0, .slice none 0 0, .slice none 0 0], .int .i64 c]) (by simp [results, Try.results18, go_sem, a0, a1, a2, a3, a4]) rfl ?_
            refine ⟨_, by rw [N.out.1], by rw [N.out.2]; exact ItemO.nothing _ _, D9.out.end5 _ _ _ _ _⟩
        · obtain ⟨yT1, yT2⟩ := neNil hz
          have N := Lib.hid (dec_no ((dec_els HR.out HN2.out HR2.out HL.out).trans (if_neg hz)))
          clear hz
          obtain ⟨a0, a1, a2, a3, a4⟩ := five D3.out.out
          obtain ⟨b0, b2, b3, b4, b5⟩ := fiveF D3.out.out
          have e0 := Whole.cell D3.out.rd 0
          have e1 := Whole.cell D3.out.rd 1
          go_wp2
          refine bodyPost_ret (v := .tuple #[.agg #[.int .i64 0, .string ⟨#[]⟩, .slice none 0 0, .slice none 0 0, .slice none 0 0], .int .i64 1]) (by simp [results, Try.results18, go_sem, a0, a1, a2, a3, a4]) rfl ?_
          refine ⟨_, by rw [N.out.1], by rw [N.out.2]; exact ItemO.nothing _ _, D3.out.end5 _ _ _ _ _⟩
      · skip
        have hj : 0 < ((j + 1 : Nat) : Int) := by omega
        have hgt := D3.out.lt
        have E := Lib.hid (fun W (hD : DecIn w w1.heap.size x v1 v2 v3 s' false W) => element_any w1.heap.size (w.heap.size + 1) (w1.heap.size + 1) x v1 v2 v3 s' false W hD.gr hD.rd hss (by omega) hD.lt (by omega) (by have := hD.le; omega))
        go_wp2_with fail
        refine (E.out _ D3.out).mono ?_
        rintro e w4 ⟨x', v1', v2', v3', s'', b'', rfl, hG, hRd, hsz, hk', hm', hread, hfb, hsm⟩
        have D4 := Lib.hid (D3.out.el hG hRd hfb (hsm D3.out.small))
        have HL2 := Lib.hid (loopR_step HL.out hread)
        have HK2 := Lib.hid (hk'.trans HXK.out)
        clear hG hRd hread hfb hsm e0 e1 hk'
        go_wp2
        go_roundg (2 * j)
        case measure => omega
        case rel => exact ⟨j, x', v1', v2', v3', s'', b'', rfl, by simp, HK2.out, by omega, by omega, HL2.out, D4.out⟩
    · have N := Lib.hid (dec_no (dec_short HR.out HN2.out HR2.out HL.out))
      clear e0 e1
      by_cases hj0 : 0 < j
      · skip
        obtain ⟨a0, a1, a2, a3, a4⟩ := five D3.out.out
        obtain ⟨b0, b2, b3, b4, b5⟩ := fiveF D3.out.out
        have e0 := Whole.cell D3.out.rd 0
        have e1 := Whole.cell D3.out.rd 1
        go_wp2
        refine bodyPost_ret (v := .tuple #[.agg #[.int .i64 0, .string ⟨#[]⟩, .slice none 0 0, .slice none 0 0, .slice none 0 0], .int .i64 1]) (by simp [results, Try.results18, go_sem, a0, a1, a2, a3, a4]) rfl ?_
        refine ⟨_, by rw [N.out.1], by rw [N.out.2]; exact ItemO.nothing _ _, D3.out.end5 _ _ _ _ _⟩
      · skip
        obtain ⟨a0, a1, a2, a3, a4⟩ := five D3.out.out
        obtain ⟨b0, b2, b3, b4, b5⟩ := fiveF D3.out.out
        have e0 := Whole.cell D3.out.rd 0
        have e1 := Whole.cell D3.out.rd 1
        go_wp2
        refine bodyPost_ret (v := .tuple #[.agg #[.int .i64 0, .string ⟨#[]⟩, .slice none 0 0, .slice none 0 0, .slice none 0 0], .int .i64 1]) (by simp [results, Try.results18, go_sem, a0, a1, a2, a3, a4]) rfl ?_
        refine ⟨_, by rw [N.out.1], by rw [N.out.2]; exact ItemO.nothing _ _, D3.out.end5 _ _ _ _ _⟩
  · rw [show (decide (2 ≤ (n : Int)) && decide ((n : Int) ≤ 5)) = false by simp; omega] at I
    have N := Lib.hid (dec_no (dec_other HR.out n1 n2))
    clear n1 n2
    have z1 := Whole.frozen D0.out.rd 1
    go_wp2_with fail
    refine (I.out _).mono ?_
    rintro e w2 ⟨rfl, rfl⟩
    have D2 := Lib.hid D0.out.short
    clear x0 e1
    obtain ⟨y0, y1, y2, y3, y4⟩ := five D0.out.out
    obtain ⟨k0, k2, k3, k4, k5⟩ := fiveF D0.out.out
    have ee := Whole.cell D0.out.rd 1
    obtain ⟨a0, a1, a2, a3, a4⟩ := five D2.out.out
    obtain ⟨b0, b2, b3, b4, b5⟩ := fiveF D2.out.out
    have e0 := Whole.cell D2.out.rd 0
    have e1 := Whole.cell D2.out.rd 1
    go_wp2
    refine bodyPost_ret (v := .tuple #[.agg #[.int .i64 0, .string ⟨#[]⟩, .slice none 0 0, .slice none 0 0, .slice none 0 0], .int .i64 1]) (by simp [results, Try.results18, go_sem, a0, a1, a2, a3, a4]) rfl ?_
    refine ⟨_, by rw [N.out.1], by rw [N.out.2]; exact ItemO.nothing _ _, D2.out.end5 _ _ _ _ _⟩
end Go.Proofs.Ytfkfdmonnebmmaa
