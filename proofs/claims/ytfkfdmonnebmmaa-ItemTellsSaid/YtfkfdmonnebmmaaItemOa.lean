/- What the reference's ItemOf keeps in memory. -/
import Derived.Test.YtfkfdmonnebmmaaItemTk
import Derived.Test.YtfkfdmonnebmmaaItemU
set_option linter.unusedVariables false
set_option linter.unusedSimpArgs false
namespace Go.Proofs.Ytfkfdmonnebmmaa
open Go.RowKit

theorem Gr.readT {gi base g : Nat} {x : Itm} {v1 v2 v3 : Value} {w w' : World} {s : ByteArray} {b : Bool} (h : Gr gi base x v1 v2 v3 w) (hr : Tk w g s b) (hf : Fr [g] w w') : Gr gi base x v1 v2 v3 w' := by
  have e : ∀ {v : Value}, v.ownBlock ≠ some g → ∀ k, v.ownBlock = some k → k ∉ [g] := by
    intro v hv k hk hm
    rw [List.mem_singleton] at hm
    exact hv (hm ▸ hk)
  exact ⟨h.whole.fr hf (by simpa using h.whole.ne_ hr (by decide)), own_fr h.o1 hf (e (own_ne h.o1 hr (by decide))), own_fr h.o2 hf (e (own_ne h.o2 hr (by decide))), own_fr h.o3 hf (e (own_ne h.o3 hr (by decide)))⟩

/-- the blocks of ItemOf: the answer's, the taker's, the item's. -/
structure OfIn (w : World) (gi : Nat) (x : Itm) (v1 v2 v3 : Value) (s : ByteArray) (b : Bool) (wr : World) : Prop where
  out : Whole wr w.heap.size 33 [.int .i64 0, .string ⟨#[]⟩, .slice none 0 0, .slice none 0 0, .slice none 0 0]
  rd : Tk wr (w.heap.size + 1) s b
  gr : Gr gi (gi + 1) x v1 v2 v3 wr
  le : w.heap.size + 1 < gi
  lt : gi < wr.heap.size
  fr : Fr [] w wr
  small : x.Small

theorem OfIn.read {w : World} {gi : Nat} {x : Itm} {v1 v2 v3 : Value} {s s' : ByteArray} {b b' : Bool} {wr w1 : World} (h : OfIn w gi x v1 v2 v3 s b wr) (hr : Tk w1 (w.heap.size + 1) s' b') (hf : Fr [w.heap.size + 1] wr w1) : OfIn w gi x v1 v2 v3 s' b' w1 :=
  ⟨h.out.fr hf (by simp), hr, h.gr.readT h.rd hf, h.le, Nat.lt_of_lt_of_le h.lt hf.size, h.fr.step hf (by intro k hk; simp at hk; subst hk; exact .inr (by omega)), h.small⟩

theorem OfIn.el {w : World} {gi : Nat} {x x' : Itm} {v1 v2 v3 v1' v2' v3' : Value} {s s' : ByteArray} {b b' : Bool} {wr w1 : World} (h : OfIn w gi x v1 v2 v3 s b wr) (hg : Gr gi (gi + 1) x' v1' v2' v3' w1) (hr : Tk w1 (w.heap.size + 1) s' b')
    (hf : FrB [w.heap.size + 1, gi] (gi + 1) wr w1) (hs : x'.Small) : OfIn w gi x' v1' v2' v3' s' b' w1 := by
  have hle := h.le
  refine ⟨hf.whole h.out (by omega) (by simp; omega), hr, hg, h.le, Nat.lt_of_lt_of_le h.lt hf.size, ?_, hs⟩
  have hz := h.fr.size
  have := hf.belowOf (D := w.heap.size) hz (by omega) (by intro k hk; simp at hk; rcases hk with rfl | rfl <;> omega)
  exact ⟨this.os.trans h.fr.os, this.tape.trans h.fr.tape, this.output.trans h.fr.output, Nat.le_trans hz this.size, fun k hk _ => (this.block k hk).trans (h.fr.block k hk (by simp))⟩

theorem OfIn.val {w : World} {gi : Nat} {x : Itm} {v1 v2 v3 : Value} {s : ByteArray} {b : Bool} {wr : World} (h : OfIn w gi x v1 v2 v3 s b wr) : ItemO wr (gi + 1) (.agg #[.int .i64 x.kind, .string x.text, v1, v2, v3]) x :=
  ⟨_, _, _, rfl, h.gr.o1, h.gr.o2, h.gr.o3⟩

/-- a text is laid into the item. -/
theorem OfIn.text {w : World} {gi : Nat} {x : Itm} {v1 v2 v3 : Value} {s : ByteArray} {b : Bool} {wr : World} (h : OfIn w gi x v1 v2 v3 s b wr) (t : ByteArray) (ht : t.size ≤ 281474976710656) :
    OfIn w gi { x with text := t } v1 v2 v3 s b (wr.setCell ⟨gi, 1, none⟩ (.string t)) := by
  have hle := h.le
  exact ⟨h.out.far (p := ⟨gi, 1, none⟩) (by show w.heap.size ≠ gi; omega) _, Whole.far h.rd (p := ⟨gi, 1, none⟩) (by show w.heap.size + 1 ≠ gi; omega) _,
    ⟨h.gr.whole.set_ 1 _, own_set _ h.gr.o1 (own_ne h.gr.o1 h.gr.whole (by decide)), own_set _ h.gr.o2 (own_ne h.gr.o2 h.gr.whole (by decide)), own_set _ h.gr.o3 (own_ne h.gr.o3 h.gr.whole (by decide))⟩,
    h.le, by simpa [World.setCell] using h.lt, h.fr.setCell (p := ⟨gi, 1, none⟩) (.inr (by show w.heap.size ≤ gi; omega)) _, ⟨h.small.kind, ht, h.small.list, h.small.pairs, h.small.scores, h.small.texts, h.small.fields, h.small.members⟩⟩

theorem OfIn.fr0 {w : World} {gi : Nat} {x : Itm} {v1 v2 v3 : Value} {s : ByteArray} {b : Bool} {wr w1 : World} (h : OfIn w gi x v1 v2 v3 s b wr) (hf : Fr [] wr w1) : OfIn w gi x v1 v2 v3 s b w1 :=
  h.read (Whole.fr h.rd hf (by simp)) hf.up

theorem OfIn.end5 {w : World} {gi : Nat} {x : Itm} {v1 v2 v3 : Value} {s : ByteArray} {b0 : Bool} {wr : World} (h : OfIn w gi x v1 v2 v3 s b0 wr) (a b c d e : Value) : Fr [] w (set5 wr w.heap.size a b c d e) :=
  ((((h.fr.setCell (p := ⟨w.heap.size, 0, none⟩) (.inr (Nat.le_refl _)) _).setCell (p := ⟨w.heap.size, 1, none⟩) (.inr (Nat.le_refl _)) _).setCell (p := ⟨w.heap.size, 2, none⟩) (.inr (Nat.le_refl _)) _).setCell (p := ⟨w.heap.size, 3, none⟩) (.inr (Nat.le_refl _)) _).setCell (p := ⟨w.heap.size, 4, none⟩) (.inr (Nat.le_refl _)) _

theorem OfIn.val5 {w : World} {gi : Nat} {x : Itm} {v1 v2 v3 : Value} {s : ByteArray} {b0 : Bool} {wr : World} (h : OfIn w gi x v1 v2 v3 s b0 wr) (a b c d e : Value) : ItemO (set5 wr w.heap.size a b c d e) w.heap.size (.agg #[.int .i64 x.kind, .string x.text, v1, v2, v3]) x :=
  (h.val.set5 h.out _ _ _ _ _).base (by have := h.le; omega)


/-- no block from L on is the item's, or a row's of it. -/
structure Lim (L gi : Nat) (v1 v2 v3 : Value) : Prop where
  gi : gi < L
  l1 : ∀ k, v1.ownBlock = some k → k < L
  l2 : ∀ k, v2.ownBlock = some k → k < L
  l3 : ∀ k, v3.ownBlock = some k → k < L

theorem OfIn.lim {w : World} {gi : Nat} {x : Itm} {v1 v2 v3 : Value} {s : ByteArray} {b : Bool} {wr : World} (h : OfIn w gi x v1 v2 v3 s b wr) : Lim wr.heap.size gi v1 v2 v3 :=
  ⟨h.lt, fun k hk => (h.gr.o1.lt k hk).2, fun k hk => (h.gr.o2.lt k hk).2, fun k hk => (h.gr.o3.lt k hk).2⟩

theorem OfIn.alloc {w : World} {gi : Nat} {x : Itm} {v1 v2 v3 : Value} {s : ByteArray} {b : Bool} {wr : World} (h : OfIn w gi x v1 v2 v3 s b wr) (o : Obj) : OfIn w gi x v1 v2 v3 s b (wr.alloc o) :=
  h.fr0 ((Fr.refl [] wr).alloc o)

/-- a store into a block that came later. -/
theorem OfIn.set {w : World} {gi L : Nat} {x : Itm} {v1 v2 v3 : Value} {s : ByteArray} {b : Bool} {wr : World} (h : OfIn w gi x v1 v2 v3 s b wr) (hl : Lim L gi v1 v2 v3) {p : Addr} (hp : L ≤ p.block) (u : Value) : OfIn w gi x v1 v2 v3 s b (wr.setCell p u) := by
  have hle := h.le
  have hg := hl.gi
  have n : ∀ {v : Value}, (∀ k, v.ownBlock = some k → k < L) → v.ownBlock ≠ some p.block := fun hv e => by have := hv _ e; omega
  exact ⟨h.out.far (by omega) _, Whole.far h.rd (by omega) _, ⟨h.gr.whole.far (by omega) _, own_set _ h.gr.o1 (n hl.l1), own_set _ h.gr.o2 (n hl.l2), own_set _ h.gr.o3 (n hl.l3)⟩,
    h.le, by simpa [World.setCell] using h.lt, h.fr.setCell (.inr (by omega)) _, h.small⟩

section grow
variable {w W w3 : World} {gi g' cap : Nat} {x : Itm} {v1 v2 v3 : Value} {s : ByteArray} {b : Bool}
theorem OfIn.lists {t : ByteArray} (h : OfIn w gi x v1 v2 v3 s b W) (hk : (x.kind == 2 || x.kind == 3) = true ∨ True) (hm : x.list.length ≤ 1000) (ht : t.size ≤ 281474976710656)
    (how : w3.ownsRow (gi + 1) 9 1 (.slice (some ⟨g', 0, none⟩) (x.list.length + 1) cap) (x.list.length + 1) (textsV x.list ++ [.string t]))
    (hgr : (W.alloc (.cells #[.string t] 9)).grownBy w3 v1.ownBlock) (hW : Whole w3 gi 33 [.int .i64 x.kind, .string x.text, v1, v2, v3]) :
    OfIn w gi { x with list := x.list ++ [t] } (.slice (some ⟨g', 0, none⟩) (x.list.length + 1) cap) v2 v3 s b (w3.setCell ⟨gi, 2, none⟩ (.slice (some ⟨g', 0, none⟩) (x.list.length + 1) cap)) := by
  have G2 := h.gr
  have hon := h.gr.o1
  have o2 := (G2.o2.alloc (.cells #[.string t] 9)).kept hgr (own_own G2.o2 hon (by decide))
  have o3 := (G2.o3.alloc (.cells #[.string t] 9)).kept hgr (own_own G2.o3 hon (by decide))
  have R3 : Tk w3 (w.heap.size + 1) s b := Whole.grown (h.rd.alloc _) hgr (fun e => own_ne hon h.rd (by decide) e.symm)
  have hne : gi ≠ w.heap.size + 1 := G2.whole.ne_ h.rd (by decide)
  have FB : FrB [w.heap.size + 1, gi] (gi + 1) W w3 := ((FrB.refl [w.heap.size + 1, gi] (gi + 1) W).alloc _).grown hgr (fun k hk => .inr (hon.lt k hk).1)
  refine h.el ⟨?_, ?_, own_set _ o2 (own_ne o2 hW (by decide)), own_set _ o3 (own_ne o3 hW (by decide))⟩ (R3.far (p := ⟨gi, 2, none⟩) (Ne.symm hne) _) (FB.setCell (p := ⟨gi, 2, none⟩) (.inl (by simp)) _) ⟨h.small.kind, h.small.text, by simp; omega, h.small.pairs, h.small.scores, ?_, h.small.fields, h.small.members⟩
  · exact hW.set_ 2 (.slice (some ⟨g', 0, none⟩) (x.list.length + 1) cap)
  · have := own_set (p := ⟨gi, 2, none⟩) (.slice (some ⟨g', 0, none⟩) (x.list.length + 1) cap) how (own_ne how hW (by decide))
    rw [textsV_snoc]
    simpa using this
  · intro q hq
    rcases List.mem_append.1 hq with hq | hq
    · exact h.small.texts q hq
    · rw [List.mem_singleton.1 hq]; exact ht
theorem OfIn.pairs {t t2 : ByteArray} (h : OfIn w gi x v1 v2 v3 s b W) (hm : x.pairs.length ≤ 1000) (ht : t.size ≤ 281474976710656) (ht2 : t2.size ≤ 281474976710656)
    (how : w3.ownsRow (gi + 1) 64 2 (.slice (some ⟨g', 0, none⟩) (x.pairs.length + 1) cap) (x.pairs.length + 1) (pairsV x.pairs ++ [.string t, .string t2]))
    (hgr : (W.alloc (.cells #[.string t, .string t2] 64)).grownBy w3 v2.ownBlock) (hW : Whole w3 gi 33 [.int .i64 x.kind, .string x.text, v1, v2, v3]) :
    OfIn w gi { x with pairs := x.pairs ++ [(t, t2)] } v1 (.slice (some ⟨g', 0, none⟩) (x.pairs.length + 1) cap) v3 s b (w3.setCell ⟨gi, 3, none⟩ (.slice (some ⟨g', 0, none⟩) (x.pairs.length + 1) cap)) := by
  have G2 := h.gr
  have hon := h.gr.o2
  have o1 := (G2.o1.alloc (.cells #[.string t, .string t2] 64)).kept hgr (own_own G2.o1 hon (by decide))
  have o3 := (G2.o3.alloc (.cells #[.string t, .string t2] 64)).kept hgr (own_own G2.o3 hon (by decide))
  have R3 : Tk w3 (w.heap.size + 1) s b := Whole.grown (h.rd.alloc _) hgr (fun e => own_ne hon h.rd (by decide) e.symm)
  have hne : gi ≠ w.heap.size + 1 := G2.whole.ne_ h.rd (by decide)
  have FB : FrB [w.heap.size + 1, gi] (gi + 1) W w3 := ((FrB.refl [w.heap.size + 1, gi] (gi + 1) W).alloc _).grown hgr (fun k hk => .inr (hon.lt k hk).1)
  refine h.el ⟨?_, own_set _ o1 (own_ne o1 hW (by decide)), ?_, own_set _ o3 (own_ne o3 hW (by decide))⟩ (R3.far (p := ⟨gi, 3, none⟩) (Ne.symm hne) _) (FB.setCell (p := ⟨gi, 3, none⟩) (.inl (by simp)) _) ⟨h.small.kind, h.small.text, h.small.list, by simp; omega, h.small.scores, h.small.texts, ?_, h.small.members⟩
  · exact hW.set_ 3 (.slice (some ⟨g', 0, none⟩) (x.pairs.length + 1) cap)
  · have := own_set (p := ⟨gi, 3, none⟩) (.slice (some ⟨g', 0, none⟩) (x.pairs.length + 1) cap) how (own_ne how hW (by decide))
    rw [pairsV_snoc]
    simpa using this
  · intro q hq
    rcases List.mem_append.1 hq with hq | hq
    · exact h.small.fields q hq
    · rw [List.mem_singleton.1 hq]; exact ⟨ht, ht2⟩
theorem OfIn.scores {t : Int} {t2 : ByteArray} (h : OfIn w gi x v1 v2 v3 s b W) (hm : x.scores.length ≤ 1000) (ht : -9223372036854775808 ≤ t ∧ t ≤ 9223372036854775807) (ht2 : t2.size ≤ 281474976710656)
    (how : w3.ownsRow (gi + 1) 84 2 (.slice (some ⟨g', 0, none⟩) (x.scores.length + 1) cap) (x.scores.length + 1) (scoresV x.scores ++ [.int .i64 t, .string t2]))
    (hgr : (W.alloc (.cells #[.int .i64 t, .string t2] 84)).grownBy w3 v3.ownBlock) (hW : Whole w3 gi 33 [.int .i64 x.kind, .string x.text, v1, v2, v3]) :
    OfIn w gi { x with scores := x.scores ++ [(t, t2)] } v1 v2 (.slice (some ⟨g', 0, none⟩) (x.scores.length + 1) cap) s b (w3.setCell ⟨gi, 4, none⟩ (.slice (some ⟨g', 0, none⟩) (x.scores.length + 1) cap)) := by
  have G2 := h.gr
  have hon := h.gr.o3
  have o1 := (G2.o1.alloc (.cells #[.int .i64 t, .string t2] 84)).kept hgr (own_own G2.o1 hon (by decide))
  have o2 := (G2.o2.alloc (.cells #[.int .i64 t, .string t2] 84)).kept hgr (own_own G2.o2 hon (by decide))
  have R3 : Tk w3 (w.heap.size + 1) s b := Whole.grown (h.rd.alloc _) hgr (fun e => own_ne hon h.rd (by decide) e.symm)
  have hne : gi ≠ w.heap.size + 1 := G2.whole.ne_ h.rd (by decide)
  have FB : FrB [w.heap.size + 1, gi] (gi + 1) W w3 := ((FrB.refl [w.heap.size + 1, gi] (gi + 1) W).alloc _).grown hgr (fun k hk => .inr (hon.lt k hk).1)
  refine h.el ⟨?_, own_set _ o1 (own_ne o1 hW (by decide)), own_set _ o2 (own_ne o2 hW (by decide)), ?_⟩ (R3.far (p := ⟨gi, 4, none⟩) (Ne.symm hne) _) (FB.setCell (p := ⟨gi, 4, none⟩) (.inl (by simp)) _) ⟨h.small.kind, h.small.text, h.small.list, h.small.pairs, by simp; omega, h.small.texts, h.small.fields, ?_⟩
  · exact hW.set_ 4 (.slice (some ⟨g', 0, none⟩) (x.scores.length + 1) cap)
  · have := own_set (p := ⟨gi, 4, none⟩) (.slice (some ⟨g', 0, none⟩) (x.scores.length + 1) cap) how (own_ne how hW (by decide))
    rw [scoresV_snoc]
    simpa using this
  · intro q hq
    rcases List.mem_append.1 hq with hq | hq
    · exact h.small.members q hq
    · rw [List.mem_singleton.1 hq]; exact ⟨ht, ht2⟩
end grow

/-- numbers of some bytes, one by one. -/
def readN : Nat → Nat → ByteArray → Option (Nat × ByteArray)
  | 0, m, s => some (m, s)
  | k + 1, m, s => (oneB s).bind fun p => readN k (256 * m + p.1) p.2
theorem oneB_none {s : ByteArray} (h : s.size < 1) : oneB s = none := if_pos h
theorem oneB_some {s : ByteArray} (h : ¬ s.size < 1) : oneB s = some (byteAt s 0, s.extract 1 s.size) := if_neg h
theorem readN_some {k m : Nat} {s : ByteArray} (h : ¬ s.size < 1) : readN (k + 1) m s = readN k (256 * m + byteAt s 0) (s.extract 1 s.size) := by
  show (oneB s).bind _ = _
  rw [oneB_some h, Option.bind_some]
theorem readN_none {k m : Nat} {s : ByteArray} (h : s.size < 1) : readN (k + 1) m s = none := by
  show (oneB s).bind _ = _
  rw [oneB_none h, Option.bind_none]
theorem extract_one (s : ByteArray) (k : Nat) (h : k < s.size) : (s.extract k s.size).extract 1 (s.extract k s.size).size = s.extract (k + 1) s.size := by
  rw [ByteArray.extract_extract]
  congr 1
  simp
  omega
theorem readN_short (s : ByteArray) (h : s.size < 4) : readN 4 0 s = none := by
  by_cases h0 : s.size < 1
  · exact readN_none h0
  rw [readN_some h0]
  by_cases h1 : s.size < 2
  · exact readN_none (by simp; omega)
  rw [readN_some (by simp; omega), extract_one s 1 (by omega)]
  by_cases h2 : s.size < 3
  · exact readN_none (by simp; omega)
  rw [readN_some (by simp; omega), extract_one s 2 (by omega)]
  exact readN_none (by simp; omega)
theorem readN_num (s : ByteArray) : readN 4 0 s = num4B s := by
  unfold num4B
  by_cases h4 : s.size < 4
  · rw [if_pos h4]
    exact readN_short s h4
  · rw [if_neg h4, readN_some (by omega), readN_some (by simp; omega), extract_one s 1 (by omega), readN_some (by simp; omega), extract_one s 2 (by omega), readN_some (by simp; omega), extract_one s 3 (by omega),
      byteAt_extract s 1 s.size 0 (by omega) (by omega), byteAt_extract s 2 s.size 0 (by omega) (by omega), byteAt_extract s 3 s.size 0 (by omega) (by omega)]
    show some _ = some _
    congr 2
    simp only [Nat.add_zero]
    omega

/-- what is left of a number's bytes. -/
def NumR (j m : Nat) (s' s0 : ByteArray) (b' : Bool) : Prop := (b' = false → readN j m s' = num4B s0) ∧ (b' = true → num4B s0 = none)
theorem numR_start (s : ByteArray) : NumR 4 0 s s false := ⟨fun _ => readN_num s, (fun h => by cases h)⟩
theorem numR_step {j m v : Nat} {s' s'' s0 : ByteArray} {b' b'' : Bool} (h : NumR (j + 1) m s' s0 b') (hr : Read2 (oneB s') v s'' b' b'') : NumR j (256 * m + v) s'' s0 b'' := by
  cases b' with
  | false =>
    have h1 := hr.1 rfl
    have h2 := h.1 rfl
    unfold readN at h2
    cases b'' with
    | false => rw [read1_false h1, Option.bind_some] at h2; exact ⟨fun _ => h2, (fun h => by cases h)⟩
    | true => rw [read1_true h1, Option.bind_none] at h2; exact ⟨(fun h => by cases h), fun _ => h2.symm⟩
  | true =>
    have := hr.2 rfl
    subst this
    exact ⟨(fun h => by cases h), fun _ => h.2 rfl⟩
theorem numR_end {m : Nat} {s' s0 : ByteArray} {b' : Bool} (h : NumR 0 m s' s0 b') : Read1 (num4B s0) m s' false b' := by
  cases b' with
  | false => rw [← h.1 rfl]; exact ⟨rfl, rfl, rfl⟩
  | true => rw [h.2 rfl]; exact rfl

/-- one thing after another. -/
theorem read12 {α β : Type} {o1 : Option (α × ByteArray)} {f2 : ByteArray → Option (β × ByteArray)} {t : α} {r : ByteArray} {t2 : β} {r2 : ByteArray} {b1 b2 : Bool} (mk : α → β → Itm)
    (h1 : Read1 o1 t r false b1) (h2 : Read2 (f2 r) t2 r2 b1 b2) : Read1 (o1.bind fun p => (f2 p.2).map fun q => (mk p.1 q.1, q.2)) (mk t t2) r2 false b2 := by
  cases o1 with
  | none => exact h2.2 h1
  | some p =>
    obtain ⟨rfl, rfl, rfl⟩ := h1
    rw [Option.bind_some]
    have h2 := h2.1 rfl
    cases ho : f2 p.2 with
    | none => rw [ho] at h2; exact h2
    | some q =>
      rw [ho] at h2
      obtain ⟨rfl, rfl, h3⟩ := h2
      exact ⟨rfl, rfl, h3⟩
theorem readL {x : Itm} {s t r : ByteArray} {b' : Bool} (h4 : x.kind ≠ 4) (h5 : x.kind ≠ 5) (h : Read2 (toldB s) t r false b') : Read1 (readEl x s) { x with list := x.list ++ [t] } r false b' := by
  unfold readEl
  rw [if_neg h4, if_neg h5]
  have h1 := h.1 rfl
  cases ht : toldB s with
  | none => rw [ht] at h1; exact h1
  | some p =>
    rw [ht] at h1
    obtain ⟨rfl, rfl, h3⟩ := h1
    exact ⟨rfl, rfl, h3⟩
theorem readP {x : Itm} {s t r t2 r2 : ByteArray} {b1 b2 : Bool} (h4 : x.kind = 4) (h : Read2 (toldB s) t r false b1) (h2 : Read2 (toldB r) t2 r2 b1 b2) : Read1 (readEl x s) { x with pairs := x.pairs ++ [(t, t2)] } r2 false b2 := by
  unfold readEl
  rw [if_pos h4]
  exact read12 (f2 := toldB) (fun a b => { x with pairs := x.pairs ++ [(a, b)] }) (h.1 rfl) h2
theorem readS {x : Itm} {s r t2 r2 : ByteArray} {m : Nat} {b1 b2 : Bool} (h5 : x.kind = 5) (h : NumR 0 m r s b1) (h2 : Read2 (toldB r) t2 r2 b1 b2) : Read1 (readEl x s) { x with scores := x.scores ++ [((m : Int) - 999999999, t2)] } r2 false b2 := by
  unfold readEl
  rw [if_neg (by omega), if_pos h5]
  exact read12 (f2 := toldB) (fun (a : Nat) b => { x with scores := x.scores ++ [((a : Int) - 999999999, b)] }) (numR_end h) h2
end Go.Proofs.Ytfkfdmonnebmmaa
