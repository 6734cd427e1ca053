/- The walk of the program's reader's element. -/
import Derived.Test.YtfkfdmonnebmmaaItemS
import Derived.Test.YtfkfdmonnebmmaaOwn
import Derived.Deep.RegionHeld3
import Derived.Deep.DrawnRows
import Derived.Deep.RegionLaw
set_option linter.unusedVariables false
set_option linter.unusedSimpArgs false
namespace Go.Proofs.Ytfkfdmonnebmmaa
open Go.RowKit

/-- what was read, or it fell short. -/
def Read1 {α : Type} (o : Option (α × ByteArray)) (v : α) (r : ByteArray) (b b' : Bool) : Prop := match o with
  | some p => v = p.1 ∧ r = p.2 ∧ b' = b
  | none => b' = true

def TextPost (g : Nat) (s : ByteArray) (b : Bool) (w : World) (e : Ending) (w' : World) : Prop :=
  ∃ t r b', e = .returned (.string t) ∧ Rd w' g r b' ∧ Fr [g] w w' ∧ Read1 (toldB s) t r b b' ∧ t.size ≤ 281474976710656 ∧ r.size ≤ s.size

theorem toldB_size {s t r : ByteArray} (h : toldB s = some (t, r)) : t.size ≤ s.size ∧ r.size ≤ s.size := by
  unfold toldB oneB at h
  by_cases h1 : s.size < 1
  · rw [if_pos h1] at h; cases h
  · rw [if_neg h1, Option.bind_some] at h
    unfold takeB at h
    by_cases h2 : (s.extract 1 s.size).size < byteAt s 0
    · rw [if_pos h2] at h; cases h
    · rw [if_neg h2] at h
      cases h
      simp
      omega

theorem text_any (g : Nat) (s : ByteArray) (b : Bool) (w : World) (h : Rd w g s b) (hs : s.size ≤ 281474976710656) :
    Calls Try.prog 108 #[.pointer (some ⟨g, 0, none⟩)] w (TextPost g s b w) := by
  cases ht : toldB s with
  | none =>
    refine (text_no g s b w h hs ht).mono ?_
    rintro e w' ⟨⟨t, hz, rfl⟩, ⟨s', hz', hr⟩, hf⟩
    refine ⟨t, s', true, rfl, hr, hf, ?_, by omega, by omega⟩
    rw [ht]
    exact rfl
  | some p =>
    obtain ⟨t, r⟩ := p
    have hsz := toldB_size ht
    refine (text_yes g s t r b w h hs ht).mono ?_
    rintro e w' ⟨rfl, hr, hf⟩
    refine ⟨t, r, b, rfl, hr, hf, ?_, by omega, by omega⟩
    rw [ht]
    exact ⟨rfl, rfl, rfl⟩

def NumPost (o : Option (Nat × ByteArray)) (g : Nat) (s : ByteArray) (b : Bool) (w : World) (e : Ending) (w' : World) : Prop :=
  ∃ (n : Nat) (r : ByteArray) (b' : Bool), e = .returned (.int .i64 n) ∧ Rd w' g r b' ∧ Fr [g] w w' ∧ Read1 o n r b b' ∧ n < 4294967296 ∧ r.size ≤ s.size

theorem num1_any (g : Nat) (s : ByteArray) (b : Bool) (w : World) (h : Rd w g s b) (hs : s.size ≤ 281474976710656) :
    Calls Try.prog 53 #[.pointer (some ⟨g, 0, none⟩), .int .i64 1] w (NumPost (oneB s) g s b w) := by
  by_cases h1 : s.size < 1
  · refine (num1_no g s b w h hs h1).mono ?_
    rintro e w' ⟨rfl, hr, hf⟩
    refine ⟨0, _, true, rfl, hr, hf, ?_, by omega, Nat.zero_le _⟩
    unfold oneB
    rw [if_pos h1]
    exact rfl
  · refine (num1_yes g s b w h hs h1).mono ?_
    rintro e w' ⟨rfl, hr, hf⟩
    refine ⟨_, _, b, rfl, hr, hf, ?_, by have := byteAt_lt s 0; omega, by simp⟩
    unfold oneB
    rw [if_neg h1]
    exact ⟨rfl, rfl, rfl⟩

theorem num4_any (g : Nat) (s : ByteArray) (b : Bool) (w : World) (h : Rd w g s b) (hs : s.size ≤ 281474976710656) :
    Calls Try.prog 53 #[.pointer (some ⟨g, 0, none⟩), .int .i64 4] w (NumPost (num4B s) g s b w) := by
  by_cases h1 : s.size < 4
  · refine (number_no g 4 s b w h hs h1 (Nat.le_refl _)).mono ?_
    rintro e w' ⟨rfl, hr, hf⟩
    refine ⟨0, _, true, rfl, hr, hf, ?_, by omega, Nat.zero_le _⟩
    unfold num4B
    rw [if_pos h1]
    exact rfl
  · refine (number_yes g 4 s b w h hs h1 (Nat.le_refl _)).mono ?_
    rintro e w' ⟨rfl, hr, hf⟩
    refine ⟨_, _, b, rfl, hr, hf, ?_, ?_, by simp⟩
    · unfold num4B
      rw [if_neg h1]
      refine ⟨?_, rfl, rfl⟩
      simp only [numOf]
      rw [byteAt_extract s 0 4 0 (by omega) (by omega), byteAt_extract s 0 4 1 (by omega) (by omega), byteAt_extract s 0 4 2 (by omega) (by omega), byteAt_extract s 0 4 3 (by omega) (by omega)]
      simp
    · have := numOf_lt (s.extract 0 4) 4 (Nat.le_refl _)
      omega

/-- an item that grows, in block gi; its rows lie from base on. -/
structure Gr (gi base : Nat) (x : Itm) (v1 v2 v3 : Value) (w : World) : Prop where
  whole : Whole w gi 33 [.int .i64 x.kind, .string x.text, v1, v2, v3]
  o1 : w.ownsRow base 9 1 v1 x.list.length (textsV x.list)
  o2 : w.ownsRow base 64 2 v2 x.pairs.length (pairsV x.pairs)
  o3 : w.ownsRow base 84 2 v3 x.scores.length (scoresV x.scores)

theorem Gr.read {gi base g : Nat} {x : Itm} {v1 v2 v3 : Value} {w w' : World} {s : ByteArray} {b : Bool} (h : Gr gi base x v1 v2 v3 w) (hr : Rd w g s b) (hf : Fr [g] w w') : Gr gi base x v1 v2 v3 w' := by
  have e : ∀ {v : Value}, v.ownBlock ≠ some g → ∀ k, v.ownBlock = some k → k ∉ [g] := by
    intro v hv k hk hm
    rw [List.mem_singleton] at hm
    exact hv (hm ▸ hk)
  exact ⟨h.whole.fr hf (by simpa using h.whole.ne_ hr (by decide)), own_fr h.o1 hf (e (own_ne h.o1 hr (by decide))), own_fr h.o2 hf (e (own_ne h.o2 hr (by decide))), own_fr h.o3 hf (e (own_ne h.o3 hr (by decide)))⟩

theorem slice_of_own {w : World} {base e size n : Nat} {v : Value} {xs : List Value} (h : w.ownsRow base e size v (n + 1) xs) : ∃ g cap, v = .slice (some ⟨g, 0, none⟩) (n + 1) cap := by
  rcases h.2 with ⟨_, h0⟩ | ⟨g, cap, cur, hv, _⟩
  · omega
  · exact ⟨g, cap, hv⟩

def ElPost (gi g base : Nat) (x : Itm) (s : ByteArray) (b : Bool) (w : World) (e : Ending) (w' : World) : Prop :=
  ∃ x' v1' v2' v3' s' b', e = .returned (.tuple #[]) ∧ Gr gi base x' v1' v2' v3' w' ∧ Rd w' g s' b' ∧ s'.size ≤ s.size ∧ x'.kind = x.kind ∧ many x' ≤ many x + 1 ∧ Read1 (readEl x s) x' s' b b' ∧ FrB [g, gi] base w w' ∧ (x.Small → x'.Small)

theorem stringInfo : (Try.prog.info? 9).map (fun i => (i.zero, i.size, i.bytes)) = some (some (.string ⟨#[]⟩), 1, 16) := by kernel_rfl
theorem pairInfo : (Try.prog.info? 64).map (fun i => (i.zero, i.size, i.bytes)) = some (some (.agg #[.string ⟨#[]⟩, .string ⟨#[]⟩]), 2, 32) := by kernel_rfl
theorem scoreInfo : (Try.prog.info? 84).map (fun i => (i.zero, i.size, i.bytes)) = some (some (.agg #[.int .i64 0, .string ⟨#[]⟩]), 2, 24) := by kernel_rfl

theorem textsV_snoc (l : List ByteArray) (s : ByteArray) : textsV (l ++ [s]) = textsV l ++ [.string s] := by simp [textsV]
theorem pairsV_snoc (l : List (ByteArray × ByteArray)) (p : ByteArray × ByteArray) : pairsV (l ++ [p]) = pairsV l ++ [.string p.1, .string p.2] := by simp [pairsV]
theorem scoresV_snoc (l : List (Int × ByteArray)) (p : Int × ByteArray) : scoresV (l ++ [p]) = scoresV l ++ [.int .i64 p.1, .string p.2] := by simp [scoresV]

set_option maxHeartbeats 1000000 in
set_option maxRecDepth 100000 in
theorem elementL_any (gi g base : Nat) (x : Itm) (v1 v2 v3 : Value) (s : ByteArray) (b : Bool) (w : World) (hG : Gr gi base x v1 v2 v3 w) (hR : Rd w g s b) (hs : s.size ≤ 281474976710656) (hm : many x ≤ 1000) (hB : base ≤ w.heap.size) (hgi : gi < base) (hg : g < base)
    (k4 : x.kind ≠ 4) (k5 : x.kind ≠ 5) :
    Calls Try.prog 56 #[.pointer (some ⟨g, 0, none⟩), .pointer (some ⟨gi, 0, none⟩)] w (ElPost gi g base x s b w) := by
  obtain ⟨i0, hi, hz0, hz1, hz2⟩ := info_parts stringInfo
  have T := Lib.hid (text_any g s b w hR hs)
  have c0 : w.cell? ⟨gi, 0, none⟩ = some (.int .i64 x.kind) := hG.whole.cell 0
  have q4 : (x.kind == 4) = false := by simpa using k4
  have q5 : (x.kind == 5) = false := by simpa using k5
  have hE := (show readEl x s = (toldB s).map fun p => ({ x with list := x.list ++ [p.1] }, p.2) by unfold readEl; rw [if_neg k4, if_neg k5])
  have HE := Lib.hid hE
  have HG := Lib.hid hG
  have HR := Lib.hid hR
  have hmm : x.list.length ≤ 1000 := by unfold many at hm; omega
  clear hE hG hR k4 k5
  go_enter Try.func56, Try.ntmps56
  go_wp2_with fail
  refine T.out.mono ?_
  rintro e w1 ⟨t, r, b1, rfl, hr1, f1, hread, hts, hrs⟩
  have G1 := HG.out.read HR.out f1
  have c2 : w1.cell? ⟨gi, 2, none⟩ = some v1 := G1.whole.cell 2
  have hsz := f1.size
  have hown := G1.o1
  have HG1 := Lib.hid G1
  have HR1 := Lib.hid hr1
  have HRD := Lib.hid hread
  clear G1 hr1 hread c0
  go_wp2_with (at_builtin; refine wpList_append_own_at _ rfl _ _ 29 rfl base 9 i0 _ 1 16 Try.underlying29 hi hz0 hz1 hz2 rfl (by decide) _ _ _ rfl (hown.alloc _) ⟨w1.heap.size, 0, none⟩ 1 1 [.string t] rfl rfl ?c1 ?c2 ?c3 ?c4 ?c5 ?_)
  case c1 =>
    intro j u hj
    match j, hj with
    | 0, hj => simp at hj; subst hj; simp [Addr.add]
  case c2 => intro u hu; simp at hu; subst hu; rfl
  case c3 => unfold maxLen; omega
  case c4 => omega
  case c5 => simp; omega
  intro v' w2 hown' hgrow _ hat
  have W2 : Whole w2 gi 33 [.int .i64 x.kind, .string x.text, v1, v2, v3] := (HG1.out.whole.alloc _).grown hgrow (fun e => own_ne hown HG1.out.whole (by decide) e.symm)
  have R2 : Rd w2 g r b1 := Whole.grown (HR1.out.alloc _) hgrow (fun e => own_ne hown HR1.out (by decide) e.symm)
  have d2 : w2.cell? ⟨gi, 2, none⟩ = some v1 := W2.cell 2
  have f2 : w2.frozen? ⟨gi, 2, none⟩ = false := W2.frozen 2
  have o2 := (HG1.out.o2.alloc (.cells #[.string t] 9)).kept hgrow (own_own HG1.out.o2 hown (by decide))
  have o3 := (HG1.out.o3.alloc (.cells #[.string t] 9)).kept hgrow (own_own HG1.out.o3 hown (by decide))
  have hne : gi ≠ g := HG1.out.whole.ne_ HR1.out (by decide)
  obtain ⟨g', cap, rfl⟩ : ∃ g' cap, v' = .slice (some ⟨g', 0, none⟩) (x.list.length + 1) cap := by
    rcases hown'.2 with ⟨_, h0⟩ | ⟨g', cap, cur, hv, _⟩
    · omega
    · exact ⟨g', cap, hv⟩
  have FB : FrB [g, gi] base w w2 := (((f1.toB base).more (T := [g, gi]) (by intro k hk; exact .inl (by simp at hk; simp [hk]))).alloc _).grown hgrow (fun k hk => .inr (hown.lt k hk).1)
  have HW2 := Lib.hid W2
  have HR2 := Lib.hid R2
  clear W2 R2 hgrow hat hown
  go_wp2
  go_end0
  refine ⟨{ x with list := x.list ++ [t] }, _, _, _, r, b1, rfl, ⟨HW2.out.set_ 2 _, ?_, own_set _ o2 (own_ne o2 HW2.out (by decide)), own_set _ o3 (own_ne o3 HW2.out (by decide))⟩, HR2.out.far (p := ⟨gi, 2, none⟩) (Ne.symm hne) _, hrs, rfl, ?_, ?_, FB.setCell (p := ⟨gi, 2, none⟩) (.inl (by simp)) _, fun h => ⟨h.kind, h.text, by simp; omega, h.pairs, h.scores, ?_, h.fields, h.members⟩⟩
  · have := own_set (p := ⟨gi, 2, none⟩) (.slice (some ⟨g', 0, none⟩) (x.list.length + 1) cap) hown' (own_ne hown' HW2.out (by decide))
    rw [textsV_snoc]
    simpa using this
  · unfold many
    simp
    omega
  · rw [HE.out]
    have hh := HRD.out
    cases ht : toldB s with
    | none => rw [ht] at hh; exact hh
    | some p =>
      rw [ht] at hh
      obtain ⟨h1, h2, h3⟩ := hh
      exact ⟨by rw [h1], h2, h3⟩
  · intro q hq
    rcases List.mem_append.1 hq with hq | hq
    · exact h.texts q hq
    · rw [List.mem_singleton.1 hq]; exact hts

theorem read2 {α β : Type} {o1 : Option (α × ByteArray)} {f2 : ByteArray → Option (β × ByteArray)} {t : α} {r : ByteArray} {t2 : β} {r2 : ByteArray} {b b1 b2 : Bool} (mk : α → β → Itm)
    (h1 : Read1 o1 t r b b1) (h2 : Read1 (f2 r) t2 r2 b1 b2) (hz : b1 = true → b2 = true) : Read1 (o1.bind fun p => (f2 p.2).map fun q => (mk p.1 q.1, q.2)) (mk t t2) r2 b b2 := by
  cases o1 with
  | none => exact hz h1
  | some p =>
    obtain ⟨rfl, rfl, rfl⟩ := h1
    rw [Option.bind_some]
    cases ho : f2 p.2 with
    | none => rw [ho] at h2; exact h2
    | some q =>
      rw [ho] at h2
      obtain ⟨rfl, rfl, h3⟩ := h2
      exact ⟨rfl, rfl, h3⟩

theorem read1_bad {α : Type} {o : Option (α × ByteArray)} {v : α} {r : ByteArray} {b b' : Bool} (h : Read1 o v r b b') : b = true → b' = true := by
  intro hb
  cases o with
  | none => exact h
  | some p => rw [h.2.2]; exact hb

theorem elP_done {gi g base : Nat} {x : Itm} {v1 v2 v3 : Value} {s t r t2 r2 : ByteArray} {b b1 b2 : Bool} {w w1 w2 w3 : World} {g' cap : Nat}
    (G1 : Gr gi base x v1 v2 v3 w1) (R1 : Rd w1 g r b1) (G2 : Gr gi base x v1 v2 v3 w2) (R2 : Rd w2 g r2 b2) (hk : x.kind = 4) (f1 : Fr [g] w w1) (f3 : Fr [g] w1 w2)
    (hE : readEl x s = (toldB s).bind fun p => (toldB p.2).map fun q => ({ x with pairs := x.pairs ++ [(p.1, q.1)] }, q.2)) (h1 : Read1 (toldB s) t r b b1) (h2 : Read1 (toldB r) t2 r2 b1 b2) (hrs : r.size ≤ s.size) (hrs2 : r2.size ≤ r.size) (hts : t.size ≤ 281474976710656) (hts2 : t2.size ≤ 281474976710656) (hmm : x.pairs.length ≤ 1000)
    (hB : base ≤ w.heap.size) (hon : w2.ownsRow base 64 2 v2 x.pairs.length (pairsV x.pairs))
    (how : w3.ownsRow base 64 2 (.slice (some ⟨g', 0, none⟩) (x.pairs.length + 1) cap) (x.pairs.length + 1) (pairsV x.pairs ++ [.string t, .string t2]))
    (hgr : (w2.alloc (.cells #[.string t, .string t2] 64)).grownBy w3 v2.ownBlock) (hW : Whole w3 gi 33 [.int .i64 4, .string x.text, v1, v2, v3]) :
    ElPost gi g base x s b w (.returned (.tuple #[])) (w3.setCell ⟨gi, 3, none⟩ (.slice (some ⟨g', 0, none⟩) (x.pairs.length + 1) cap)) := by
  have o1 := (G2.o1.alloc (.cells #[.string t, .string t2] 64)).kept hgr (own_own G2.o1 hon (by decide))
  have o3 := (G2.o3.alloc (.cells #[.string t, .string t2] 64)).kept hgr (own_own G2.o3 hon (by decide))
  have R3 : Rd w3 g r2 b2 := Whole.grown (R2.alloc _) hgr (fun e => own_ne hon R2 (by decide) e.symm)
  have hne : gi ≠ g := G2.whole.ne_ R2 (by decide)
  have FB : FrB [g, gi] base w w3 := (((f1.trans f3).toB base).more (T := [g, gi]) (by intro k hk; exact .inl (by simp at hk; simp [hk]))).alloc _ |>.grown hgr (fun k hk => .inr (hon.lt k hk).1)
  refine ⟨{ x with pairs := x.pairs ++ [(t, t2)] }, v1, .slice (some ⟨g', 0, none⟩) (x.pairs.length + 1) cap, v3, r2, b2, rfl, ⟨?_, own_set _ o1 (own_ne o1 hW (by decide)), ?_, own_set _ o3 (own_ne o3 hW (by decide))⟩, R3.far (p := ⟨gi, 3, none⟩) (Ne.symm hne) _, by omega, rfl, ?_, ?_, FB.setCell (p := ⟨gi, 3, none⟩) (.inl (by simp)) _, fun h => ⟨h.kind, h.text, h.list, by simp; omega, h.scores, h.texts, ?_, h.members⟩⟩
  · have := hW.set_ 3 (.slice (some ⟨g', 0, none⟩) (x.pairs.length + 1) cap)
    rw [← hk] at this
    exact this
  · have := own_set (p := ⟨gi, 3, none⟩) (.slice (some ⟨g', 0, none⟩) (x.pairs.length + 1) cap) how (own_ne how hW (by decide))
    rw [pairsV_snoc]
    simpa using this
  · unfold many
    simp
    omega
  · rw [hE]
    exact read2 (f2 := toldB) (fun a b => { x with pairs := x.pairs ++ [(a, b)] }) h1 h2 (read1_bad h2)
  · intro q hq
    rcases List.mem_append.1 hq with hq | hq
    · exact h.fields q hq
    · rw [List.mem_singleton.1 hq]; exact ⟨hts, hts2⟩

theorem elS_done {gi g base : Nat} {x : Itm} {v1 v2 v3 : Value} {s r t2 r2 : ByteArray} {t : Nat} {b b1 b2 : Bool} {w w1 w2 w3 : World} {g' cap : Nat}
    (G1 : Gr gi base x v1 v2 v3 w1) (R1 : Rd w1 g r b1) (G2 : Gr gi base x v1 v2 v3 w2) (R2 : Rd w2 g r2 b2) (hk : x.kind = 5) (f1 : Fr [g] w w1) (f3 : Fr [g] w1 w2)
    (hE : readEl x s = (num4B s).bind fun p => (toldB p.2).map fun q => ({ x with scores := x.scores ++ [((p.1 : Int) - 999999999, q.1)] }, q.2)) (h1 : Read1 (num4B s) t r b b1) (h2 : Read1 (toldB r) t2 r2 b1 b2) (hrs : r.size ≤ s.size) (hrs2 : r2.size ≤ r.size) (hts : t < 4294967296) (hts2 : t2.size ≤ 281474976710656) (hmm : x.scores.length ≤ 1000)
    (hB : base ≤ w.heap.size) (hon : w2.ownsRow base 84 2 v3 x.scores.length (scoresV x.scores))
    (how : w3.ownsRow base 84 2 (.slice (some ⟨g', 0, none⟩) (x.scores.length + 1) cap) (x.scores.length + 1) (scoresV x.scores ++ [.int .i64 ((t : Int) - 999999999), .string t2]))
    (hgr : (w2.alloc (.cells #[.int .i64 ((t : Int) - 999999999), .string t2] 84)).grownBy w3 v3.ownBlock) (hW : Whole w3 gi 33 [.int .i64 5, .string x.text, v1, v2, v3]) :
    ElPost gi g base x s b w (.returned (.tuple #[])) (w3.setCell ⟨gi, 4, none⟩ (.slice (some ⟨g', 0, none⟩) (x.scores.length + 1) cap)) := by
  have o1 := (G2.o1.alloc (.cells #[.int .i64 ((t : Int) - 999999999), .string t2] 84)).kept hgr (own_own G2.o1 hon (by decide))
  have o2 := (G2.o2.alloc (.cells #[.int .i64 ((t : Int) - 999999999), .string t2] 84)).kept hgr (own_own G2.o2 hon (by decide))
  have R3 : Rd w3 g r2 b2 := Whole.grown (R2.alloc _) hgr (fun e => own_ne hon R2 (by decide) e.symm)
  have hne : gi ≠ g := G2.whole.ne_ R2 (by decide)
  have FB : FrB [g, gi] base w w3 := (((f1.trans f3).toB base).more (T := [g, gi]) (by intro k hk; exact .inl (by simp at hk; simp [hk]))).alloc _ |>.grown hgr (fun k hk => .inr (hon.lt k hk).1)
  refine ⟨{ x with scores := x.scores ++ [((t : Int) - 999999999, t2)] }, v1, v2, .slice (some ⟨g', 0, none⟩) (x.scores.length + 1) cap, r2, b2, rfl, ⟨?_, own_set _ o1 (own_ne o1 hW (by decide)), own_set _ o2 (own_ne o2 hW (by decide)), ?_⟩, R3.far (p := ⟨gi, 4, none⟩) (Ne.symm hne) _, by omega, rfl, ?_, ?_, FB.setCell (p := ⟨gi, 4, none⟩) (.inl (by simp)) _, fun h => ⟨h.kind, h.text, h.list, h.pairs, by simp; omega, h.texts, h.fields, ?_⟩⟩
  · have := hW.set_ 4 (.slice (some ⟨g', 0, none⟩) (x.scores.length + 1) cap)
    rw [← hk] at this
    exact this
  · have := own_set (p := ⟨gi, 4, none⟩) (.slice (some ⟨g', 0, none⟩) (x.scores.length + 1) cap) how (own_ne how hW (by decide))
    rw [scoresV_snoc]
    simpa using this
  · unfold many
    simp
    omega
  · rw [hE]
    exact read2 (f2 := toldB) (fun (a : Nat) b => { x with scores := x.scores ++ [((a : Int) - 999999999, b)] }) h1 h2 (read1_bad h2)
  · intro q hq
    rcases List.mem_append.1 hq with hq | hq
    · exact h.members q hq
    · rw [List.mem_singleton.1 hq]; exact ⟨⟨by show -9223372036854775808 ≤ (t : Int) - 999999999; omega, by show (t : Int) - 999999999 ≤ 9223372036854775807; omega⟩, hts2⟩

attribute [local go_sem ↓] Go.wp_at_zero Go.wp_at_succ

set_option maxHeartbeats 2000000 in
set_option maxRecDepth 100000 in
theorem elementP_any (gi g base : Nat) (x : Itm) (v1 v2 v3 : Value) (s : ByteArray) (b : Bool) (w : World) (hG : Gr gi base x v1 v2 v3 w) (hR : Rd w g s b) (hs : s.size ≤ 281474976710656) (hm : many x ≤ 1000) (hB : base ≤ w.heap.size) (hgi : gi < base) (hg : g < base)
    (k4 : x.kind = 4) :
    Calls Try.prog 56 #[.pointer (some ⟨g, 0, none⟩), .pointer (some ⟨gi, 0, none⟩)] w (ElPost gi g base x s b w) := by
  obtain ⟨i0, hi, hz0, hz1, hz2⟩ := info_parts pairInfo
  have T := Lib.hid (text_any g s b w hR hs)
  have c0 : w.cell? ⟨gi, 0, none⟩ = some (.int .i64 4) := by rw [← k4]; exact hG.whole.cell 0
  have hE := (show readEl x s = (toldB s).bind fun p => (toldB p.2).map fun q => ({ x with pairs := x.pairs ++ [(p.1, q.1)] }, q.2) by unfold readEl; rw [if_pos k4])
  have HE := Lib.hid hE
  have HK := Lib.hid k4
  have HG := Lib.hid hG
  have HR := Lib.hid hR
  have hmm : x.pairs.length ≤ 1000 := by unfold many at hm; omega
  clear hE hG hR k4
  go_enter Try.func56, Try.ntmps56
  go_wp2_with fail
  refine T.out.mono ?_
  rintro e w1 ⟨t, r, b1, rfl, hr1, f1, hread, hts, hrs⟩
  have G1 := HG.out.read HR.out f1
  have c2 : w1.cell? ⟨gi, 3, none⟩ = some v2 := G1.whole.cell 3
  have hsz := f1.size
  have T2 := Lib.hid (fun W (hW : Rd W g r b1) => text_any g r b1 W hW (by omega))
  have HG1 := Lib.hid G1
  have HR1 := Lib.hid hr1
  have HRD := Lib.hid hread
  clear G1 hr1 hread c0
  go_wp2_with fail
  go_region_law
    (first
      | (refine step_append_lies _ (by rfl) _ _ 30 (by rfl) base 64 i0 _ 2 32 Try.underlying30 hi hz0 hz1 hz2 rfl (by decide) v2 x.pairs.length (pairsV x.pairs) (by rfl) (hown.alloc _)
          ⟨w2.heap.size, 0, none⟩ 1 1 [.string t, .string t2] (by rfl) (by rfl) (World.news_of_block (cs := #[.string t, .string t2]) (t := 64) (fr := (0, 0)) (heap_alloc_new _ _)) (by simp [Value.oneCell'])
          (by omega) (by unfold maxLen; omega) (by omega) (by simp; omega) (w2.heap.size + 1) (by simp) ?_
         intro g' cap w3 hown' hgrow hat hlt
         have W3 : Whole w3 gi 33 [.int .i64 4, .string x.text, v1, v2, v3] := (HK.out ▸ HG2.out.whole.alloc _).grown hgrow (fun e => own_ne hown HG2.out.whole (by decide) e.symm)
         have d3 : w3.cell? ⟨gi, 3, none⟩ = some v2 := W3.cell 3
         have z3 : w3.frozen? ⟨gi, 3, none⟩ = false := W3.frozen 3
         have HW3 := Lib.hid W3
         have HGR := Lib.hid hgrow
         have HOW := Lib.hid hown'
         have HON := Lib.hid hown
         clear W3 hgrow hown' hown hat)
      | (go_simp
         go_at_call 108
         refine (T2.out _ ?hr).mono ?_
         case hr => exact HR1.out
         rintro e w2 ⟨t2, r2, b2, rfl, hr2, f2, hread2, hts2, hrs2⟩
         have f3 : Fr [g] w1 w2 := ⟨f2.os, f2.tape, f2.output, f2.size, f2.block⟩
         have hz3 := f3.size
         have G2 := HG1.out.read HR1.out f3
         have c3 : w2.cell? ⟨gi, 3, none⟩ = some v2 := G2.whole.cell 3
         have HG2 := Lib.hid G2
         have HR2 := Lib.hid hr2
         have HRD2 := Lib.hid hread2
         have hown := G2.o2
         have c4 : (w2.alloc (.cells #[.string t, .string t2] 64)).cell? ⟨gi, 3, none⟩ = some v2 := (G2.whole.alloc _).cell 3
         clear G2 hr2 hread2 f2))
  all_goals
    go_wp2
    go_end0
    exact elP_done HG1.out HR1.out HG2.out HR2.out HK.out f1 f3 HE.out HRD.out HRD2.out hrs hrs2 hts hts2 hmm hB HON.out HOW.out HGR.out HW3.out
set_option maxHeartbeats 2000000 in
set_option maxRecDepth 100000 in
theorem elementS_any (gi g base : Nat) (x : Itm) (v1 v2 v3 : Value) (s : ByteArray) (b : Bool) (w : World) (hG : Gr gi base x v1 v2 v3 w) (hR : Rd w g s b) (hs : s.size ≤ 281474976710656) (hm : many x ≤ 1000) (hB : base ≤ w.heap.size) (hgi : gi < base) (hg : g < base)
    (k4 : x.kind = 5) :
    Calls Try.prog 56 #[.pointer (some ⟨g, 0, none⟩), .pointer (some ⟨gi, 0, none⟩)] w (ElPost gi g base x s b w) := by
  obtain ⟨i0, hi, hz0, hz1, hz2⟩ := info_parts scoreInfo
  have T := Lib.hid (num4_any g s b w hR hs)
  have c0 : w.cell? ⟨gi, 0, none⟩ = some (.int .i64 5) := by rw [← k4]; exact hG.whole.cell 0
  have hE := (show readEl x s = (num4B s).bind fun p => (toldB p.2).map fun q => ({ x with scores := x.scores ++ [((p.1 : Int) - 999999999, q.1)] }, q.2) by unfold readEl; rw [if_neg (by omega), if_pos k4])
  have HE := Lib.hid hE
  have HK := Lib.hid k4
  have HG := Lib.hid hG
  have HR := Lib.hid hR
  have hmm : x.scores.length ≤ 1000 := by unfold many at hm; omega
  clear hE hG hR k4
  go_enter Try.func56, Try.ntmps56
  go_wp2_with fail
  refine T.out.mono ?_
  rintro e w1 ⟨t, r, b1, rfl, hr1, f1, hread, hts, hrs⟩
  have G1 := HG.out.read HR.out f1
  have c2 : w1.cell? ⟨gi, 4, none⟩ = some v3 := G1.whole.cell 4
  have hsz := f1.size
  have T2 := Lib.hid (fun W (hW : Rd W g r b1) => text_any g r b1 W hW (by omega))
  have hw1 : IntKind.i64.wrap ((t : Int) - 999999999) = (t : Int) - 999999999 := IntWalk.i64_in _ (by omega)
  have HG1 := Lib.hid G1
  have HR1 := Lib.hid hr1
  have HRD := Lib.hid hread
  clear G1 hr1 hread c0
  go_wp2_with fail
  go_region_law
    (first
      | (refine step_append_lies _ (by rfl) _ _ 31 (by rfl) base 84 i0 _ 2 24 Try.underlying31 hi hz0 hz1 hz2 rfl (by decide) v3 x.scores.length (scoresV x.scores) (by rfl) (hown.alloc _)
          ⟨w2.heap.size, 0, none⟩ 1 1 [.int .i64 ((t : Int) - 999999999), .string t2] (by rfl) (by rfl) (World.news_of_block (cs := #[.int .i64 ((t : Int) - 999999999), .string t2]) (t := 84) (fr := (0, 0)) (heap_alloc_new _ _)) (by simp [Value.oneCell'])
          (by omega) (by unfold maxLen; omega) (by omega) (by simp; omega) (w2.heap.size + 1) (by simp) ?_
         intro g' cap w3 hown' hgrow hat hlt
         have W3 : Whole w3 gi 33 [.int .i64 5, .string x.text, v1, v2, v3] := (HK.out ▸ HG2.out.whole.alloc _).grown hgrow (fun e => own_ne hown HG2.out.whole (by decide) e.symm)
         have d3 : w3.cell? ⟨gi, 4, none⟩ = some v3 := W3.cell 4
         have z3 : w3.frozen? ⟨gi, 4, none⟩ = false := W3.frozen 4
         have HW3 := Lib.hid W3
         have HGR := Lib.hid hgrow
         have HOW := Lib.hid hown'
         have HON := Lib.hid hown
         clear W3 hgrow hown' hown hat)
      | (go_simp
         go_at_call 108
         refine (T2.out _ ?hr).mono ?_
         case hr => exact HR1.out
         rintro e w2 ⟨t2, r2, b2, rfl, hr2, f2, hread2, hts2, hrs2⟩
         have f3 : Fr [g] w1 w2 := ⟨f2.os, f2.tape, f2.output, f2.size, f2.block⟩
         have hz3 := f3.size
         have G2 := HG1.out.read HR1.out f3
         have c3 : w2.cell? ⟨gi, 4, none⟩ = some v3 := G2.whole.cell 4
         have HG2 := Lib.hid G2
         have HR2 := Lib.hid hr2
         have HRD2 := Lib.hid hread2
         have hown := G2.o3
         have c4 : (w2.alloc (.cells #[.int .i64 ((t : Int) - 999999999), .string t2] 84)).cell? ⟨gi, 4, none⟩ = some v3 := (G2.whole.alloc _).cell 4
         clear G2 hr2 hread2 f2))
  all_goals
    go_wp2
    go_end0
    exact elS_done HG1.out HR1.out HG2.out HR2.out HK.out f1 f3 HE.out HRD.out HRD2.out hrs hrs2 hts hts2 hmm hB HON.out HOW.out HGR.out HW3.out
end Go.Proofs.Ytfkfdmonnebmmaa
