/- The walks of the program's patterns: a part; all parts; Check. -/
import Derived.Test.YtmlmiboihjibiaaGlobC
import Derived.Recover
import Derived.Defers
import Derived.Laws.AppendOwn
import Derived.Maps.AppendAt
import Derived.Laws.ResultCell
set_option linter.unusedVariables false
set_option linter.unusedSimpArgs false
namespace Go.Proofs.Ytmlmiboihjibiaa
open Go.RowKit
attribute [local go_sem] byteAt_eq

def PartPost (w : World) (pb : Nat) (p : ByteArray) (k : Nat) (e : Ending) (w' : World) : Prop :=
  match partAt p k with
  | some x => ∃ a f : Value, e = .returned (.agg #[a, f]) ∧ PartIs w' w.heap.size w'.heap.size x.1 a f ∧ PSt w' pb p x.2 ∧ Fr [pb] w w'
  | none => e = .panicked [{ v := wrongV, recovered := false }] ∧ Fr [pb] w w'

theorem partAt_cls' {p : ByteArray} {a : Nat} (h : a < p.size) (h91 : byteAt p a = 91) : partAt p a =
    (match cls p (if hereS p (a + 1 + 0) 94 then a + 1 + 1 else a + 1) with
      | none => none
      | some y => if y.1.isEmpty then none else some (Part.cls (hereS p (a + 1 + 0) 94) y.1, y.2 + 1)) := by
  unfold partAt hereS
  rw [if_pos h, if_neg (by omega), if_neg (by omega), if_pos h91]
  simp only [Bool.decide_and, Nat.add_zero]
  rfl

theorem Whole.two {w : World} {g : Nat} {t : TypeId} {a b : Value} (h : Whole w g t [a, b]) :
    w.cell? ⟨g, 0, none⟩ = some a ∧ w.cell? ⟨g, 1, none⟩ = some b ∧ w.frozen? ⟨g, 0, none⟩ = false ∧ w.frozen? ⟨g, 1, none⟩ = false := ⟨h.cell 0, h.cell 1, h.frozen 0, h.frozen 1⟩

theorem part_post {w w1 : World} {pb : Nat} {p : ByteArray} {k k' : Nat} {P : Part} {a f : Value} (E : partAt p k = some (P, k')) (hpi : PartIs w1 w.heap.size w1.heap.size P a f) (hp : PSt w1 pb p k') (hf : Fr [pb] w w1) :
    PartPost w pb p k (.returned (.agg #[a, f])) w1 := by
  unfold PartPost; rw [E]; exact ⟨a, f, rfl, hpi, hp, hf⟩

theorem part_no {w w1 : World} {pb : Nat} {p : ByteArray} {k : Nat} (E : partAt p k = none) (hf : Fr [pb] w w1) :
    PartPost w pb p k (.panicked [{ v := wrongV, recovered := false }]) w1 := by
  unfold PartPost; rw [E]; exact ⟨rfl, hf⟩

set_option maxRecDepth 100000 in
set_option maxHeartbeats 400000 in
theorem part_star (p : ByteArray) (pb k : Nat) (w : World) (hs : p.size ≤ 281474976710656) (h : PSt w pb p k) (hk : k < p.size) (h42 : byteAt p k = 42) :
    Calls Try.prog 170 #[.pointer (some ⟨pb, 0, none⟩)] w (PartPost w pb p k) := by
  have hlt := h.lt
  have b0 := byteAt_lt p k
  have H := Lib.hid h
  clear h
  have g42 : ((byteAt p k : Int) == 42) = true := by simp; omega
  have E := Lib.hid (show partAt p k = some (.star, k + 1) by unfold partAt; rw [if_pos hk, if_pos h42])
  clear h42
  go_enter Try.func170, Try.ntmps170
  go_wp2_with fail
  refine (next_ok p pb k _ hs (H.out.alloc _) hk).mono ?_
  rintro e w1 ⟨rfl, hp1, hf1⟩
  have hq1 := (Whole.new w 164 [.bool false, .nilFunc]).fr hf1 (by simp; omega)
  have HF1 := Lib.hid (((Fr.refl [pb] w).alloc _).trans hf1)
  have hsz1 : w.heap.size < w1.heap.size := hq1.lt
  clear hf1
  obtain ⟨a0, a1, z0, z1⟩ := hq1.two
  go_wp2
  refine bodyPost_ret (v := .agg #[.bool true, .nilFunc]) (by simp [results, Try.results170, go_sem, a0, a1]) rfl ?_
  exact part_post E.out ⟨rfl, rfl⟩ ((hp1.far (by simp; omega) _).far (by simp; omega) _) ((HF1.out.setCell (.inr (by simp)) _).setCell (.inr (by simp)) _)

set_option maxRecDepth 100000 in
set_option maxHeartbeats 400000 in
theorem part_q (p : ByteArray) (pb k : Nat) (w : World) (hs : p.size ≤ 281474976710656) (h : PSt w pb p k) (hk : k < p.size) (h63 : byteAt p k = 63) :
    Calls Try.prog 170 #[.pointer (some ⟨pb, 0, none⟩)] w (PartPost w pb p k) := by
  have hlt := h.lt
  have b0 := byteAt_lt p k
  have H := Lib.hid h
  clear h
  have g42 : ((byteAt p k : Int) == 42) = false := by simp; omega
  have g63 : ((byteAt p k : Int) == 63) = true := by simp; omega
  have E := Lib.hid (show partAt p k = some (.any, k + 1) by unfold partAt; rw [if_pos hk, if_neg (by omega), if_pos h63])
  clear h63
  go_enter Try.func170, Try.ntmps170
  go_wp2_with fail
  refine (next_ok p pb k _ hs (H.out.alloc _) hk).mono ?_
  rintro e w1 ⟨rfl, hp1, hf1⟩
  have hq1 := (Whole.new w 164 [.bool false, .nilFunc]).fr hf1 (by simp; omega)
  have HF1 := Lib.hid (((Fr.refl [pb] w).alloc _).trans hf1)
  have hsz1 : w.heap.size < w1.heap.size := hq1.lt
  clear hf1
  obtain ⟨a0, a1, z0, z1⟩ := hq1.two
  go_wp2
  refine bodyPost_ret (v := .agg #[.bool false, .func (.func 184) #[] #[]]) (by simp [results, Try.results170, go_sem, a0, a1]) rfl ?_
  exact part_post E.out ⟨rfl, rfl⟩ ((hp1.far (by simp; omega) _).far (by simp; omega) _) ((HF1.out.setCell (.inr (by simp)) _).setCell (.inr (by simp)) _)

set_option maxRecDepth 100000 in
set_option maxHeartbeats 400000 in
theorem part_br (p : ByteArray) (pb k : Nat) (w : World) (hs : p.size ≤ 281474976710656) (h : PSt w pb p k) (hk : k < p.size) (h91 : byteAt p k = 91) :
    Calls Try.prog 170 #[.pointer (some ⟨pb, 0, none⟩)] w (PartPost w pb p k) := by
  have hlt := h.lt
  have b0 := byteAt_lt p k
  have H := Lib.hid h
  clear h
  have g42 : ((byteAt p k : Int) == 42) = false := by simp; omega
  have g63 : ((byteAt p k : Int) == 63) = false := by simp; omega
  have g91 : ((byteAt p k : Int) == 91) = true := by simp; omega
  have hE := partAt_cls' hk h91
  have E := Lib.hid hE
  clear h91 hE
  go_enter Try.func170, Try.ntmps170
  go_wp2_with fail
  refine (next_ok p pb k _ hs (H.out.alloc _) hk).mono ?_
  rintro e w1 ⟨rfl, hp1, hf1⟩
  have hq1 := (Whole.new w 164 [.bool false, .nilFunc]).fr hf1 (by simp; omega)
  have HF1 := Lib.hid (((Fr.refl [pb] w).alloc _).trans hf1)
  have hsz1 : w.heap.size < w1.heap.size := hq1.lt
  clear hf1
  go_wp2_with fail
  refine (class_any p pb (k + 1) _ _ _ hs hp1 (by omega) rfl rfl).mono ?_
  rintro e w2 hpost
  unfold ClsPost at hpost
  rcases hpost with ⟨x, f, hx, hne, rfl, hpi, hps, hf2⟩ | ⟨hno, rfl, hf2⟩
  · have hE2 : partAt p k = some (.cls (hereS p (k + 1 + 0) 94) x.1, x.2 + 1) := by
      rw [E.out, hx]
      simp only
      rw [if_neg (by simpa using hne)]
    have E2 := Lib.hid hE2
    have hq2 := hq1.fr hf2 (by simp; omega)
    have HF2 := Lib.hid (HF1.out.trans hf2)
    obtain ⟨a0, a1, z0, z1⟩ := hq2.two
    obtain ⟨hfa, b, b2, hl, hb, hl2, hb2, rfl, ht, hn⟩ := hpi
    have HPI := Lib.hid (show PartIs w2 w1.heap.size w2.heap.size (.cls (hereS p (k + 1 + 0) 94) x.1) (.bool false) _ from ⟨rfl, b, b2, hl, hb, hl2, hb2, rfl, ht, hn⟩)
    clear hE2 hx hne hf2 ht hn
    go_wp2
    refine bodyPost_ret (v := .agg #[.bool false, .func (.func 193) #[] #[.pointer (some ⟨b, 0, none⟩), .pointer (some ⟨b2, 0, none⟩)]]) (by simp [results, Try.results170, go_sem, a0, a1]) rfl ?_
    exact part_post E2.out (HPI.out.keep (fun g _ _ hg _ _ _ => by
    rw [Below.heap_setCell _ _ _ _ (by simp; omega), Below.heap_setCell _ _ _ _ (by simp; omega)]) (by omega) (by simp [World.setCell]))
        ((hps.far (by simp; omega) _).far (by simp; omega) _) ((HF2.out.setCell (.inr (by simp)) _).setCell (.inr (by simp)) _)
  · have hE2 : partAt p k = none := by
      rw [E.out]
      cases hc : cls p (if hereS p (k + 1 + 0) 94 then k + 1 + 1 else k + 1) with
      | none => rfl
      | some x => simp only; rw [if_pos (by simpa using hno x hc)]
    have E2 := Lib.hid hE2
    clear hE2 hno
    go_wp2
    exact ⟨rfl, part_no E2.out (HF1.out.trans hf2)⟩

set_option maxRecDepth 100000 in
set_option maxHeartbeats 400000 in
theorem part_bs (p : ByteArray) (pb k : Nat) (w : World) (hs : p.size ≤ 281474976710656) (h : PSt w pb p k) (hk : k < p.size) (h92 : byteAt p k = 92) :
    Calls Try.prog 170 #[.pointer (some ⟨pb, 0, none⟩)] w (PartPost w pb p k) := by
  have hlt := h.lt
  have b0 := byteAt_lt p k
  have H := Lib.hid h
  clear h
  have g42 : ((byteAt p k : Int) == 42) = false := by simp; omega
  have g63 : ((byteAt p k : Int) == 63) = false := by simp; omega
  have g91 : ((byteAt p k : Int) == 91) = false := by simp; omega
  have g92 : ((byteAt p k : Int) == 92) = true := by simp; omega
  have hE : partAt p k = if k + 1 < p.size then some (.lit (byteAt p (k + 1)), k + 2) else none := by
    unfold partAt; rw [if_pos hk, if_neg (by omega), if_neg (by omega), if_neg (by omega), if_pos h92]
  by_cases h2 : k + 1 < p.size
  · rw [if_pos h2] at hE
    have E := Lib.hid hE
    have b1 := byteAt_lt p (k + 1)
    clear hE h92
    go_enter Try.func170, Try.ntmps170
    go_wp2_with fail
    refine (next_ok p pb k _ hs (H.out.alloc _) hk).mono ?_
    rintro e w1 ⟨rfl, hp1, hf1⟩
    have hq1 := (Whole.new w 164 [.bool false, .nilFunc]).fr hf1 (by simp; omega)
    have HF1 := Lib.hid (((Fr.refl [pb] w).alloc _).trans hf1)
    have hsz1 : w.heap.size < w1.heap.size := hq1.lt
    clear hf1
    go_wp2_with fail
    refine (next_ok p pb (k + 1) _ hs hp1 h2).mono ?_
    rintro e w2 ⟨rfl, hp2, hf2⟩
    have hq2 := hq1.fr hf2 (by simp; omega)
    have HF2 := Lib.hid (HF1.out.trans hf2)
    have hsz2 : w.heap.size < w2.heap.size := hq2.lt
    clear hf2 hq1 hp1
    go_wp2_with fail
    refine (itself_any _ _).mono ?_
    rintro e w3 ⟨⟨f, rfl, hpi⟩, hf3⟩
    have hq3 := hq2.fr hf3 (by simp)
    have HF3 := Lib.hid (HF2.out.trans hf3.up)
    have hps := Lib.hid (Whole.fr hp2 hf3 (by simp))
    obtain ⟨a0, a1, z0, z1⟩ := hq3.two
    obtain ⟨hfa, b, hl, hb, rfl, ht⟩ := hpi
    have HPI := Lib.hid (show PartIs w3 w2.heap.size w3.heap.size (.lit (byteAt p (k + 1))) (.bool false) _ from ⟨rfl, b, hl, hb, rfl, ht⟩)
    clear hf3 ht
    go_wp2
    refine bodyPost_ret (v := .agg #[.bool false, .func (.func 194) #[] #[.pointer (some ⟨b, 0, none⟩)]]) (by simp [results, Try.results170, go_sem, a0, a1]) rfl ?_
    exact part_post E.out (HPI.out.keep (fun g _ _ hg _ _ _ => by
      rw [Below.heap_setCell _ _ _ _ (by simp; omega), Below.heap_setCell _ _ _ _ (by simp; omega)]) (by omega) (by simp [World.setCell]))
        ((PSt.far hps.out (by simp; omega) _).far (by simp; omega) _) ((HF3.out.setCell (.inr (by simp)) _).setCell (.inr (by simp)) _)


  · rw [if_neg h2] at hE
    have E := Lib.hid hE
    clear hE h92
    go_enter Try.func170, Try.ntmps170
    go_wp2_with fail
    refine (next_ok p pb k _ hs (H.out.alloc _) hk).mono ?_
    rintro e w1 ⟨rfl, hp1, hf1⟩
    have hq1 := (Whole.new w 164 [.bool false, .nilFunc]).fr hf1 (by simp; omega)
    have HF1 := Lib.hid (((Fr.refl [pb] w).alloc _).trans hf1)
    have hsz1 : w.heap.size < w1.heap.size := hq1.lt
    clear hf1
    go_wp2_with fail
    refine (next_end p pb (k + 1) _ hs hp1 (by omega)).mono ?_
    rintro e w2 ⟨rfl, hf2⟩
    go_wp2
    exact ⟨rfl, part_no E.out (HF1.out.trans hf2)⟩

set_option maxRecDepth 100000 in
set_option maxHeartbeats 400000 in
theorem part_lit (p : ByteArray) (pb k : Nat) (w : World) (hs : p.size ≤ 281474976710656) (h : PSt w pb p k) (hk : k < p.size) (h42 : byteAt p k ≠ 42) (h63 : byteAt p k ≠ 63) (h91 : byteAt p k ≠ 91) (h92 : byteAt p k ≠ 92) :
    Calls Try.prog 170 #[.pointer (some ⟨pb, 0, none⟩)] w (PartPost w pb p k) := by
  have hlt := h.lt
  have b0 := byteAt_lt p k
  have H := Lib.hid h
  clear h
  have g42 : ((byteAt p k : Int) == 42) = false := by simp; omega
  have g63 : ((byteAt p k : Int) == 63) = false := by simp; omega
  have g91 : ((byteAt p k : Int) == 91) = false := by simp; omega
  have g92 : ((byteAt p k : Int) == 92) = false := by simp; omega
  have E := Lib.hid (show partAt p k = some (.lit (byteAt p k), k + 1) by
    unfold partAt; rw [if_pos hk, if_neg h42, if_neg h63, if_neg h91, if_neg h92])
  clear h42 h63 h91 h92
  go_enter Try.func170, Try.ntmps170
  go_wp2_with fail
  refine (next_ok p pb k _ hs (H.out.alloc _) hk).mono ?_
  rintro e w1 ⟨rfl, hp1, hf1⟩
  have hq1 := (Whole.new w 164 [.bool false, .nilFunc]).fr hf1 (by simp; omega)
  have HF1 := Lib.hid (((Fr.refl [pb] w).alloc _).trans hf1)
  have hsz1 : w.heap.size < w1.heap.size := hq1.lt
  clear hf1
  go_wp2_with fail
  refine (itself_any _ _).mono ?_
  rintro e w3 ⟨⟨f, rfl, hpi⟩, hf3⟩
  have hq3 := hq1.fr hf3 (by simp)
  have HF3 := Lib.hid (HF1.out.trans hf3.up)
  have hps := Lib.hid (Whole.fr hp1 hf3 (by simp))
  obtain ⟨a0, a1, z0, z1⟩ := hq3.two
  obtain ⟨hfa, b, hl, hb, rfl, ht⟩ := hpi
  have HPI := Lib.hid (show PartIs w3 w1.heap.size w3.heap.size (.lit (byteAt p k)) (.bool false) _ from ⟨rfl, b, hl, hb, rfl, ht⟩)
  clear hf3 ht
  go_wp2
  refine bodyPost_ret (v := .agg #[.bool false, .func (.func 194) #[] #[.pointer (some ⟨b, 0, none⟩)]]) (by simp [results, Try.results170, go_sem, a0, a1]) rfl ?_
  exact part_post E.out (HPI.out.keep (fun g _ _ hg _ _ _ => by
    rw [Below.heap_setCell _ _ _ _ (by simp; omega), Below.heap_setCell _ _ _ _ (by simp; omega)]) (by omega) (by simp [World.setCell]))
      ((PSt.far hps.out (by simp; omega) _).far (by simp; omega) _) ((HF3.out.setCell (.inr (by simp)) _).setCell (.inr (by simp)) _)

theorem part_any (p : ByteArray) (pb k : Nat) (w : World) (hs : p.size ≤ 281474976710656) (h : PSt w pb p k) (hk : k < p.size) :
    Calls Try.prog 170 #[.pointer (some ⟨pb, 0, none⟩)] w (PartPost w pb p k) := by
  by_cases h42 : byteAt p k = 42
  · exact part_star p pb k w hs h hk h42
  · by_cases h63 : byteAt p k = 63
    · exact part_q p pb k w hs h hk h63
    · by_cases h91 : byteAt p k = 91
      · exact part_br p pb k w hs h hk h91
      · by_cases h92 : byteAt p k = 92
        · exact part_bs p pb k w hs h hk h92
        · exact part_lit p pb k w hs h hk h42 h63 h91 h92
end Go.Proofs.Ytmlmiboihjibiaa
