/- The walks of the reference's Taker. -/
import Derived.Test.YtfkfdmonnebmmaaItemT
set_option linter.unusedVariables false
set_option linter.unusedSimpArgs false
namespace Go.Proofs.Ytfkfdmonnebmmaa
open Go.RowKit

/-- the taker's block. -/
def Tk (w : World) (g : Nat) (s : ByteArray) (b : Bool) : Prop := Whole w g 89 [.string s, .bool b]

/-- what was read, or it fell short; what is bad stays so. -/
def Read2 {α : Type} (o : Option (α × ByteArray)) (v : α) (r : ByteArray) (b b' : Bool) : Prop := (b = false → Read1 o v r false b') ∧ (b = true → b' = true)

def TkPost (o : Option (ByteArray × ByteArray)) (g : Nat) (s : ByteArray) (b : Bool) (w : World) (e : Ending) (w' : World) : Prop :=
  ∃ t r b', e = .returned (.string t) ∧ Tk w' g r b' ∧ Fr [g] w w' ∧ Read2 o t r b b' ∧ t.size ≤ 281474976710656 ∧ r.size ≤ s.size ∧ (b' = false → b = false ∧ o = some (t, r))

theorem tkText_any (g n : Nat) (s : ByteArray) (b : Bool) (w : World) (h : Tk w g s b) (hs : s.size ≤ 281474976710656) (hn : n ≤ 281474976710656) :
    Calls Try.prog 63 #[.pointer (some ⟨g, 0, none⟩), .int .i64 n] w (TkPost (takeB n s) g s b w) := by
  have hc0 : w.cell? ⟨g, 0, none⟩ = some (.string s) := h.cell 0
  have hc1 : w.cell? ⟨g, 1, none⟩ = some (.bool b) := h.cell 1
  have hf0 : w.frozen? ⟨g, 0, none⟩ = false := h.frozen 0
  have hf1 : w.frozen? ⟨g, 1, none⟩ = false := h.frozen 1
  have HK := Lib.hid h
  clear h
  cases b
  · by_cases hlt : s.size < n
    · have hE := Lib.hid (show takeB n s = none from if_pos hlt)
      go_enter Try.func63, Try.ntmps63
      go_wp2
      go_ret
      refine ⟨_, s, true, rfl, Whole.set_ HK.out 1 _, (Fr.refl [g] w).setCell (p := ⟨g, 1, none⟩) (.inl (by simp)) _, ⟨fun _ => ?_, (fun h => by cases h)⟩, Nat.zero_le _, Nat.le_refl _, (fun h => by cases h)⟩
      rw [hE.out]
      exact rfl
    · have hE := Lib.hid (show takeB n s = some (s.extract 0 n, s.extract n s.size) from if_neg hlt)
      have hle : n ≤ s.size := by omega
      go_enter Try.func63, Try.ntmps63
      go_wp2
      go_ret
      refine ⟨_, s.extract n s.size, false, rfl, Whole.set_ HK.out 0 _, (Fr.refl [g] w).setCell (p := ⟨g, 0, none⟩) (.inl (by simp)) _, ⟨fun _ => ?_, (fun h => by cases h)⟩, by simp; omega, by simp, fun _ => ⟨rfl, hE.out⟩⟩
      rw [hE.out]
      exact ⟨rfl, rfl, rfl⟩
  · go_enter Try.func63, Try.ntmps63
    go_wp2
    go_ret
    exact ⟨_, s, true, rfl, Whole.set_ HK.out 1 _, (Fr.refl [g] w).setCell (p := ⟨g, 1, none⟩) (.inl (by simp)) _, ⟨(fun h => by cases h), fun _ => rfl⟩, Nat.zero_le _, Nat.le_refl _, (fun h => by cases h)⟩

def TkNum (g : Nat) (s : ByteArray) (b : Bool) (w : World) (e : Ending) (w' : World) : Prop :=
  ∃ (n : Nat) (r : ByteArray) (b' : Bool), e = .returned (.int .i64 n) ∧ Tk w' g r b' ∧ Fr [g] w w' ∧ Read2 (oneB s) n r b b' ∧ n < 256 ∧ r.size ≤ s.size

theorem take1_one {s t r : ByteArray} (h : takeB 1 s = some (t, r)) : oneB s = some (byteAt t 0, r) ∧ t.size = 1 := by
  unfold takeB at h
  by_cases h1 : s.size < 1
  · rw [if_pos h1] at h; cases h
  · rw [if_neg h1] at h
    cases h
    unfold oneB
    rw [if_neg h1, byteAt_extract s 0 1 0 (by omega) (by omega)]
    refine ⟨by simp, by simp; omega⟩
theorem take1_none {s : ByteArray} (h : takeB 1 s = none) : oneB s = none := by
  unfold takeB at h
  unfold oneB
  by_cases h1 : s.size < 1
  · rw [if_pos h1]
  · rw [if_neg h1] at h; cases h

attribute [local go_sem] byteAt_eq in
theorem tkOne_any (g : Nat) (s : ByteArray) (b : Bool) (w : World) (h : Tk w g s b) (hs : s.size ≤ 281474976710656) :
    Calls Try.prog 62 #[.pointer (some ⟨g, 0, none⟩)] w (TkNum g s b w) := by
  have T := Lib.hid (tkText_any g 1 s b w h hs (by omega))
  clear h
  go_enter Try.func62, Try.ntmps62
  go_wp2_with fail
  refine T.out.mono ?_
  rintro e w1 ⟨t, r, b', rfl, hk, f1, hr, ht, hrs, hf⟩
  have e1 : w1.cell? ⟨g, 1, none⟩ = some (.bool b') := hk.cell 1
  have HK := Lib.hid hk
  have HR := Lib.hid hr
  clear hk hr T
  cases b'
  · obtain ⟨hb, ho⟩ := hf rfl
    obtain ⟨h1, h2⟩ := take1_one ho
    have HO := Lib.hid h1
    have hlt : 0 < t.size := by omega
    have hbl := byteAt_lt t 0
    have HB := Lib.hid hb
    clear h1 ho hb hf
    go_wp2
    go_ret
    refine ⟨_, r, false, rfl, HK.out, f1, ⟨fun _ => ?_, fun h => by rw [HB.out] at h; cases h⟩, byteAt_lt _ _, hrs⟩
    rw [HO.out]
    exact ⟨rfl, rfl, rfl⟩
  · clear hf
    go_wp2
    go_ret
    refine ⟨0, r, true, rfl, HK.out, f1, ⟨fun hb => ?_, fun _ => rfl⟩, by omega, hrs⟩
    have h1 := HR.out.1 hb
    cases ho : takeB 1 s with
    | none => rw [take1_none ho]; exact rfl
    | some p => rw [ho] at h1; obtain ⟨_, _, h3⟩ := h1; cases h3

theorem tkTold_any (g : Nat) (s : ByteArray) (b : Bool) (w : World) (h : Tk w g s b) (hs : s.size ≤ 281474976710656) :
    Calls Try.prog 64 #[.pointer (some ⟨g, 0, none⟩)] w fun e w' => ∃ t r b', e = .returned (.string t) ∧ Tk w' g r b' ∧ Fr [g] w w' ∧ Read2 (toldB s) t r b b' ∧ t.size ≤ 281474976710656 ∧ r.size ≤ s.size := by
  have T := Lib.hid (tkOne_any g s b w h hs)
  clear h
  go_enter Try.func64, Try.ntmps64
  go_wp2_with fail
  refine T.out.mono ?_
  rintro e w1 ⟨n, r, b1, rfl, hk, f1, hr, hn, hrs⟩
  have T2 := Lib.hid (tkText_any g n r b1 w1 hk (by omega) (by omega))
  have HR := Lib.hid hr
  clear hk hr T
  go_wp2_with fail
  refine T2.out.mono ?_
  rintro e w2 ⟨t, r2, b2, rfl, hk2, f2, hr2, ht, hrs2, _⟩
  have HK := Lib.hid hk2
  have HR2 := Lib.hid hr2
  clear hk2 hr2 T2
  go_wp2
  go_ret
  refine ⟨t, r2, b2, rfl, HK.out, f1.trans f2, ⟨fun hb => ?_, fun hb => HR2.out.2 (HR.out.2 hb)⟩, ht, by omega⟩
  have h1 := HR.out.1 hb
  unfold toldB
  cases ho : oneB s with
  | none =>
    rw [ho] at h1
    have hb1 : b1 = true := h1
    have := HR2.out.2 hb1
    exact this
  | some p =>
    rw [ho] at h1
    obtain ⟨rfl, rfl, hb1⟩ := h1
    exact HR2.out.1 hb1
end Go.Proofs.Ytfkfdmonnebmmaa
