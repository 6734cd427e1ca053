/- The walks of the program's reader of an item's bytes: take, number, text. -/
import Derived.Test.YtfkfdmonnebmmaaItemN
import Derived.Test.YtfkfdmonnebmmaaProg
import Derived.Lib.ConvBytes
import Derived.Laws.BitsAllLaws
import Derived.Laws.BitsLemmas
set_option linter.unusedVariables false
set_option linter.unusedSimpArgs false
namespace Go.Proofs.Ytfkfdmonnebmmaa
open Go.RowKit

/-- the reader's block. -/
def Rd (w : World) (g : Nat) (s : ByteArray) (b : Bool) : Prop := Whole w g 78 [.string s, .bool b]

theorem emptyB : (⟨#[]⟩ : ByteArray) = ByteArray.empty := rfl

theorem take_no (g n : Nat) (s : ByteArray) (b : Bool) (w : World) (h : Rd w g s b) (hs : s.size ≤ 281474976710656) (hn : s.size < n) (hn2 : n ≤ 281474976710656) :
    Calls Try.prog 54 #[.pointer (some ⟨g, 0, none⟩), .int .i64 n] w fun e w' => e = .returned (.string ByteArray.empty) ∧ Rd w' g ByteArray.empty true ∧ Fr [g] w w' := by
  have hc0 : w.cell? ⟨g, 0, none⟩ = some (.string s) := h.cell 0
  have hc1 : w.cell? ⟨g, 1, none⟩ = some (.bool b) := h.cell 1
  have hf0 : w.frozen? ⟨g, 0, none⟩ = false := h.frozen 0
  have hf1 : w.frozen? ⟨g, 1, none⟩ = false := h.frozen 1
  have H := Lib.hid h
  clear h
  go_enter Try.func54, Try.ntmps54
  go_wp2
  go_ret
  exact ⟨rfl, (H.out.set_ 0 _).set_ 1 _, ((Fr.refl [g] w).setCell (p := ⟨g, 0, none⟩) (.inl (by simp)) _).setCell (p := ⟨g, 1, none⟩) (.inl (by simp)) _⟩

theorem take_yes (g n : Nat) (s : ByteArray) (b : Bool) (w : World) (h : Rd w g s b) (hs : s.size ≤ 281474976710656) (hn : ¬ s.size < n) :
    Calls Try.prog 54 #[.pointer (some ⟨g, 0, none⟩), .int .i64 n] w fun e w' => e = .returned (.string (s.extract 0 n)) ∧ Rd w' g (s.extract n s.size) b ∧ Fr [g] w w' := by
  have hc0 : w.cell? ⟨g, 0, none⟩ = some (.string s) := h.cell 0
  have hc1 : w.cell? ⟨g, 1, none⟩ = some (.bool b) := h.cell 1
  have hf0 : w.frozen? ⟨g, 0, none⟩ = false := h.frozen 0
  have hf1 : w.frozen? ⟨g, 1, none⟩ = false := h.frozen 1
  have hle : n ≤ s.size := by omega
  have H := Lib.hid h
  clear h
  go_enter Try.func54, Try.ntmps54
  go_wp2
  go_ret
  exact ⟨rfl, H.out.set_ 0 _, (Fr.refl [g] w).setCell (p := ⟨g, 0, none⟩) (.inl (by simp)) _⟩
/-- a string's bytes, in a new row. -/
theorem strBytes (w : World) (s : ByteArray) (hs : s.size ≤ 281474976710656) : ∃ cap wb, (convert 9 125 (.string s)).run Try.prog w = .ok (.slice (some ⟨w.heap.size, 0, none⟩) s.size cap) wb ∧ Fr [] w wb ∧ s.size ≤ cap ∧ cap ≤ maxLen ∧
    ∀ j, j < s.size → wb.cell? ⟨w.heap.size, j, none⟩ = some (.int .u8 (byteAt s j)) := by
  refine ⟨_, _, Lib.run_convert_string_bytes w 9 125 5 s Try.underlying9 Try.underlying125 Try.underlying5, ⟨?_, ?_, ?_, ?_, ?_⟩, grownCap_ge _ _ _ _, grownCap_le_maxLen _ _ _ _ (by unfold maxLen; omega), ?_⟩
  · unfold Lib.bytesWorld World.freeze; rfl
  · unfold Lib.bytesWorld World.freeze; rfl
  · unfold Lib.bytesWorld World.freeze; rfl
  · rw [Lib.bytesWorld_size]; omega
  · intro k hk _
    exact Lib.bytesWorld_at_old _ _ _ _ hk
  · intro j hj
    exact Lib.bytesWorld_cell _ _ _ _ hj

/-- the number that bytes tell, the greatest one first. -/
def numOf (t : ByteArray) : Nat → Nat
  | 0 => 0
  | k + 1 => numOf t k * 256 + byteAt t k
theorem numOf_lt (t : ByteArray) : ∀ k, k ≤ 4 → numOf t k < 256 ^ k := by
  intro k hk
  induction k with
  | zero => simp [numOf]
  | succ k ih =>
    have h1 := ih (by omega)
    have h2 := byteAt_lt t k
    rw [numOf, Nat.pow_succ]
    omega
theorem numOf_small (t : ByteArray) (k : Nat) (hk : k ≤ 3) : numOf t k < 16777216 := by
  have := numOf_lt t k (by omega)
  have h2 : 256 ^ k ≤ 256 ^ 3 := Nat.pow_le_pow_right (by omega) hk
  omega
theorem or_add (a b : Nat) (hb : b < 256) : a * 256 ||| b = a * 256 + b := by
  have := Nat.shiftLeft_add_eq_or_of_lt (i := 8) (b := b) (by simpa using hb) a
  rw [Nat.shiftLeft_eq] at this
  exact this.symm

theorem ofInt_small (a : Nat) (ha : a < 9223372036854775808) : (BitVec.ofInt 64 (a : Int)).toNat = a := by
  rw [BitVec.ofInt_natCast, BitVec.toNat_ofNat]
  exact Nat.mod_eq_of_lt (by omega)
theorem or_i64 (a c : Nat) (ha : a < 16777216) (hc : c < 256) : bits .or .i64 ((a : Int) * 256) (c : Int) = ((a * 256 + c : Nat) : Int) := by
  have e : ((a : Int) * 256) = ((a * 256 : Nat) : Int) := by omega
  rw [e]
  show IntKind.i64.wrap ((BitVec.ofInt 64 ((a * 256 : Nat) : Int) ||| BitVec.ofInt 64 (c : Int)).toNat : Int) = _
  rw [BitVec.toNat_or, ofInt_small _ (by omega), ofInt_small _ (by omega), or_add a c hc]
  exact IntWalk.i64_in _ (by omega)

set_option maxHeartbeats 400000 in
theorem number_yes (g n : Nat) (s : ByteArray) (b : Bool) (w : World) (h : Rd w g s b) (hs : s.size ≤ 281474976710656) (hn : ¬ s.size < n) (h4 : n ≤ 4) :
    Calls Try.prog 53 #[.pointer (some ⟨g, 0, none⟩), .int .i64 n] w fun e w' => e = .returned (.int .i64 (numOf (s.extract 0 n) n)) ∧ Rd w' g (s.extract n s.size) b ∧ Fr [g] w w' := by
  have T := Lib.hid (take_yes g n s b w h hs hn)
  have hg := Whole.lt h
  clear h
  go_enter Try.func53, Try.ntmps53
  go_wp2_with fail
  refine T.out.mono ?_
  rintro e w1 ⟨rfl, r1, f1⟩
  have hts : (s.extract 0 n).size = n := by simp; omega
  obtain ⟨cap, wb, hconv, fb, hcap, hcm, hcell⟩ := strBytes w1 (s.extract 0 n) (by omega)
  rw [hts] at hconv hcap hcell
  have R1 := Lib.hid (show Rd wb g (s.extract n s.size) b from Whole.fr r1 fb (by simp))
  have F1 := Lib.hid (show Fr [g] w wb from f1.trans fb.up)
  have HC := Lib.hid hcell
  clear r1 f1 fb hcell hts T
  generalize ht : s.extract 0 n = t at *
  have HT := Lib.hid ht
  clear ht
  go_wp2
  clear hconv
  go_loop [5, 13] (fun v i => ∃ k : Nat, k ≤ n ∧ i = .int .i64 k ∧ v = .int .i64 (numOf t k)) (fun _ i => n - (intOf i).toNat)
  case atStart => exact ⟨0, Nat.zero_le _, rfl, rfl⟩
  case round =>
    obtain ⟨k, hk, rfl, rfl⟩ := hrel
    by_cases hlt : k < n
    · have hc := HC.out k hlt
      have hb := byteAt_lt t k
      have hm := numOf_small t k (by omega)
      have HN := Lib.hid (show numOf t (k + 1) = numOf t k * 256 + byteAt t k from rfl)
      generalize numOf t k = a at *
      generalize byteAt t k = c at *
      generalize hz : numOf t (k + 1) = z at *
      have HZ := Lib.hid hz
      clear hz
      go_wp2
      rw [or_i64 a c hm hb]
      go_round
      case rel => exact ⟨k + 1, by omega, by go_num, by rw [HZ.out, HN.out]⟩
      case measure => simp [intOf]; omega
    · have e : k = n := by omega
      subst e
      go_wp2
      go_ret
      rw [HT.out]
      exact ⟨rfl, R1.out, F1.out⟩
theorem number_no (g n : Nat) (s : ByteArray) (b : Bool) (w : World) (h : Rd w g s b) (hs : s.size ≤ 281474976710656) (hn : s.size < n) (h4 : n ≤ 4) :
    Calls Try.prog 53 #[.pointer (some ⟨g, 0, none⟩), .int .i64 n] w fun e w' => e = .returned (.int .i64 0) ∧ Rd w' g ByteArray.empty true ∧ Fr [g] w w' := by
  have T := Lib.hid (take_no g n s b w h hs hn (by omega))
  have hg := Whole.lt h
  clear h
  go_enter Try.func53, Try.ntmps53
  go_wp2_with fail
  refine T.out.mono ?_
  rintro e w1 ⟨rfl, r1, f1⟩
  obtain ⟨cap, wb, hconv, fb, hcap, hcm, hcell⟩ := strBytes w1 ByteArray.empty (by decide)
  have R1 := Lib.hid (show Rd wb g ByteArray.empty true from Whole.fr r1 fb (by simp))
  have F1 := Lib.hid (show Fr [g] w wb from f1.trans fb.up)
  clear r1 f1 fb hcell T
  rw [show ByteArray.empty.size = 0 from rfl] at hconv hcap
  go_wp2
  clear hconv
  refine wp_loop_rounds 1 ?_
  rw [rounds_succ]
  go_wp2
  go_ret
  exact ⟨rfl, R1.out, F1.out⟩

/-- one byte. -/
theorem num1_yes (g : Nat) (s : ByteArray) (b : Bool) (w : World) (h : Rd w g s b) (hs : s.size ≤ 281474976710656) (hn : ¬ s.size < 1) :
    Calls Try.prog 53 #[.pointer (some ⟨g, 0, none⟩), .int .i64 1] w fun e w' => e = .returned (.int .i64 (byteAt s 0)) ∧ Rd w' g (s.extract 1 s.size) b ∧ Fr [g] w w' := by
  have h1 := number_yes g 1 s b w h hs hn (by omega)
  have e : numOf (s.extract 0 1) 1 = byteAt s 0 := by
    simp only [numOf]
    rw [byteAt_extract s 0 1 0 (by omega) (by omega)]
    simp
  rw [e] at h1
  exact h1
theorem num1_no (g : Nat) (s : ByteArray) (b : Bool) (w : World) (h : Rd w g s b) (hs : s.size ≤ 281474976710656) (hn : s.size < 1) :
    Calls Try.prog 53 #[.pointer (some ⟨g, 0, none⟩), .int .i64 1] w fun e w' => e = .returned (.int .i64 0) ∧ Rd w' g ByteArray.empty true ∧ Fr [g] w w' :=
  number_no g 1 s b w h hs hn (by omega)

/-- text: how long, then that. -/
theorem text_yes (g : Nat) (s t r : ByteArray) (b : Bool) (w : World) (h : Rd w g s b) (hs : s.size ≤ 281474976710656) (ht : toldB s = some (t, r)) :
    Calls Try.prog 108 #[.pointer (some ⟨g, 0, none⟩)] w fun e w' => e = .returned (.string t) ∧ Rd w' g r b ∧ Fr [g] w w' := by
  unfold toldB oneB at ht
  by_cases h1 : s.size < 1
  · rw [if_pos h1] at ht; cases ht
  · rw [if_neg h1, Option.bind_some] at ht
    unfold takeB at ht
    by_cases h2 : (s.extract 1 s.size).size < byteAt s 0
    · rw [if_pos h2] at ht; cases ht
    · rw [if_neg h2] at ht
      cases ht
      have N := Lib.hid (num1_yes g s b w h hs h1)
      have T := Lib.hid (fun W hW => take_yes g (byteAt s 0) (s.extract 1 s.size) b W hW (by simp; omega) h2)
      clear h
      generalize byteAt s 0 = n at *
      generalize s.extract 1 s.size = q at *
      go_enter Try.func108, Try.ntmps108
      go_wp2_with fail
      refine N.out.mono ?_
      rintro e w1 ⟨rfl, r1, f1⟩
      have R1 := Lib.hid r1
      clear r1
      go_wp2_with fail
      refine (T.out _ R1.out).mono ?_
      rintro e w2 ⟨rfl, r2, f2⟩
      have R2 := Lib.hid r2
      clear r2
      go_wp2
      go_ret
      exact ⟨rfl, R2.out, f1.trans f2⟩

theorem text_no (g : Nat) (s : ByteArray) (b : Bool) (w : World) (h : Rd w g s b) (hs : s.size ≤ 281474976710656) (ht : toldB s = none) :
    Calls Try.prog 108 #[.pointer (some ⟨g, 0, none⟩)] w fun e w' => (∃ t : ByteArray, t.size = 0 ∧ e = .returned (.string t)) ∧ (∃ s' : ByteArray, s'.size = 0 ∧ Rd w' g s' true) ∧ Fr [g] w w' := by
  unfold toldB oneB at ht
  by_cases h1 : s.size < 1
  · have N := Lib.hid (num1_no g s b w h hs h1)
    have T := Lib.hid (fun W hW => take_yes g 0 ByteArray.empty true W hW (by decide) (by decide))
    clear h
    go_enter Try.func108, Try.ntmps108
    go_wp2_with fail
    refine N.out.mono ?_
    rintro e w1 ⟨rfl, r1, f1⟩
    have R1 := Lib.hid r1
    clear r1
    go_wp2_with fail
    refine (T.out _ R1.out).mono ?_
    rintro e w2 ⟨rfl, r2, f2⟩
    have R2 := Lib.hid r2
    clear r2
    go_wp2
    go_ret
    exact ⟨⟨_, rfl, rfl⟩, ⟨_, rfl, R2.out⟩, f1.trans f2⟩
  · rw [if_neg h1, Option.bind_some] at ht
    unfold takeB at ht
    by_cases h2 : (s.extract 1 s.size).size < byteAt s 0
    · have N := Lib.hid (num1_yes g s b w h hs h1)
      have T := Lib.hid (fun W hW => take_no g (byteAt s 0) (s.extract 1 s.size) b W hW (by simp; omega) h2 (by have := byteAt_lt s 0; omega))
      clear h ht
      generalize byteAt s 0 = n at *
      generalize s.extract 1 s.size = q at *
      go_enter Try.func108, Try.ntmps108
      go_wp2_with fail
      refine N.out.mono ?_
      rintro e w1 ⟨rfl, r1, f1⟩
      have R1 := Lib.hid r1
      clear r1
      go_wp2_with fail
      refine (T.out _ R1.out).mono ?_
      rintro e w2 ⟨rfl, r2, f2⟩
      have R2 := Lib.hid r2
      clear r2
      go_wp2
      go_ret
      exact ⟨⟨_, rfl, rfl⟩, ⟨_, rfl, R2.out⟩, f1.trans f2⟩
    · rw [if_neg h2] at ht; cases ht

end Go.Proofs.Ytfkfdmonnebmmaa
