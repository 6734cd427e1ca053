/- The walk of the document's WordBytes. -/
import Derived.Test.YtlmaiiloihabdaaDoorFdH
set_option linter.unusedVariables false
set_option linter.unusedSimpArgs false
namespace Go.Proofs.YtlmaiiloihabdaaDoor
open Go.RowKit

set_option maxHeartbeats 4000000 in
set_option maxRecDepth 100000 in
theorem wordBytes_any (l : List ByteArray) (A : Option Addr) (c B : Nat) (w : World) (hr : wordsR l) (hB : B ≤ w.heap.size) (h : Sl w B 1 (.slice A l.length c) l.length (textsV l)) :
    Calls Tryd.prog 11 #[.slice A l.length c] w fun e w' => e = .returned (.string (toB (wordsBs l))) ∧ Fr [] w w' := by
  have HS := Lib.hid h
  have h12 := hr.2.1
  have hpos := hr.1
  have HR := Lib.hid hr
  clear h hr
  have IT := Lib.hid (fun (n : Nat) (hn : n ≤ 60) W => (show Calls Tryd.prog 28 #[.int .i64 n] W fun e w' => e = .returned (.string (toB (Lib.decDigits n))) ∧ Fr [] W w' from by
    have := digits_any n W (by omega)
    rw [itoa_nat] at this
    exact this))
  have EE := Lib.hid (told_end l)
  have DZ : (toB (Lib.decDigits l.length)).size ≤ 2 := by rw [toB_size]; exact dec_two_len (by omega)
  have T0 := Lib.hid (show (⟨#[42]⟩ ++ toB (Lib.decDigits l.length) ++ ⟨#[13, 10]⟩ : ByteArray) = toB (toldS l 0) from by
    apply ByteArray.ext
    simp [toB, told_zero])
  have I0 := Lib.hid (fun W => IT.out l.length (by omega) W)
  generalize toB (Lib.decDigits l.length) = t0 at *
  have e1 : (⟨#[42]⟩ : ByteArray).size = 1 := rfl
  have e2 : (⟨#[13, 10]⟩ : ByteArray).size = 2 := rfl
  have ad1 : ∀ W, (Op.stringOp .add ⟨#[42]⟩ t0).run Tryd.prog W = .ok (.string (⟨#[42]⟩ ++ t0)) W := fun W => run_string_add_sum W _ _ (by omega)
  have ad2 : ∀ W, (Op.stringOp .add (⟨#[42]⟩ ++ t0) ⟨#[13, 10]⟩).run Tryd.prog W = .ok (.string (⟨#[42]⟩ ++ t0 ++ ⟨#[13, 10]⟩)) W := fun W => run_string_add_sum W _ _ (by
    simp only [ByteArray.size_append, e1, e2]
    omega)
  clear e1 e2
  rw [T0.out] at ad2
  clear T0
  go_enter Tryd.func11, Tryd.ntmps11
  go_wp2_with fail
  refine (I0.out _).mono ?_
  rintro e w1 ⟨rfl, f1⟩
  have F1 := Lib.hid f1
  clear f1 I0
  go_wp2
  clear ad1 ad2
  go_loopg [3, 4] l.length (fun x vs i wr => ∃ (k : Nat), x = l.length - k ∧ k ≤ l.length ∧ i = .int .i64 k ∧ vs = .string (toB (toldS l k)) ∧ Fr [] w wr)
  case atStart => exact ⟨0, rfl, Nat.zero_le _, rfl, rfl, F1.out⟩
  case round =>
    obtain ⟨k, rfl, hk, rfl, rfl, hf⟩ := hrel
    have HF := Lib.hid hf
    clear hf F1
    by_cases hlt : k < l.length
    · obtain ⟨g, o, rfl, hg, hcap, hm, hcell⟩ := HS.out.at_ (by omega)
      obtain ⟨s, hs⟩ : ∃ s, l[k]? = some s := ⟨_, List.getElem?_eq_getElem hlt⟩
      have x1 : wr.cell? ⟨g, o + k, none⟩ = some (.string s) := HF.out.cell (hcell k _ (textsV_get l k s hs)) (by simp)
      have hs60 := HR.out.2.2 s (List.mem_of_getElem? hs)
      have TL := told_len HR.out k
      have IK := Lib.hid (IT.out s.size (by omega) wr.drew)
      have dz : (toB (Lib.decDigits s.size)).size ≤ 2 := by rw [toB_size]; exact dec_two_len (by omega)
      have e1 : (⟨#[36]⟩ : ByteArray).size = 1 := rfl
      have e2 : (⟨#[13, 10]⟩ : ByteArray).size = 2 := rfl
      have TW : toB (toldS l k) ++ (⟨#[36]⟩ ++ toB (Lib.decDigits s.size) ++ ⟨#[13, 10]⟩ ++ s ++ ⟨#[13, 10]⟩ : ByteArray) = toB (toldS l (k + 1)) := by
        rw [told_step hs]
        unfold wordBs
        apply ByteArray.ext
        simp [toB]
      have tz : (toB (toldS l k)).size ≤ 6 + 67 * k := by rw [toB_size]; exact TL
      clear hcell hs
      generalize toB (Lib.decDigits s.size) = t at *
      generalize toB (toldS l k) = was at *
      generalize hnew : toB (toldS l (k + 1)) = new at *
      have HN := Lib.hid hnew
      clear hnew
      have ad1 : ∀ W, (Op.stringOp .add ⟨#[36]⟩ t).run Tryd.prog W = .ok (.string (⟨#[36]⟩ ++ t)) W := fun W => run_string_add_sum W _ _ (by omega)
      have ad2 : ∀ W, (Op.stringOp .add (⟨#[36]⟩ ++ t) ⟨#[13, 10]⟩).run Tryd.prog W = .ok (.string (⟨#[36]⟩ ++ t ++ ⟨#[13, 10]⟩)) W := fun W => run_string_add_sum W _ _ (by
        simp only [ByteArray.size_append, e1, e2]; omega)
      have ad3 : ∀ W, (Op.stringOp .add (⟨#[36]⟩ ++ t ++ ⟨#[13, 10]⟩) s).run Tryd.prog W = .ok (.string (⟨#[36]⟩ ++ t ++ ⟨#[13, 10]⟩ ++ s)) W := fun W => run_string_add_sum W _ _ (by
        simp only [ByteArray.size_append, e1, e2]; omega)
      have ad4 : ∀ W, (Op.stringOp .add (⟨#[36]⟩ ++ t ++ ⟨#[13, 10]⟩ ++ s) ⟨#[13, 10]⟩).run Tryd.prog W = .ok (.string (⟨#[36]⟩ ++ t ++ ⟨#[13, 10]⟩ ++ s ++ ⟨#[13, 10]⟩)) W := fun W => run_string_add_sum W _ _ (by
        simp only [ByteArray.size_append, e1, e2]; omega)
      have ad5 : ∀ W, (Op.stringOp .add was (⟨#[36]⟩ ++ t ++ ⟨#[13, 10]⟩ ++ s ++ ⟨#[13, 10]⟩)).run Tryd.prog W = .ok (.string (was ++ (⟨#[36]⟩ ++ t ++ ⟨#[13, 10]⟩ ++ s ++ ⟨#[13, 10]⟩))) W := fun W => run_string_add_sum W _ _ (by
        simp only [ByteArray.size_append, e1, e2]; omega)
      rw [TW] at ad5
      clear e1 e2 TW
      generalize ⟨#[36]⟩ ++ t ++ ⟨#[13, 10]⟩ ++ s ++ ⟨#[13, 10]⟩ = t5 at *
      generalize ⟨#[36]⟩ ++ t ++ ⟨#[13, 10]⟩ ++ s = t4 at *
      generalize ⟨#[36]⟩ ++ t ++ ⟨#[13, 10]⟩ = t3 at *
      generalize ⟨#[36]⟩ ++ t = t2 at *
      go_wp2
      go_region_held3 (fun wx => wx.cell? ⟨g, o + k, none⟩ = some (.string s)) (go_keep) ((go_at_call 28; refine IK.out.mono ?_; rintro e9 w2 ⟨rfl, f2⟩; have G2 := Lib.hid (fr_predrew f2); have z1 := G2.out.cell x1 (by simp); clear f2 x1; have x1 := z1; clear z1))
      go_wp2
      go_roundg (l.length - (k + 1))
      case measure => omega
      case rel => exact ⟨k + 1, rfl, by omega, by go_num, by rw [HN.out], HF.out.trans G2.out⟩
    · obtain rfl : k = l.length := by omega
      rw [EE.out]
      go_wp2
      go_ret
      exact ⟨rfl, HF.out⟩
end Go.Proofs.YtlmaiiloihabdaaDoor
