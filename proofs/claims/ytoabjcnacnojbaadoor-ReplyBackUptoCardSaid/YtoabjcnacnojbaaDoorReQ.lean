/- The walk of the document's ReplyBytes. -/
import Derived.Test.YtoabjcnacnojbaaDoorReL
set_option linter.unusedVariables false
set_option linter.unusedSimpArgs false
namespace Go.Proofs.YtoabjcnacnojbaaDoor
open Go.RowKit

set_option maxHeartbeats 4000000 in
set_option maxRecDepth 100000 in
theorem dBytes_any (r : Rep) (v : Value) (w : World) (B : Nat) (h0 : repCode r = 0) (hB : B ≤ w.heap.size) (h : RepV w B v r) :
    Calls Tryd.prog 8 #[v] w fun e w' => e = .returned (.string (toB (repBs r))) ∧ Fr [] w w' := by
  obtain ⟨A, c, rfl⟩ := h.form
  rcases rep_right h0 with ⟨hk, h1, -⟩ | ⟨hk, ht, hn, hl3, hall⟩
  · have e : repBs r = oneBs r.one := if_neg hk
    rw [e]
    exact dBytesOne_any r.one A c w h1
  obtain ⟨k, t, n, l⟩ := r
  have hk : k = 6 := hk
  have ht : t = ⟨#[]⟩ := ht
  have hn : n = 0 := hn
  subst hk ht hn
  have hl3 : l.length ≤ 300 := hl3
  have HA := Lib.hid (show ∀ x ∈ l, Right1 x from hall)
  have HV := Lib.hid h
  have F1 := Lib.hid ((Fr.refl [] w).alloc (.cells #[.int .i64 6, .string ⟨#[]⟩, .int .i64 0, .slice A l.length c] 24))
  have V1 := Lib.hid (Whole.new w 24 [.int .i64 6, .string ⟨#[]⟩, .int .i64 0, .slice A l.length c])
  have IL := Lib.hid (fun (W : World) => dig_nat l.length W (by omega))
  have EE := Lib.hid (toldR_end ⟨#[]⟩ 0 l)
  have TLN := Lib.hid (toldR_len HA.out hl3)
  have DZ : (toB (Lib.decDigits l.length)).size ≤ 9 := by rw [toB_size]; exact dec_three_len (by omega)
  have T0 : (⟨#[42]⟩ ++ toB (Lib.decDigits l.length) ++ ⟨#[13, 10]⟩ : ByteArray) = toB (toldR l 0) := by
    apply ByteArray.ext
    simp [toB, toldR_zero]
  have e1 : (⟨#[42]⟩ : ByteArray).size = 1 := rfl
  have e2 : (⟨#[13, 10]⟩ : ByteArray).size = 2 := rfl
  simp only
  clear h h0 hall
  obtain ⟨R, hR⟩ : ∃ R, R = repBs ⟨6, ⟨#[]⟩, 0, l⟩ := ⟨_, rfl⟩
  rw [← hR] at EE ⊢
  clear hR
  generalize toB (Lib.decDigits l.length) = t0 at *
  have ad1 : ∀ W, (Op.stringOp .add ⟨#[42]⟩ t0).run Tryd.prog W = .ok (.string (⟨#[42]⟩ ++ t0)) W := fun W => run_string_add_sum W _ _ (by omega)
  have ad2 : ∀ W, (Op.stringOp .add (⟨#[42]⟩ ++ t0) ⟨#[13, 10]⟩).run Tryd.prog W = .ok (.string (⟨#[42]⟩ ++ t0 ++ ⟨#[13, 10]⟩)) W := fun W => run_string_add_sum W _ _ (by
    simp only [ByteArray.size_append, e1, e2]; omega)
  rw [T0] at ad2
  clear e1 e2 T0
  go_enter Tryd.func8, Tryd.ntmps8
  go_wp2_with fail
  refine (IL.out _).mono ?_
  rintro e w1 ⟨rfl, f1⟩
  have F2 := Lib.hid (F1.out.trans f1)
  have V2 := Lib.hid (V1.out.fr f1 (by simp))
  clear f1 IL F1 V1
  go_wp2
  clear ad1 ad2
  go_loopg [4, 5] l.length (fun x vs i wr => ∃ (k : Nat), x = l.length - k ∧ k ≤ l.length ∧ i = .int .i64 k ∧ vs = .string (toB (toldR l k)) ∧ Fr [] w1 wr)
  case atStart => exact ⟨0, rfl, Nat.zero_le _, rfl, rfl, Fr.refl _ _⟩
  case round =>
    obtain ⟨k, rfl, hk, rfl, rfl, hf⟩ := hrel
    have HF := Lib.hid hf
    have V3 := Lib.hid (V2.out.fr hf (by simp))
    obtain ⟨c0, c1, c2, c3⟩ := four V3.out
    clear hf
    by_cases hlt : k < l.length
    · obtain ⟨b, off, rfl, hb, hc, hmx, hat⟩ := RepV.at_ (r := ⟨6, ⟨#[]⟩, 0, l⟩) HV.out (show 0 < l.length by omega)
      obtain ⟨x, hx⟩ : ∃ x, l[k]? = some x := ⟨_, List.getElem?_eq_getElem hlt⟩
      obtain ⟨A1, n1, h4⟩ := hat k x hx
      have hxr := HA.out x (List.mem_of_getElem? hx)
      have P4 := Lib.hid (h4.fr (F2.out.trans HF.out) (by simp))
      obtain ⟨x0, x1, x2, x3⟩ := P4.out
      have hc : l.length ≤ c := hc
      unfold maxLen at hmx
      have TL := TLN.out k
      have OL := oneBs_len hxr
      have TW : toB (toldR l k) ++ toB (oneBs x) = toB (toldR l (k + 1)) := by
        rw [toldR_step hx]
        apply ByteArray.ext
        simp [toB]
      have RX := Lib.hid (fun W => dBytesOne_any x A1 n1 W hxr)
      have z1 : (toB (oneBs x)).size ≤ 70 := by rw [toB_size]; exact OL
      have z2 : (toB (toldR l k)).size ≤ 12 + 70 * k := by rw [toB_size]; exact TL
      clear hat h4 hx hxr TL OL
      generalize toB (oneBs x) = tx at *
      generalize toB (toldR l k) = was at *
      generalize hnew : toB (toldR l (k + 1)) = new at *
      have HN := Lib.hid hnew
      clear hnew
      have ad5 : ∀ W, (Op.stringOp .add was tx).run Tryd.prog W = .ok (.string (was ++ tx)) W := fun W => run_string_add_sum W _ _ (by omega)
      rw [TW] at ad5
      clear TW
      go_wp2_with fail
      refine (RX.out _).mono ?_
      rintro e w4 ⟨rfl, f4⟩
      have F4 := Lib.hid f4
      clear f4
      go_wp2
      go_roundg (l.length - (k + 1))
      case measure => omega
      case rel => exact ⟨k + 1, rfl, by omega, by go_num, by rw [HN.out], HF.out.trans F4.out⟩
    · obtain rfl : k = l.length := by omega
      rw [EE.out]
      go_wp2
      go_ret
      exact ⟨rfl, F2.out.trans HF.out⟩
end Go.Proofs.YtoabjcnacnojbaaDoor
