/- Numbers as texts: the walks of the reference's Digits and IntOf. -/
import Derived.Test.YtoabjcnacnojbaaDoorNuW
import Derived.Lib.ConvBytes
set_option linter.unusedVariables false
set_option linter.unusedSimpArgs false
namespace Go.Proofs.YtoabjcnacnojbaaDoor
open Go.RowKit

theorem toB_app (a b : List UInt8) : (⟨a.toArray⟩ : ByteArray) ++ ⟨b.toArray⟩ = ⟨(a ++ b).toArray⟩ := by
  apply ByteArray.ext
  simp
theorem dec_len_le (u : Nat) : (Lib.decDigits u).length ≤ u + 1 := by
  induction u using Nat.strongRecOn with
  | _ u ih =>
    rw [Lib.decDigits]
    split
    · simp
    · have := ih (u / 10) (by omega)
      rw [List.length_append, List.length_singleton]
      omega
theorem dec_size (u : Nat) : (⟨(Lib.decDigits u).toArray⟩ : ByteArray).size ≤ u + 1 := by
  have := dec_len_le u
  show (Lib.decDigits u).toArray.size ≤ _
  simpa using this
theorem dec_one {u : Nat} (h : u < 10) : Lib.decDigits u = [UInt8.ofNat (48 + u)] := by rw [Lib.decDigits, dif_pos h]
set_option maxRecDepth 100000 in
theorem dig1_any (n : Nat) (w : World) (h : n < 10) : Calls Tryd.prog 16 #[.int .i64 n] w fun e w' => e = .returned (.string ⟨(Lib.decDigits n).toArray⟩) ∧ Fr [] w w' := by
  have hd : (⟨(Lib.decDigits n).toArray⟩ : ByteArray) = ⟨#[UInt8.ofNat (48 + n)]⟩ := by rw [Lib.decDigits, dif_pos h]
  rw [hd]
  have hb : (convert 45 9 (.slice (some ⟨w.heap.size, 0, none⟩) 1 1)).run Tryd.prog (w.alloc (.cells #[.int .u8 (48 + (n : Int))] 5)) = .ok (.string ⟨#[UInt8.ofNat (48 + n)]⟩) (w.alloc (.cells #[.int .u8 (48 + (n : Int))] 5)) := by
    have := run_convert_bytes_back (P := Tryd.prog) (w.alloc (.cells #[.int .u8 (48 + (n : Int))] 5)) 45 9 5 ⟨w.heap.size, 0, none⟩ 1 [UInt8.ofNat (48 + n)] Tryd.underlying45 Tryd.underlying5 Tryd.underlying9 (fun j hj => by
      have e : j = 0 := by simp at hj; exact hj
      subst e
      have hc := (Whole.new w 5 [.int .u8 (48 + (n : Int))]).cell 0
      have e2 : (⟨w.heap.size, 0, none⟩ : Addr).add 0 = ⟨w.heap.size, 0, none⟩ := rfl
      rw [e2, hc]
      have h2 := toNat_dig h
      have : ((UInt8.ofNat (48 + n)).toNat : Int) = 48 + (n : Int) := by rw [h2]; omega
      simp [this]
      omega)
    exact this
  have HB := Lib.hid hb
  have hw8 : IntKind.u8.wrap (48 + (n : Int)) = 48 + (n : Int) := by rw [IntKind.wrap_u8]; omega
  clear hb hd
  go_enter Tryd.func16, Tryd.ntmps16
  have hb := HB.out
  generalize (⟨#[UInt8.ofNat (48 + n)]⟩ : ByteArray) = r at *
  go_wp2
  go_ret
  exact ⟨rfl, (Fr.refl [] w).alloc _⟩
set_option maxHeartbeats 1000000 in
set_option maxRecDepth 100000 in
theorem digN_any (n : Nat) : ∀ (w : World), n ≤ 9223372036854775807 → Calls Tryd.prog 16 #[.int .i64 n] w fun e w' => e = .returned (.string ⟨(Lib.decDigits n).toArray⟩) ∧ Fr [] w w' := by
  induction n using Nat.strongRecOn with
  | _ n ih =>
    intro w hn
    by_cases h : n < 10
    · exact dig1_any n w h
    · have hd : (⟨(Lib.decDigits n).toArray⟩ : ByteArray) = ⟨(Lib.decDigits (n / 10)).toArray⟩ ++ ⟨(Lib.decDigits (n % 10)).toArray⟩ := by
        rw [toB_app, dec_one (Nat.mod_lt n (by decide)), Lib.decDigits, dif_neg h]
      have H1 := Lib.hid (fun W => ih (n / 10) (by omega) W (by omega))
      have H2 := Lib.hid (fun W => ih (n % 10) (by omega) W (by omega))
      rw [hd]
      have z1 := dec_size (n / 10)
      have z2 := dec_size (n % 10)
      clear hd ih
      generalize (⟨(Lib.decDigits (n / 10)).toArray⟩ : ByteArray) = a at *
      generalize (⟨(Lib.decDigits (n % 10)).toArray⟩ : ByteArray) = b at *
      have e1 : ((n : Int) / 10) = ((n / 10 : Nat) : Int) := by omega
      have e2 : ((n : Int) % 10) = ((n % 10 : Nat) : Int) := by omega
      have K1 := Lib.hid (fun W => (show Calls Tryd.prog 16 #[.int .i64 ((n : Int) / 10)] W fun e w' => e = .returned (.string a) ∧ Fr [] W w' from by rw [e1]; exact H1.out W))
      have K2 := Lib.hid (fun W => (show Calls Tryd.prog 16 #[.int .i64 ((n : Int) % 10)] W fun e w' => e = .returned (.string b) ∧ Fr [] W w' from by rw [e2]; exact H2.out W))
      clear e1 e2 H1 H2
      go_enter Tryd.func16, Tryd.ntmps16
      go_wp2_with fail
      refine (K1.out _).mono ?_
      rintro e w1 ⟨rfl, f1⟩
      go_wp2_with fail
      refine (K2.out _).mono ?_
      rintro e w2 ⟨rfl, f2⟩
      go_wp2
      go_ret
      exact ⟨rfl, f1.trans f2⟩
set_option maxHeartbeats 1000000 in
set_option maxRecDepth 100000 in
theorem digits_any (n : Int) (w : World) (h : -999999999 ≤ n ∧ n ≤ 9223372036854775807) : Calls Tryd.prog 16 #[.int .i64 n] w fun e w' => e = .returned (.string ⟨(Lib.itoa n).toArray⟩) ∧ Fr [] w w' := by
  by_cases h0 : n < 0
  · have hi : Lib.itoa n = 45 :: Lib.decDigits n.natAbs := by unfold Lib.itoa; rw [if_pos h0]
    by_cases h1 : -10 < n
    · have hs : (⟨(Lib.itoa n).toArray⟩ : ByteArray) = ⟨#[45]⟩ ++ ⟨(Lib.decDigits n.natAbs).toArray⟩ := by
        rw [hi, show (⟨#[45]⟩ : ByteArray) = ⟨[45].toArray⟩ from rfl, toB_app]; rfl
      have D := Lib.hid (fun W => digN_any n.natAbs W (by omega))
      have e1 : ((n.natAbs : Nat) : Int) = -n := by omega
      rw [e1] at D
      rw [hs]
      have z1 := dec_size n.natAbs
      generalize (⟨(Lib.decDigits n.natAbs).toArray⟩ : ByteArray) = a at *
      clear hi hs e1
      go_enter Tryd.func16, Tryd.ntmps16
      go_wp2_with fail
      refine (D.out _).mono ?_
      rintro e w1 ⟨rfl, f1⟩
      go_wp2
      go_ret
      exact ⟨rfl, f1⟩
    · have hd : (⟨(Lib.itoa n).toArray⟩ : ByteArray) = ⟨#[45]⟩ ++ ⟨(Lib.decDigits (n.natAbs / 10)).toArray⟩ ++ ⟨(Lib.decDigits (n.natAbs % 10)).toArray⟩ := by
        rw [hi, show (⟨#[45]⟩ : ByteArray) = ⟨[45].toArray⟩ from rfl, toB_app, toB_app, dec_one (Nat.mod_lt n.natAbs (by decide)), Lib.decDigits, dif_neg (by omega)]
        rfl
      have D1 := Lib.hid (fun W => digN_any (n.natAbs / 10) W (by omega))
      have D2 := Lib.hid (fun W => digN_any (n.natAbs % 10) W (by omega))
      rw [hd]
      have z1 := dec_size (n.natAbs / 10)
      have z2 := dec_size (n.natAbs % 10)
      have z3 : n.natAbs ≤ 999999999 := by omega
      have z1 : (⟨(Lib.decDigits (n.natAbs / 10)).toArray⟩ : ByteArray).size ≤ 1000000000 := by omega
      have z2 : (⟨(Lib.decDigits (n.natAbs % 10)).toArray⟩ : ByteArray).size ≤ 1000000000 := by omega
      clear z3
      generalize (⟨(Lib.decDigits (n.natAbs / 10)).toArray⟩ : ByteArray) = a at *
      generalize (⟨(Lib.decDigits (n.natAbs % 10)).toArray⟩ : ByteArray) = b at *
      have e1 : ((n.natAbs / 10 : Nat) : Int) = -(n.tdiv 10) := by
        obtain ⟨k, rfl⟩ : ∃ k : Nat, n = -(k : Int) := ⟨n.natAbs, by omega⟩
        rw [Int.neg_tdiv, Int.tdiv_eq_ediv_of_nonneg (by omega)]
        omega
      have e2 : ((n.natAbs % 10 : Nat) : Int) = -(n.tmod 10) := by
        obtain ⟨k, rfl⟩ : ∃ k : Nat, n = -(k : Int) := ⟨n.natAbs, by omega⟩
        rw [Int.neg_tmod, Int.tmod_eq_emod_of_nonneg (by omega)]
        omega
      have b1 : -922337203685477580 ≤ n.tdiv 10 ∧ n.tdiv 10 ≤ 0 := by omega
      have b2 : -9 ≤ n.tmod 10 ∧ n.tmod 10 ≤ 0 := by omega
      rw [e1] at D1
      rw [e2] at D2
      clear hi hd e1 e2
      obtain ⟨b3, b4⟩ := b1
      obtain ⟨b5, b6⟩ := b2
      generalize hx : n.tdiv 10 = x at *
      generalize hy : n.tmod 10 = y at *
      have HX := Lib.hid hx
      have HY := Lib.hid hy
      clear hx hy
      go_enter Tryd.func16, Tryd.ntmps16
      have hx := HX.out
      have hy := HY.out
      go_wp2_with fail
      refine (D1.out _).mono ?_
      rintro e w1 ⟨rfl, f1⟩
      go_wp2_with fail
      refine (D2.out _).mono ?_
      rintro e w2 ⟨rfl, f2⟩
      go_wp2
      go_ret
      exact ⟨rfl, f1.trans f2⟩
  · have hi : Lib.itoa n = Lib.decDigits n.toNat := by unfold Lib.itoa; rw [if_neg h0]
    have := digN_any n.toNat w (by omega)
    rw [show ((n.toNat : Nat) : Int) = n by omega, ← hi] at this
    exact this
end Go.Proofs.YtoabjcnacnojbaaDoor
