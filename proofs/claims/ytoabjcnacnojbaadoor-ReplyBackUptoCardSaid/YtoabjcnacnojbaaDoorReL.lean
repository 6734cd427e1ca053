/- The walks of reply.Bytes and Encode. -/
import Derived.Test.YtoabjcnacnojbaaDoorReK
import Derived.Test.YtoabjcnacnojbaaDoorReE
set_option linter.unusedVariables false
set_option linter.unusedSimpArgs false
namespace Go.Proofs.YtoabjcnacnojbaaDoor
open Go.RowKit

def toldR (l : List Rp1) (k : Nat) : List UInt8 := 42 :: (Lib.decDigits l.length ++ 13 :: 10 :: (l.take k).flatMap oneBs)
theorem toldR_zero (l : List Rp1) : toldR l 0 = 42 :: (Lib.decDigits l.length ++ [13, 10]) := rfl
theorem toldR_step {l : List Rp1} {k : Nat} {x : Rp1} (h : l[k]? = some x) : toldR l (k + 1) = toldR l k ++ oneBs x := by
  unfold toldR
  rw [List.take_add_one, h]
  simp
theorem toldR_end (t : ByteArray) (n : Int) (l : List Rp1) : toldR l l.length = repBs ⟨6, t, n, l⟩ := by
  unfold toldR
  rw [List.take_length]
  rfl
theorem oneBs_len {x : Rp1} (h : Right1 x) : (oneBs x).length ≤ 70 := by
  have hi := (itoa_len (right1_int h)).2
  have hw := h.word
  have hb := h.bytes
  unfold oneBs
  split
  · rename_i hk
    have := (hw hk).1
    simp
    have e : x.text.data.size = x.text.size := rfl
    omega
  · split
    · simp; omega
    · split
      · simp; omega
      · split
        · rename_i hk
          have := hb hk
          have := dec_two_len (show x.text.size < 100 by omega)
          simp
          have e : x.text.data.size = x.text.size := rfl
          omega
        · simp
theorem dec_three_len {u : Nat} (h : u < 1000) : (Lib.decDigits u).length ≤ 9 := (dec_len (by omega)).2
theorem toldR_len {l : List Rp1} (h : ∀ x ∈ l, Right1 x) (hl : l.length ≤ 300) : ∀ k, (toldR l k).length ≤ 12 + 70 * k
  | 0 => by
    have := dec_three_len (show l.length < 1000 by omega)
    rw [toldR_zero]
    simp only [List.length_cons, List.length_append, List.length_nil]
    omega
  | k + 1 => by
    have ih := toldR_len h hl k
    rcases hk : l[k]? with _ | s
    · have : l.take (k + 1) = l.take k := by rw [List.take_add_one, hk]; simp
      unfold toldR at ih ⊢
      rw [this]
      omega
    · rw [toldR_step hk, List.length_append]
      have := oneBs_len (h s (List.mem_of_getElem? hk))
      omega

set_option maxHeartbeats 4000000 in
set_option maxRecDepth 100000 in
theorem rBytes_any (r : Rep) (v : Value) (w : World) (B : Nat) (hv : Tab w) (h0 : repCode r = 0) (hB : B ≤ w.heap.size) (h : RepV w B v r) :
    Calls Tryd.prog 13 #[v] w fun e w' => e = .returned (.string (toB (repBs r))) ∧ Fr [] w w' := by
  obtain ⟨A, c, rfl⟩ := h.form
  rcases rep_right h0 with ⟨hk, h1, -⟩ | ⟨hk, ht, hn, hl3, hall⟩
  · have e : repBs r = oneBs r.one := if_neg hk
    rw [e]
    exact rBytesOne_any r.one A c w hv h1
  obtain ⟨k, t, n, l⟩ := r
  have hk : k = 6 := hk
  have ht : t = ⟨#[]⟩ := ht
  have hn : n = 0 := hn
  subst hk ht hn
  have hl3 : l.length ≤ 300 := hl3
  have HA := Lib.hid (show ∀ x ∈ l, Right1 x from hall)
  have HV := Lib.hid h
  have HT := Lib.hid hv
  have F1 := Lib.hid ((Fr.refl [] w).alloc (.cells #[.int .i64 6, .string ⟨#[]⟩, .int .i64 0, .slice A l.length c] 24))
  have V1 := Lib.hid (Whole.new w 24 [.int .i64 6, .string ⟨#[]⟩, .int .i64 0, .slice A l.length c])
  have IN := Lib.hid (fun (W : World) (hW : Fr [] w W) => itoaT_any 0 W (hv.fr hW) (by omega))
  have IL := Lib.hid (fun (W : World) (hW : Fr [] w W) => itoa_nat_any l.length W (hv.fr hW) (by omega))
  have EE := Lib.hid (toldR_end ⟨#[]⟩ 0 l)
  have TLN := Lib.hid (toldR_len HA.out hl3)
  have DZ : (toB (Lib.decDigits l.length)).size ≤ 9 := by rw [toB_size]; exact dec_three_len (by omega)
  have T0 := Lib.hid (show (⟨#[42]⟩ ++ toB (Lib.decDigits l.length) ++ ⟨#[13, 10]⟩ : ByteArray).data.toList = toldR l 0 from by
    rw [bytes_wrap, toB_list, toldR_zero]; rfl)
  have e1 : (⟨#[42]⟩ : ByteArray).size = 1 := rfl
  have e2 : (⟨#[13, 10]⟩ : ByteArray).size = 2 := rfl
  have S0 : (⟨#[42]⟩ ++ toB (Lib.decDigits l.length) ++ ⟨#[13, 10]⟩ : ByteArray).size ≤ 100 := by
    simp only [ByteArray.size_append, e1, e2]; omega
  simp only at IN IL ⊢
  clear h h0 hall hv
  obtain ⟨R, hR⟩ : ∃ R, R = repBs ⟨6, ⟨#[]⟩, 0, l⟩ := ⟨_, rfl⟩
  have HR := Lib.hid (show R ≠ [] from by rw [hR]; exact fun h => by cases h)
  rw [← hR] at EE ⊢
  clear hR
  generalize toB (Lib.decDigits l.length) = t0 at *
  have ad1 : ∀ W, (Op.stringOp .add ⟨#[42]⟩ t0).run Tryd.prog W = .ok (.string (⟨#[42]⟩ ++ t0)) W := fun W => run_string_add_sum W _ _ (by omega)
  have ad2 : ∀ W, (Op.stringOp .add (⟨#[42]⟩ ++ t0) ⟨#[13, 10]⟩).run Tryd.prog W = .ok (.string (⟨#[42]⟩ ++ t0 ++ ⟨#[13, 10]⟩)) W := fun W => run_string_add_sum W _ _ (by
    simp only [ByteArray.size_append, e1, e2]; omega)
  clear e1 e2
  go_enter Tryd.func13, Tryd.ntmps13
  go_wp2_with fail
  refine (IN.out _ F1.out).mono ?_
  rintro e w1 ⟨rfl, f1⟩
  have F2 := Lib.hid (F1.out.trans f1)
  have V2 := Lib.hid (V1.out.fr f1 (by simp))
  have B1 := Lib.hid (BW.start w1)
  have hh1 := V2.out.lt
  obtain ⟨c0, c1, c2, c3⟩ := four V2.out
  clear f1 IN F1 V1
  generalize (⟨(Lib.itoa 0).toArray⟩ : ByteArray) = tz at *
  go_wp2_with fail
  refine (IL.out _ (F2.out.trans B1.out.f)).mono ?_
  rintro e w2 ⟨rfl, f2⟩
  have B2 := Lib.hid (B1.out.fr f2)
  clear f2 B1
  have WR := Lib.hid (B2.out.write (⟨#[42]⟩ ++ t0 ++ ⟨#[13, 10]⟩) (by simp only [List.length_nil]; omega))
  generalize ⟨#[42]⟩ ++ t0 ++ ⟨#[13, 10]⟩ = t1 at *
  unfold WrP at WR
  rw [List.nil_append, T0.out] at WR
  go_wp2_with fail
  refine WR.out.mono ?_
  rintro e w3 ⟨rfl, b3⟩
  have B3 := Lib.hid b3
  have V3 := Lib.hid (V2.out.fr b3.f (by simp))
  clear b3 WR ad1 ad2 T0 B2 c0 c1 c2 c3 V2 IL
  obtain ⟨c0, c1, c2, c3⟩ := four V3.out
  go_wp2
  go_loopg [52] l.length (fun x i wr => ∃ (k : Nat), x = l.length - k ∧ k ≤ l.length ∧ i = .int .i64 k ∧ BW w1 (toldR l k) wr)
  case atStart => exact ⟨0, rfl, Nat.zero_le _, rfl, B3.out⟩
  case round =>
    obtain ⟨k, rfl, hk, rfl, hb⟩ := hrel
    have BB := Lib.hid hb
    clear hb B3 c0 c1 c2 c3
    by_cases hlt : k < l.length
    · obtain ⟨b, off, rfl, hb, hc, hmx, hat⟩ := RepV.at_ (r := ⟨6, ⟨#[]⟩, 0, l⟩) HV.out (show 0 < l.length by omega)
      obtain ⟨x, hx⟩ : ∃ x, l[k]? = some x := ⟨_, List.getElem?_eq_getElem hlt⟩
      obtain ⟨A1, n1, h4⟩ := hat k x hx
      have hxr := HA.out x (List.mem_of_getElem? hx)
      have P4 := Lib.hid (h4.fr (F2.out.trans BB.out.f) (by simp))
      obtain ⟨x0, x1, x2, x3⟩ := P4.out
      have hc : l.length ≤ c := hc
      unfold maxLen at hmx
      have ST := Lib.hid (toldR_step hx)
      have TL := TLN.out k
      have OL := oneBs_len hxr
      have V4 := Lib.hid (Whole.new wr 24 [.int .i64 x.kind, .string x.text, .int .i64 x.n, .slice A1 x.sub n1])
      have BA := Lib.hid (BB.out.fr ((Fr.refl [] wr).alloc (.cells #[.int .i64 x.kind, .string x.text, .int .i64 x.n, .slice A1 x.sub n1] 24)))
      have RX := Lib.hid (fun W (hW : BW w1 (toldR l k) W) => rBytesOne_any x A1 n1 W (HT.out.fr (F2.out.trans hW.f)) hxr)
      have tz1 : (toB (oneBs x)).size ≤ 70 := by rw [toB_size]; exact OL
      have WR := Lib.hid (fun W (hW : BW w1 (toldR l k) W) => hW.write (toB (oneBs x)) (by omega))
      unfold WrP at WR
      rw [toB_list, ← ST.out] at WR
      clear hat h4 hx hxr ST TL OL
      generalize toB (oneBs x) = tx at *
      go_wp2_with fail
      refine (RX.out _ BA.out).mono ?_
      rintro e w4 ⟨rfl, f4⟩
      have B4 := Lib.hid (BA.out.fr f4)
      clear f4
      go_wp2_with fail
      refine (WR.out _ B4.out).mono ?_
      rintro e w5 ⟨rfl, b5⟩
      have B5 := Lib.hid b5
      clear b5 WR
      go_wp2
      go_roundg (l.length - (k + 1))
      case measure => omega
      case rel => exact ⟨k + 1, rfl, by omega, by go_num, B5.out⟩
    · obtain rfl : k = l.length := by omega
      rw [EE.out] at BB
      have SG := Lib.hid (BB.out.string HR.out)
      go_wp2_with fail
      refine SG.out.mono ?_
      rintro e w4 ⟨rfl, f4⟩
      go_wp2
      go_ret
      exact ⟨rfl, F2.out.trans f4⟩

def EncP (r : Rep) (w : World) (e : Ending) (w' : World) : Prop := e = .returned (.tuple #[.string (if repCode r = 0 then toB (repBs r) else ⟨#[]⟩), .int .i64 (repCode r)]) ∧ Fr [] w w'
set_option maxHeartbeats 1000000 in
set_option maxRecDepth 100000 in
theorem rEncode_any (r : Rep) (v : Value) (w : World) (B : Nat) (hv : Tab w) (hs : r.Small) (hl : r.list.length ≤ 281474976710656) (hB : B ≤ w.heap.size) (h : RepV w B v r) :
    Calls Tryd.prog 5 #[v] w (EncP r w) := by
  obtain ⟨A, c, rfl⟩ := h.form
  have F1 := Lib.hid ((Fr.refl [] w).alloc (.cells #[.int .i64 r.kind, .string r.text, .int .i64 r.n, .slice A r.list.length c] 24))
  have V1 := Lib.hid (Whole.new w 24 [.int .i64 r.kind, .string r.text, .int .i64 r.n, .slice A r.list.length c])
  have CK := Lib.hid (rCheck_any r _ _ B hs hl (Nat.le_trans hB F1.out.size) (h.fr F1.out hB (by simp)))
  unfold EncP
  by_cases h0 : repCode r = 0
  · have BY := Lib.hid (fun (W : World) (hW : Fr [] w W) => rBytes_any r _ W B (hv.fr hW) h0 (Nat.le_trans hB hW.size) (h.fr hW hB (by simp)))
    rw [h0] at CK ⊢
    rw [if_pos rfl]
    clear h hs hv h0
    generalize r.list.length = m at *
    go_enter Tryd.func5, Tryd.ntmps5
    go_wp2_with fail
    refine CK.out.mono ?_
    rintro e w1 ⟨rfl, f1⟩
    have F2 := Lib.hid (F1.out.trans f1)
    have V2 := Lib.hid (V1.out.fr f1 (by simp))
    obtain ⟨c0, c1, c2, c3⟩ := four V2.out
    clear f1 CK
    go_wp2_with fail
    refine (BY.out _ F2.out).mono ?_
    rintro e w2 ⟨rfl, f2⟩
    go_wp2
    go_ret2
    exact ⟨rfl, F2.out.trans f2⟩
  · rw [if_neg h0]
    have q0 : (repCode r != 0) = true := by simpa using h0
    clear h hs hv h0
    generalize r.list.length = m at *
    generalize repCode r = code at *
    go_enter Tryd.func5, Tryd.ntmps5
    go_wp2_with fail
    refine CK.out.mono ?_
    rintro e w1 ⟨rfl, f1⟩
    go_wp2
    go_ret2
    exact ⟨rfl, F1.out.trans f1⟩
end Go.Proofs.YtoabjcnacnojbaaDoor
