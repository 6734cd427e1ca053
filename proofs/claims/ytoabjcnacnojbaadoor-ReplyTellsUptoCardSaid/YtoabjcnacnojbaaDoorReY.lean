/- The walks of the laws of replies. -/
import Derived.Test.YtoabjcnacnojbaaDoorReX
import Derived.Test.YtoabjcnacnojbaaDoorReQ
import Derived.Test.YtoabjcnacnojbaaDoorReL
set_option linter.unusedVariables false
set_option linter.unusedSimpArgs false
namespace Go.Proofs.YtoabjcnacnojbaaDoor
open Go.RowKit

def begL : List Rp1 := [⟨4, ⟨#[97, 13, 10]⟩, 0, 0⟩, ⟨5, ⟨#[]⟩, 0, 0⟩, ⟨3, ⟨#[]⟩, -5, 0⟩]
def begR : Rep := ⟨6, ⟨#[]⟩, 0, begL⟩
def sBeg : ByteArray := ⟨#[42, 51, 13, 10, 36, 51, 13, 10, 97, 13, 10, 13, 10, 36, 45, 49, 13, 10, 58, 45, 53, 13, 10]⟩
theorem beg_code : repCode begR = 0 := by decide
theorem beg_bytes : toB (repBs begR) = sBeg := by
  have e3 : Lib.decDigits 3 = [51] := by rw [Lib.decDigits, dif_pos (by decide)]; rfl
  have e5 : Lib.itoa (-5) = [45, 53] := by
    unfold Lib.itoa
    rw [if_pos (by decide), show (-5 : Int).natAbs = 5 from rfl, Lib.decDigits, dif_pos (by decide)]
    rfl
  have o1 : oneBs ⟨4, ⟨#[97, 13, 10]⟩, 0, 0⟩ = [36, 51, 13, 10, 97, 13, 10, 13, 10] := by
    show 36 :: (Lib.decDigits 3 ++ _) = _
    rw [e3]; rfl
  have o2 : oneBs ⟨5, ⟨#[]⟩, 0, 0⟩ = [36, 45, 49, 13, 10] := rfl
  have o3 : oneBs ⟨3, ⟨#[]⟩, -5, 0⟩ = [58, 45, 53, 13, 10] := by
    show 58 :: (Lib.itoa (-5) ++ _) = _
    rw [e5]; rfl
  have : repBs begR = 42 :: (Lib.decDigits 3 ++ 13 :: 10 :: (oneBs ⟨4, ⟨#[97, 13, 10]⟩, 0, 0⟩ ++ (oneBs ⟨5, ⟨#[]⟩, 0, 0⟩ ++ (oneBs ⟨3, ⟨#[]⟩, -5, 0⟩ ++ [])))) := rfl
  rw [this, e3, o1, o2, o3]
  rfl
theorem beg_small : begR.Small := ⟨⟨by decide, by decide, by decide, by decide⟩, fun x hx => by
  simp only [begR, begL, List.mem_cons, List.not_mem_nil, or_false] at hx
  rcases hx with rfl | rfl | rfl <;> exact ⟨by decide, by decide, by decide, by decide⟩⟩
theorem beg_sub : ∀ x ∈ begR.list, x.sub = 0 := fun x hx => by
  simp only [begR, begL, List.mem_cons, List.not_mem_nil, or_false] at hx
  rcases hx with rfl | rfl | rfl <;> rfl
theorem ans_len (l : List UInt8) : (ansR l).list.length ≤ 300 := by
  by_cases h : ansC l = 0
  · rcases rep_right (ans_back h).1 with ⟨_, _, h⟩ | ⟨_, _, _, h, _⟩
    · rw [h]; simp
    · exact h
  · rw [ans_no h]; simp [zeroR]
theorem right_sub {r : Rep} (h : repCode r = 0) : r.list.length ≤ 300 ∧ ∀ x ∈ r.list, x.sub = 0 := by
  rcases rep_right h with ⟨_, _, h⟩ | ⟨_, _, _, h, hx⟩
  · rw [h]; simp
  · exact ⟨h, fun x hm => (hx x hm).sub⟩
theorem ans_sub (l : List UInt8) : ∀ x ∈ (ansR l).list, x.sub = 0 := by
  by_cases h : ansC l = 0
  · exact (right_sub (ans_back h).1).2
  · rw [ans_no h]; intro x hx; cases hx

set_option maxHeartbeats 4000000 in
set_option maxRecDepth 100000 in
theorem replyBegun_any (w : World) (hv : Vars w) (hm : Mx w) : Calls Tryd.prog 10 #[] w fun e w' => e = .returned (.bool true) ∧ Fr [] w w' := by
  have F0 := Lib.hid (((Fr.refl [] w).alloc (.cells #[.int .i64 4, .string ⟨#[97, 13, 10]⟩, .int .i64 0, .slice none 0 0, .int .i64 5, .string ⟨#[]⟩, .int .i64 0, .slice none 0 0, .int .i64 3, .string ⟨#[]⟩, .int .i64 (-5), .slice none 0 0] 24)).alloc (.cells #[.int .i64 6, .string ⟨#[]⟩, .int .i64 0, .slice (some ⟨w.heap.size, 0, none⟩) 3 3] 24))
  have V0 := Lib.hid (new_at w (.cells #[.int .i64 4, .string ⟨#[97, 13, 10]⟩, .int .i64 0, .slice none 0 0, .int .i64 5, .string ⟨#[]⟩, .int .i64 0, .slice none 0 0, .int .i64 3, .string ⟨#[]⟩, .int .i64 (-5), .slice none 0 0] 24) 24 [.int .i64 6, .string ⟨#[]⟩, .int .i64 0, .slice (some ⟨w.heap.size, 0, none⟩) 3 3])
  have S0 := own_sl (World.ownsRow_lit (base := w.heap.size) (e := 24) (size := 4) w #[.int .i64 4, .string ⟨#[97, 13, 10]⟩, .int .i64 0, .slice none 0 0, .int .i64 5, .string ⟨#[]⟩, .int .i64 0, .slice none 0 0, .int .i64 3, .string ⟨#[]⟩, .int .i64 (-5), .slice none 0 0] 3 (Nat.le_refl _) (by decide) rfl)
  have R0 := Lib.hid (show RepV (w.alloc (.cells #[.int .i64 4, .string ⟨#[97, 13, 10]⟩, .int .i64 0, .slice none 0 0, .int .i64 5, .string ⟨#[]⟩, .int .i64 0, .slice none 0 0, .int .i64 3, .string ⟨#[]⟩, .int .i64 (-5), .slice none 0 0] 24)) (w.alloc (.cells #[.int .i64 4, .string ⟨#[97, 13, 10]⟩, .int .i64 0, .slice none 0 0, .int .i64 5, .string ⟨#[]⟩, .int .i64 0, .slice none 0 0, .int .i64 3, .string ⟨#[]⟩, .int .i64 (-5), .slice none 0 0] 24)).heap.size (.agg #[.int .i64 6, .string ⟨#[]⟩, .int .i64 0, .slice (some ⟨w.heap.size, 0, none⟩) 3 3]) begR from
    ⟨_, _, begL.map fun x => rp4 x none 0, rfl, ⟨rfl, fun i x hx => ⟨rp4 x none 0, by rw [List.getElem?_map]; rw [show begL[i]? = some x from hx]; rfl, none, 0, rfl⟩⟩, S0⟩)
  have R1 := Lib.hid (R0.out.go ((Fr.refl [] _).alloc (.cells #[.int .i64 6, .string ⟨#[]⟩, .int .i64 0, .slice (some ⟨w.heap.size, 0, none⟩) 3 3] 24)))
  have EN := Lib.hid (rEncode_any begR _ _ _ (hv.fr F0.out).tab beg_small (by decide) (Nat.le_refl _) R1.out)
  have DE := Lib.hid (fun W (hW : Fr [] w W) => rDecode_any sBeg W (by decide) (hv.fr hW) (hm.fr hW (by simp)))
  have CK := Lib.hid (fun W v (h : RepV W W.heap.size v begR) => rCheck_any begR v W _ beg_small (by decide) (Nat.le_refl _) h)
  have SM := Lib.hid (fun W v u (h : RepV W W.heap.size v begR) (k : RepV W W.heap.size u begR) => same_any begR v u W _ (by decide) beg_sub (Nat.le_refl _) h k)
  have AT := ans_told beg_code
  have ED : sBeg.data.toList = repBs begR := by rw [← beg_bytes, toB_list]
  unfold EncP at EN
  unfold DecR at DE
  rw [beg_code, if_pos rfl, beg_bytes] at EN
  rw [ED, AT.1, AT.2] at DE
  rw [beg_code] at CK
  have qe : (sBeg.toList == [42, 51, 13, 10, 36, 51, 13, 10, 97, 13, 10, 13, 10, 36, 45, 49, 13, 10, 58, 45, 53, 13, 10]) = true := by rw [ByteArray.toList_eq]; rfl
  clear S0 AT ED R0
  generalize sBeg = s at *
  go_enter Tryd.func10, Tryd.ntmps10
  go_wp2_with fail
  refine EN.out.mono ?_
  rintro e w1 ⟨rfl, f1⟩
  have F1 := Lib.hid (F0.out.trans f1)
  have V1 := Lib.hid (V0.out.fr f1 (by simp))
  have R2 := Lib.hid (R1.out.go f1)
  obtain ⟨a0, a1, a2, a3⟩ := four V1.out
  clear f1 R1 V0 EN
  go_wp2_with fail
  refine (DE.out _ F1.out).mono ?_
  rintro e w2 ⟨v, rfl, o2, f2⟩
  obtain ⟨A, c, rfl⟩ := o2.form
  have F2 := Lib.hid (F1.out.trans f2)
  have V2 := Lib.hid (V1.out.fr f2 (by simp))
  have R3 := Lib.hid (R2.out.go f2)
  have O2 := Lib.hid o2.v
  have A3 := Lib.hid ((Fr.refl [] w2).alloc (.cells #[.int .i64 begR.kind, .string begR.text, .int .i64 begR.n, .slice A begR.list.length c] 24))
  have V3 := Lib.hid (V2.out.fr A3.out (by simp))
  have X3 := Lib.hid (Whole.new w2 24 [.int .i64 begR.kind, .string begR.text, .int .i64 begR.n, .slice A begR.list.length c])
  clear a0 a1 a2 a3 f2 o2
  have hl1 := V2.out.lt
  obtain ⟨a0, a1, a2, a3⟩ := four V2.out
  go_wp2_with fail
  refine (CK.out _ _ (R3.out.go A3.out)).mono ?_
  rintro e w4 ⟨rfl, f4⟩
  have V4 := Lib.hid (V3.out.fr f4 (by simp))
  have X4 := Lib.hid (X3.out.fr f4 (by simp))
  have G4 := Lib.hid (A3.out.trans f4)
  clear a0 a1 a2 a3 f4
  obtain ⟨a0, a1, a2, a3⟩ := four V4.out
  obtain ⟨x0, x1, x2, x3⟩ := four X4.out
  go_wp2_with fail
  refine (SM.out _ _ _ (O2.out.go G4.out) (R3.out.go G4.out)).mono ?_
  rintro e w5 ⟨rfl, f5⟩
  go_wp2
  go_ret
  exact ⟨rfl, F2.out.trans (G4.out.trans f5)⟩

set_option maxHeartbeats 4000000 in
set_option maxRecDepth 100000 in
theorem replyTells_any (r : Rep) (v : Value) (s : ByteArray) (w : World) (B : Nat) (hB : B ≤ w.heap.size) (hr : RepV w B v r) (hs : r.Small) (hl : r.list.length ≤ 281474976710656) (h1 : s.size ≤ 1048576) (hv : Vars w) (hm : Mx w) :
    Calls Tryd.prog 3 #[v, .string s] w fun e w' => e = .returned (.bool true) ∧ Fr [] w w' := by
  obtain ⟨A, c, rfl⟩ := hr.form
  have F0 := Lib.hid ((Fr.refl [] w).alloc (.cells #[.int .i64 r.kind, .string r.text, .int .i64 r.n, .slice A r.list.length c] 24))
  have V0 := Lib.hid (Whole.new w 24 [.int .i64 r.kind, .string r.text, .int .i64 r.n, .slice A r.list.length c])
  have HR := Lib.hid (fun W (hW : Fr [] w W) => hr.fr hW hB (by simp))
  have EN := Lib.hid (fun W (hW : Fr [] w W) => rEncode_any r _ W B (hv.fr hW).tab hs hl (Nat.le_trans hB hW.size) (HR.out W hW))
  have DE := Lib.hid (fun W (hW : Fr [] w W) => rDecode_any s W (by omega) (hv.fr hW) (hm.fr hW (by simp)))
  have CR := Lib.hid (fun W (hW : Fr [] w W) => dCheck_any r _ W B hs hl (Nat.le_trans hB hW.size) (HR.out W hW))
  have CK := Lib.hid (fun W (hW : Fr [] w W) => rCheck_any r _ W B hs hl (Nat.le_trans hB hW.size) (HR.out W hW))
  have RB := Lib.hid (fun W (hW : Fr [] w W) (hc : repCode r = 0) => dBytes_any r _ W B hc (Nat.le_trans hB hW.size) (HR.out W hW))
  have RO := Lib.hid (fun W => dDecode_any s W (by omega))
  have BG := Lib.hid (fun W (hW : Fr [] w W) => replyBegun_any W (hv.fr hW) (hm.fr hW (by simp)))
  have SM := Lib.hid (fun W v u (h : RepV W W.heap.size v (ansR s.data.toList)) (k : RepV W W.heap.size u (ansR s.data.toList)) => same_any _ v u W _ (Nat.le_trans (ans_len _) (by decide)) (ans_sub _) (Nat.le_refl _) h k)
  unfold EncP at EN
  unfold DecR at DE RO
  obtain ⟨t, ht⟩ : ∃ t, t = if repCode r = 0 then toB (repBs r) else ⟨#[]⟩ := ⟨_, rfl⟩
  rw [← ht] at EN
  have HT := Lib.hid ht
  clear ht hr hs hv hm
  generalize ansR s.data.toList = R at *
  generalize ansC s.data.toList = C at *
  go_enter Tryd.func3, Tryd.ntmps3
  go_wp2_with fail
  refine (EN.out _ F0.out).mono ?_
  rintro e w1 ⟨rfl, f1⟩
  have F1 := Lib.hid (F0.out.trans f1)
  have V1 := Lib.hid (V0.out.fr f1 (by simp))
  clear f1 V0 EN
  go_wp2_with fail
  refine (DE.out _ F1.out).mono ?_
  rintro e w2 ⟨v2, rfl, o2, f2⟩
  obtain ⟨A2, c2, rfl⟩ := o2.form
  have F2 := Lib.hid (F1.out.trans f2)
  have A3 := Lib.hid ((Fr.refl [] w2).alloc (.cells #[.int .i64 R.kind, .string R.text, .int .i64 R.n, .slice A2 R.list.length c2] 24))
  have O2 := Lib.hid (o2.v.go A3.out)
  have V2 := Lib.hid ((V1.out.fr f2 (by simp)).fr A3.out (by simp))
  have VX := Lib.hid (V1.out.fr f2 (by simp))
  have X2 := Lib.hid (Whole.new w2 24 [.int .i64 R.kind, .string R.text, .int .i64 R.n, .slice A2 R.list.length c2])
  have F3 := Lib.hid (F2.out.trans A3.out)
  have hl1 := VX.out.lt
  obtain ⟨a0, a1, a2, a3⟩ := four VX.out
  clear f2 o2 V1 DE
  go_wp2_with fail
  refine (CR.out _ F3.out).mono ?_
  rintro e w4 ⟨rfl, f4⟩
  have F4 := Lib.hid (F3.out.trans f4)
  have O4 := Lib.hid (O2.out.go f4)
  have V4 := Lib.hid (V2.out.fr f4 (by simp))
  have X4 := Lib.hid (X2.out.fr f4 (by simp))
  clear f4 a0 a1 a2 a3 CR
  go_upto_if 26 with fail
  go_cut [10] from 26 to 28 (fun sv wx => (sv = .string t ∧ Fr [] w4 wx))
  case first =>
    by_cases hc : repCode r = 0
    · have W3 := Lib.hid (RB.out w4 F4.out hc)
      have HT2 := Lib.hid (show t = toB (repBs r) from HT.out.trans (if_pos hc))
      have q1 : (repCode r == 0) = true := by simpa using hc
      rw [← HT2.out] at W3
      clear hc HT
      obtain ⟨a0, a1, a2, a3⟩ := four V4.out
      go_wp2_with fail
      refine W3.out.mono ?_
      rintro e w5 ⟨rfl, f5⟩
      have F5 := Lib.hid f5
      go_wp2
      go_meet
      case rel => exact ⟨rfl, F5.out⟩
    · have HT2 := Lib.hid (show t = ⟨#[]⟩ from HT.out.trans (if_neg hc))
      have q1 : (repCode r == 0) = false := by simpa using hc
      clear hc HT
      go_wp2
      go_meet
      case rel => exact ⟨by rw [HT2.out], Fr.refl _ _⟩
  obtain ⟨rfl, f5⟩ := hcut
  have F5 := Lib.hid (F4.out.trans f5)
  have O5 := Lib.hid (O4.out.go f5)
  have V5 := Lib.hid (V4.out.fr f5 (by simp))
  have X5 := Lib.hid (X4.out.fr f5 (by simp))
  clear f5 RB HT
  go_wp2_with fail
  refine (RO.out _).mono ?_
  rintro e w6 ⟨v6, rfl, o6, f6⟩
  obtain ⟨A6, c6, rfl⟩ := o6.form
  have F6 := Lib.hid (F5.out.trans f6)
  have A7 := Lib.hid ((Fr.refl [] w6).alloc (.cells #[.int .i64 R.kind, .string R.text, .int .i64 R.n, .slice A6 R.list.length c6] 24))
  have O6 := Lib.hid ((O5.out.go f6).go A7.out)
  have P6 := Lib.hid (o6.v.go A7.out)
  have V6 := Lib.hid ((V5.out.fr f6 (by simp)).fr A7.out (by simp))
  have X6 := Lib.hid ((X5.out.fr f6 (by simp)).fr A7.out (by simp))
  have Y6 := Lib.hid (Whole.new w6 24 [.int .i64 R.kind, .string R.text, .int .i64 R.n, .slice A6 R.list.length c6])
  have F7 := Lib.hid (F6.out.trans A7.out)
  clear f6 o6 RO O5 V5 X5
  go_wp2_with fail
  refine (BG.out _ F7.out).mono ?_
  rintro e w8 ⟨rfl, f8⟩
  have F8 := Lib.hid (F7.out.trans f8)
  have O8 := Lib.hid (O6.out.go f8)
  have P8 := Lib.hid (P6.out.go f8)
  have V8 := Lib.hid (V6.out.fr f8 (by simp))
  have X8 := Lib.hid (X6.out.fr f8 (by simp))
  have Y8 := Lib.hid (Y6.out.fr f8 (by simp))
  clear f8 BG O6 P6 V6 X6 Y6
  obtain ⟨a0, a1, a2, a3⟩ := four V8.out
  go_wp2_with fail
  refine (CK.out _ F8.out).mono ?_
  rintro e w9 ⟨rfl, f9⟩
  have F9 := Lib.hid (F8.out.trans f9)
  have O9 := Lib.hid (O8.out.go f9)
  have P9 := Lib.hid (P8.out.go f9)
  have X9 := Lib.hid (X8.out.fr f9 (by simp))
  have Y9 := Lib.hid (Y8.out.fr f9 (by simp))
  clear f9 CK O8 P8 X8 Y8 V8 a0 a1 a2 a3
  obtain ⟨x0, x1, x2, x3⟩ := four X9.out
  obtain ⟨y0, y1, y2, y3⟩ := four Y9.out
  generalize repCode r = code at *
  have q1 : (code == code) = true := by simp
  have q2 : (C == C) = true := by simp
  have q3 := (eqqB t).1
  go_wp2_with fail
  refine (SM.out _ _ _ O9.out P9.out).mono ?_
  rintro e w10 ⟨rfl, f10⟩
  go_wp2
  go_ret
  exact ⟨rfl, F9.out.trans f10⟩
end Go.Proofs.YtoabjcnacnojbaaDoor
