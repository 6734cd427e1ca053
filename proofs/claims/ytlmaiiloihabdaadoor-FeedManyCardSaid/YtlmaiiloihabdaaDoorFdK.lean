/- The walk of the law FeedTells. -/
import Derived.Test.YtlmaiiloihabdaaDoorFdG
import Derived.Test.YtlmaiiloihabdaaDoorFdI
import Derived.Test.YtlmaiiloihabdaaDoorFdJ
set_option linter.unusedVariables false
set_option linter.unusedSimpArgs false
namespace Go.Proofs.YtlmaiiloihabdaaDoor
open Go.RowKit

theorem rows_len {n : Nat} {p : List UInt8} : ∀ c ∈ (feedL p).1, c.length ≤ 281474976710656 := fun c hc => by
  have := (feed_right _ p (Nat.le_refl _) c hc).2.1
  omega
def WaM (t : ByteArray) (w : World) (a : Value) (wx : World) : Prop := a = .string t ∧ Fr [] w wx

set_option maxHeartbeats 8000000 in
set_option maxRecDepth 100000 in
theorem feedTells_any (l : List ByteArray) (A : Option Addr) (c : Nat) (rest s : ByteArray) (w : World) (B : Nat) (hB : B ≤ w.heap.size) (h : Sl w B 1 (.slice A l.length c) l.length (textsV l)) (hl : l.length ≤ 281474976710656) (h1 : rest.size ≤ 1048576) (h2 : s.size ≤ 1048576) (hv : Tab w) :
    Calls Tryd.prog 3 #[.slice A l.length c, .string rest, .string s] w fun e w' => e = .returned (.bool true) ∧ Fr [] w w' := by
  have hz : (rest ++ s).size = rest.size + s.size := by simp
  have hk : (feedL (rest ++ s).data.toList).1.length ≤ 5864062014634 := by
    have := (feed_less _ (rest ++ s).data.toList (Nat.le_refl _)).1
    have e : (rest ++ s).data.toList.length = (rest ++ s).size := by simp
    omega
  have HS := Lib.hid (fun W (hW : Fr [] w W) => h.fr hW hB (by simp))
  have WD := Lib.hid (fun W (hW : Fr [] w W) => words_any l A c B W (hv.fr hW) hl (Nat.le_trans hB hW.size) (HS.out W hW))
  have CW := Lib.hid (fun W (hW : Fr [] w W) => checkWords_any l A c B W hl (Nat.le_trans hB hW.size) (HS.out W hW))
  have FD := Lib.hid (fun W => feed_any rest s W (by omega) hk)
  have FO := Lib.hid (fun W => feedOf_any (rest ++ s) W (by omega) hk)
  have BG := Lib.hid (fun W (hW : Fr [] w W) => feedBegun_any W (hv.fr hW))
  have WB := Lib.hid (fun W (hW : Fr [] w W) (hc : wordsCode l = 0) => wordBytes_any l A c B W (wordsCode_ok hc) (Nat.le_trans hB hW.size) (HS.out W hW))
  have SC := Lib.hid (fun v u W (h : RowsV W W.heap.size v (feedL (rest ++ s).data.toList).1) (k : RowsV W W.heap.size u (feedL (rest ++ s).data.toList).1) => sameCommands_any _ v u W _ (rows_len (n := 0)) (by omega) (Nat.le_refl _) h k)
  have AD : ∀ W, (Op.stringOp .add rest s).run Tryd.prog W = .ok (.string (rest ++ s)) W := fun W => run_string_add_sum W rest s (by omega)
  unfold FeedP at FD FO
  unfold WordsP at WD
  clear h hk hz hv
  generalize feedL (rest ++ s).data.toList = R at *
  generalize rest ++ s = all at *
  obtain ⟨t, ht⟩ : ∃ t, t = if wordsCode l = 0 then toB (wordsBs l) else ⟨#[]⟩ := ⟨_, rfl⟩
  rw [← ht] at WD
  have HT := Lib.hid ht
  clear ht
  go_enter Tryd.func3, Tryd.ntmps3
  go_wp2_with fail
  refine (WD.out _ (Fr.refl [] w)).mono ?_
  rintro e w1 ⟨rfl, f1⟩
  have F1 := Lib.hid f1
  clear f1
  go_wp2_with fail
  refine (FD.out _).mono ?_
  rintro e w2 ⟨v2, rfl, o2, f2⟩
  obtain ⟨A2, c2, rfl⟩ := o2.form
  have O2 := Lib.hid o2.v
  have F2 := Lib.hid (F1.out.trans f2)
  clear f2 o2 WD FD
  go_wp2_with fail
  refine (CW.out _ F2.out).mono ?_
  rintro e w3 ⟨rfl, f3⟩
  have O3 := Lib.hid (O2.out.go f3)
  have F3 := Lib.hid (F2.out.trans f3)
  clear f3 O2 CW F1 F2
  go_upto_if 32 with fail
  go_cut [13] from 32 to 34 (fun sv wx => WaM t w3 sv wx)
  case first =>
    by_cases hc : wordsCode l = 0
    · have W3 := Lib.hid (WB.out w3 F3.out hc)
      have HT2 := Lib.hid (show t = toB (wordsBs l) from HT.out.trans (if_pos hc))
      have q1 : (wordsCode l == 0) = true := by simpa using hc
      rw [← HT2.out] at W3
      clear hc HT
      go_wp2_with fail
      refine W3.out.mono ?_
      rintro e w4 ⟨rfl, f4⟩
      have F4 := Lib.hid f4
      go_wp2
      go_meet
      case rel => exact ⟨rfl, F4.out⟩
    · have HT2 := Lib.hid (show t = ⟨#[]⟩ from HT.out.trans (if_neg hc))
      have q1 : (wordsCode l == 0) = false := by simpa using hc
      clear hc HT
      go_wp2
      go_meet
      case rel => exact ⟨by rw [HT2.out], Fr.refl _ _⟩
  obtain ⟨rfl, f4⟩ := hcut
  have O4 := Lib.hid (O3.out.go f4)
  have F4 := Lib.hid (F3.out.trans f4)
  clear f4 O3 WB HT
  go_wp2_with fail
  refine (FO.out _).mono ?_
  rintro e w5 ⟨v5, rfl, o5, f5⟩
  obtain ⟨A5, c5, rfl⟩ := o5.form
  have O5 := Lib.hid (O4.out.go f5)
  have P5 := Lib.hid o5.v
  have F5 := Lib.hid (F4.out.trans f5)
  clear f5 o5 O4 FO AD
  go_wp2_with fail
  refine (BG.out _ F5.out).mono ?_
  rintro e w6 ⟨rfl, f6⟩
  have O6 := Lib.hid (O5.out.go f6)
  have P6 := Lib.hid (P5.out.go f6)
  have F6 := Lib.hid (F5.out.trans f6)
  clear f6 O5 P5 BG
  generalize wordsCode l = code at *
  obtain ⟨R1, R2, R3⟩ := R
  have q1 : (code == code) = true := by simp
  have q2 : (R3 == R3) = true := by simp
  have q3 := (eqqB t).1
  have q4 := (eqqB (toB R2)).1
  generalize toB R2 = r2 at *
  go_wp2_with fail
  refine (SC.out _ _ _ O6.out P6.out).mono ?_
  rintro e w7 ⟨rfl, f7⟩
  go_wp2
  go_ret
  exact ⟨rfl, F6.out.trans f7⟩
end Go.Proofs.YtlmaiiloihabdaaDoor
