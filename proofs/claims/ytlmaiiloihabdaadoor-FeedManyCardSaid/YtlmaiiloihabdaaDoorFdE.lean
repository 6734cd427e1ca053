/- The walk of feed.Feed. -/
import Derived.Test.YtlmaiiloihabdaaDoorFdD
set_option linter.unusedVariables false
set_option linter.unusedSimpArgs false
namespace Go.Proofs.YtlmaiiloihabdaaDoor
open Go.RowKit

def FeedP (r : List (List ByteArray) × List UInt8 × Int) (w : World) (e : Ending) (w' : World) : Prop :=
  ∃ v, e = .returned (.tuple #[v, .string (toB r.2.1), .int .i64 r.2.2]) ∧ RowsO w' w.heap.size v r.1 ∧ Fr [] w w'
theorem feedA_le {b : List UInt8} {acc : List (List ByteArray)} {R : List (List ByteArray) × List UInt8 × Int} (h : R = feedA b acc) : acc.length ≤ R.1.length := by
  rw [h, feedA_acc _ _ _ (Nat.le_refl _), List.length_append]
  omega

set_option maxHeartbeats 4000000 in
set_option maxRecDepth 100000 in
theorem feed_any (rest s : ByteArray) (w : World) (hs : rest.size + s.size ≤ 4611686018427387904) (hk : (feedL (rest ++ s).data.toList).1.length ≤ 5864062014634) :
    Calls Tryd.prog 9 #[.string rest, .string s] w (FeedP (feedL (rest ++ s).data.toList) w) := by
  obtain ⟨i0, hi, hz0, hz1, hz2⟩ := info_parts rowsInfo
  have hz : (rest ++ s).size = rest.size + s.size := by simp
  have AD : ∀ W, (Op.stringOp .add rest s).run Tryd.prog W = .ok (.string (rest ++ s)) W := fun W => run_string_add_sum W rest s (by omega)
  obtain ⟨R, hR⟩ : ∃ R, R = feedL (rest ++ s).data.toList := ⟨_, rfl⟩
  rw [← hR] at hk ⊢
  have E0 := Lib.hid (show R = feedA (rest ++ s).data.toList [] from hR)
  have hsz : (rest ++ s).size ≤ 4611686018427387904 := by omega
  clear hR hz hs
  generalize rest ++ s = all at *
  go_enter Tryd.func9, Tryd.ntmps9
  go_wp2
  clear AD
  go_loopg [7, 8] all.size (fun x va vo wr => ∃ (b : ByteArray) (acc : List (List ByteArray)), x = b.size ∧ b.size ≤ 4611686018427387904 ∧ va = .string b ∧ Hid (R = feedA b.data.toList acc) ∧ RowsO wr w.heap.size vo acc ∧ Fr [] w wr)
  case atStart => exact ⟨all, [], rfl, hsz, rfl, E0, RowsO.nil _ _, Fr.refl _ _⟩
  case round =>
    obtain ⟨b, acc, rfl, hb, rfl, HE, hO, hf⟩ := hrel
    have HO := Lib.hid hO
    have HF := Lib.hid hf
    have hsw := hf.size
    obtain ⟨Ao, co, rfl⟩ := hO.form
    clear hO hf E0
    have CM := Lib.hid (command_any b wr hb)
    have ST := Lib.hid (HE.out.trans (feedA_step b.data.toList acc))
    have LS := Lib.hid (fun h => cmdLess (l := b.data.toList) h)
    unfold CmdP at CM
    generalize cmdL b.data.toList = C at *
    obtain ⟨ws, r, code⟩ := C
    simp only at CM ST LS
    by_cases h8 : code = 8
    · subst h8
      have EX := Lib.hid (show R = (acc, b.data.toList, 0) from ST.out.trans (if_pos rfl))
      clear ST LS
      go_wp2_with fail
      refine CM.out.mono ?_
      rintro e w1 ⟨v, n, rfl, ho, hn, f1⟩
      have F1 := Lib.hid f1
      clear ho hn f1
      go_wp2
      go_ret3
      rw [EX.out]
      exact ⟨_, by rw [toB_of]; rfl, HO.out.fr F1.out, HF.out.trans F1.out⟩
    · rw [if_neg h8] at ST
      by_cases h0 : code = 0
      · subst h0
        rw [if_pos rfl] at ST
        have hls := LS.out rfl
        have hal := feedA_le ST.out
        rw [List.length_append, List.length_singleton] at hal
        clear LS h8
        go_wp2_with fail
        refine CM.out.mono ?_
        rintro e w1 ⟨v, n, rfl, ho, hn, f1⟩
        obtain ⟨a, rfl, ha, hd⟩ := hn (by trivial)
        obtain ⟨Av, cv, rfl, -⟩ := own_slice ho
        have F1 := Lib.hid f1
        have hf1 := f1.size
        have TX := Lib.hid (show TxO (w1.alloc (.cells #[.slice Av ws.length cv] 22)) w.heap.size (.slice Av ws.length cv) ws from own_fr (own_base ho hsw) ((Fr.refl [] w1).alloc _) (by simp))
        have HO1 := (HO.out.fr F1.out).fr ((Fr.refl [] w1).alloc (.cells #[.slice Av ws.length cv] 22))
        obtain ⟨vs, hr, hown0⟩ := HO1
        have HR := Lib.hid hr
        have HO2 := Lib.hid hown0
        have HD := Lib.hid hd
        have hbr : (b.extract a b.size).data.toList = r := by
          rw [← hd, show b.size = a + (b.size - a) by omega, extract_toB, toB_list, List.take_of_length_le (by simp)]
        have hbz : (b.extract a b.size).size = r.length := by rw [← hbr]; simp
        have hbl : b.data.toList.length = b.size := by simp
        have EN := Lib.hid (show R = feedA (b.extract a b.size).data.toList (acc ++ [ws]) from by rw [hbr]; exact ST.out)
        have hO1 := Lib.hid (own_sl (World.ownsRow_lit (base := w1.heap.size) (e := 22) (size := 1) w1 #[.slice Av ws.length cv] 1 (Nat.le_refl _) (by decide) rfl))
        have h1 : ∀ u ∈ [Value.slice Av ws.length cv], u.oneCell' = true := fun u hu => by simp at hu; subst hu; rfl
        clear ho hn f1 hd hr hown0 hbr CM ST HE
        go_wp2_with (at_builtin; refine wpList_append_sl _ rfl _ _ 26 rfl w.heap.size 22 i0 _ 1 24 Tryd.underlying26 hi hz0 hz1 hz2 rfl (by decide) _ _ _ rfl HO2.out _ _ 1 _ rfl hO1.out h1 ?c1 ?c2 ?c3 ?_)
        case c1 => unfold maxLen; omega
        case c2 => omega
        case c3 => first | omega | (simp; omega)
        intro v' w5 hown hgrow hat5
        have F5 := Lib.hid (((HF.out.trans (F1.out.alloc (.cells #[.slice Av ws.length cv] 22))).grown hgrow (fun j hj => .inr (HO2.out.lt j hj).1)))
        have O5 := Lib.hid (RowsO.snoc HR.out TX.out rfl HO2.out hgrow hown)
        have hn0 : (0 : Int) ≤ (a : Int) := by omega
        have hn1 : (a : Int) ≤ (b.size : Int) := by omega
        clear hown hgrow hat5
        go_wp2
        go_roundg (b.extract a b.size).size
        case measure => omega
        case rel => exact ⟨_, acc ++ [ws], rfl, by omega, rfl, EN, O5.out, F5.out⟩
      · rw [if_neg h0] at ST
        have q0 : (code == 0) = false := by simpa using h0
        have q8 : (code == 8) = false := by simpa using h8
        have EX := ST
        clear h0 h8 LS
        go_wp2_with fail
        refine CM.out.mono ?_
        rintro e w1 ⟨v, n, rfl, ho, hn, f1⟩
        have F1 := Lib.hid f1
        clear ho hn f1
        go_wp2
        go_ret3
        rw [EX.out]
        exact ⟨_, rfl, HO.out.fr F1.out, HF.out.trans F1.out⟩
end Go.Proofs.YtlmaiiloihabdaaDoor
