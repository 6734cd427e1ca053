/- The walk of the feed laws' beginning. -/
import Derived.Test.YtlmaiiloihabdaaDoorFdE
import Derived.Test.YtlmaiiloihabdaaDoorFdH
import Derived.Test.YtlmaiiloihabdaaDoorRoC
set_option linter.unusedVariables false
set_option linter.unusedSimpArgs false
namespace Go.Proofs.YtlmaiiloihabdaaDoor
open Go.RowKit

def cGet : List ByteArray := [⟨#[103, 101, 116]⟩, ⟨#[97, 13, 10]⟩]
theorem cGet_right : wordsR cGet := ⟨by decide, by decide, by decide⟩
theorem cGet_code : wordsCode cGet = 0 := wordsCode_mk cGet_right
def sGet : ByteArray := ⟨#[42, 50, 13, 10, 36, 51, 13, 10, 103, 101, 116, 13, 10, 36, 51, 13, 10, 97, 13, 10, 13, 10]⟩
theorem sGet_eq : toB (wordsBs cGet) = sGet := by
  have e2 : Lib.decDigits 2 = [50] := by rw [Lib.decDigits, dif_pos (by decide)]; rfl
  have e3 : Lib.decDigits 3 = [51] := by rw [Lib.decDigits, dif_pos (by decide)]; rfl
  unfold wordsBs cGet wordBs
  simp only [List.length_cons, List.length_nil, List.flatMap_cons, List.flatMap_nil]
  rw [show (⟨#[103, 101, 116]⟩ : ByteArray).size = 3 from rfl, show (⟨#[97, 13, 10]⟩ : ByteArray).size = 3 from rfl, show 0 + 1 + 1 = 2 from rfl, e2, e3]
  rfl
theorem fb_feed : feedL ((sGet.extract 0 9) ++ (sGet.extract 9 22 ++ sGet ++ ⟨#[42]⟩)).data.toList = ([cGet, cGet], [42], 0) := by
  have h : ((sGet.extract 0 9) ++ (sGet.extract 9 22 ++ sGet ++ ⟨#[42]⟩)).data.toList = [cGet, cGet].flatMap wordsBs ++ [42] := by
    have e : wordsBs cGet = sGet.data.toList := by rw [← sGet_eq, toB_list]
    simp only [List.flatMap_cons, List.flatMap_nil, List.append_nil]
    rw [e]
    rfl
  rw [h, feed_many _ _ (fun c hc => by simp at hc; subst hc; exact cGet_right), feed_short (by rfl)]
  rfl

set_option maxHeartbeats 4000000 in
set_option maxRecDepth 100000 in
theorem feedBegun_any (w : World) (hv : Tab w) : Calls Tryd.prog 13 #[] w fun e w' => e = .returned (.bool true) ∧ Fr [] w w' := by
  have F0 := Lib.hid ((Fr.refl [] w).alloc (.cells #[.string ⟨#[103, 101, 116]⟩, .string ⟨#[97, 13, 10]⟩] 9))
  have S0 := own_sl (World.ownsRow_lit (base := w.heap.size) (e := 9) (size := 1) w #[.string ⟨#[103, 101, 116]⟩, .string ⟨#[97, 13, 10]⟩] 2 (Nat.le_refl _) (by decide) rfl)
  have WD := Lib.hid (words_any cGet (some ⟨w.heap.size, 0, none⟩) 2 _ _ (hv.fr F0.out) (by decide) (Nat.le_refl _) S0)
  have FD := Lib.hid (fun W => feed_any (sGet.extract 0 9) (sGet.extract 9 22 ++ sGet ++ ⟨#[42]⟩) W (by decide) (by rw [fb_feed]; decide))
  unfold WordsP at WD
  unfold FeedP at FD
  rw [cGet_code, if_pos rfl, sGet_eq] at WD
  rw [fb_feed] at FD
  have hz : sGet.size = 22 := rfl
  have qe : (sGet.toList == [42, 50, 13, 10, 36, 51, 13, 10, 103, 101, 116, 13, 10, 36, 51, 13, 10, 97, 13, 10, 13, 10]) = true := by rw [ByteArray.toList_eq]; rfl
  have a1 : ∀ W, (Op.stringOp .add (sGet.extract 9 22) sGet).run Tryd.prog W = .ok (.string (sGet.extract 9 22 ++ sGet)) W := fun W => run_string_add_sum W _ _ (by decide)
  have a2 : ∀ W, (Op.stringOp .add (sGet.extract 9 22 ++ sGet) ⟨#[42]⟩).run Tryd.prog W = .ok (.string (sGet.extract 9 22 ++ sGet ++ ⟨#[42]⟩)) W := fun W => run_string_add_sum W _ _ (by decide)
  clear S0
  generalize sGet = s at *
  go_enter Tryd.func13, Tryd.ntmps13
  go_wp2_with fail
  refine WD.out.mono ?_
  rintro e w1 ⟨rfl, f1⟩
  have F1 := Lib.hid (F0.out.trans f1)
  clear f1
  go_wp2
  go_region_held3 (fun wx => True) (go_keep) ((go_at_call 9; refine (FD.out _).mono ?_; rintro e2 w2 ⟨v, rfl, o2, f2⟩; obtain ⟨A2, c2, rfl⟩ := o2.form; have O2 := Lib.hid o2.v; have F2 := Lib.hid (F1.out.trans (fr_predrew f2)); clear o2 f2))
  have q4 : ((toB [42]).toList == [42]) = true := by rw [ByteArray.toList_eq]; rfl
  obtain ⟨b, off, rfl, hb, hc, hmx, hat⟩ := O2.out.at_ (by decide)
  obtain ⟨A1, c1, x1, s1⟩ := hat 1 cGet rfl
  have S1 := Lib.hid s1
  have ST := Lib.hid (fun (W : World) (hW : Fr [] w2 W) (A : Option Addr) (h : Sl W W.heap.size 1 (.slice A 2 2) 2 (textsV cGet)) => (show Calls Tryd.prog 30 #[.slice A1 2 c1, .slice A 2 2] W fun e w' => e = .returned (.bool true) ∧ Fr [] W w' from by
    have := sameTexts_any cGet cGet A1 A c1 2 W.heap.size W (by decide) (by decide) (Nat.le_refl _) ((S1.out.fr hW (Nat.le_refl _) (by simp)).more hW.size) h
    rw [show sameT cGet cGet = true from by unfold sameT; simp] at this
    exact this))
  have S9 := own_sl (World.ownsRow_lit (base := w2.heap.size) (e := 9) (size := 1) w2 #[.string ⟨#[103, 101, 116]⟩, .string ⟨#[97, 13, 10]⟩] 2 (Nat.le_refl _) (by decide) rfl)
  have F9 := Lib.hid ((Fr.refl [] w2).alloc (.cells #[.string ⟨#[103, 101, 116]⟩, .string ⟨#[97, 13, 10]⟩] 9))
  have S8 := Lib.hid (ST.out _ F9.out (some ⟨w2.heap.size, 0, none⟩) S9)
  have hlen : ([cGet, cGet] : List (List ByteArray)).length = 2 := rfl
  clear hat s1 S9 ST
  generalize toB [42] = t at *
  go_wp2_with fail
  refine S8.out.mono ?_
  rintro e3 w3 ⟨rfl, f3⟩
  go_wp2
  go_ret
  exact ⟨rfl, (F2.out.trans F9.out).trans f3⟩
end Go.Proofs.YtlmaiiloihabdaaDoor
