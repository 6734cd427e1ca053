/- The walk of the law FeedMany. -/
import Derived.Test.YtlmaiiloihabdaaDoorFdK
set_option linter.unusedVariables false
set_option linter.unusedSimpArgs false
namespace Go.Proofs.YtlmaiiloihabdaaDoor
open Go.RowKit

def okL (ls : List (List ByteArray)) : List (List ByteArray) := ls.filter fun c => decide (wordsCode c = 0)
theorem ok_step {ls : List (List ByteArray)} {k : Nat} {c : List ByteArray} (h : ls[k]? = some c) : okL (ls.take (k + 1)) = okL (ls.take k) ++ (if wordsCode c = 0 then [c] else []) := by
  unfold okL
  rw [List.take_add_one, h, List.filter_append]
  simp only [Option.toList_some]
  congr 1
  rw [List.filter_cons]
  by_cases hc : wordsCode c = 0
  · rw [if_pos (decide_eq_true hc), if_pos hc]; rfl
  · rw [if_neg (by simpa using hc), if_neg hc]; rfl
theorem ok_right {ls : List (List ByteArray)} : ∀ c ∈ okL ls, wordsR c := fun c hc => wordsCode_ok (of_decide_eq_true (List.mem_filter.1 hc).2)
theorem wordsBs_len {c : List ByteArray} (h : wordsR c) : (wordsBs c).length ≤ 810 := by
  have := told_len h c.length
  rw [told_end] at this
  have := h.2.1
  omega
theorem flat_len : ∀ (ls : List (List ByteArray)), (∀ c ∈ ls, wordsR c) → (ls.flatMap wordsBs).length ≤ 810 * ls.length
  | [], _ => by simp
  | c :: ls, h => by
    have h1 := wordsBs_len (h c (by simp))
    have h2 := flat_len ls (fun x hx => h x (by simp [hx]))
    rw [List.flatMap_cons, List.length_append, List.length_cons]
    omega
theorem feed_ok (ls : List (List ByteArray)) : feedL ((okL ls).flatMap wordsBs) = (okL ls, [], 0) := by
  have := feed_many (okL ls) [] ok_right
  rw [List.append_nil, feed_nil] at this
  rw [this]
  simp

set_option maxHeartbeats 8000000 in
set_option maxRecDepth 100000 in
theorem feedMany_any (ls : List (List ByteArray)) (A : Option Addr) (c : Nat) (w : World) (B : Nat) (hB : B ≤ w.heap.size) (h : RowsV w B (.slice A ls.length c) ls) (hl : ls.length ≤ 5864062014634) (hs : ∀ r ∈ ls, r.length ≤ 281474976710656 ∧ ∀ s ∈ r, s.size ≤ 281474976710656) (hv : Tab w) :
    Calls Tryd.prog 5 #[.slice A ls.length c] w fun e w' => e = .returned (.bool true) ∧ Fr [] w w' := by
  obtain ⟨i0, hi, hz0, hz1, hz2⟩ := info_parts rowsInfo
  have e0 : ∀ x : ByteArray, (⟨#[]⟩ ++ x : ByteArray) = x := fun x => by apply ByteArray.ext; simp
  have hok : (okL ls).length ≤ ls.length := List.length_filter_le _ _
  have FD := Lib.hid (fun W => (show Calls Tryd.prog 9 #[.string ⟨#[]⟩, .string (toB ((okL ls).flatMap wordsBs))] W (FeedP (okL ls, [], 0) W) from by
    have hfl := flat_len (okL ls) ok_right
    have := feed_any ⟨#[]⟩ (toB ((okL ls).flatMap wordsBs)) W (by rw [toB_size]; show 0 + _ ≤ _; omega) (by rw [e0, toB_list, feed_ok]; show (okL ls).length ≤ _; omega)
    rw [e0, toB_list, feed_ok] at this
    exact this))
  have BG := Lib.hid (feedBegun_any w hv)
  have HV := Lib.hid h
  have HS := Lib.hid hs
  have WD := Lib.hid (fun (r : List ByteArray) A1 c1 W (hW : Fr [] w W) (hr : r.length ≤ 281474976710656) (h : Sl W B 1 (.slice A1 r.length c1) r.length (textsV r)) => words_any r A1 c1 B W (hv.fr hW) hr (Nat.le_trans hB hW.size) h)
  unfold FeedP at FD
  unfold WordsP at WD
  clear h hs hv
  go_enter Tryd.func5, Tryd.ntmps5
  go_wp2_with fail
  refine BG.out.mono ?_
  rintro e w1 ⟨rfl, f1⟩
  have G1 := Lib.hid f1
  clear f1 BG
  go_wp2
  go_loopg [3, 4, 5] ls.length (fun x vs vw vi wr => ∃ (k : Nat), x = ls.length - k ∧ k ≤ ls.length ∧ vi = .int .i64 k ∧ vs = .string (toB ((okL (ls.take k)).flatMap wordsBs)) ∧ RowsR wr w.heap.size w.heap.size vw (okL (ls.take k)) ∧ Fr [] w wr)
  case atStart => exact ⟨0, rfl, Nat.zero_le _, rfl, rfl, RowsR.nil _ _ _, G1.out⟩
  case round =>
    obtain ⟨k, rfl, hk, rfl, rfl, hR, hf⟩ := hrel
    have HF := Lib.hid hf
    have HR := Lib.hid hR
    have hsw := hf.size
    obtain ⟨Ao, co, rfl⟩ := hR.form
    have hsw1 := G1.out.size
    have hkl : (okL (ls.take k)).length ≤ k := Nat.le_trans (List.length_filter_le _ _) (by rw [List.length_take]; omega)
    clear hR hf
    by_cases hlt : k < ls.length
    · obtain ⟨b, off, rfl, hb, hc, hmx, hat⟩ := HV.out.at_ (by omega)
      obtain ⟨r, hr⟩ : ∃ r, ls[k]? = some r := ⟨_, List.getElem?_eq_getElem hlt⟩
      obtain ⟨A1, c1, x1, s1⟩ := hat k r hr
      have y1 := HF.out.cell x1 (by simp)
      have S1 := Lib.hid (s1.fr HF.out hB (by simp))
      have hrs := HS.out r (List.mem_of_getElem? hr)
      have W1 := Lib.hid (WD.out r A1 c1 wr HF.out hrs.1 S1.out)
      have OK := Lib.hid (ok_step hr)
      clear hat x1 s1 hr
      by_cases hcode : wordsCode r = 0
      · have hwr := wordsCode_ok hcode
        have hwl := wordsBs_len hwr
        rw [hcode, if_pos rfl] at W1
        have OK2 := Lib.hid (OK.out.trans (by rw [if_pos hcode]))
        have hfl := flat_len (okL (ls.take k)) ok_right
        have SS : toB ((okL (ls.take k)).flatMap wordsBs) ++ toB (wordsBs r) = toB ((okL (ls.take (k + 1))).flatMap wordsBs) := by
          rw [OK2.out]
          apply ByteArray.ext
          simp [toB]
        have AD : ∀ W, (Op.stringOp .add (toB ((okL (ls.take k)).flatMap wordsBs)) (toB (wordsBs r))).run Tryd.prog W = .ok (.string (toB ((okL (ls.take (k + 1))).flatMap wordsBs))) W := fun W => by
          rw [← SS]
          exact run_string_add_sum W _ _ (by rw [toB_size, toB_size]; omega)
        clear hcode OK SS hwr hwl hfl
        generalize hnew : toB ((okL (ls.take (k + 1))).flatMap wordsBs) = snew at *
        have HN := Lib.hid hnew
        clear hnew
        generalize toB (wordsBs r) = t at *
        generalize toB ((okL (ls.take k)).flatMap wordsBs) = was at *
        generalize okL (ls.take k) = acc at *
        go_wp2_with fail
        refine W1.out.mono ?_
        rintro e w2 ⟨rfl, f2⟩
        have G2 := Lib.hid (HF.out.trans f2)
        have R2 := (HR.out.fr f2 hsw).fr ((Fr.refl [] w2).alloc (.cells #[.slice A1 r.length c1] 22)) (Nat.le_trans hsw f2.size)
        have TX := Lib.hid (show TxV (w2.alloc (.cells #[.slice A1 r.length c1] 22)) w.heap.size (.slice A1 r.length c1) r from ⟨_, _, rfl, ((S1.out.fr f2 (Nat.le_trans hB hsw) (by simp)).fr ((Fr.refl [] w2).alloc _) (Nat.le_trans hB (Nat.le_trans hsw f2.size)) (by simp)).more hB⟩)
        have z1 := f2.cell y1 (by simp)
        have hs2 : w.heap.size ≤ (w2.alloc (.cells #[.slice A1 r.length c1] 22)).heap.size := by have := f2.size; simp; omega
        obtain ⟨vs, hrr, hown0⟩ := R2
        have HRR := Lib.hid hrr
        have HO2 := Lib.hid hown0
        have hO1 := Lib.hid (own_sl (World.ownsRow_lit (base := w2.heap.size) (e := 22) (size := 1) w2 #[.slice A1 r.length c1] 1 (Nat.le_refl _) (by decide) rfl))
        have h1 : ∀ u ∈ [Value.slice A1 r.length c1], u.oneCell' = true := fun u hu => by simp at hu; subst hu; rfl
        have SN := Lib.hid (fun v' w5 (hg : (w2.alloc (.cells #[.slice A1 r.length c1] 22)).grownBy w5 (Value.slice Ao acc.length co).ownBlock) (ho : w5.ownsRow w.heap.size 22 1 v' (acc.length + 1) (vs ++ [.slice A1 r.length c1])) => RowsR.snoc HRR.out TX.out rfl hs2 (Nat.le_refl _) HO2.out hg ho)
        rw [← OK2.out] at SN
        clear f2 hrr hown0 y1 W1
        go_wp2_with (at_builtin; refine wpList_append_sl _ rfl _ _ 26 rfl w.heap.size 22 i0 _ 1 24 Tryd.underlying26 hi hz0 hz1 hz2 rfl (by decide) _ _ _ rfl HO2.out _ _ 1 _ rfl hO1.out h1 ?c1 ?c2 ?c3 ?_)
        case c1 => unfold maxLen; omega
        case c2 => omega
        case c3 => exact hs2
        intro v' w5 hown hgrow hat5
        have F5 := Lib.hid ((G2.out.alloc (.cells #[.slice A1 r.length c1] 22)).grown hgrow (fun j hj => .inr (HO2.out.lt j hj).1))
        have R5 := Lib.hid (SN.out v' w5 hgrow hown)
        clear hown hgrow hat5 SN
        go_wp2
        go_roundg (ls.length - (k + 1))
        case measure => omega
        case rel => exact ⟨k + 1, rfl, by omega, by go_num, by rw [HN.out], R5.out, F5.out⟩
      · have OK2 := Lib.hid (show okL (ls.take (k + 1)) = okL (ls.take k) from OK.out.trans (by rw [if_neg hcode, List.append_nil]))
        have q1 : (wordsCode r == 0) = false := by simpa using hcode
        rw [if_neg hcode] at W1
        clear hcode OK
        generalize wordsCode r = code at *
        go_wp2_with fail
        refine W1.out.mono ?_
        rintro e w2 ⟨rfl, f2⟩
        have R2 := Lib.hid (HR.out.fr f2 hsw)
        have G2 := Lib.hid (HF.out.trans f2)
        clear f2 W1
        go_wp2
        go_roundg (ls.length - (k + 1))
        case measure => omega
        case rel => exact ⟨k + 1, rfl, by omega, by go_num, by rw [OK2.out], by rw [OK2.out]; exact R2.out, G2.out⟩
    · obtain rfl : k = ls.length := by omega
      rw [List.take_length] at HR hkl ⊢
      generalize toB ((okL ls).flatMap wordsBs) = s at *
      generalize hacc : okL ls = acc at *
      have hrows : ∀ r ∈ acc, r.length ≤ 281474976710656 := fun r hr => by rw [← hacc] at hr; exact (HS.out r (List.mem_filter.1 hr).1).1
      have HRW := Lib.hid hrows
      clear hrows hacc
      go_wp2_with fail
      refine (FD.out _).mono ?_
      rintro e w2 ⟨v2, rfl, o2, f2⟩
      obtain ⟨A2, c2, rfl⟩ := o2.form
      have K2 := Lib.hid ((HR.out.fr f2 hsw).v (Nat.le_trans hsw f2.size))
      have O2 := Lib.hid o2.v
      have G2 := Lib.hid (HF.out.trans f2)
      have SC := Lib.hid (sameCommands_any acc _ _ w2 _ HRW.out (by omega) (Nat.le_refl _) O2.out K2.out)
      have q4 : ((toB []).toList == []) = true := by rw [ByteArray.toList_eq]; rfl
      have q5 : (toB []).toList.isEmpty = true := by rw [ByteArray.toList_eq]; rfl
      have q6 : (toB []).toList = [] := by rw [ByteArray.toList_eq]; rfl
      clear o2 f2 FD
      generalize toB [] = r0 at *
      go_wp2_with fail
      refine SC.out.mono ?_
      rintro e w3 ⟨rfl, f3⟩
      go_wp2
      go_ret
      exact ⟨rfl, G2.out.trans f3⟩
end Go.Proofs.YtlmaiiloihabdaaDoor
