/- The walks of feed.Check and the document's CheckWords; of feed.Words and the document's WordBytes. -/
import Derived.Test.YtlmaiiloihabdaaDoorFdA
import Derived.Test.YtlmaiiloihabdaaDoorSlS
import Derived.Test.YtlmaiiloihabdaaDoorItW
import Derived.Test.YtlmaiiloihabdaaDoorNuD
import Derived.Deep.RegionHeld3
set_option linter.unusedVariables false
set_option linter.unusedSimpArgs false
namespace Go.Proofs.YtlmaiiloihabdaaDoor
open Go.RowKit

theorem conF_any (g : Nat) (lb : Array Value) (eg : ∀ args w, (callFunc g args).run Tryd.prog w = .ok (.enter g args) w) (p : ByteArray → Bool) (D : Nat) (l : List ByteArray) (A : Option Addr) (c B : Nat) (w : World) (hp : PredS g lb p D w) (hl : l.length ≤ 281474976710656) (hB : B ≤ w.heap.size)
    (hsl : Sl w B 1 (.slice A l.length c) l.length (textsV l)) :
    Calls Tryd.prog 37 #[.slice A l.length c, .func (Fn.func g) #[] lb] w fun e w' => e = .returned (.bool (l.any p)) ∧ Fr [] w w' := by
  have I := Lib.hid (idxS_any g lb eg p D l A c B w hp hl hB hsl)
  have h := idxOf_any p l
  clear hsl hp
  generalize idxOf p l = r at *
  generalize l.any p = b at *
  generalize l.length = n at *
  cases b
  · have hr : r < 0 := by simpa using h
    clear h
    go_enter Tryd.func37, Tryd.ntmps37
    go_wp2_with fail
    refine I.out.mono ?_
    rintro e w1 ⟨rfl, h1⟩
    go_wp2
    go_ret
    exact ⟨by simp <;> omega, h1⟩
  · have hr : 0 ≤ r := by simpa using h
    clear h
    go_enter Tryd.func37, Tryd.ntmps37
    go_wp2_with fail
    refine I.out.mono ?_
    rintro e w1 ⟨rfl, h1⟩
    go_wp2
    go_ret
    exact ⟨by simp <;> omega, h1⟩

def wordsCode (l : List ByteArray) : Int := if l.length = 0 then 1 else if 12 < l.length then 2 else if l.any longS = true then 2 else 0
theorem wordsCode_ok {l : List ByteArray} (h : wordsCode l = 0) : wordsR l := by
  unfold wordsCode at h
  split at h
  · cases h
  · split at h
    · cases h
    · split at h
      · cases h
      · rename_i h1 h2 h3
        refine ⟨by omega, by omega, fun s hs => ?_⟩
        have := h3
        simp only [Bool.not_eq_true, List.any_eq_false] at this
        have := this s hs
        unfold longS at this
        simp at this
        exact this
theorem wordsCode_mk {l : List ByteArray} (h : wordsR l) : wordsCode l = 0 := by
  unfold wordsCode
  have := h.1
  have := h.2.1
  rw [if_neg (by omega), if_neg (by omega), if_neg]
  simp only [Bool.not_eq_true, List.any_eq_false]
  intro s hs
  have := h.2.2 s hs
  unfold longS
  simp
  exact this

theorem check1_any (s : ByteArray) (w : World) : Calls Tryd.prog 38 (#[.string s] ++ #[]) w fun e w' => e = .returned (.bool (longS s)) ∧ w' = w := by
  unfold longS
  go_enter Tryd.func38, Tryd.ntmps38
  go_wp2
  go_ret
  exact ⟨by simp <;> omega, rfl⟩

set_option maxRecDepth 100000 in
theorem feedCheck_any (l : List ByteArray) (A : Option Addr) (c B : Nat) (w : World) (hl : l.length ≤ 281474976710656) (hB : B ≤ w.heap.size) (h : Sl w B 1 (.slice A l.length c) l.length (textsV l)) :
    Calls Tryd.prog 23 #[.slice A l.length c] w fun e w' => e = .returned (.int .i64 (wordsCode l)) ∧ Fr [] w w' := by
  have CF := Lib.hid (conF_any 38 #[] (enters_any Tryd.func38 (by kernel_rfl) rfl) longS w.heap.size l A c B w (fun W x hW => (check1_any x W).mono fun e w' ⟨he, hw⟩ => ⟨he, by rw [hw]; exact Fr.refl _ _⟩) hl hB h)
  have EW : wordsCode l = if l.length = 0 then 1 else if 12 < l.length then 2 else if l.any longS = true then 2 else 0 := rfl
  clear h
  by_cases h0 : l.length = 0
  · rw [EW, if_pos h0]
    have q : ((l.length : Int) == 0) = true := beq_iff_eq.2 (by omega)
    clear EW CF
    go_enter Tryd.func23, Tryd.ntmps23
    go_wp2
    go_ret
    exact ⟨rfl, Fr.refl _ _⟩
  · have q : ((l.length : Int) == 0) = false := beq_eq_false_iff_ne.2 (by omega)
    rw [EW, if_neg h0]
    by_cases h12 : 12 < l.length
    · rw [if_pos h12]
      clear EW CF h0
      have q2 : (l.length : Int) > 12 := by omega
      go_enter Tryd.func23, Tryd.ntmps23
      go_wp2
      go_ret
      exact ⟨rfl, Fr.refl _ _⟩
    · rw [if_neg h12]
      have q2 : ¬ (l.length : Int) > 12 := by omega
      clear EW h0
      generalize l.any longS = b at *
      cases b
      all_goals
        go_enter Tryd.func23, Tryd.ntmps23
        go_wp2_with fail
        refine CF.out.mono ?_
        rintro e w1 ⟨rfl, f1⟩
        go_wp2
        go_ret
        exact ⟨rfl, f1⟩

set_option maxHeartbeats 1000000 in
set_option maxRecDepth 100000 in
theorem checkWords_any (l : List ByteArray) (A : Option Addr) (c B : Nat) (w : World) (hl : l.length ≤ 281474976710656) (hB : B ≤ w.heap.size) (h : Sl w B 1 (.slice A l.length c) l.length (textsV l)) :
    Calls Tryd.prog 10 #[.slice A l.length c] w fun e w' => e = .returned (.int .i64 (wordsCode l)) ∧ Fr [] w w' := by
  have EW : wordsCode l = if l.length = 0 then 1 else if 12 < l.length then 2 else if l.any longS = true then 2 else 0 := rfl
  have HS := Lib.hid h
  clear h
  by_cases h0 : l.length = 0
  · rw [EW, if_pos h0]
    have q : ((l.length : Int) == 0) = true := beq_iff_eq.2 (by omega)
    clear EW
    go_enter Tryd.func10, Tryd.ntmps10
    go_wp2
    go_ret
    exact ⟨rfl, Fr.refl _ _⟩
  · have q : ((l.length : Int) == 0) = false := beq_eq_false_iff_ne.2 (by omega)
    rw [EW, if_neg h0]
    by_cases h12 : 12 < l.length
    · rw [if_pos h12]
      clear EW h0
      have q2 : (l.length : Int) > 12 := by omega
      go_enter Tryd.func10, Tryd.ntmps10
      go_wp2
      go_ret
      exact ⟨rfl, Fr.refl _ _⟩
    · rw [if_neg h12]
      have q2 : ¬ (l.length : Int) > 12 := by omega
      obtain ⟨b, hb⟩ : ∃ b : Int, b = if l.any longS = true then 2 else 0 := ⟨_, rfl⟩
      rw [← hb]
      have HBB := Lib.hid hb
      clear EW h0 hb
      go_enter Tryd.func10, Tryd.ntmps10
      go_wp2
      clear q q2
      go_loopg [3] l.length (fun x i wr => ∃ (k : Nat), x = l.length - k ∧ k ≤ l.length ∧ i = .int .i64 k ∧ Hid (∀ j t, j < k → l[j]? = some t → longS t = false) ∧ Fr [] w wr)
      case atStart => exact ⟨0, rfl, Nat.zero_le _, rfl, Lib.hid (fun j t hj => absurd hj (Nat.not_lt_zero _)), Fr.refl _ _⟩
      case round =>
        obtain ⟨k, rfl, hk, rfl, HN, hf⟩ := hrel
        by_cases hlt : k < l.length
        · obtain ⟨g, o, rfl, hg, hc, hm, hcell⟩ := HS.out.at_ (by omega)
          obtain ⟨s, hs⟩ : ∃ s, l[k]? = some s := ⟨_, List.getElem?_eq_getElem hlt⟩
          have x1 : wr.cell? ⟨g, o + k, none⟩ = some (.string s) := hf.cell (hcell k _ (textsV_get l k s hs)) (by simp)
          by_cases hq : 60 < s.size
          · have EX := Lib.hid (show b = 2 from by
              rw [HBB.out, if_pos]
              rw [List.any_eq_true]
              exact ⟨s, List.mem_of_getElem? hs, decide_eq_true hq⟩)
            clear hcell hs
            go_wp2
            go_ret
            rw [EX.out]
            exact ⟨rfl, hf⟩
          · have NX := Lib.hid (show ∀ j t, j < k + 1 → l[j]? = some t → longS t = false from fun j t hj ht => by
              rcases Nat.lt_or_ge j k with h | h
              · exact HN.out j t h ht
              · obtain rfl : j = k := by omega
                rw [hs] at ht
                cases ht
                exact decide_eq_false hq)
            clear hcell hs HN
            go_wp2
            go_roundg (l.length - (k + 1))
            case measure => omega
            case rel => exact ⟨k + 1, rfl, by omega, by go_num, NX, hf⟩
        · obtain rfl : k = l.length := by omega
          have EX := Lib.hid (show b = 0 from by
            rw [HBB.out, if_neg]
            rw [Bool.not_eq_true, List.any_eq_false]
            intro s hs
            obtain ⟨i, hi⟩ := List.getElem?_of_mem hs
            have := HN.out i s (List.getElem?_eq_some_iff.1 hi).1 hi
            rw [this]
            decide)
          go_wp2
          go_ret
          rw [EX.out]
          exact ⟨rfl, hf⟩

theorem itoa_nat (n : Nat) : Lib.itoa (n : Int) = Lib.decDigits n := by
  unfold Lib.itoa
  rw [if_neg (by omega)]
  simp
theorem dec_two_len {u : Nat} (h : u < 100) : (Lib.decDigits u).length ≤ 2 := by
  rcases dec_two h with ⟨_, e⟩ | ⟨_, e⟩ <;> rw [e] <;> simp
theorem wordBs_len {s : ByteArray} (h : s.size ≤ 60) : (wordBs s).length ≤ 67 := by
  have := dec_two_len (show s.size < 100 by omega)
  have hl : s.data.toList.length = s.size := by simp
  unfold wordBs
  simp only [List.length_cons, List.length_append, List.length_nil]
  omega
/-- a builder of one's own, and its bytes. -/
structure BW (w : World) (l : List UInt8) (wr : World) : Prop where
  bld : ∃ own ds, BldIn 51 w.heap.size 0 w.heap.size own ds l wr
  f : Fr [] w wr
theorem BldIn.frz {T g off base : Nat} {own : Option Nat} {cs : List Value} {m : List UInt8} {w w1 : World} (h : BldIn T g off base own cs m w) (hf : Fr [] w w1) : BldIn T g off base own cs m w1 := by
  obtain ⟨v, h1, h2, h3⟩ := h.buf
  exact ⟨h.whole.fr hf (by simp), h.addr, ⟨v, h1, own_fr h2 hf (by simp), h3⟩, h.base, h.ne, h.lies⟩
theorem BW.start (w : World) : BW w [] (w.alloc (.cells #[.pointer none, .slice none 0 0] 51)) :=
  ⟨⟨none, [.pointer none, .slice none 0 0], Whole.new w _ _, .inl rfl, ⟨_, rfl, World.ownsRow_nil _ _ _ _, rfl⟩, Nat.le_refl _, by decide, by kernel_rfl⟩, (Fr.refl [] w).alloc _⟩
theorem BW.fr {w wr w1 : World} {l : List UInt8} (h : BW w l wr) (k : Fr [] wr w1) : BW w l w1 := by
  obtain ⟨own, ds, hb⟩ := h.bld
  exact ⟨⟨own, ds, hb.frz k⟩, h.f.trans k⟩
def WrP (w : World) (l : List UInt8) (s : ByteArray) (e : Ending) (w' : World) : Prop := e = .returned (.tuple #[.int .i64 s.size, .nilIface]) ∧ BW w (l ++ s.data.toList) w'
/-- a write more. -/
theorem BW.write {w wr : World} {l : List UInt8} (h : BW w l wr) (s : ByteArray) (hl : l.length + s.size ≤ 140737488355328) :
    Calls Tryd.prog 24 #[.pointer (some ⟨w.heap.size, 0, none⟩), .string s] wr (WrP w l s) := by
  obtain ⟨own, ds, hb⟩ := h.bld
  refine (writeString_any s hb hl h.f.size).mono ?_
  rintro e w1 ⟨rfl, hw⟩
  have hb2 := Wrote.of_base hb
  obtain ⟨own', cs', b', l', e', o', f'⟩ := hw
  exact ⟨rfl, ⟨own', cs', b'⟩, h.f.step f' (fun x hx => .inr (hb2 x hx))⟩
theorem BW.string {w wr : World} {l : List UInt8} (h : BW w l wr) (h0 : l ≠ []) :
    Calls Tryd.prog 26 #[.pointer (some ⟨w.heap.size, 0, none⟩)] wr fun e w' => e = .returned (.string ⟨l.toArray⟩) ∧ Fr [] w w' := by
  obtain ⟨own, ds, hb⟩ := h.bld
  refine (string_any hb h0).mono ?_
  rintro e w1 ⟨rfl, f⟩
  exact ⟨rfl, h.f.step f (fun x hx => .inr (Wrote.of_base hb x (List.mem_cons_of_mem _ hx)))⟩

theorem bytes_wrap (a b c : ByteArray) : (a ++ b ++ c).data.toList = a.data.toList ++ b.data.toList ++ c.data.toList := by simp
def toldS (l : List ByteArray) (k : Nat) : List UInt8 := 42 :: (Lib.decDigits l.length ++ 13 :: 10 :: (l.take k).flatMap wordBs)
theorem told_zero (l : List ByteArray) : toldS l 0 = 42 :: (Lib.decDigits l.length ++ [13, 10]) := rfl
theorem told_step {l : List ByteArray} {k : Nat} {s : ByteArray} (h : l[k]? = some s) : toldS l (k + 1) = toldS l k ++ wordBs s := by
  unfold toldS
  rw [List.take_add_one, h]
  simp
theorem told_end (l : List ByteArray) : toldS l l.length = wordsBs l := by
  unfold toldS wordsBs
  rw [List.take_length]
theorem told_len {l : List ByteArray} (h : wordsR l) : ∀ k, (toldS l k).length ≤ 6 + 67 * k
  | 0 => by
    have := dec_two_len (show l.length < 100 by have := h.2.1; omega)
    rw [told_zero]
    simp only [List.length_cons, List.length_append, List.length_nil]
    omega
  | k + 1 => by
    have ih := told_len h k
    rcases hk : l[k]? with _ | s
    · have : l.take (k + 1) = l.take k := by rw [List.take_add_one, hk]; simp
      unfold toldS at ih ⊢
      rw [this]
      omega
    · rw [told_step hk, List.length_append]
      have := wordBs_len (h.2.2 s (List.mem_of_getElem? hk))
      omega
def WordsP (l : List ByteArray) (w : World) (e : Ending) (w' : World) : Prop := e = .returned (.tuple #[.string (if wordsCode l = 0 then toB (wordsBs l) else ⟨#[]⟩), .int .i64 (wordsCode l)]) ∧ Fr [] w w'

set_option maxHeartbeats 4000000 in
set_option maxRecDepth 100000 in
theorem words_any (l : List ByteArray) (A : Option Addr) (c B : Nat) (w : World) (hv : Tab w) (hl : l.length ≤ 281474976710656) (hB : B ≤ w.heap.size) (h : Sl w B 1 (.slice A l.length c) l.length (textsV l)) :
    Calls Tryd.prog 8 #[.slice A l.length c] w (WordsP l w) := by
  have CH := Lib.hid (feedCheck_any l A c B w hl hB h)
  have HS := Lib.hid h
  clear h
  unfold WordsP
  by_cases hc : wordsCode l = 0
  · have hR := wordsCode_ok hc
    have h12 := hR.2.1
    have hpos := hR.1
    have HR := Lib.hid hR
    rw [hc] at CH ⊢
    rw [if_pos rfl]
    have IT := Lib.hid (fun (n : Nat) (hn : n ≤ 60) W (hW : Fr [] w W) => (show Calls Tryd.prog 25 #[.int .i64 n] W fun e w' => e = .returned (.string (toB (Lib.decDigits n))) ∧ Fr [] W w' from by
      have := itoaT_any n W (hv.fr hW) (by omega)
      rw [itoa_nat] at this
      exact this))
    have EE := Lib.hid (told_end l)
    have DZ : (toB (Lib.decDigits l.length)).size ≤ 2 := by rw [toB_size]; exact dec_two_len (by omega)
    have T0 := Lib.hid (show (⟨#[42]⟩ ++ toB (Lib.decDigits l.length) ++ ⟨#[13, 10]⟩ : ByteArray).data.toList = toldS l 0 from by
      rw [bytes_wrap, toB_list, told_zero]; rfl)
    have S0 : (⟨#[42]⟩ ++ toB (Lib.decDigits l.length) ++ ⟨#[13, 10]⟩ : ByteArray).size ≤ 100 := by
      have e1 : (⟨#[42]⟩ : ByteArray).size = 1 := rfl
      have e2 : (⟨#[13, 10]⟩ : ByteArray).size = 2 := rfl
      simp only [ByteArray.size_append, e1, e2]
      omega
    have I0 := Lib.hid (fun W hW => IT.out l.length (by omega) W hW)
    clear hc hR hv
    generalize toB (Lib.decDigits l.length) = t0 at *
    go_enter Tryd.func8, Tryd.ntmps8
    go_wp2_with fail
    refine CH.out.mono ?_
    rintro e w1 ⟨rfl, f1⟩
    have B1 := Lib.hid (BW.start w1)
    have F1 := Lib.hid f1
    clear f1 CH
    go_wp2_with fail
    refine (I0.out _ (F1.out.trans B1.out.f)).mono ?_
    rintro e w2 ⟨rfl, f2⟩
    have B2 := Lib.hid (B1.out.fr f2)
    clear f2 B1
    have ad1 : ∀ W, (Op.stringOp .add ⟨#[42]⟩ t0).run Tryd.prog W = .ok (.string (⟨#[42]⟩ ++ t0)) W := fun W => run_string_add_sum W _ _ (by have e1 : (⟨#[42]⟩ : ByteArray).size = 1 := rfl; omega)
    have ad2 : ∀ W, (Op.stringOp .add (⟨#[42]⟩ ++ t0) ⟨#[13, 10]⟩).run Tryd.prog W = .ok (.string (⟨#[42]⟩ ++ t0 ++ ⟨#[13, 10]⟩)) W := fun W => run_string_add_sum W _ _ (by
      have e1 : (⟨#[42]⟩ : ByteArray).size = 1 := rfl
      have e2 : (⟨#[13, 10]⟩ : ByteArray).size = 2 := rfl
      simp only [ByteArray.size_append, e1, e2]
      omega)
    have WR := Lib.hid (B2.out.write (⟨#[42]⟩ ++ t0 ++ ⟨#[13, 10]⟩) (by simp only [List.length_nil]; omega))
    generalize ⟨#[42]⟩ ++ t0 ++ ⟨#[13, 10]⟩ = t1 at *
    unfold WrP at WR
    rw [List.nil_append, T0.out] at WR
    go_wp2_with fail
    refine WR.out.mono ?_
    rintro e w3 ⟨rfl, b3⟩
    have B3 := Lib.hid b3
    clear b3 WR ad1 ad2 T0 B2
    go_wp2
    go_loopg [21] l.length (fun x i wr => ∃ (k : Nat), x = l.length - k ∧ k ≤ l.length ∧ i = .int .i64 k ∧ BW w1 (toldS l k) wr)
    case atStart => exact ⟨0, rfl, Nat.zero_le _, rfl, B3.out⟩
    case round =>
      obtain ⟨k, rfl, hk, rfl, hb⟩ := hrel
      have BB := Lib.hid hb
      clear hb B3
      by_cases hlt : k < l.length
      · obtain ⟨g, o, rfl, hg, hcap, hm, hcell⟩ := HS.out.at_ (by omega)
        obtain ⟨s, hs⟩ : ∃ s, l[k]? = some s := ⟨_, List.getElem?_eq_getElem hlt⟩
        have x1 : wr.cell? ⟨g, o + k, none⟩ = some (.string s) := (F1.out.trans BB.out.f).cell (hcell k _ (textsV_get l k s hs)) (by simp)
        have hs60 := HR.out.2.2 s (List.mem_of_getElem? hs)
        have TL := told_len HR.out k
        have ST := Lib.hid (told_step hs)
        have IK := Lib.hid (IT.out s.size (by omega) wr (F1.out.trans BB.out.f))
        have dz : (toB (Lib.decDigits s.size)).size ≤ 2 := by rw [toB_size]; exact dec_two_len (by omega)
        have e1 : (⟨#[36]⟩ : ByteArray).size = 1 := rfl
        have e2 : (⟨#[13, 10]⟩ : ByteArray).size = 2 := rfl
        have TW := Lib.hid (show (⟨#[36]⟩ ++ toB (Lib.decDigits s.size) ++ ⟨#[13, 10]⟩ ++ s ++ ⟨#[13, 10]⟩ : ByteArray).data.toList = wordBs s from by
          unfold wordBs
          simp [toB])
        clear hcell hs
        generalize toB (Lib.decDigits s.size) = t at *
        have ad1 : ∀ W, (Op.stringOp .add ⟨#[36]⟩ t).run Tryd.prog W = .ok (.string (⟨#[36]⟩ ++ t)) W := fun W => run_string_add_sum W _ _ (by omega)
        have ad2 : ∀ W, (Op.stringOp .add (⟨#[36]⟩ ++ t) ⟨#[13, 10]⟩).run Tryd.prog W = .ok (.string (⟨#[36]⟩ ++ t ++ ⟨#[13, 10]⟩)) W := fun W => run_string_add_sum W _ _ (by
          simp only [ByteArray.size_append, e1, e2]; omega)
        have ad3 : ∀ W, (Op.stringOp .add (⟨#[36]⟩ ++ t ++ ⟨#[13, 10]⟩) s).run Tryd.prog W = .ok (.string (⟨#[36]⟩ ++ t ++ ⟨#[13, 10]⟩ ++ s)) W := fun W => run_string_add_sum W _ _ (by
          simp only [ByteArray.size_append, e1, e2]; omega)
        have ad4 : ∀ W, (Op.stringOp .add (⟨#[36]⟩ ++ t ++ ⟨#[13, 10]⟩ ++ s) ⟨#[13, 10]⟩).run Tryd.prog W = .ok (.string (⟨#[36]⟩ ++ t ++ ⟨#[13, 10]⟩ ++ s ++ ⟨#[13, 10]⟩)) W := fun W => run_string_add_sum W _ _ (by
          simp only [ByteArray.size_append, e1, e2]; omega)
        have hz : (⟨#[36]⟩ ++ t ++ ⟨#[13, 10]⟩ ++ s ++ ⟨#[13, 10]⟩ : ByteArray).size ≤ 1000 := by
          simp only [ByteArray.size_append, e1, e2]; omega
        have WR := Lib.hid (fun W (hW : BW w1 (toldS l k) W) => hW.write (⟨#[36]⟩ ++ t ++ ⟨#[13, 10]⟩ ++ s ++ ⟨#[13, 10]⟩) (by omega))
        generalize ⟨#[36]⟩ ++ t ++ ⟨#[13, 10]⟩ ++ s ++ ⟨#[13, 10]⟩ = t1 at *
        unfold WrP at WR
        rw [TW.out, ← ST.out] at WR
        clear e1 e2 TW
        go_wp2_with fail
        refine IK.out.mono ?_
        rintro e w4 ⟨rfl, f4⟩
        have B4 := Lib.hid (BB.out.fr f4)
        clear f4
        go_wp2_with fail
        refine (WR.out _ B4.out).mono ?_
        rintro e w5 ⟨rfl, b5⟩
        have B5 := Lib.hid b5
        clear b5 WR ad1 ad2 ad3 ad4
        go_wp2
        go_roundg (l.length - (k + 1))
        case measure => omega
        case rel => exact ⟨k + 1, rfl, by omega, by go_num, B5.out⟩
      · obtain rfl : k = l.length := by omega
        rw [EE.out] at BB
        have SG := Lib.hid (BB.out.string (by unfold wordsBs; simp))
        go_wp2_with fail
        refine SG.out.mono ?_
        rintro e w4 ⟨rfl, f4⟩
        go_wp2
        go_ret2
        exact ⟨rfl, F1.out.trans f4⟩
  · rw [if_neg hc]
    have q1 : (wordsCode l == 0) = false := by simpa using hc
    have q2 : (wordsCode l != 0) = true := by simpa using hc
    generalize wordsCode l = code at *
    clear hc
    go_enter Tryd.func8, Tryd.ntmps8
    go_wp2_with fail
    refine CH.out.mono ?_
    rintro e w1 ⟨rfl, f1⟩
    go_wp2
    go_ret2
    exact ⟨rfl, f1⟩
end Go.Proofs.YtlmaiiloihabdaaDoor
