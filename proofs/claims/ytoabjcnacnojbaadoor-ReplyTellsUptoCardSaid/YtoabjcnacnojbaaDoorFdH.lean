/- The walks of feed.Check and the document's CheckWords; of feed.Words and the document's WordBytes. -/
import Derived.Test.YtoabjcnacnojbaaDoorFdA
import Derived.Test.YtoabjcnacnojbaaDoorSlS
import Derived.Test.YtoabjcnacnojbaaDoorItW
import Derived.Test.YtoabjcnacnojbaaDoorNuD
import Derived.Deep.RegionHeld3
set_option linter.unusedVariables false
set_option linter.unusedSimpArgs false
namespace Go.Proofs.YtoabjcnacnojbaaDoor
open Go.RowKit

def wordsCode (l : List ByteArray) : Int := if l.length = 0 then 1 else if 12 < l.length then 2 else if l.any longS = true then 2 else 0
theorem wordsCode_ok {l : List ByteArray} (h : wordsCode l = 0) : wordsR l := by
  unfold wordsCode at h
  split at h
  · cases h
  · split at h
    · cases h
    · split at h
      · cases h
      · rename_i h1 h2 h3
        refine ⟨by omega, by omega, fun s hs => ?_⟩
        have := h3
        simp only [Bool.not_eq_true, List.any_eq_false] at this
        have := this s hs
        unfold longS at this
        simp at this
        exact this
theorem wordsCode_mk {l : List ByteArray} (h : wordsR l) : wordsCode l = 0 := by
  unfold wordsCode
  have := h.1
  have := h.2.1
  rw [if_neg (by omega), if_neg (by omega), if_neg]
  simp only [Bool.not_eq_true, List.any_eq_false]
  intro s hs
  have := h.2.2 s hs
  unfold longS
  simp
  exact this

theorem itoa_nat (n : Nat) : Lib.itoa (n : Int) = Lib.decDigits n := by
  unfold Lib.itoa
  rw [if_neg (by omega)]
  simp
theorem dec_two_len {u : Nat} (h : u < 100) : (Lib.decDigits u).length ≤ 2 := by
  rcases dec_two h with ⟨_, e⟩ | ⟨_, e⟩ <;> rw [e] <;> simp
theorem wordBs_len {s : ByteArray} (h : s.size ≤ 60) : (wordBs s).length ≤ 67 := by
  have := dec_two_len (show s.size < 100 by omega)
  have hl : s.data.toList.length = s.size := by simp
  unfold wordBs
  simp only [List.length_cons, List.length_append, List.length_nil]
  omega
/-- a builder of one's own, and its bytes. -/
structure BW (w : World) (l : List UInt8) (wr : World) : Prop where
  bld : ∃ own ds, BldIn 47 w.heap.size 0 w.heap.size own ds l wr
  f : Fr [] w wr
theorem BldIn.frz {T g off base : Nat} {own : Option Nat} {cs : List Value} {m : List UInt8} {w w1 : World} (h : BldIn T g off base own cs m w) (hf : Fr [] w w1) : BldIn T g off base own cs m w1 := by
  obtain ⟨v, h1, h2, h3⟩ := h.buf
  exact ⟨h.whole.fr hf (by simp), h.addr, ⟨v, h1, own_fr h2 hf (by simp), h3⟩, h.base, h.ne, h.lies⟩
theorem BW.start (w : World) : BW w [] (w.alloc (.cells #[.pointer none, .slice none 0 0] 47)) :=
  ⟨⟨none, [.pointer none, .slice none 0 0], Whole.new w _ _, .inl rfl, ⟨_, rfl, World.ownsRow_nil _ _ _ _, rfl⟩, Nat.le_refl _, by decide, by kernel_rfl⟩, (Fr.refl [] w).alloc _⟩
theorem BW.fr {w wr w1 : World} {l : List UInt8} (h : BW w l wr) (k : Fr [] wr w1) : BW w l w1 := by
  obtain ⟨own, ds, hb⟩ := h.bld
  exact ⟨⟨own, ds, hb.frz k⟩, h.f.trans k⟩
def WrP (w : World) (l : List UInt8) (s : ByteArray) (e : Ending) (w' : World) : Prop := e = .returned (.tuple #[.int .i64 s.size, .nilIface]) ∧ BW w (l ++ s.data.toList) w'
/-- a write more. -/
theorem BW.write {w wr : World} {l : List UInt8} (h : BW w l wr) (s : ByteArray) (hl : l.length + s.size ≤ 140737488355328) :
    Calls Tryd.prog 21 #[.pointer (some ⟨w.heap.size, 0, none⟩), .string s] wr (WrP w l s) := by
  obtain ⟨own, ds, hb⟩ := h.bld
  refine (writeString_any s hb hl h.f.size).mono ?_
  rintro e w1 ⟨rfl, hw⟩
  have hb2 := Wrote.of_base hb
  obtain ⟨own', cs', b', l', e', o', f'⟩ := hw
  exact ⟨rfl, ⟨own', cs', b'⟩, h.f.step f' (fun x hx => .inr (hb2 x hx))⟩
theorem BW.string {w wr : World} {l : List UInt8} (h : BW w l wr) (h0 : l ≠ []) :
    Calls Tryd.prog 22 #[.pointer (some ⟨w.heap.size, 0, none⟩)] wr fun e w' => e = .returned (.string ⟨l.toArray⟩) ∧ Fr [] w w' := by
  obtain ⟨own, ds, hb⟩ := h.bld
  refine (string_any hb h0).mono ?_
  rintro e w1 ⟨rfl, f⟩
  exact ⟨rfl, h.f.step f (fun x hx => .inr (Wrote.of_base hb x (List.mem_cons_of_mem _ hx)))⟩

theorem bytes_wrap (a b c : ByteArray) : (a ++ b ++ c).data.toList = a.data.toList ++ b.data.toList ++ c.data.toList := by simp
def toldS (l : List ByteArray) (k : Nat) : List UInt8 := 42 :: (Lib.decDigits l.length ++ 13 :: 10 :: (l.take k).flatMap wordBs)
theorem told_zero (l : List ByteArray) : toldS l 0 = 42 :: (Lib.decDigits l.length ++ [13, 10]) := rfl
theorem told_step {l : List ByteArray} {k : Nat} {s : ByteArray} (h : l[k]? = some s) : toldS l (k + 1) = toldS l k ++ wordBs s := by
  unfold toldS
  rw [List.take_add_one, h]
  simp
theorem told_end (l : List ByteArray) : toldS l l.length = wordsBs l := by
  unfold toldS wordsBs
  rw [List.take_length]
theorem told_len {l : List ByteArray} (h : wordsR l) : ∀ k, (toldS l k).length ≤ 6 + 67 * k
  | 0 => by
    have := dec_two_len (show l.length < 100 by have := h.2.1; omega)
    rw [told_zero]
    simp only [List.length_cons, List.length_append, List.length_nil]
    omega
  | k + 1 => by
    have ih := told_len h k
    rcases hk : l[k]? with _ | s
    · have : l.take (k + 1) = l.take k := by rw [List.take_add_one, hk]; simp
      unfold toldS at ih ⊢
      rw [this]
      omega
    · rw [told_step hk, List.length_append]
      have := wordBs_len (h.2.2 s (List.mem_of_getElem? hk))
      omega
def WordsP (l : List ByteArray) (w : World) (e : Ending) (w' : World) : Prop := e = .returned (.tuple #[.string (if wordsCode l = 0 then toB (wordsBs l) else ⟨#[]⟩), .int .i64 (wordsCode l)]) ∧ Fr [] w w'

end Go.Proofs.YtoabjcnacnojbaaDoor
