/- The walk of the program's Match. -/
import Derived.Test.YtmlmiboihjibiaaGlobG
set_option linter.unusedVariables false
set_option linter.unusedSimpArgs false
namespace Go.Proofs.Ytmlmiboihjibiaa
open Go.RowKit

/-- Match's answer: the errno, whether it matches. -/
def matchCode (p s : ByteArray) : Int := if checkGlob p = 0 ∧ 60 < s.size then 2 else checkGlob p
def matchAns (p s : ByteArray) : Bool := decide (matchCode p s = 0) && matchRow (((partsFrom p 0).getD []).map (·.2)) s s.size

set_option maxHeartbeats 400000 in
theorem globMatch_any (p s : ByteArray) (w : World) (hp : p.size ≤ 281474976710656) (hs : s.size ≤ 281474976710656) :
    Calls Try.prog 88 #[.string p, .string s] w fun e w' => e = .returned (.tuple #[.bool (matchAns p s), .int .i64 (matchCode p s)]) ∧ Fr [] w w' := by
  go_enter Try.func88, Try.ntmps88
  go_wp2_with fail
  refine (ready_any p _ hp).mono ?_
  intro e w1 hpost
  rcases hpost with ⟨hc, hp60, l, v, xs, hpl, rfl, hown, hcells, hf⟩ | ⟨hc, rfl, hf⟩
  · by_cases h60 : 60 < s.size
    · have hE : matchCode p s = 2 := by unfold matchCode; rw [if_pos ⟨hc, h60⟩]
      have hA : matchAns p s = false := by unfold matchAns; rw [hE]; rfl
      have E := Lib.hid hE
      have A := Lib.hid hA
      clear hE hA hc hpl hown hcells
      go_wp2
      go_ret2
      rw [E.out, A.out]
      exact ⟨rfl, hf⟩
    · have hE : matchCode p s = 0 := by unfold matchCode; rw [if_neg (fun h => h60 h.2), hc]
      have hA : matchAns p s = matchRow (l.map (·.2)) s s.size := by unfold matchAns; rw [hE, hpl]; simp
      have E := Lib.hid hE
      have A := Lib.hid hA
      have hll : l.length ≤ 60 := by have := parts_length hpl; omega
      clear hE hA hc hpl
      have hown' := (show w1.ownsRow (w.heap.size + 3) 164 2 v (l.map (·.2)).length xs by simpa using hown)
      clear hown
      go_wp2_with fail
      refine (match_any (l.map (·.2)) _ _ v xs s _ (by omega) (by simpa using hll) (Nat.le_refl _) hown' hcells).mono ?_
      rintro e w2 ⟨rfl, hf2⟩
      go_wp2
      go_ret2
      rw [E.out, A.out]
      exact ⟨rfl, hf.trans hf2⟩
  · have hE : matchCode p s = checkGlob p := by unfold matchCode; rw [if_neg (fun h => hc h.1)]
    have hA : matchAns p s = false := by unfold matchAns; rw [hE]; simp [hc]
    have E := Lib.hid hE
    have A := Lib.hid hA
    have hb : (checkGlob p == 0) = false := by simpa using hc
    have hb2 : (checkGlob p != 0) = true := by simpa using hc
    clear hE hA hc
    go_wp2
    go_ret2
    rw [E.out, A.out]
    exact ⟨rfl, hf⟩
end Go.Proofs.Ytmlmiboihjibiaa
