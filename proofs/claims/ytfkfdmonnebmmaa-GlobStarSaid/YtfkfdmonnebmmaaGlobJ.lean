/- The walks of the laws on patterns: GlobMatches. -/
import Derived.Test.YtfkfdmonnebmmaaGlobH
import Derived.Test.YtfkfdmonnebmmaaGlobI
set_option linter.unusedVariables false
namespace Go.Proofs.Ytfkfdmonnebmmaa
open Go.RowKit

def bsOf (l : List UInt8) : ByteArray := ⟨l.toArray⟩

theorem begun1 : matchCode (bsOf [97, 42, 91, 98, 45, 100, 93, 63, 92, 42]) (bsOf [97, 120, 120, 99, 122, 42]) = 0 ∧ matchAns (bsOf [97, 42, 91, 98, 45, 100, 93, 63, 92, 42]) (bsOf [97, 120, 120, 99, 122, 42]) = true := by decide +kernel
theorem begun2 : matchCode (bsOf [91, 94, 97, 93]) (bsOf [97]) = 0 ∧ matchAns (bsOf [91, 94, 97, 93]) (bsOf [97]) = false := by decide +kernel
theorem begun3 : checkGlob (bsOf [91, 97, 45, 99, 93]) = 0 := by decide +kernel
theorem begun4 : checkGlob (bsOf [91]) = 1 := by decide +kernel

theorem match1 (W : World) : Calls Try.prog 12 #[.string (bsOf [97, 42, 91, 98, 45, 100, 93, 63, 92, 42]), .string (bsOf [97, 120, 120, 99, 122, 42])] W fun e w' => e = .returned (.tuple #[.bool true, .int .i64 0]) ∧ Fr [] W w' := by
  have := globMatch_any (bsOf [97, 42, 91, 98, 45, 100, 93, 63, 92, 42]) (bsOf [97, 120, 120, 99, 122, 42]) W (by decide) (by decide)
  rw [begun1.1, begun1.2] at this
  exact this
theorem match2 (W : World) : Calls Try.prog 12 #[.string (bsOf [91, 94, 97, 93]), .string (bsOf [97])] W fun e w' => e = .returned (.tuple #[.bool false, .int .i64 0]) ∧ Fr [] W w' := by
  have := globMatch_any (bsOf [91, 94, 97, 93]) (bsOf [97]) W (by decide) (by decide)
  rw [begun2.1, begun2.2] at this
  exact this
theorem check3 (W : World) : Calls Try.prog 15 #[.string (bsOf [91, 97, 45, 99, 93])] W fun e w' => e = .returned (.int .i64 0) ∧ Fr [] W w' := by
  have := globCheck_any (bsOf [91, 97, 45, 99, 93]) W (by decide)
  rw [begun3] at this
  exact this
theorem check4 (W : World) : Calls Try.prog 15 #[.string (bsOf [91])] W fun e w' => e = .returned (.int .i64 1) ∧ Fr [] W w' := by
  have := globCheck_any (bsOf [91]) W (by decide)
  rw [begun4] at this
  exact this

theorem globBegun_any (w : World) : Calls Try.prog 14 #[] w fun e w' => e = .returned (.bool true) ∧ Fr [] w w' := by
  go_enter Try.func14, Try.ntmps14
  go_wp2_with fail
  refine (match1 _).mono ?_
  rintro e w1 ⟨rfl, h1⟩
  go_wp2_with fail
  refine (match2 _).mono ?_
  rintro e w2 ⟨rfl, h2⟩
  go_wp2_with fail
  refine (check3 _).mono ?_
  rintro e w3 ⟨rfl, h3⟩
  go_wp2_with fail
  refine (check4 _).mono ?_
  rintro e w4 ⟨rfl, h4⟩
  go_wp2
  go_ret
  exact ⟨rfl, ((h1.trans h2).trans h3).trans h4⟩

set_option maxHeartbeats 800000 in
theorem globMatches_any (p s : ByteArray) (w : World) (hp : p.size ≤ 281474976710656) (hs : s.size ≤ 281474976710656) :
    Calls Try.prog 3 #[.string p, .string s] w fun e w' => e = .returned (.bool true) ∧ Fr [] w w' := by
  have M := Lib.hid (globMatch_any p s w hp hs)
  have hck : ∀ W, Calls Try.prog 13 #[.string p] W fun e w' => e = .returned (.int .i64 (checkGlob p)) ∧ ∃ n, w' = W.drewN n := fun W => checkGlob_any p W hp
  have hc2 : ∀ W, Calls Try.prog 15 #[.string p] W fun e w' => e = .returned (.int .i64 (checkGlob p)) ∧ Fr [] W w' := fun W => globCheck_any p W hp
  have C := Lib.hid hck
  have D := Lib.hid hc2
  clear hck hc2
  by_cases hc : checkGlob p = 0
  · rw [hc] at C D
    have hp60 : p.size ≤ 60 := by
      unfold checkGlob at hc
      split at hc
      · cases hc
      · omega
    by_cases h60 : 60 < s.size
    · have hE : matchCode p s = 2 := by unfold matchCode; rw [if_pos ⟨hc, h60⟩]
      have hA : matchAns p s = false := by unfold matchAns; rw [hE]; rfl
      rw [hE, hA] at M
      clear hE hA hc
      go_enter Try.func3, Try.ntmps3
      go_wp2_with fail
      refine M.out.mono ?_
      rintro e w1 ⟨rfl, h1⟩
      go_wp2_with fail
      refine (C.out _).mono ?_
      rintro e w2 ⟨rfl, n, rfl⟩
      go_wp2_with fail
      refine (globBegun_any _).mono ?_
      rintro e w3 ⟨rfl, h3⟩
      go_wp2_with fail
      refine (D.out _).mono ?_
      rintro e w4 ⟨rfl, h4⟩
      go_wp2
      go_ret
      exact ⟨rfl, ((h1.drewN n).trans h3).trans h4⟩
    · have hE : matchCode p s = 0 := by unfold matchCode; rw [if_neg (fun h => h60 h.2), hc]
      obtain ⟨l, hl⟩ : ∃ l, partsFrom p 0 = some l := by
        unfold checkGlob okAt at hc
        rw [if_neg (by omega)] at hc
        cases h : partsFrom p 0 with
        | none => rw [h] at hc; cases hc
        | some l => exact ⟨l, rfl⟩
      have hA : matchAns p s = backRow (l.map (·.2)) s 0 := by unfold matchAns; rw [hE, hl, ← match_same]; simp
      have hI : ∀ W, Calls Try.prog 16 #[.string p, .string s] W fun e w' => e = .returned (.bool (backRow (l.map (·.2)) s 0)) ∧ Fr [] W w' := fun W => isMatch_any p s l W hp60 (by omega) hl
      rw [← hA] at hI
      have I := Lib.hid hI
      rw [hE] at M
      clear hE hA hc hl hI
      generalize matchAns p s = ans at *
      go_enter Try.func3, Try.ntmps3
      go_wp2_with fail
      refine M.out.mono ?_
      rintro e w1 ⟨rfl, h1⟩
      go_wp2_with fail
      refine (C.out _).mono ?_
      rintro e w2 ⟨rfl, n, rfl⟩
      go_wp2_with fail
      refine (globBegun_any _).mono ?_
      rintro e w3 ⟨rfl, h3⟩
      go_wp2_with fail
      refine (D.out _).mono ?_
      rintro e w4 ⟨rfl, h4⟩
      go_wp2_with fail
      refine (I.out _).mono ?_
      rintro e w5 ⟨rfl, h5⟩
      go_wp2
      go_ret
      exact ⟨rfl, (((h1.drewN n).trans h3).trans h4).trans h5⟩
  · have hE : matchCode p s = checkGlob p := by unfold matchCode; rw [if_neg (fun h => hc h.1)]
    have hA : matchAns p s = false := by unfold matchAns; rw [hE]; simp [hc]
    rw [hE, hA] at M
    have hb : (checkGlob p == 0) = false := by simpa using hc
    clear hE hA hc
    generalize checkGlob p = c at *
    go_enter Try.func3, Try.ntmps3
    go_wp2_with fail
    refine M.out.mono ?_
    rintro e w1 ⟨rfl, h1⟩
    go_wp2_with fail
    refine (C.out _).mono ?_
    rintro e w2 ⟨rfl, n, rfl⟩
    go_wp2_with fail
    refine (globBegun_any _).mono ?_
    rintro e w3 ⟨rfl, h3⟩
    go_wp2_with fail
    refine (D.out _).mono ?_
    rintro e w4 ⟨rfl, h4⟩
    go_wp2
    go_ret
    exact ⟨rfl, ((h1.drewN n).trans h3).trans h4⟩
end Go.Proofs.Ytfkfdmonnebmmaa
