/- The walks of list.Some and of the reference's CheckSome. -/
import Derived.Test.YtmlmiboihjibiaaLs
set_option linter.unusedVariables false
set_option linter.unusedSimpArgs false
namespace Go.Proofs.Ytmlmiboihjibiaa
open Go.RowKit

set_option maxRecDepth 100000 in
theorem some_any (l : List ByteArray) (A : Option Addr) (c : Nat) (w : World) (B : Nat) (hl : l.length ≤ 281474976710656) (hB : B ≤ w.heap.size) (h : Sl w B 1 (.slice A l.length c) l.length (textsV l)) :
    Calls Try.prog 100 #[.slice A l.length c] w fun e w' => e = .returned (.int .i64 (someCode l)) ∧ Fr [] w w' := by
  have C := Lib.hid (conS_any l A c B w hl hB h)
  unfold someCode
  generalize l.any longS = b at *
  clear h
  by_cases hm : l.length = 0
  · rw [if_pos hm]
    have q : ((l.length : Int) == 0) = true := by simp [hm]
    go_enter Try.func100, Try.ntmps100
    go_wp2
    go_ret
    exact ⟨rfl, Fr.refl [] w⟩
  · rw [if_neg hm]
    have q : ((l.length : Int) == 0) = false := beq_eq_false_iff_ne.2 (by omega)
    clear hm
    cases b
    · go_enter Try.func100, Try.ntmps100
      go_wp2_with fail
      refine C.out.mono ?_
      rintro e w1 ⟨rfl, f1⟩
      go_wp2
      go_ret
      exact ⟨rfl, f1⟩
    · go_enter Try.func100, Try.ntmps100
      go_wp2_with fail
      refine C.out.mono ?_
      rintro e w1 ⟨rfl, f1⟩
      go_wp2
      go_ret
      exact ⟨rfl, f1⟩
set_option maxRecDepth 100000 in
theorem checkSome_any (l : List ByteArray) (A : Option Addr) (c : Nat) (w : World) (B : Nat) (hl : l.length ≤ 281474976710656) (hB : B ≤ w.heap.size) (h : Sl w B 1 (.slice A l.length c) l.length (textsV l)) :
    Calls Try.prog 111 #[.slice A l.length c] w fun e w' => e = .returned (.int .i64 (someCode l)) ∧ Fr [] w w' := by
  have H1 := Lib.hid h
  have hE : someCode l = if l.length = 0 then 1 else if l.any longS = true then 2 else 0 := rfl
  have HE := Lib.hid hE
  clear h hE
  by_cases hm : l.length = 0
  · have E := Lib.hid (HE.out.trans (if_pos hm))
    go_enter Try.func111, Try.ntmps111
    go_wp2
    go_ret
    rw [E.out]
    exact ⟨rfl, Fr.refl [] w⟩
  · have q : ((l.length : Int) == 0) = false := beq_eq_false_iff_ne.2 (by omega)
    have HE2 := Lib.hid (HE.out.trans (if_neg hm))
    clear hm HE
    go_enter Try.func111, Try.ntmps111
    go_wp2
    go_loopg [3] l.length (fun g i wr => ∃ (m : Nat), g = l.length - m ∧ i = .int .i64 m ∧ m ≤ l.length ∧ (l.drop m).any longS = l.any longS ∧ Fr [] w wr)
    case atStart => exact ⟨0, rfl, rfl, Nat.zero_le _, rfl, Fr.refl [] w⟩
    case round =>
    obtain ⟨m, rfl, rfl, hm, hR, hf⟩ := hrel
    have HF := Lib.hid hf
    clear hf
    by_cases hlt : m < l.length
    · obtain ⟨b, off, e, hb, hc, hmx, hcell⟩ := H1.out.at_ (by omega)
      obtain ⟨s, hs⟩ : ∃ s, l[m]? = some s := ⟨_, List.getElem?_eq_getElem hlt⟩
      subst e
      have hc1 : wr.cell? ⟨b, off + m, none⟩ = some (.string s) := HF.out.cell (hcell _ _ (textsV_get _ m s hs)) (by simp)
      rw [any_step hs] at hR
      by_cases hq : 60 < s.size
      · rw [show longS s = true from decide_eq_true hq, Bool.true_or] at hR
        have E := Lib.hid (HE2.out.trans (if_pos hR.symm))
        clear hR hcell hs
        go_wp2
        go_ret
        rw [E.out]
        exact ⟨rfl, HF.out⟩
      · rw [show longS s = false from decide_eq_false hq, Bool.false_or] at hR
        have HR := Lib.hid hR
        clear hR hcell hs
        go_wp2
        go_roundg (l.length - (m + 1))
        case measure => omega
        case rel => exact ⟨m + 1, rfl, rfl, by omega, HR.out, HF.out⟩
    have E := Lib.hid (HE2.out.trans (if_neg (by rw [← hR, any_end (by omega)]; decide)))
    clear hR
    go_wp2
    go_ret
    rw [E.out]
    exact ⟨rfl, HF.out⟩
end Go.Proofs.Ytmlmiboihjibiaa
