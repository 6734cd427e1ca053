/- The walks of the laws on patterns: GlobStar and GlobPlain. -/
import Derived.Test.YtfkfdmonnebmmaaGlobJ
import Derived.Test.YtfkfdmonnebmmaaGlobR
set_option linter.unusedVariables false
namespace Go.Proofs.Ytfkfdmonnebmmaa
open Go.RowKit

theorem addS (a b : ByteArray) (hs : a.size + b.size ≤ 9223372036854775807) (W : World) : (Op.stringOp .add a b).run Try.prog W = .ok (.string (a ++ b)) W :=
  run_string_add_sum W a b hs

theorem sz1 : (⟨#[42]⟩ : ByteArray).size = 1 := rfl
theorem sz2 : (⟨#[42, 42]⟩ : ByteArray).size = 2 := rfl

set_option maxHeartbeats 800000 in
theorem globStar_any (p s t : ByteArray) (w : World) (hp : p.size ≤ 281474976710656) (hs : s.size ≤ 281474976710656) (ht : t.size ≤ 281474976710656) :
    Calls Try.prog 5 #[.string p, .string s, .string t] w fun e w' => e = .returned (.bool true) ∧ Fr [] w w' := by
  have M := Lib.hid (fun W => globMatch_any p s W hp hs)
  by_cases hc : matchCode p s = 0
  · rw [hc] at M
    by_cases h58 : 58 < p.size
    · go_enter Try.func5, Try.ntmps5
      go_wp2_with fail
      refine (globBegun_any _).mono ?_
      rintro e w1 ⟨rfl, h1⟩
      go_wp2_with fail
      refine (M.out _).mono ?_
      rintro e w2 ⟨rfl, h2⟩
      go_wp2
      go_ret
      exact ⟨rfl, h1.trans h2⟩
    · by_cases h60 : 60 < s.size + t.size
      · go_enter Try.func5, Try.ntmps5
        go_wp2_with fail
        refine (globBegun_any _).mono ?_
        rintro e w1 ⟨rfl, h1⟩
        go_wp2_with fail
        refine (M.out _).mono ?_
        rintro e w2 ⟨rfl, h2⟩
        go_wp2
        go_ret
        exact ⟨rfl, h1.trans h2⟩
      · have L := glob_star (t := t) hc (by omega) (by omega)
        have hA := fun W => globMatch_any (p ++ ⟨#[42]⟩) (s ++ t) W (by simp [sz1]; omega) (by simp; omega)
        have hB := fun W => globMatch_any (⟨#[42]⟩ ++ p) (t ++ s) W (by simp [sz1]; omega) (by simp; omega)
        have hC := fun W => globMatch_any (p ++ ⟨#[42, 42]⟩) (s ++ t) W (by simp [sz2]; omega) (by simp; omega)
        simp only [starB, starsB] at L
        obtain ⟨L1, L2, L3, L4, L5⟩ := L
        rw [← L5] at hC
        rw [L1] at hA
        rw [L2] at hB
        rw [L3] at hC
        clear L1 L2 L3 L5 hc
        generalize matchAns p s = ok at *
        generalize matchAns (p ++ ⟨#[42]⟩) (s ++ t) = a at *
        generalize matchAns (⟨#[42]⟩ ++ p) (t ++ s) = b at *
        have A := Lib.hid hA
        have B := Lib.hid hB
        have C := Lib.hid hC
        have hok : ok = false ∨ (ok = true ∧ a = true ∧ b = true) := by
          cases ok
          · exact Or.inl rfl
          · exact Or.inr ⟨rfl, L4 rfl⟩
        clear hA hB hC L4
        have S1 := addS p ⟨#[42]⟩ (by rw [sz1]; omega)
        have S2 := addS ⟨#[42]⟩ p (by rw [sz1]; omega)
        have S3 := addS p ⟨#[42, 42]⟩ (by rw [sz2]; omega)
        have S4 := addS s t (by omega)
        have S5 := addS t s (by omega)
        rcases hok with rfl | ⟨rfl, rfl, rfl⟩
        all_goals
          go_enter Try.func5, Try.ntmps5
          go_wp2_with fail
          refine (globBegun_any _).mono ?_
          rintro e w1 ⟨rfl, h1⟩
          go_wp2_with fail
          refine (M.out _).mono ?_
          rintro e w2 ⟨rfl, h2⟩
          go_wp2_with fail
          refine (A.out _).mono ?_
          rintro e w3 ⟨rfl, h3⟩
          go_wp2_with fail
          refine (B.out _).mono ?_
          rintro e w4 ⟨rfl, h4⟩
          go_wp2_with fail
          refine (C.out _).mono ?_
          rintro e w5 ⟨rfl, h5⟩
          go_wp2
          go_ret
          first
          | exact ⟨rfl, (((h1.trans h2).trans h3).trans h4).trans h5⟩
          | cases a <;> exact ⟨rfl, (((h1.trans h2).trans h3).trans h4).trans h5⟩
  · have hb : (matchCode p s == 0) = false := by simpa using hc
    have hb2 : (matchCode p s != 0) = true := by simpa using hc
    have hA : matchAns p s = false := by unfold matchAns; simp [hc]
    rw [hA] at M
    clear hA hc
    generalize matchCode p s = c at *
    go_enter Try.func5, Try.ntmps5
    go_wp2_with fail
    refine (globBegun_any _).mono ?_
    rintro e w1 ⟨rfl, h1⟩
    go_wp2_with fail
    refine (M.out _).mono ?_
    rintro e w2 ⟨rfl, h2⟩
    go_wp2
    go_ret
    exact ⟨rfl, h1.trans h2⟩

theorem sz3 : (⟨#[92]⟩ : ByteArray).size = 1 := rfl
theorem eqB (p s : ByteArray) : (p.toList == s.toList) = decide (p = s) := by
  by_cases h : p = s
  · subst h; simp
  · have : p.toList ≠ s.toList := fun e => h (by
      have := congrArg List.toArray e
      cases p; cases s
      simpa [ByteArray.toList_eq] using this)
    simp [h, this]

attribute [local go_sem] byteAt_eq

set_option maxHeartbeats 800000 in
theorem globPlain_any (p s : ByteArray) (w : World) (hp : p.size ≤ 281474976710656) (hs : s.size ≤ 281474976710656) :
    Calls Try.prog 4 #[.string p, .string s] w fun e w' => e = .returned (.bool true) ∧ Fr [] w w' := by
  by_cases h30 : 30 < p.size
  · go_enter Try.func4, Try.ntmps4
    go_wp2_with fail
    refine (globBegun_any _).mono ?_
    rintro e w1 ⟨rfl, h1⟩
    go_wp2
    go_ret
    exact ⟨rfl, h1⟩
  · by_cases h60 : 60 < s.size
    · go_enter Try.func4, Try.ntmps4
      go_wp2_with fail
      refine (globBegun_any _).mono ?_
      rintro e w1 ⟨rfl, h1⟩
      go_wp2
      go_ret
      exact ⟨rfl, h1⟩
    · have hE : ∀ (q : ByteArray), q.data.toList = eachL p.data.toList → ∀ W, Calls Try.prog 12 #[.string q, .string s] W fun e w' => e = .returned (.tuple #[.bool (p.toList == s.toList), .int .i64 0]) ∧ Fr [] W w' := by
        intro q hq W
        have h := glob_each hq (by omega) (s := s) (by omega)
        have hsz : q.size ≤ 60 := by
          have : q.size = q.data.toList.length := by simp
          rw [this, hq, eachL_length]; simp; omega
        have hm := globMatch_any q s W (by omega) hs
        rw [h.1, show matchAns q s = (p.toList == s.toList) by rw [eqB, Bool.eq_iff_iff, h.2]; simp] at hm
        exact hm
      have hM : (∀ i, i < p.size → plainB (byteAt p i) = true) → ∀ W, Calls Try.prog 12 #[.string p, .string s] W fun e w' => e = .returned (.tuple #[.bool (p.toList == s.toList), .int .i64 0]) ∧ Fr [] W w' := by
        intro hpl W
        have h := glob_plain hpl (by omega) (s := s) (by omega)
        have hm := globMatch_any p s W (by omega) hs
        rw [h.1, show matchAns p s = (p.toList == s.toList) by rw [eqB, Bool.eq_iff_iff, h.2]; simp] at hm
        exact hm
      have E := Lib.hid hE
      have P := Lib.hid hM
      have M := Lib.hid (fun W => globMatch_any p s W hp hs)
      clear hE hM
      go_enter Try.func4, Try.ntmps4
      go_wp2_with fail
      refine (globBegun_any _).mono ?_
      rintro e w1 ⟨rfl, h1⟩
      go_wp2
      go_loopg [5, 6, 7] p.size (fun g pl each i wr => ∃ (k : Nat) (b : Bool) (q : ByteArray), g = p.size - k ∧ k ≤ p.size ∧ pl = .bool b ∧ each = .string q ∧ i = .int .i64 k ∧ q.data.toList = eachL (p.data.toList.take k) ∧ (b = true → ∀ j, j < k → plainB (byteAt p j) = true) ∧ Fr [] w wr)
      case atStart => exact ⟨0, true, _, rfl, Nat.zero_le _, rfl, rfl, rfl, by simp [eachL], fun _ j hj => absurd hj (Nat.not_lt_zero _), h1⟩
      case round =>
        obtain ⟨k, b, q, rfl, hk, rfl, rfl, rfl, hq, hb, hfr⟩ := hrel
        have HQ := Lib.hid hq
        have HB := Lib.hid hb
        have hqs : q.size = 2 * k := by
          have : q.size = q.data.toList.length := by simp
          rw [this, hq, eachL_length]; simp; omega
        clear hq hb
        by_cases hlt : k < p.size
        · have hX : (p.extract k (k + 1)).size = 1 := by simp; omega
          have S1 := addS ⟨#[92]⟩ (p.extract k (k + 1)) (by rw [sz3, hX]; omega)
          have hY : (⟨#[92]⟩ ++ p.extract k (k + 1)).size = 2 := by simp [sz3, hX]
          have S2 := addS q (⟨#[92]⟩ ++ p.extract k (k + 1)) (by rw [hY]; omega)
          have hnew : (q ++ (⟨#[92]⟩ ++ p.extract k (k + 1))).data.toList = eachL (p.data.toList.take (k + 1)) := by
            have hl : k < p.data.toList.length := by simpa using hlt
            have : (p.extract k (k + 1)).data.toList = [p.data.toList[k]] := by
              simp only [ByteArray.data_extract, Array.toList_extract]
              rw [List.extract_eq_take_drop, List.drop_eq_getElem_cons hl]
              simp
            rw [List.take_succ_eq_append_getElem hl, eachL_snoc, ByteArray.data_append, ByteArray.data_append, Array.toList_append, Array.toList_append, HQ.out, this]
            rfl
          have HNEW := Lib.hid hnew
          clear hnew hX hY
          have hkk : (k : Int) ≤ 30 := by omega
          by_cases c0 : byteAt p k = 42
          · have d0 : ((byteAt p k : Int) != 42) = false := by simp; omega
            clear c0
            cases b
            · go_wp2
              go_roundg (p.size - (k + 1))
              case measure => omega
              case rel => exact ⟨k + 1, false, _, rfl, by omega, rfl, rfl, rfl, HNEW.out, fun h => Bool.noConfusion h, hfr⟩
            · go_wp2
              go_roundg (p.size - (k + 1))
              case measure => omega
              case rel => exact ⟨k + 1, false, _, rfl, by omega, rfl, rfl, rfl, HNEW.out, fun h => Bool.noConfusion h, hfr⟩
          by_cases c1 : byteAt p k = 63
          · have d0 : ((byteAt p k : Int) != 42) = true := by simp; omega
            have d1 : ((byteAt p k : Int) != 63) = false := by simp; omega
            clear c0 c1
            cases b
            · go_wp2
              go_roundg (p.size - (k + 1))
              case measure => omega
              case rel => exact ⟨k + 1, false, _, rfl, by omega, rfl, rfl, rfl, HNEW.out, fun h => Bool.noConfusion h, hfr⟩
            · go_wp2
              go_roundg (p.size - (k + 1))
              case measure => omega
              case rel => exact ⟨k + 1, false, _, rfl, by omega, rfl, rfl, rfl, HNEW.out, fun h => Bool.noConfusion h, hfr⟩
          by_cases c2 : byteAt p k = 91
          · have d0 : ((byteAt p k : Int) != 42) = true := by simp; omega
            have d1 : ((byteAt p k : Int) != 63) = true := by simp; omega
            have d2 : ((byteAt p k : Int) != 91) = false := by simp; omega
            clear c0 c1 c2
            cases b
            · go_wp2
              go_roundg (p.size - (k + 1))
              case measure => omega
              case rel => exact ⟨k + 1, false, _, rfl, by omega, rfl, rfl, rfl, HNEW.out, fun h => Bool.noConfusion h, hfr⟩
            · go_wp2
              go_roundg (p.size - (k + 1))
              case measure => omega
              case rel => exact ⟨k + 1, false, _, rfl, by omega, rfl, rfl, rfl, HNEW.out, fun h => Bool.noConfusion h, hfr⟩
          by_cases c3 : byteAt p k = 92
          · have d0 : ((byteAt p k : Int) != 42) = true := by simp; omega
            have d1 : ((byteAt p k : Int) != 63) = true := by simp; omega
            have d2 : ((byteAt p k : Int) != 91) = true := by simp; omega
            have d3 : ((byteAt p k : Int) != 92) = false := by simp; omega
            clear c0 c1 c2 c3
            cases b
            · go_wp2
              go_roundg (p.size - (k + 1))
              case measure => omega
              case rel => exact ⟨k + 1, false, _, rfl, by omega, rfl, rfl, rfl, HNEW.out, fun h => Bool.noConfusion h, hfr⟩
            · go_wp2
              go_roundg (p.size - (k + 1))
              case measure => omega
              case rel => exact ⟨k + 1, false, _, rfl, by omega, rfl, rfl, rfl, HNEW.out, fun h => Bool.noConfusion h, hfr⟩
          have hpl : plainB (byteAt p k) = true := by simp [plainB, c0, c1, c2, c3]
          have HPL := Lib.hid hpl
          have d0 : ((byteAt p k : Int) != 42) = true := by simp; omega
          have d1 : ((byteAt p k : Int) != 63) = true := by simp; omega
          have d2 : ((byteAt p k : Int) != 91) = true := by simp; omega
          have d3 : ((byteAt p k : Int) != 92) = true := by simp; omega
          clear c0 c1 c2 c3 hpl
          cases b
          · go_wp2
            go_roundg (p.size - (k + 1))
            case measure => omega
            case rel => exact ⟨k + 1, false, _, rfl, by omega, rfl, rfl, rfl, HNEW.out, fun h => Bool.noConfusion h, hfr⟩
          · go_wp2
            go_roundg (p.size - (k + 1))
            case measure => omega
            case rel =>
              refine ⟨k + 1, true, _, rfl, by omega, rfl, rfl, rfl, HNEW.out, fun _ j hj => ?_, hfr⟩
              rcases Nat.lt_or_ge j k with h | h
              · exact HB.out (by first | exact trivial | exact rfl) j h
              · rw [show j = k by omega]; exact HPL.out
        · have hke : k = p.size := by omega
          subst hke
          have HF := Lib.hid (E.out q (by rw [HQ.out, List.take_of_length_le (by simp)]))
          clear E
          cases b
          · clear P
            generalize matchAns p s = a at *
            generalize matchCode p s = c at *
            go_wp2_with fail
            refine (HF.out _).mono ?_
            rintro e w2 ⟨rfl, h2⟩
            go_wp2_with fail
            refine (M.out _).mono ?_
            rintro e w3 ⟨rfl, h3⟩
            generalize ht : (p.toList == s.toList) = t at *
            cases t
            all_goals
              go_wp2
              go_ret
              exact ⟨rfl, (hfr.trans h2).trans h3⟩
          · have HG := Lib.hid (P.out (HB.out (by first | exact trivial | exact rfl)))
            clear P M
            go_wp2_with fail
            refine (HF.out _).mono ?_
            rintro e w2 ⟨rfl, h2⟩
            go_wp2_with fail
            refine (HG.out _).mono ?_
            rintro e w3 ⟨rfl, h3⟩
            generalize ht : (p.toList == s.toList) = t at *
            cases t
            all_goals
              go_wp2
              go_ret
              exact ⟨rfl, (hfr.trans h2).trans h3⟩
end Go.Proofs.Ytfkfdmonnebmmaa
