/- The walks of space.Time, Gone, the reference's IsGone; BinarySearchFunc at entries; space.find. -/
import Derived.Test.YtmlmiboihjibiaaEnt
import Derived.Test.YtmlmiboihjibiaaItC
import Derived.Test.YtmlmiboihjibiaaBo
import Derived.Test.YtmlmiboihjibiaaCtS
import Derived.Deep.RegionHeld3
set_option linter.unusedVariables false
set_option linter.unusedSimpArgs false
namespace Go.Proofs.Ytmlmiboihjibiaa
open Go.RowKit

theorem time_any (n : Int) (w : World) : Calls Try.prog 98 #[.int .i64 n] w fun e w' => e = .returned (.bool (timeB n)) ∧ w = w' := by
  by_cases h1 : 0 ≤ n
  · by_cases h2 : n ≤ 1000000
    · rw [show timeB n = true from by unfold timeB; rw [decide_eq_true h1, decide_eq_true h2]; rfl]
      go_enter Try.func98, Try.ntmps98
      go_wp2
      go_ret
      exact ⟨rfl, rfl⟩
    · rw [show timeB n = false from by unfold timeB; rw [decide_eq_false h2, Bool.and_false]]
      have h3 : decide (n ≤ 1000000) = false := decide_eq_false h2
      go_enter Try.func98, Try.ntmps98
      go_wp2
      go_ret
      exact ⟨rfl, rfl⟩
  · rw [show timeB n = false from by unfold timeB; rw [decide_eq_false h1, Bool.false_and]]
    have h3 : decide (0 ≤ n) = false := decide_eq_false h1
    go_enter Try.func98, Try.ntmps98
    go_wp2
    go_ret
    exact ⟨rfl, rfl⟩
theorem gone_any (t n : Int) (w : World) : Calls Try.prog 89 #[.int .i64 t, .int .i64 n] w fun e w' => e = .returned (.bool (goneB t n)) ∧ w = w' := by
  by_cases h1 : t = 0
  · rw [show goneB t n = false from by unfold goneB; rw [decide_eq_false (by simpa using h1), Bool.false_and]]
    have q1 : (t != 0) = false := by simpa using h1
    clear h1
    go_enter Try.func89, Try.ntmps89
    go_wp2
    go_ret
    exact ⟨rfl, rfl⟩
  · have q1 : (t != 0) = true := by simpa using h1
    by_cases h2 : t ≤ n
    · rw [show goneB t n = true from by unfold goneB; rw [decide_eq_true h1, decide_eq_true h2]; rfl]
      clear h1
      go_enter Try.func89, Try.ntmps89
      go_wp2
      go_ret
      exact ⟨rfl, rfl⟩
    · rw [show goneB t n = false from by unfold goneB; rw [decide_eq_false h2, Bool.and_false]]
      have h3 : decide (t ≤ n) = false := decide_eq_false h2
      clear h1 h2
      go_enter Try.func89, Try.ntmps89
      go_wp2
      go_ret
      exact ⟨rfl, rfl⟩

theorem seven {w : World} {g t : Nat} {a b c d e f h : Value} (hw : Whole w g t [a, b, c, d, e, f, h]) :
    w.cell? ⟨g, 0, none⟩ = some a ∧ w.cell? ⟨g, 1, none⟩ = some b ∧ w.cell? ⟨g, 2, none⟩ = some c ∧ w.cell? ⟨g, 3, none⟩ = some d ∧ w.cell? ⟨g, 4, none⟩ = some e ∧ w.cell? ⟨g, 5, none⟩ = some f ∧ w.cell? ⟨g, 6, none⟩ = some h :=
  ⟨hw.cell 0, hw.cell 1, hw.cell 2, hw.cell 3, hw.cell 4, hw.cell 5, hw.cell 6⟩
theorem sevenF {w : World} {g t : Nat} {a b c d e f h : Value} (hw : Whole w g t [a, b, c, d, e, f, h]) :
    w.frozen? ⟨g, 0, none⟩ = false ∧ w.frozen? ⟨g, 1, none⟩ = false ∧ w.frozen? ⟨g, 2, none⟩ = false ∧ w.frozen? ⟨g, 3, none⟩ = false ∧ w.frozen? ⟨g, 4, none⟩ = false ∧ w.frozen? ⟨g, 5, none⟩ = false ∧ w.frozen? ⟨g, 6, none⟩ = false :=
  ⟨hw.frozen 0, hw.frozen 1, hw.frozen 2, hw.frozen 3, hw.frozen 4, hw.frozen 5, hw.frozen 6⟩

set_option maxRecDepth 100000 in
theorem isGone_any (a b c d e f : Value) (t n : Int) (w : World) : Calls Try.prog 93 #[.agg #[a, b, c, d, e, f, .int .i64 t], .int .i64 n] w fun e w' => e = .returned (.bool (goneB t n)) ∧ Fr [] w w' := by
  have F1 := Lib.hid ((Fr.refl [] w).alloc (.cells #[a, b, c, d, e, f, .int .i64 t] 58))
  by_cases h1 : t = 0
  · rw [show goneB t n = false from by unfold goneB; rw [decide_eq_false (by simpa using h1), Bool.false_and]]
    have q1 : (t != 0) = false := by simpa using h1
    clear h1
    go_enter Try.func93, Try.ntmps93
    go_wp2
    go_ret
    exact ⟨rfl, F1.out⟩
  · have q1 : (t != 0) = true := by simpa using h1
    by_cases h2 : t ≤ n
    · rw [show goneB t n = true from by unfold goneB; rw [decide_eq_true h1, decide_eq_true h2]; rfl]
      clear h1
      go_enter Try.func93, Try.ntmps93
      go_wp2
      go_ret
      exact ⟨rfl, F1.out⟩
    · rw [show goneB t n = false from by unfold goneB; rw [decide_eq_false h2, Bool.and_false]]
      have h3 : decide (t ≤ n) = false := decide_eq_false h2
      clear h1 h2
      go_enter Try.func93, Try.ntmps93
      go_wp2
      go_ret
      exact ⟨rfl, F1.out⟩

set_option maxRecDepth 100000 in
theorem find1_any (k s : ByteArray) (b c d e f g : Value) (w : World) : Calls Try.prog 150 (#[.agg #[.string k, b, c, d, e, f, g], .string s] ++ #[]) w fun e w' => e = .returned (.int .i64 (ordB k s)) ∧ Fr [] w w' := by
  have F1 := Lib.hid ((Fr.refl [] w).alloc (.cells #[.string k, b, c, d, e, f, g] 58))
  go_enter Try.func150, Try.ntmps150
  go_wp2_with fail
  refine (compare_any k s _).mono ?_
  rintro e w1 ⟨rfl, rfl⟩
  go_wp2
  go_ret
  exact ⟨rfl, F1.out⟩

set_option maxHeartbeats 2000000 in
set_option maxRecDepth 100000 in
theorem binE_any (l : List Ent) (s : ByteArray) (A : Option Addr) (c B : Nat) (w : World) (hr : rises (ltK Ent.key) l = true) (hl : l.length ≤ 281474976710656) (hB : B ≤ w.heap.size) (h : EntsV w B (.slice A l.length c) l) :
    Calls Try.prog 149 #[.slice A l.length c, .string s, .func (Fn.func 150) #[] #[]] w (FindPost (lowK Ent.key l s) (hitK Ent.key l s) w) := by
  have HS := Lib.hid h
  have hlow := lowK_le Ent.key l s
  have HR := Lib.hid hr
  clear h hr
  have eg := enters_any Try.func150 (by kernel_rfl) rfl
  go_enter Try.func149, Try.ntmps149
  go_wp2
  go_loopg [9, 10] l.length (fun g s9 s10 wr => ∃ (lo hi : Nat), g = hi - lo ∧ s9 = .int .i64 lo ∧ s10 = .int .i64 hi ∧ lo ≤ lowK Ent.key l s ∧ lowK Ent.key l s ≤ hi ∧ hi ≤ l.length ∧ Fr [] w wr)
  case atStart => exact ⟨0, l.length, rfl, rfl, rfl, Nat.zero_le _, hlow, Nat.le_refl _, Fr.refl _ _⟩
  case round =>
    obtain ⟨lo, hi, rfl, rfl, rfl, h1, h2, h3, hf⟩ := hrel
    have HF := Lib.hid hf
    clear hf
    by_cases hlt : lo < hi
    · obtain ⟨m, hm⟩ : ∃ m, m = (lo + hi) / 2 := ⟨_, rfl⟩
      have hml : m < l.length := by omega
      obtain ⟨b, off, rfl, hb, hc, hmx, hat⟩ := HS.out.at_ (by omega)
      obtain ⟨q, hq⟩ : ∃ q, l[m]? = some q := ⟨_, List.getElem?_eq_getElem hml⟩
      obtain ⟨A1, A2, A3, c1, c2, c3, h7⟩ := hat m q hq
      obtain ⟨x0, x1, x2, x3, x4, x5, x6, -⟩ := h7.fr HF.out hb hB (by simp)
      have hmi : ((lo : Int) + (hi : Int)) / 2 = (m : Int) := by omega
      have hM := Lib.hid hm
      have hnew : (ordB q.key s < 0 → m < lowK Ent.key l s) ∧ (¬ ordB q.key s < 0 → lowK Ent.key l s ≤ m) := ⟨fun h => by
        rcases Nat.lt_or_ge m (lowK Ent.key l s) with h' | h'
        · exact h'
        · exact absurd h (lowK_ge Ent.key HR.out h' hq), fun h => by
        rcases Nat.lt_or_ge m (lowK Ent.key l s) with h' | h'
        · exact absurd (lowK_lt Ent.key h' hq) h
        · exact h'⟩
      have HN := Lib.hid hnew
      have FL := Lib.hid (fun W b c d e f g => find1_any q.key s b c d e f g W)
      clear hat h7 hq hnew hm
      generalize ordB q.key s = o at *
      by_cases ho : o < 0
      · have hn := HN.out.1 ho
        clear HN
        go_wp2_with fail
        refine (FL.out _ _ _ _ _ _ _).mono ?_
        rintro e w2 ⟨rfl, f2⟩
        clear hmi
        go_wp2
        go_roundg (hi - (m + 1))
        case measure => have := hM.out; omega
        case rel => exact ⟨m + 1, hi, rfl, by go_num, rfl, by omega, h2, h3, HF.out.trans f2⟩
      · have hn := HN.out.2 ho
        clear HN
        go_wp2_with fail
        refine (FL.out _ _ _ _ _ _ _).mono ?_
        rintro e w2 ⟨rfl, f2⟩
        clear hmi
        go_wp2
        go_roundg (m - lo)
        case measure => have := hM.out; omega
        case rel => exact ⟨lo, m, rfl, rfl, rfl, h1, hn, by omega, HF.out.trans f2⟩
    · obtain rfl : hi = lo := by omega
      obtain ⟨lw, hlw⟩ : ∃ lw, lw = lowK Ent.key l s := ⟨_, rfl⟩
      obtain rfl : hi = lw := by omega
      have HL := Lib.hid hlw
      by_cases hn : hi < l.length
      · obtain ⟨b, off, rfl, hb, hc, hmx, hat⟩ := HS.out.at_ (by omega)
        obtain ⟨q, hq⟩ : ∃ q, l[hi]? = some q := ⟨_, List.getElem?_eq_getElem hn⟩
        obtain ⟨A1, A2, A3, c1, c2, c3, h7⟩ := hat hi q hq
        obtain ⟨x0, x1, x2, x3, x4, x5, x6, -⟩ := h7.fr HF.out hb hB (by simp)
        have FL := Lib.hid (fun W b c d e f g => find1_any q.key s b c d e f g W)
        have HH := Lib.hid (show hitK Ent.key l s = decide (ordB q.key s = 0) from by unfold hitK; rw [← hlw, hq])
        clear hat h7 hq hlw h1 h2
        generalize ordB q.key s = o at *
        by_cases ho : o = 0
        · subst ho
          have HH2 := Lib.hid (HH.out.trans (decide_eq_true rfl))
          clear HH
          go_wp2_with fail
          refine (FL.out _ _ _ _ _ _ _).mono ?_
          rintro e w2 ⟨rfl, f2⟩
          go_wp2
          go_ret2
          refine ⟨?_, HF.out.trans f2⟩
          rw [← HL.out, HH2.out]
          rfl
        · have q1 : (o == 0) = false := by simpa using ho
          have HH2 := Lib.hid (HH.out.trans (decide_eq_false ho))
          clear ho HH
          go_wp2_with fail
          refine (FL.out _ _ _ _ _ _ _).mono ?_
          rintro e w2 ⟨rfl, f2⟩
          go_wp2
          go_ret2
          refine ⟨?_, HF.out.trans f2⟩
          rw [← HL.out, HH2.out]
          rfl
      · have HH := Lib.hid (show hitK Ent.key l s = false from by unfold hitK; rw [← hlw, List.getElem?_eq_none (by omega)])
        clear h1 h2 hlw
        go_wp2
        go_ret2
        refine ⟨?_, HF.out⟩
        rw [← HL.out, HH.out]
        rfl

theorem findE_any (l : List Ent) (s : ByteArray) (A : Option Addr) (c B : Nat) (w : World) (hr : rises (ltK Ent.key) l = true) (hl : l.length ≤ 281474976710656) (hB : B ≤ w.heap.size) (h : EntsV w B (.slice A l.length c) l) :
    Calls Try.prog 123 #[.slice A l.length c, .string s] w (FindPost (lowK Ent.key l s) (hitK Ent.key l s) w) := by
  have I := Lib.hid (binE_any l s A c B w hr hl hB h)
  clear h
  unfold FindPost at I ⊢
  go_enter Try.func123, Try.ntmps123
  go_wp2_with fail
  refine I.out.mono ?_
  rintro e w1 ⟨rfl, f1⟩
  go_wp2
  go_ret2
  exact ⟨rfl, f1⟩
end Go.Proofs.Ytmlmiboihjibiaa
