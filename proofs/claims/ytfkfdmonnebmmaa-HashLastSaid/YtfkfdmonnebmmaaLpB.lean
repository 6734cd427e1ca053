/- The walks of text.Span, R.InRange, R.RangeList, clamped. -/
import Derived.Test.YtfkfdmonnebmmaaLpA
import Derived.Test.YtfkfdmonnebmmaaSlS
import Derived.WalkLawsBesides
set_option linter.unusedVariables false
set_option linter.unusedSimpArgs false
namespace Go.Proofs.Ytfkfdmonnebmmaa
open Go.RowKit

theorem tup2 {a b c d : Int} (h1 : a = b) (h2 : c = d) : Ending.returned (.tuple #[.int .i64 a, .int .i64 c]) = .returned (.tuple #[.int .i64 b, .int .i64 d]) := by rw [h1, h2]

theorem spanH1 (a b : Int) (h : 0 ≤ a) : ((if a > b then 0 else a.toNat : Nat) : Int) = if a > b then 0 else a := by split <;> omega
theorem spanH2 (a b : Int) (h : 0 ≤ a) : ((if a > b then 0 else (b + 1).toNat : Nat) : Int) = if a > b then 0 else b + 1 := by split <;> omega

theorem span_any (n : Nat) (f t : Int) (w : World) (hn : n ≤ 281474976710656) (hf : -9223372036854775808 ≤ f ∧ f ≤ 9223372036854775807) (ht : -9223372036854775808 ≤ t ∧ t ≤ 9223372036854775807) :
    Calls Try.prog 82 #[.int .i64 n, .int .i64 f, .int .i64 t] w fun e w' => e = .returned (.tuple #[.int .i64 (spanA n f t : Nat), .int .i64 (spanB n f t : Nat)]) ∧ w = w' := by
  have SA := Lib.hid (show (spanA n f t : Int) = if (if f < 0 then max 0 (f + n) else f) > min (if t < 0 then t + n else t) ((n : Int) - 1) then 0 else (if f < 0 then max 0 (f + n) else f) from spanH1 _ _ (by split <;> omega))
  have SB := Lib.hid (show (spanB n f t : Int) = if (if f < 0 then max 0 (f + n) else f) > min (if t < 0 then t + n else t) ((n : Int) - 1) then 0 else min (if t < 0 then t + n else t) ((n : Int) - 1) + 1 from spanH2 _ _ (by split <;> omega))
  obtain ⟨hf1, hf2⟩ := hf
  obtain ⟨ht1, ht2⟩ := ht
  by_cases h1 : f < 0 <;> by_cases h2 : t < 0
  all_goals
    go_enter Try.func82, Try.ntmps82
    go_wp2
    all_goals
      go_ret2
      refine ⟨tup2 ?_ ?_, rfl⟩
      · rw [SA.out]
        (repeat' split) <;> omega
      · rw [SB.out]
        (repeat' split) <;> omega

theorem inRange_any (i n : Nat) (f t : Int) (w : World) (hi : i ≤ 281474976710656) (hn : n ≤ 281474976710656) (hf : -1000000 ≤ f ∧ f ≤ 1000000) (ht : -1000000 ≤ t ∧ t ≤ 1000000) :
    Calls Try.prog 88 #[.int .i64 i, .int .i64 n, .int .i64 f, .int .i64 t] w fun e w' => e = .returned (.bool (inR i n f t)) ∧ w = w' := by
  have HE := Lib.hid (show inR i n f t = (decide ((if f < 0 then f + (n : Int) else f) ≤ (i : Int)) && decide ((i : Int) ≤ (if t < 0 then t + (n : Int) else t))) from rfl)
  obtain ⟨hf1, hf2⟩ := hf
  obtain ⟨ht1, ht2⟩ := ht
  by_cases h1 : f < 0 <;> by_cases h2 : t < 0
  all_goals
    go_enter Try.func88, Try.ntmps88
    go_wp2
    all_goals
      go_ret
      refine ⟨?_, rfl⟩
      rw [HE.out]
      refine congrArg (fun b => Ending.returned (.bool b)) ?_
      rw [Bool.eq_iff_iff]
      simp only [Bool.and_eq_true, decide_eq_true_eq, Bool.false_eq_true, false_iff, not_and]
      (repeat' split) <;> omega

theorem clamped_any (n : Int) (w : World) (hn : -9223372036854775808 ≤ n ∧ n ≤ 9223372036854775807) :
    Calls Try.prog 35 #[.int .i64 n] w fun e w' => e = .returned (.int .i64 (clampI n)) ∧ w = w' := by
  have HE := Lib.hid (show clampI n = if 1000 < n then 1000 else if n < -1000 then -1000 else n from rfl)
  obtain ⟨h1, h2⟩ := hn
  go_enter Try.func35, Try.ntmps35
  go_wp2
  all_goals
    go_ret
    refine ⟨?_, rfl⟩
    rw [HE.out]
    refine congrArg (fun b => Ending.returned (.int .i64 b)) ?_
    (repeat' split) <;> omega

theorem clampI_le (n : Int) : -1000000 ≤ clampI n ∧ clampI n ≤ 1000000 := by unfold clampI; (repeat' split) <;> omega

set_option maxHeartbeats 800000 in
set_option maxRecDepth 100000 in
theorem rangeList_any (l : List ByteArray) (f t : Int) (A : Option Addr) (c : Nat) (w : World) (B : Nat) (hl : l.length ≤ 1000000) (hB : B ≤ w.heap.size) (h : Sl w B 1 (.slice A l.length c) l.length (textsV l)) (hf : -1000000 ≤ f ∧ f ≤ 1000000) (ht : -1000000 ≤ t ∧ t ≤ 1000000) :
    Calls Try.prog 34 #[.slice A l.length c, .int .i64 f, .int .i64 t] w (RowPost 9 1 (takeR l f t l.length).length (textsV (takeR l f t l.length)) w) := by
  obtain ⟨i0, hi, hz0, hz1, hz2⟩ := info_parts stringInfo
  have H := Lib.hid h
  have IR := Lib.hid (fun W i (hi : i ≤ 281474976710656) => inRange_any i l.length f t W hi (by omega) hf ht)
  clear h hf ht
  go_enter Try.func34, Try.ntmps34
  go_wp2
  go_loopg [7, 8] l.length (fun g v i wr => ∃ (k : Nat), g = l.length - k ∧ k ≤ l.length ∧ i = .int .i64 k ∧ wr.ownsRow w.heap.size 9 1 v (takeR l f t k).length (textsV (takeR l f t k)) ∧ Fr [] w wr)
  case atStart => exact ⟨0, rfl, Nat.zero_le _, rfl, by rw [takeR_zero]; exact World.ownsRow_nil _ _ _ _, Fr.refl _ _⟩
  case round =>
    obtain ⟨k, rfl, hk, rfl, ho, hf⟩ := hrel
    have HO := Lib.hid ho
    have HF := Lib.hid hf
    have hsz := hf.size
    obtain ⟨Av, cv, rfl, -⟩ := own_slice ho
    clear ho hf
    by_cases hlt : k < l.length
    · obtain ⟨b, off, rfl, hb, hc, hm, hcell⟩ := H.out.at_ (by omega)
      obtain ⟨s, hs⟩ : ∃ s, l[k]? = some s := ⟨_, List.getElem?_eq_getElem hlt⟩
      have hc1 : wr.cell? ⟨b, off + k, none⟩ = some (.string s) := HF.out.cell (hcell k _ (textsV_get l k s hs)) (by simp)
      have ST := Lib.hid (takeR_step f t hs)
      have I := Lib.hid (fun W => IR.out W k (by omega))
      have hle : (takeR l f t k).length ≤ 1000000 := by unfold takeR; simp only [List.length_drop, List.length_take]; omega
      by_cases hr : inR k l.length f t = true
      · rw [if_pos hr] at ST
        rw [hr] at I
        clear hr hcell hs
        go_wp2_with fail
        refine (I.out _).mono ?_
        rintro e w1 ⟨rfl, rfl⟩
        generalize takeR l f t k = d at *
        go_wp2_with (at_builtin; refine wpList_append_own_at _ rfl _ _ 29 rfl w.heap.size 9 i0 _ 1 16 Try.underlying29 hi hz0 hz1 hz2 rfl (by decide) _ _ _ rfl (HO.out.alloc _) ⟨wr.heap.size, 0, none⟩ 1 1 [.string s] rfl rfl ?c1 ?c2 ?c3 ?c4 ?c5 ?_)
        case c1 => exact cell_one_new _ _ _
        case c2 => intro u hu; simp at hu; subst hu; rfl
        case c3 => unfold maxLen; omega
        case c4 => omega
        case c5 => simp; omega
        intro v' w2 hown' hgrow _ hat
        have HO2 := Lib.hid hown'
        have HF2 := Lib.hid ((HF.out.alloc (.cells #[.string s] 9)).grown hgrow (fun k hk => .inr (HO.out.lt k hk).1))
        clear hown' hgrow hat hc1
        go_wp2
        go_roundg (l.length - (k + 1))
        case measure => omega
        case rel => exact ⟨k + 1, rfl, by omega, by go_num, by rw [ST.out, textsV_append]; simpa [textsV] using HO2.out, HF2.out⟩
      · rw [if_neg hr] at ST
        rw [show inR k l.length f t = false by simpa using hr] at I
        clear hr hcell hs
        go_wp2_with fail
        refine (I.out _).mono ?_
        rintro e w1 ⟨rfl, rfl⟩
        go_wp2
        go_roundg (l.length - (k + 1))
        case measure => omega
        case rel => exact ⟨k + 1, rfl, by omega, by go_num, by rw [ST.out]; exact HO.out, HF.out⟩
    · obtain rfl : k = l.length := by omega
      go_wp2
      go_ret
      exact ⟨_, rfl, HO.out, HF.out⟩
end Go.Proofs.Ytfkfdmonnebmmaa
