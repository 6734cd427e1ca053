/- The walk of the program's scores: what is wrong with scores. -/
import Derived.Test.YtfkfdmonnebmmaaItemL
import Derived.Maps.OwnOps
import Derived.Carry
import Derived.WalkArith
set_option linter.unusedVariables false
set_option linter.unusedSimpArgs false
namespace Go.Proofs.Ytfkfdmonnebmmaa
open Go.RowKit Go.WideMaps Go.Maps

set_option maxRecDepth 100000 in
theorem mapKey : Keyed Try.prog 9 := string_keyed Try.underlying9
theorem zeroInt (w : World) : (zeroValue 3).run Try.prog w = .ok (.int .i64 0) w := by kernel_rfl

theorem scoresCode_bad {l : List (Int × ByteArray)} {k : Nat} {p : Int × ByteArray} (hk : l[k]? = some p) (h : isInt p.1 = false) : scoresCode l = 3 := by
  unfold scoresCode
  rw [if_pos (List.any_eq_true.2 ⟨p, List.mem_of_getElem? hk, by simp [h]⟩)]
theorem any_bad {l : List (Int × ByteArray)} (h : ∀ p ∈ l, isInt p.1 = true) : (l.any fun p => !isInt p.1) = false := by
  rw [List.any_eq_false]
  intro p hp
  simp [h p hp]
theorem scoresCode_twice {l : List (Int × ByteArray)} (h : ∀ p ∈ l, isInt p.1 = true) (h2 : ¬ (l.map (·.2)).Nodup) : scoresCode l = 6 := by
  unfold scoresCode
  rw [if_neg (by rw [any_bad h]; decide), if_pos h2]
theorem scoresCode_rises {l : List (Int × ByteArray)} (h : ∀ p ∈ l, isInt p.1 = true) (h2 : (l.map (·.2)).Nodup) : scoresCode l = if rises ltC l then 0 else 4 := by
  unfold scoresCode
  rw [if_neg (by rw [any_bad h]; decide), if_neg (fun h3 => h3 h2)]

theorem all_below {l : List (Int × ByteArray)} {k : Nat} (hk : l.length ≤ k) (h : ∀ (j : Nat) p, j < k → l[j]? = some p → isInt p.1 = true) : ∀ p ∈ l, isInt p.1 = true := by
  intro p hp
  obtain ⟨j, hj⟩ := List.getElem?_of_mem hp
  exact h j p (by have := (List.getElem?_eq_some_iff.1 hj).1; omega) hj

theorem members_take {l : List (Int × ByteArray)} {k : Nat} {p : Int × ByteArray} (hk : l[k]? = some p) : (l.take (k + 1)).map (·.2) = (l.take k).map (·.2) ++ [p.2] := by
  rw [List.take_add_one, hk]
  simp

/-- the map that counts, of the first k members; whether one of them is there twice. -/
structure Counted (l : List (Int × ByteArray)) (k B : Nat) (D : DataW Unit) (t : Bool) (wr : World) : Prop where
  own : wr.ownsMap Try.prog 9 (plainElem Try.prog 3) B k D
  counts : Counts D ((l.take k).map (·.2))
  twice : t = true ↔ ¬ ((l.take k).map (·.2)).Nodup
  ints : ∀ (j : Nat) p, j < k → l[j]? = some p → isInt p.1 = true

theorem ints_step {l : List (Int × ByteArray)} {k : Nat} {p : Int × ByteArray} (hk : l[k]? = some p) (hi : isInt p.1 = true) (h : ∀ (j : Nat) p, j < k → l[j]? = some p → isInt p.1 = true) :
    ∀ (j : Nat) p, j < k + 1 → l[j]? = some p → isInt p.1 = true := by
  intro j q hj hq
  rcases Nat.lt_or_ge j k with h1 | h1
  · exact h j q h1 hq
  · have e : j = k := by omega
    subst e
    rw [hk] at hq
    cases hq
    exact hi

theorem often_snoc (ms : List ByteArray) (s : ByteArray) : often (ms ++ [s]) s = often ms s + 1 := by
  simp [often, List.countP_append]

theorem Counted.bounds {l : List (Int × ByteArray)} {k B : Nat} {D : DataW Unit} {t : Bool} {wr : World} {s : ByteArray} {c : Int} (h : Counted l k B D t wr)
    (hc : D.atKey (.string s.data.toList) (.lit (.int .i64 0)) = .lit (.int .i64 c)) : 0 ≤ c ∧ c ≤ k := by
  have hs := h.counts.step hc
  have hle : often ((l.take k).map (·.2)) s ≤ k := by
    unfold often
    refine Nat.le_trans List.countP_le_length ?_
    rw [List.length_map]
    exact List.length_take_le _ _
  omega

/-- a round: the map written once. -/
theorem Counted.step {l : List (Int × ByteArray)} {k B : Nat} {D : DataW Unit} {t : Bool} {wr w1 : World} {p : Int × ByteArray} {c : Int} (h : Counted l k B D t wr) (hk : l[k]? = some p) (hi : isInt p.1 = true)
    (hc : D.atKey (.string p.2.data.toList) (.lit (.int .i64 0)) = .lit (.int .i64 c)) (own : w1.ownsMap Try.prog 9 (plainElem Try.prog 3) B (k + 1) (D.put (.string p.2.data.toList) (.lit (.int .i64 (c + 1))))) :
    0 ≤ c ∧ c ≤ k ∧ Counted l (k + 1) B (D.put (.string p.2.data.toList) (.lit (.int .i64 (c + 1)))) (t || decide (1 < c + 1)) w1 := by
  have hs := h.counts.step hc
  have hle : often ((l.take k).map (·.2)) p.2 ≤ k := by
    unfold often
    refine Nat.le_trans List.countP_le_length ?_
    rw [List.length_map]
    exact List.length_take_le _ _
  refine ⟨by omega, by omega, own, by rw [members_take hk]; exact hs.2, ?_, ints_step hk hi h.ints⟩
  rw [members_take hk, nodup_snoc]
  have := h.twice
  have e : (1 < c + 1) ↔ 0 < often ((l.take k).map (·.2)) p.2 := by omega
  rw [Bool.or_eq_true, decide_eq_true_eq, e, this]
  constructor
  · rintro (h1 | h1) ⟨h2, h3⟩
    · exact h1 h2
    · exact h3 h1
  · intro h1
    by_cases h2 : ((l.take k).map (·.2)).Nodup
    · exact .inr (Decidable.not_not.1 fun h3 => h1 ⟨h2, h3⟩)
    · exact .inl h2

set_option maxRecDepth 100000 in
/-- the second look-up. -/
theorem Counted.again {l : List (Int × ByteArray)} {k B : Nat} {D : DataW Unit} {t : Bool} {wr w1 : World} {s : ByteArray} {c : Int} (h : Counted l k B D t wr)
    (hc : D.atKey (.string s.data.toList) (.lit (.int .i64 0)) = .lit (.int .i64 c)) (own : w1.ownsMap Try.prog 9 (plainElem Try.prog 3) B (k + 1) (D.put (.string s.data.toList) (.lit (.int .i64 (c + 1)))))
    (hkey : keyOf Try.prog 9 (.string s) = some (.string s.data.toList)) :
    (Instr.lookup 142 (.map (some B)) (.string s) false).run Try.prog w1 = .ok (.int .i64 (c + 1)) w1 := by
  obtain ⟨c2, hrun, hat, _⟩ := own.lookup_int mapKey Try.underlying142 Try.underlying3 (zeroInt _) hkey
  rw [atKey_put_same h.counts.isMap (by trivial)] at hat
  injection hat with hat
  injection hat with _ hat
  rw [hrun, hat]

set_option maxHeartbeats 1000000 in
set_option maxRecDepth 100000 in
theorem itemScores_any (l : List (Int × ByteArray)) (A : Option Addr) (c B : Nat) (w : World) (hl : l.length ≤ 281474976710656) (hsm : ∀ p ∈ l, p.2.size ≤ 281474976710656) (hB : B ≤ w.heap.size) (hsl : Sl w B 2 (.slice A l.length c) l.length (scoresV l)) :
    Calls Try.prog 74 #[.slice A l.length c] w fun e w' => e = .returned (.int .i64 (scoresCode l)) ∧ Fr [] w w' := by
  have hmm := @run_makeMap Try.prog
  have HS := Lib.hid hsl
  have HM := Lib.hid hsm
  clear hsl hsm
  go_enter Try.func74, Try.ntmps74
  go_wp2
  go_loopg [4, 10] l.length (fun g tw i wr => ∃ (k : Nat) (D : DataW Unit) (t : Bool), g = l.length - k ∧ k ≤ l.length ∧ i = .int .i64 k ∧ tw = .bool t ∧ Counted l k w.heap.size D t wr ∧ Fr [] w wr)
  case atStart => exact ⟨0, .map [], false, rfl, Nat.zero_le _, rfl, rfl, ⟨World.ownsMap_made _ _ _ _, Counts.nil, by simp, fun j p hj => absurd hj (Nat.not_lt_zero _)⟩, (Fr.refl [] w).alloc _⟩
  case round =>
    clear hmm
    obtain ⟨k, D, t, rfl, hk, rfl, rfl, hct, hf⟩ := hrel
    by_cases hlt : k < l.length
    · obtain ⟨b, off, rfl, hb, hc, hm, hcell⟩ := HS.out.at_ (by omega)
      obtain ⟨p, hp⟩ : ∃ p, l[k]? = some p := ⟨_, List.getElem?_eq_getElem hlt⟩
      have hc1 : wr.cell? ⟨b, off + 2 * k, none⟩ = some (.int .i64 p.1) := hf.cell (hcell _ _ (scoresV_get l k p hp).1) (by simp)
      have hc2 : wr.cell? ⟨b, off + 2 * k + 1, none⟩ = some (.string p.2) := hf.cell (hcell _ _ (scoresV_get l k p hp).2) (by simp)
      rw [Nat.mul_comm 2 k] at hc1 hc2
      have I := Lib.hid (fun W => itemInt_any p.1 W)
      by_cases hi : isInt p.1 = true
      · rw [hi] at I
        have hsz := HM.out p (List.mem_of_getElem? hp)
        have hkey : keyOf Try.prog 9 (.string p.2) = some (.string p.2.data.toList) := keyOf_string_mk Try.underlying9 (by unfold maxLen; omega)
        have HK := Lib.hid hkey
        have HC := Lib.hid hct
        have HP := Lib.hid hp
        have HI := Lib.hid hi
        clear hcell hkey hct hp hi
        cases t
        · go_wp2_with fail
          refine (I.out _).mono ?_
          rintro e w1 ⟨rfl, rfl⟩
          go_wp2_with (at_lookup; refine wpList_lookup_own_int _ rfl _ _ 142 rfl 9 3 .i64 mapKey Try.underlying142 Try.underlying3 (zeroInt _) w.heap.size k D rfl (HC.out.own.alloc _) _ _ rfl HK.out ?_)
          intro c hat hwc
          obtain ⟨hq0, hqk⟩ := HC.out.bounds hat
          go_wp2_with (at_mapUpdate; go_must (refine wpList_mapUpdate_own _ rfl _ _ _ 142 rfl 9 3 mapKey Try.underlying142 _ w.heap.size k _ rfl (HC.out.own.alloc _) (by unfold maxLen; omega) _ _ _ rfl rfl HK.out _ [] (plainElem_int Try.underlying3 (WalkArith.wf_i64 (by omega))) ?_))
          intro w1 hown1 hgrow1
          have hs := HC.out.step HP.out HI.out hat hown1
          have hc2 := HC.out.again hat hown1 HK.out
          obtain ⟨_, _, hs⟩ := hs
          have W0 : Whole (wr.alloc (.cells #[.int .i64 p.1, .string p.2] 84)) wr.heap.size 84 [.int .i64 p.1, .string p.2] := Whole.new wr _ _
          have hbl : w.heap.size < wr.heap.size := HC.out.own.lt
          have d1 : w1.cell? ⟨wr.heap.size, 1, none⟩ = some (.string p.2) := (W0.grown hgrow1 (by simp; omega)).cell 1
          have F1 : Fr [] w w1 := (hf.alloc _).grown hgrow1 (by intro k hk; cases hk; exact .inr (Nat.le_refl _))
          have HS2 := Lib.hid hs
          clear hs hown1 hgrow1 W0 hat hwc hf
          by_cases h1 : 1 < c + 1
          · rw [decide_eq_true h1] at HS2
            go_wp2
            go_roundg (l.length - (k + 1))
            case measure => omega
            case rel => exact ⟨k + 1, _, true, rfl, by omega, rfl, rfl, HS2.out, F1⟩
          · rw [decide_eq_false h1] at HS2
            go_wp2
            go_roundg (l.length - (k + 1))
            case measure => omega
            case rel => exact ⟨k + 1, _, false, rfl, by omega, rfl, rfl, HS2.out, F1⟩
        · go_wp2_with fail
          refine (I.out _).mono ?_
          rintro e w1 ⟨rfl, rfl⟩
          go_wp2_with (at_lookup; refine wpList_lookup_own_int _ rfl _ _ 142 rfl 9 3 .i64 mapKey Try.underlying142 Try.underlying3 (zeroInt _) w.heap.size k D rfl (HC.out.own.alloc _) _ _ rfl HK.out ?_)
          intro c hat hwc
          obtain ⟨hq0, hqk⟩ := HC.out.bounds hat
          go_wp2_with (at_mapUpdate; go_must (refine wpList_mapUpdate_own _ rfl _ _ _ 142 rfl 9 3 mapKey Try.underlying142 _ w.heap.size k _ rfl (HC.out.own.alloc _) (by unfold maxLen; omega) _ _ _ rfl rfl HK.out _ [] (plainElem_int Try.underlying3 (WalkArith.wf_i64 (by omega))) ?_))
          intro w1 hown1 hgrow1
          have hs := HC.out.step HP.out HI.out hat hown1
          obtain ⟨_, _, hs⟩ := hs
          rw [Bool.true_or] at hs
          have F1 : Fr [] w w1 := (hf.alloc _).grown hgrow1 (by intro k hk; cases hk; exact .inr (Nat.le_refl _))
          have HS2 := Lib.hid hs
          clear hs hown1 hgrow1 hat hwc hf
          go_wp2
          go_roundg (l.length - (k + 1))
          case measure => omega
          case rel => exact ⟨k + 1, _, true, rfl, by omega, rfl, rfl, HS2.out, F1⟩
      · have hi' : isInt p.1 = false := by simpa using hi
        rw [hi'] at I
        have E := Lib.hid (scoresCode_bad hp hi')
        clear hcell hct hp hi hi'
        go_wp2_with fail
        refine (I.out _).mono ?_
        rintro e w1 ⟨rfl, rfl⟩
        go_wp2
        go_ret
        rw [E.out]
        exact ⟨rfl, hf.alloc _⟩
    · have hall := all_below (by omega) hct.ints
      have ht := hct.twice
      rw [List.take_of_length_le (by omega)] at ht
      have R := Lib.hid (fun W (hW : Fr [] w W) => risingC_any l A c B W hl hall (Nat.le_trans hB hW.size) (HS.out.fr hW hB (by simp)))
      cases t
      · have hnd : (l.map (·.2)).Nodup := Decidable.not_not.1 fun h => by have := ht.2 h; cases this
        have E := Lib.hid (scoresCode_rises hall hnd)
        clear hct hall ht hnd
        cases hr : rises ltC l
        · rw [hr] at R E
          clear hr
          go_wp2_with fail
          refine (R.out _ hf).mono ?_
          rintro e w1 ⟨rfl, f1⟩
          go_wp2
          go_ret
          rw [E.out]
          exact ⟨rfl, hf.trans f1⟩
        · rw [hr] at R E
          clear hr
          go_wp2_with fail
          refine (R.out _ hf).mono ?_
          rintro e w1 ⟨rfl, f1⟩
          go_wp2
          go_ret
          rw [E.out]
          exact ⟨rfl, hf.trans f1⟩
      · have E := Lib.hid (scoresCode_twice hall (ht.1 rfl))
        clear hct hall ht R
        go_wp2
        go_ret
        rw [E.out]
        exact ⟨rfl, hf⟩
end Go.Proofs.Ytfkfdmonnebmmaa
