/- The walk of the program's item.Check. (Printed by checkleaves.py.) -/
import Derived.Test.YtfkfdmonnebmmaaItemO
set_option linter.unusedVariables false
set_option linter.unusedSimpArgs false
namespace Go.Proofs.Ytfkfdmonnebmmaa
open Go.RowKit

theorem five {w : World} {g t : Nat} {a b c d e : Value} (h : Whole w g t [a, b, c, d, e]) :
    w.cell? ⟨g, 0, none⟩ = some a ∧ w.cell? ⟨g, 1, none⟩ = some b ∧ w.cell? ⟨g, 2, none⟩ = some c ∧ w.cell? ⟨g, 3, none⟩ = some d ∧ w.cell? ⟨g, 4, none⟩ = some e :=
  ⟨h.cell 0, h.cell 1, h.cell 2, h.cell 3, h.cell 4⟩

set_option maxHeartbeats 2000000 in
theorem itemCheck_any (x : Itm) (v : Value) (w : World) (B : Nat) (hs : x.Small) (hB : B ≤ w.heap.size) (h : ItemV w B v x) :
    Calls Try.prog 23 #[v] w fun e w' => e = .returned (.int .i64 (checkItm x)) ∧ Fr [] w w' := by
  have Bq := Lib.hid (fun W (hf : Fr [] w W) => bare_any x v W B hs (h.fr hf hB (by simp)))
  have M := Lib.hid (fun W (hf : Fr [] w W) => many_any x v W B hs (h.fr hf hB (by simp)))
  have G := Lib.hid (fun W (hf : Fr [] w W) => itemLong_any x v W B hs (Nat.le_trans hB hf.size) (h.fr hf hB (by simp)))
  obtain ⟨A1, c1, A2, c2, A3, c3, rfl, h1, h2, h3⟩ := h
  have I := Lib.hid (fun W => within_any x.kind 1 5 W)
  have L := Lib.hid (fun W => long_any x.text W)
  have RS := Lib.hid (fun W (hf : Fr [] w W) => risingS_any x.list A1 c1 B W hs.list (Nat.le_trans hB hf.size) (h1.fr hf hB (by simp)))
  have RP := Lib.hid (fun W (hf : Fr [] w W) => risingP_any x.pairs A2 c2 B W hs.pairs (Nat.le_trans hB hf.size) (h2.fr hf hB (by simp)))
  have SC := Lib.hid (fun W (hf : Fr [] w W) => itemScores_any x.scores A3 c3 B W hs.scores (fun p hp => (hs.members p hp).2) (Nat.le_trans hB hf.size) (h3.fr hf hB (by simp)))
  have hE : checkItm x = if ¬ (1 ≤ x.kind ∧ x.kind ≤ 5) then 7 else if bareB x = false then 1 else if x.kind = 1 then (if 60 < x.text.size then 2 else 0) else if many x = 0 then 5 else if 24 < many x ∨ longI x = true then 2
    else if (x.kind = 3 ∧ rises ltS x.list = false) ∨ (x.kind = 4 ∧ rises ltP x.pairs = false) then 4 else scoresCode x.scores := rfl
  have hmm : many x ≤ 900000000000000 := by
    have := hs.list
    have := hs.pairs
    have := hs.scores
    unfold many
    omega
  clear h1 h2 h3 hs
  generalize checkItm x = r at *
  generalize bareB x = b at *
  generalize many x = m at *
  generalize longI x = g at *
  generalize rises ltS x.list = rs at *
  generalize rises ltP x.pairs = rp at *
  generalize scoresCode x.scores = sc at *
  generalize x.list.length = n1 at *
  generalize x.pairs.length = n2 at *
  generalize x.scores.length = n3 at *
  generalize x.kind = k at *
  generalize x.text = t at *
  have F0 : Fr [] w (w.alloc (.cells #[.int .i64 k, .string t, .slice A1 n1 c1, .slice A2 n2 c2, .slice A3 n3 c3] 33)) := (Fr.refl [] w).alloc _
  have V0 := Lib.hid (show Whole (w.alloc (.cells #[.int .i64 k, .string t, .slice A1 n1 c1, .slice A2 n2 c2, .slice A3 n3 c3] 33)) w.heap.size 33 [.int .i64 k, .string t, .slice A1 n1 c1, .slice A2 n2 c2, .slice A3 n3 c3] from Whole.new w _ _)
  by_cases hk : 1 ≤ k ∧ k ≤ 5
  · have q1 : (decide (1 ≤ k) && decide (k ≤ 5)) = true := by simp [hk]
    rw [if_neg (fun h => h hk)] at hE
    rw [q1] at I
    clear q1
    cases b
    · rw [if_pos rfl] at hE
      have E := Lib.hid hE
      clear hE hk
      go_enter Try.func23, Try.ntmps23
      go_wp2_with fail
      refine (I.out _).mono ?_
      rintro e w1 ⟨rfl, rfl⟩
      go_wp2_with fail
      refine (Bq.out _ F0).mono ?_
      rintro e w1 ⟨rfl, f1⟩
      have F1 := F0.trans f1
      have V1 := Lib.hid (V0.out.fr f1 (by simp))
      obtain ⟨d0_1, d1_1, d2_1, d3_1, d4_1⟩ := five V1.out
      go_wp2
      go_ret
      rw [E.out]
      exact ⟨rfl, F1⟩
    · rw [if_neg (by decide)] at hE
      by_cases k1 : k = 1
      · subst k1
        rw [if_pos rfl] at hE
        by_cases h6 : 60 < t.size
        · rw [if_pos h6] at hE
          rw [decide_eq_true h6] at L
          have E := Lib.hid hE
          clear hE hk
          go_enter Try.func23, Try.ntmps23
          go_wp2_with fail
          refine (I.out _).mono ?_
          rintro e w1 ⟨rfl, rfl⟩
          go_wp2_with fail
          refine (Bq.out _ F0).mono ?_
          rintro e w1 ⟨rfl, f1⟩
          have F1 := F0.trans f1
          have V1 := Lib.hid (V0.out.fr f1 (by simp))
          obtain ⟨d0_1, d1_1, d2_1, d3_1, d4_1⟩ := five V1.out
          go_wp2_with fail
          refine (L.out _).mono ?_
          rintro e w1 ⟨rfl, rfl⟩
          go_wp2
          go_ret
          rw [E.out]
          exact ⟨rfl, F1⟩
        · rw [if_neg h6] at hE
          rw [decide_eq_false h6] at L
          have E := Lib.hid hE
          clear hE hk
          go_enter Try.func23, Try.ntmps23
          go_wp2_with fail
          refine (I.out _).mono ?_
          rintro e w1 ⟨rfl, rfl⟩
          go_wp2_with fail
          refine (Bq.out _ F0).mono ?_
          rintro e w1 ⟨rfl, f1⟩
          have F1 := F0.trans f1
          have V1 := Lib.hid (V0.out.fr f1 (by simp))
          obtain ⟨d0_1, d1_1, d2_1, d3_1, d4_1⟩ := five V1.out
          go_wp2_with fail
          refine (L.out _).mono ?_
          rintro e w1 ⟨rfl, rfl⟩
          go_wp2
          go_ret
          rw [E.out]
          exact ⟨rfl, F1⟩
      · rw [if_neg k1] at hE
        have q1 : (k == 1) = false := by simpa using k1
        clear k1
        by_cases hm0 : m = 0
        · rw [if_pos hm0] at hE
          subst hm0
          have E := Lib.hid hE
          clear hE hk
          go_enter Try.func23, Try.ntmps23
          go_wp2_with fail
          refine (I.out _).mono ?_
          rintro e w1 ⟨rfl, rfl⟩
          go_wp2_with fail
          refine (Bq.out _ F0).mono ?_
          rintro e w1 ⟨rfl, f1⟩
          have F1 := F0.trans f1
          have V1 := Lib.hid (V0.out.fr f1 (by simp))
          obtain ⟨d0_1, d1_1, d2_1, d3_1, d4_1⟩ := five V1.out
          go_wp2_with fail
          refine (M.out _ F1).mono ?_
          rintro e w2 ⟨rfl, f2⟩
          have F2 := F1.trans f2
          have V2 := Lib.hid (V1.out.fr f2 (by simp))
          obtain ⟨d0_2, d1_2, d2_2, d3_2, d4_2⟩ := five V2.out
          go_wp2
          go_ret
          rw [E.out]
          exact ⟨rfl, F2⟩
        · rw [if_neg hm0] at hE
          have qm : ((m : Int) == 0) = false := by simp; omega
          by_cases h24 : 24 < m
          · rw [if_pos (.inl h24)] at hE
            have E := Lib.hid hE
            clear hE hk hm0
            go_enter Try.func23, Try.ntmps23
            go_wp2_with fail
            refine (I.out _).mono ?_
            rintro e w1 ⟨rfl, rfl⟩
            go_wp2_with fail
            refine (Bq.out _ F0).mono ?_
            rintro e w1 ⟨rfl, f1⟩
            have F1 := F0.trans f1
            have V1 := Lib.hid (V0.out.fr f1 (by simp))
            obtain ⟨d0_1, d1_1, d2_1, d3_1, d4_1⟩ := five V1.out
            go_wp2_with fail
            refine (M.out _ F1).mono ?_
            rintro e w2 ⟨rfl, f2⟩
            have F2 := F1.trans f2
            have V2 := Lib.hid (V1.out.fr f2 (by simp))
            obtain ⟨d0_2, d1_2, d2_2, d3_2, d4_2⟩ := five V2.out
            go_wp2_with fail
            refine (M.out _ F2).mono ?_
            rintro e w3 ⟨rfl, f3⟩
            have F3 := F2.trans f3
            have V3 := Lib.hid (V2.out.fr f3 (by simp))
            obtain ⟨d0_3, d1_3, d2_3, d3_3, d4_3⟩ := five V3.out
            go_wp2
            go_ret
            rw [E.out]
            exact ⟨rfl, F3⟩
          · cases g
            · rw [if_neg (by simp [h24])] at hE
              by_cases k3 : k = 3
              · subst k3
                cases rs
                · rw [if_pos (.inl ⟨rfl, rfl⟩)] at hE
                  have E := Lib.hid hE
                  clear hE hk hm0
                  go_enter Try.func23, Try.ntmps23
                  go_wp2_with fail
                  refine (I.out _).mono ?_
                  rintro e w1 ⟨rfl, rfl⟩
                  go_wp2_with fail
                  refine (Bq.out _ F0).mono ?_
                  rintro e w1 ⟨rfl, f1⟩
                  have F1 := F0.trans f1
                  have V1 := Lib.hid (V0.out.fr f1 (by simp))
                  obtain ⟨d0_1, d1_1, d2_1, d3_1, d4_1⟩ := five V1.out
                  go_wp2_with fail
                  refine (M.out _ F1).mono ?_
                  rintro e w2 ⟨rfl, f2⟩
                  have F2 := F1.trans f2
                  have V2 := Lib.hid (V1.out.fr f2 (by simp))
                  obtain ⟨d0_2, d1_2, d2_2, d3_2, d4_2⟩ := five V2.out
                  go_wp2_with fail
                  refine (M.out _ F2).mono ?_
                  rintro e w3 ⟨rfl, f3⟩
                  have F3 := F2.trans f3
                  have V3 := Lib.hid (V2.out.fr f3 (by simp))
                  obtain ⟨d0_3, d1_3, d2_3, d3_3, d4_3⟩ := five V3.out
                  go_wp2_with fail
                  refine (G.out _ F3).mono ?_
                  rintro e w4 ⟨rfl, f4⟩
                  have F4 := F3.trans f4
                  have V4 := Lib.hid (V3.out.fr f4 (by simp))
                  obtain ⟨d0_4, d1_4, d2_4, d3_4, d4_4⟩ := five V4.out
                  go_wp2_with fail
                  refine (RS.out _ F4).mono ?_
                  rintro e w5 ⟨rfl, f5⟩
                  have F5 := F4.trans f5
                  have V5 := Lib.hid (V4.out.fr f5 (by simp))
                  obtain ⟨d0_5, d1_5, d2_5, d3_5, d4_5⟩ := five V5.out
                  go_wp2
                  go_ret
                  rw [E.out]
                  exact ⟨rfl, F5⟩
                · rw [if_neg (by simp)] at hE
                  have E := Lib.hid hE
                  clear hE hk hm0
                  go_enter Try.func23, Try.ntmps23
                  go_wp2_with fail
                  refine (I.out _).mono ?_
                  rintro e w1 ⟨rfl, rfl⟩
                  go_wp2_with fail
                  refine (Bq.out _ F0).mono ?_
                  rintro e w1 ⟨rfl, f1⟩
                  have F1 := F0.trans f1
                  have V1 := Lib.hid (V0.out.fr f1 (by simp))
                  obtain ⟨d0_1, d1_1, d2_1, d3_1, d4_1⟩ := five V1.out
                  go_wp2_with fail
                  refine (M.out _ F1).mono ?_
                  rintro e w2 ⟨rfl, f2⟩
                  have F2 := F1.trans f2
                  have V2 := Lib.hid (V1.out.fr f2 (by simp))
                  obtain ⟨d0_2, d1_2, d2_2, d3_2, d4_2⟩ := five V2.out
                  go_wp2_with fail
                  refine (M.out _ F2).mono ?_
                  rintro e w3 ⟨rfl, f3⟩
                  have F3 := F2.trans f3
                  have V3 := Lib.hid (V2.out.fr f3 (by simp))
                  obtain ⟨d0_3, d1_3, d2_3, d3_3, d4_3⟩ := five V3.out
                  go_wp2_with fail
                  refine (G.out _ F3).mono ?_
                  rintro e w4 ⟨rfl, f4⟩
                  have F4 := F3.trans f4
                  have V4 := Lib.hid (V3.out.fr f4 (by simp))
                  obtain ⟨d0_4, d1_4, d2_4, d3_4, d4_4⟩ := five V4.out
                  go_wp2_with fail
                  refine (RS.out _ F4).mono ?_
                  rintro e w5 ⟨rfl, f5⟩
                  have F5 := F4.trans f5
                  have V5 := Lib.hid (V4.out.fr f5 (by simp))
                  obtain ⟨d0_5, d1_5, d2_5, d3_5, d4_5⟩ := five V5.out
                  go_wp2_with fail
                  refine (SC.out _ F5).mono ?_
                  rintro e w6 ⟨rfl, f6⟩
                  have F6 := F5.trans f6
                  have V6 := Lib.hid (V5.out.fr f6 (by simp))
                  obtain ⟨d0_6, d1_6, d2_6, d3_6, d4_6⟩ := five V6.out
                  go_wp2
                  go_ret
                  rw [E.out]
                  exact ⟨rfl, F6⟩
              · have q3 : (k == 3) = false := by simpa using k3
                by_cases k4 : k = 4
                · subst k4
                  cases rp
                  · rw [if_pos (.inr ⟨rfl, rfl⟩)] at hE
                    have E := Lib.hid hE
                    clear hE hk hm0 k3
                    go_enter Try.func23, Try.ntmps23
                    go_wp2_with fail
                    refine (I.out _).mono ?_
                    rintro e w1 ⟨rfl, rfl⟩
                    go_wp2_with fail
                    refine (Bq.out _ F0).mono ?_
                    rintro e w1 ⟨rfl, f1⟩
                    have F1 := F0.trans f1
                    have V1 := Lib.hid (V0.out.fr f1 (by simp))
                    obtain ⟨d0_1, d1_1, d2_1, d3_1, d4_1⟩ := five V1.out
                    go_wp2_with fail
                    refine (M.out _ F1).mono ?_
                    rintro e w2 ⟨rfl, f2⟩
                    have F2 := F1.trans f2
                    have V2 := Lib.hid (V1.out.fr f2 (by simp))
                    obtain ⟨d0_2, d1_2, d2_2, d3_2, d4_2⟩ := five V2.out
                    go_wp2_with fail
                    refine (M.out _ F2).mono ?_
                    rintro e w3 ⟨rfl, f3⟩
                    have F3 := F2.trans f3
                    have V3 := Lib.hid (V2.out.fr f3 (by simp))
                    obtain ⟨d0_3, d1_3, d2_3, d3_3, d4_3⟩ := five V3.out
                    go_wp2_with fail
                    refine (G.out _ F3).mono ?_
                    rintro e w4 ⟨rfl, f4⟩
                    have F4 := F3.trans f4
                    have V4 := Lib.hid (V3.out.fr f4 (by simp))
                    obtain ⟨d0_4, d1_4, d2_4, d3_4, d4_4⟩ := five V4.out
                    go_wp2_with fail
                    refine (RP.out _ F4).mono ?_
                    rintro e w5 ⟨rfl, f5⟩
                    have F5 := F4.trans f5
                    have V5 := Lib.hid (V4.out.fr f5 (by simp))
                    obtain ⟨d0_5, d1_5, d2_5, d3_5, d4_5⟩ := five V5.out
                    go_wp2
                    go_ret
                    rw [E.out]
                    exact ⟨rfl, F5⟩
                  · rw [if_neg (by simp)] at hE
                    have E := Lib.hid hE
                    clear hE hk hm0 k3
                    go_enter Try.func23, Try.ntmps23
                    go_wp2_with fail
                    refine (I.out _).mono ?_
                    rintro e w1 ⟨rfl, rfl⟩
                    go_wp2_with fail
                    refine (Bq.out _ F0).mono ?_
                    rintro e w1 ⟨rfl, f1⟩
                    have F1 := F0.trans f1
                    have V1 := Lib.hid (V0.out.fr f1 (by simp))
                    obtain ⟨d0_1, d1_1, d2_1, d3_1, d4_1⟩ := five V1.out
                    go_wp2_with fail
                    refine (M.out _ F1).mono ?_
                    rintro e w2 ⟨rfl, f2⟩
                    have F2 := F1.trans f2
                    have V2 := Lib.hid (V1.out.fr f2 (by simp))
                    obtain ⟨d0_2, d1_2, d2_2, d3_2, d4_2⟩ := five V2.out
                    go_wp2_with fail
                    refine (M.out _ F2).mono ?_
                    rintro e w3 ⟨rfl, f3⟩
                    have F3 := F2.trans f3
                    have V3 := Lib.hid (V2.out.fr f3 (by simp))
                    obtain ⟨d0_3, d1_3, d2_3, d3_3, d4_3⟩ := five V3.out
                    go_wp2_with fail
                    refine (G.out _ F3).mono ?_
                    rintro e w4 ⟨rfl, f4⟩
                    have F4 := F3.trans f4
                    have V4 := Lib.hid (V3.out.fr f4 (by simp))
                    obtain ⟨d0_4, d1_4, d2_4, d3_4, d4_4⟩ := five V4.out
                    go_wp2_with fail
                    refine (RP.out _ F4).mono ?_
                    rintro e w5 ⟨rfl, f5⟩
                    have F5 := F4.trans f5
                    have V5 := Lib.hid (V4.out.fr f5 (by simp))
                    obtain ⟨d0_5, d1_5, d2_5, d3_5, d4_5⟩ := five V5.out
                    go_wp2_with fail
                    refine (SC.out _ F5).mono ?_
                    rintro e w6 ⟨rfl, f6⟩
                    have F6 := F5.trans f6
                    have V6 := Lib.hid (V5.out.fr f6 (by simp))
                    obtain ⟨d0_6, d1_6, d2_6, d3_6, d4_6⟩ := five V6.out
                    go_wp2
                    go_ret
                    rw [E.out]
                    exact ⟨rfl, F6⟩
                · have q4 : (k == 4) = false := by simpa using k4
                  rw [if_neg (by simp [k3, k4])] at hE
                  have E := Lib.hid hE
                  clear hE hk hm0 k3 k4
                  go_enter Try.func23, Try.ntmps23
                  go_wp2_with fail
                  refine (I.out _).mono ?_
                  rintro e w1 ⟨rfl, rfl⟩
                  go_wp2_with fail
                  refine (Bq.out _ F0).mono ?_
                  rintro e w1 ⟨rfl, f1⟩
                  have F1 := F0.trans f1
                  have V1 := Lib.hid (V0.out.fr f1 (by simp))
                  obtain ⟨d0_1, d1_1, d2_1, d3_1, d4_1⟩ := five V1.out
                  go_wp2_with fail
                  refine (M.out _ F1).mono ?_
                  rintro e w2 ⟨rfl, f2⟩
                  have F2 := F1.trans f2
                  have V2 := Lib.hid (V1.out.fr f2 (by simp))
                  obtain ⟨d0_2, d1_2, d2_2, d3_2, d4_2⟩ := five V2.out
                  go_wp2_with fail
                  refine (M.out _ F2).mono ?_
                  rintro e w3 ⟨rfl, f3⟩
                  have F3 := F2.trans f3
                  have V3 := Lib.hid (V2.out.fr f3 (by simp))
                  obtain ⟨d0_3, d1_3, d2_3, d3_3, d4_3⟩ := five V3.out
                  go_wp2_with fail
                  refine (G.out _ F3).mono ?_
                  rintro e w4 ⟨rfl, f4⟩
                  have F4 := F3.trans f4
                  have V4 := Lib.hid (V3.out.fr f4 (by simp))
                  obtain ⟨d0_4, d1_4, d2_4, d3_4, d4_4⟩ := five V4.out
                  go_wp2_with fail
                  refine (SC.out _ F4).mono ?_
                  rintro e w5 ⟨rfl, f5⟩
                  have F5 := F4.trans f5
                  have V5 := Lib.hid (V4.out.fr f5 (by simp))
                  obtain ⟨d0_5, d1_5, d2_5, d3_5, d4_5⟩ := five V5.out
                  go_wp2
                  go_ret
                  rw [E.out]
                  exact ⟨rfl, F5⟩
            · rw [if_pos (.inr rfl)] at hE
              have E := Lib.hid hE
              clear hE hk hm0
              go_enter Try.func23, Try.ntmps23
              go_wp2_with fail
              refine (I.out _).mono ?_
              rintro e w1 ⟨rfl, rfl⟩
              go_wp2_with fail
              refine (Bq.out _ F0).mono ?_
              rintro e w1 ⟨rfl, f1⟩
              have F1 := F0.trans f1
              have V1 := Lib.hid (V0.out.fr f1 (by simp))
              obtain ⟨d0_1, d1_1, d2_1, d3_1, d4_1⟩ := five V1.out
              go_wp2_with fail
              refine (M.out _ F1).mono ?_
              rintro e w2 ⟨rfl, f2⟩
              have F2 := F1.trans f2
              have V2 := Lib.hid (V1.out.fr f2 (by simp))
              obtain ⟨d0_2, d1_2, d2_2, d3_2, d4_2⟩ := five V2.out
              go_wp2_with fail
              refine (M.out _ F2).mono ?_
              rintro e w3 ⟨rfl, f3⟩
              have F3 := F2.trans f3
              have V3 := Lib.hid (V2.out.fr f3 (by simp))
              obtain ⟨d0_3, d1_3, d2_3, d3_3, d4_3⟩ := five V3.out
              go_wp2_with fail
              refine (G.out _ F3).mono ?_
              rintro e w4 ⟨rfl, f4⟩
              have F4 := F3.trans f4
              have V4 := Lib.hid (V3.out.fr f4 (by simp))
              obtain ⟨d0_4, d1_4, d2_4, d3_4, d4_4⟩ := five V4.out
              go_wp2
              go_ret
              rw [E.out]
              exact ⟨rfl, F4⟩
  · rw [if_pos hk] at hE
    have q1 : (decide (1 ≤ k) && decide (k ≤ 5)) = false := by simp; omega
    rw [q1] at I
    have E := Lib.hid hE
    clear hE hk q1
    go_enter Try.func23, Try.ntmps23
    go_wp2_with fail
    refine (I.out _).mono ?_
    rintro e w1 ⟨rfl, rfl⟩
    go_wp2
    go_ret
    rw [E.out]
    exact ⟨rfl, F0⟩
end Go.Proofs.Ytfkfdmonnebmmaa
