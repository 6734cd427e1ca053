/- The walks of the reference's RankOf, RangeScores, WithinScores and DropScores. (Printed by scores4.py.) -/
import Derived.Test.YtmlmiboihjibiaaScB
import Derived.Test.YtmlmiboihjibiaaScD
import Derived.Test.YtmlmiboihjibiaaLpB
import Derived.Test.YtmlmiboihjibiaaLqA
import Derived.Deep.RegionHeld3
import Derived.IntWalk
set_option linter.unusedVariables false
set_option linter.unusedSimpArgs false
namespace Go.Proofs.Ytmlmiboihjibiaa
open Go.RowKit


set_option maxHeartbeats 2000000 in
set_option maxRecDepth 100000 in
theorem refRank_any (x : Itm) (v : Value) (m : ByteArray) (w : World) (B : Nat) (hs : x.Small) (hB : B ≤ w.heap.size) (h : ItemV w B v x) :
    Calls Try.prog 19 #[v, .string m] w (IEPostN (rankN x m) (rankCode x m) w) := by
  have RD := Lib.hid (fun W (hf : Fr [] w W) => checkAs_any x 5 v W B hs (Nat.le_trans hB hf.size) (h.fr hf hB (by simp)))
  obtain ⟨A1, c1, A2, c2, A3, c3, rfl, h1, h2, h3⟩ := h
  have H3 := Lib.hid h3
  have D0 := Lib.hid (BX.new w (.int .i64 x.kind) (.string x.text) (.slice A1 x.list.length c1) (.slice A2 x.pairs.length c2) (.slice A3 x.scores.length c3))
  obtain ⟨d0, d1, d2, d3, d4⟩ := five D0.out.b
  have EC := Lib.hid (show rankCode x m = if asCode 5 x ≠ 0 then asCode 5 x else if rankI x m < 0 then 5 else 0 from rfl)
  have EN := Lib.hid (show rankN x m = if rankCode x m = 0 then rankI x m else 0 from rfl)
  have hsl := hs.scores
  clear h1 h2 h3 hs
  by_cases ha : asCode 5 x = 0
  · rw [ha] at RD
    have EC2 := Lib.hid (EC.out.trans (if_neg (by simpa using ha)))
    clear EC ha
    go_enter Try.func19, Try.ntmps19
    go_wp2_with fail
    refine (RD.out _ D0.out.f).mono ?_
    rintro e w1 ⟨rfl, f1⟩
    have D1 := Lib.hid (D0.out.go f1)
    clear d0 d1 d2 d3 d4
    obtain ⟨d0, d1, d2, d3, d4⟩ := five D1.out.b
    go_wp2
    go_loopg [7] x.scores.length (fun g i wr => ∃ (k : Nat), g = x.scores.length - k ∧ k ≤ x.scores.length ∧ i = .int .i64 k ∧ (∀ (j : Nat) t, j < k → x.scores[j]? = some t → (fun q : Int × ByteArray => decide (q.2 = m)) t = false) ∧ w1 = wr)
    case atStart => exact ⟨0, rfl, Nat.zero_le _, rfl, fun j t hj => absurd hj (Nat.not_lt_zero _), rfl⟩
    case round =>
      obtain ⟨k, rfl, hk, rfl, hno, rfl⟩ := hrel
      by_cases hlt : k < x.scores.length
      · obtain ⟨b, off, rfl, hb, hc, hm, hcell⟩ := H3.out.at_ (by omega)
        obtain ⟨t, ht⟩ : ∃ t, x.scores[k]? = some t := ⟨_, List.getElem?_eq_getElem hlt⟩
        have hc2 : w1.cell? ⟨b, off + 2 * k + 1, none⟩ = some (.string t.2) := D1.out.f.cell (hcell _ _ (scoresV_get _ k t ht).2) (by simp)
        rw [Nat.mul_comm 2 k] at hc2
        by_cases hq : t.2 = m
        · have ER : rankI x m = k := idxOf_found (q := fun q : Int × ByteArray => decide (q.2 = m)) hno ht (decide_eq_true hq)
          have E1 := Lib.hid (EC2.out.trans (if_neg (by omega)) : rankCode x m = 0)
          have E2 := Lib.hid (show rankN x m = k from by rw [EN.out, if_pos E1.out]; exact ER)
          have q : (t.2.toList == m.toList) = true := by have := eqB t.2 m; rw [decide_eq_true hq] at this; exact this
          clear hno hcell ht hq ER
          go_wp2
          go_ret2
          rw [E1.out, E2.out]
          exact ⟨rfl, D1.out.f⟩
        · have q : (t.2.toList == m.toList) = false := neqB' hq
          have N := Lib.hid (fun j t' (hj : j < k + 1) (ht' : x.scores[j]? = some t') => (show (fun q : Int × ByteArray => decide (q.2 = m)) t' = false by
            rcases Nat.lt_or_ge j k with h | h
            · exact hno j t' h ht'
            · have e : j = k := by omega
              subst e
              rw [ht] at ht'
              cases ht'
              exact decide_eq_false hq))
          clear hno hcell ht hq
          go_wp2
          go_roundg (x.scores.length - (k + 1))
          case measure => omega
          case rel => exact ⟨k + 1, rfl, by omega, by go_num, N.out, rfl⟩
      · have ER : rankI x m = -1 := idxOf_none (q := fun q : Int × ByteArray => decide (q.2 = m)) (fun j t ht => hno j t (by have := (List.getElem?_eq_some_iff.1 ht).1; omega) ht)
        have E1 := Lib.hid (EC2.out.trans (if_pos (by omega)) : rankCode x m = 5)
        have E2 := Lib.hid (show rankN x m = 0 from by rw [EN.out, if_neg (by rw [E1.out]; decide)])
        clear hno ER
        go_wp2
        go_ret2
        rw [E1.out, E2.out]
        exact ⟨rfl, D1.out.f⟩
  · have E1 := Lib.hid (show rankCode x m = asCode 5 x from by rw [EC.out, if_pos ha])
    have E2 := Lib.hid (show rankN x m = 0 from by rw [EN.out, E1.out, if_neg ha])
    rw [E1.out, E2.out]
    have q : (asCode 5 x != 0) = true := by simpa using ha
    clear ha EC EN E1 E2
    generalize asCode 5 x = r at *
    go_enter Try.func19, Try.ntmps19
    go_wp2_with fail
    refine (RD.out _ D0.out.f).mono ?_
    rintro e w1 ⟨rfl, f1⟩
    have D1 := Lib.hid (D0.out.go f1)
    clear d0 d1 d2 d3 d4
    go_wp2
    go_ret2
    exact ⟨rfl, D1.out.f⟩

theorem BX.go' {w wr w1 : World} {cs : List Value} {row : Option Nat} (h : BX w cs wr) (o : Obj) (hg : (wr.alloc o).grownBy w1 row) (hr : ∀ g, row = some g → w.heap.size ≤ g) (hn : row ≠ some w.heap.size) : BX w cs w1 :=
  ⟨(h.b.alloc o).grown hg (fun e => hn e.symm), (h.f.alloc o).grown hg (fun k hk => .inr (hr k hk))⟩
theorem withinC_step {l : List (Int × ByteArray)} {k : Nat} {s : Int × ByteArray} (a b : Int) (h : l[k]? = some s) : withinC (l.take (k + 1)) a b = if (decide (a ≤ s.1) && decide (s.1 ≤ b)) = true then withinC (l.take k) a b ++ [s.2] else withinC (l.take k) a b := by
  unfold withinC
  rw [List.take_add_one, h, Option.toList_some, List.filter_append, List.map_append]
  cases hc : (decide (a ≤ s.1) && decide (s.1 ≤ b)) <;> simp [List.filter_cons, hc]
theorem withinC_len (l : List (Int × ByteArray)) (k : Nat) (a b : Int) : (withinC (l.take k) a b).length ≤ l.length := by
  unfold withinC
  rw [List.length_map]
  have h1 := List.length_filter_le (fun s : Int × ByteArray => decide (a ≤ s.1) && decide (s.1 ≤ b)) (l.take k)
  rw [List.length_take] at h1
  omega
theorem takeR_mem_step {l : List (Int × ByteArray)} {k : Nat} {s : Int × ByteArray} (f t : Int) (h : l[k]? = some s) : takeR (l.map (·.2)) f t (k + 1) = if inR k l.length f t = true then takeR (l.map (·.2)) f t k ++ [s.2] else takeR (l.map (·.2)) f t k := by
  have h2 : (l.map (·.2))[k]? = some s.2 := by rw [List.getElem?_map, h]; rfl
  have := takeR_step f t h2
  rw [List.length_map] at this
  exact this
theorem takeR_len {α : Type} (l : List α) (f t : Int) (k : Nat) : (takeR l f t k).length ≤ l.length := by
  unfold takeR
  simp only [List.length_drop, List.length_take]
  omega


set_option maxHeartbeats 2000000 in
set_option maxRecDepth 100000 in
theorem refRange_any (x : Itm) (v : Value) (f t : Int) (w : World) (B : Nat) (hs : x.Small) (hB : B ≤ w.heap.size) (h : ItemV w B v x) (hf : -1000000 ≤ f ∧ f ≤ 1000000) (ht : -1000000 ≤ t ∧ t ≤ 1000000) :
    Calls Try.prog 20 #[v, .int .i64 f, .int .i64 t] w (TEPost (if asCode 5 x = 0 then takeR (x.scores.map (·.2)) f t x.scores.length else []) (asCode 5 x) w) := by
  have RD := Lib.hid (fun W (hf : Fr [] w W) => checkAs_any x 5 v W B hs (Nat.le_trans hB hf.size) (h.fr hf hB (by simp)))
  obtain ⟨A1, c1, A2, c2, A3, c3, rfl, h1, h2, h3⟩ := h
  have H3 := Lib.hid h3
  have D0 := Lib.hid (BX.new w (.int .i64 x.kind) (.string x.text) (.slice A1 x.list.length c1) (.slice A2 x.pairs.length c2) (.slice A3 x.scores.length c3))
  obtain ⟨d0, d1, d2, d3, d4⟩ := five D0.out.b
  obtain ⟨i0, hi, hz0, hz1, hz2⟩ := info_parts stringInfo
  have hsl := hs.scores
  clear h1 h2 h3 hs
  by_cases ha : asCode 5 x = 0
  · rw [if_pos ha, ha]
    rw [ha] at RD
    have h24 := (scores_ok ha).2
    clear ha
    go_enter Try.func20, Try.ntmps20
    go_wp2_with fail
    refine (RD.out _ D0.out.f).mono ?_
    rintro e w1 ⟨rfl, f1⟩
    have D1 := Lib.hid (D0.out.go f1)
    clear d0 d1 d2 d3 d4
    go_wp2
    go_loopg [9, 10] x.scores.length (fun g o i wr => ∃ (k : Nat), g = x.scores.length - k ∧ k ≤ x.scores.length ∧ i = .int .i64 k ∧ wr.ownsRow w.heap.size 9 1 o (takeR (x.scores.map (·.2)) f t k).length (textsV (takeR (x.scores.map (·.2)) f t k)) ∧ BX w [.int .i64 x.kind, .string x.text, .slice A1 x.list.length c1, .slice A2 x.pairs.length c2, .slice A3 x.scores.length c3] wr)
    case atStart => exact ⟨0, rfl, Nat.zero_le _, rfl, by rw [takeR_zero]; exact World.ownsRow_nil _ _ _ _, D1.out⟩
    case round =>
      obtain ⟨k, rfl, hk, rfl, ho, hD⟩ := hrel
      have HO := Lib.hid ho
      have D4 := Lib.hid hD
      have hz4 : w.heap.size < wr.heap.size := D4.out.b.lt
      obtain ⟨Av, cv, rfl, -⟩ := own_slice ho
      obtain ⟨d0, d1, d2, d3, d4⟩ := five D4.out.b
      clear ho hD
      by_cases hlt : k < x.scores.length
      · obtain ⟨b, off, rfl, hb, hc, hm, hcell⟩ := H3.out.at_ (by omega)
        obtain ⟨s, hs⟩ : ∃ s, x.scores[k]? = some s := ⟨_, List.getElem?_eq_getElem hlt⟩
        have hc1 : wr.cell? ⟨b, off + 2 * k, none⟩ = some (.int .i64 s.1) := D4.out.f.cell (hcell _ _ (scoresV_get _ k s hs).1) (by simp)
        have hc2 : wr.cell? ⟨b, off + 2 * k + 1, none⟩ = some (.string s.2) := D4.out.f.cell (hcell _ _ (scoresV_get _ k s hs).2) (by simp)
        rw [Nat.mul_comm 2 k] at hc1 hc2
        have ST := Lib.hid (takeR_mem_step f t hs)
        have I := Lib.hid (fun W => inRange_any k x.scores.length f t W (by omega) (by omega) hf ht)
        have hle : (takeR (x.scores.map (·.2)) f t k).length ≤ 1000000 := by have := takeR_len (x.scores.map (·.2)) f t k; rw [List.length_map] at this; omega
        clear hcell hs
        by_cases hr : inR k x.scores.length f t = true
        · rw [if_pos hr] at ST
          rw [hr] at I
          clear hr
          generalize takeR (x.scores.map (·.2)) f t k = d at *
          go_wp2_with fail
          refine (I.out _).mono ?_
          rintro e w2 ⟨rfl, rfl⟩
          go_wp2_with (at_builtin; refine wpList_append_own_at _ rfl _ _ 22 rfl w.heap.size 9 i0 _ 1 16 Try.underlying22 hi hz0 hz1 hz2 rfl (by decide) _ _ _ rfl (HO.out.alloc _) ⟨wr.heap.size, 0, none⟩ 1 1 [.string s.2] rfl rfl ?c1 ?c2 ?c3 ?c4 ?c5 ?_)
          case c1 => exact cell_one_new _ _ _
          case c2 => intro u hu; simp at hu; subst hu; rfl
          case c3 => unfold maxLen; omega
          case c4 => omega
          case c5 => simp; omega
          intro v' w2 hown' hgrow _ hat
          have HO3 := Lib.hid hown'
          have D5 := Lib.hid (D4.out.go' (.cells #[.string s.2] 9) hgrow (fun g hg => (HO.out.lt g hg).1) (by
            intro e
            have h1 := own_ne HO.out D4.out.b (by decide)
            exact h1 e))
          clear hown' hgrow hat hc1 hc2 d0 d1 d2 d3 d4
          go_wp2
          go_roundg (x.scores.length - (k + 1))
          case measure => omega
          case rel => exact ⟨k + 1, rfl, by omega, by go_num, by rw [ST.out, textsV_append]; simpa [textsV] using HO3.out, D5.out⟩
        · rw [if_neg hr] at ST
          rw [show inR k x.scores.length f t = false by simpa using hr] at I
          clear hr
          go_wp2_with fail
          refine (I.out _).mono ?_
          rintro e w2 ⟨rfl, rfl⟩
          go_wp2
          go_roundg (x.scores.length - (k + 1))
          case measure => omega
          case rel => exact ⟨k + 1, rfl, by omega, by go_num, by rw [ST.out]; exact HO.out, D4.out⟩
      · obtain rfl : k = x.scores.length := by omega
        skip
        go_wp2
        go_ret2
        exact ⟨_, rfl, HO.out, D4.out.f⟩
  · rw [if_neg ha]
    have q : (asCode 5 x != 0) = true := by simpa using ha
    clear ha
    generalize asCode 5 x = r at *
    go_enter Try.func20, Try.ntmps20
    go_wp2_with fail
    refine (RD.out _ D0.out.f).mono ?_
    rintro e w1 ⟨rfl, f1⟩
    have D1 := Lib.hid (D0.out.go f1)
    clear d0 d1 d2 d3 d4
    go_wp2
    go_ret2
    exact ⟨_, rfl, World.ownsRow_nil _ _ _ _, D1.out.f⟩


set_option maxHeartbeats 2000000 in
set_option maxRecDepth 100000 in
theorem refWithin_any (x : Itm) (v : Value) (f t : Int) (w : World) (B : Nat) (hs : x.Small) (hB : B ≤ w.heap.size) (h : ItemV w B v x) :
    Calls Try.prog 22 #[v, .int .i64 f, .int .i64 t] w (TEPost (if asCode 5 x = 0 then withinC x.scores f t else []) (asCode 5 x) w) := by
  have RD := Lib.hid (fun W (hf : Fr [] w W) => checkAs_any x 5 v W B hs (Nat.le_trans hB hf.size) (h.fr hf hB (by simp)))
  obtain ⟨A1, c1, A2, c2, A3, c3, rfl, h1, h2, h3⟩ := h
  have H3 := Lib.hid h3
  have D0 := Lib.hid (BX.new w (.int .i64 x.kind) (.string x.text) (.slice A1 x.list.length c1) (.slice A2 x.pairs.length c2) (.slice A3 x.scores.length c3))
  obtain ⟨d0, d1, d2, d3, d4⟩ := five D0.out.b
  obtain ⟨i0, hi, hz0, hz1, hz2⟩ := info_parts stringInfo
  have hsl := hs.scores
  clear h1 h2 h3 hs
  by_cases ha : asCode 5 x = 0
  · rw [if_pos ha, ha]
    rw [ha] at RD
    have h24 := (scores_ok ha).2
    clear ha
    go_enter Try.func22, Try.ntmps22
    go_wp2_with fail
    refine (RD.out _ D0.out.f).mono ?_
    rintro e w1 ⟨rfl, f1⟩
    have D1 := Lib.hid (D0.out.go f1)
    clear d0 d1 d2 d3 d4
    go_wp2
    go_loopg [9, 10] x.scores.length (fun g o i wr => ∃ (k : Nat), g = x.scores.length - k ∧ k ≤ x.scores.length ∧ i = .int .i64 k ∧ wr.ownsRow w.heap.size 9 1 o (withinC (x.scores.take k) f t).length (textsV (withinC (x.scores.take k) f t)) ∧ BX w [.int .i64 x.kind, .string x.text, .slice A1 x.list.length c1, .slice A2 x.pairs.length c2, .slice A3 x.scores.length c3] wr)
    case atStart => exact ⟨0, rfl, Nat.zero_le _, rfl, by rw [show withinC (x.scores.take 0) f t = [] from by simp [withinC]]; exact World.ownsRow_nil _ _ _ _, D1.out⟩
    case round =>
      obtain ⟨k, rfl, hk, rfl, ho, hD⟩ := hrel
      have HO := Lib.hid ho
      have D4 := Lib.hid hD
      have hz4 : w.heap.size < wr.heap.size := D4.out.b.lt
      obtain ⟨Av, cv, rfl, -⟩ := own_slice ho
      obtain ⟨d0, d1, d2, d3, d4⟩ := five D4.out.b
      clear ho hD
      by_cases hlt : k < x.scores.length
      · obtain ⟨b, off, rfl, hb, hc, hm, hcell⟩ := H3.out.at_ (by omega)
        obtain ⟨s, hs⟩ : ∃ s, x.scores[k]? = some s := ⟨_, List.getElem?_eq_getElem hlt⟩
        have hc1 : wr.cell? ⟨b, off + 2 * k, none⟩ = some (.int .i64 s.1) := D4.out.f.cell (hcell _ _ (scoresV_get _ k s hs).1) (by simp)
        have hc2 : wr.cell? ⟨b, off + 2 * k + 1, none⟩ = some (.string s.2) := D4.out.f.cell (hcell _ _ (scoresV_get _ k s hs).2) (by simp)
        rw [Nat.mul_comm 2 k] at hc1 hc2
        have ST := Lib.hid (withinC_step f t hs)
        have I := Lib.hid (fun W => (between_any s.1 f t W).mono fun e w' h => (show e = _ ∧ W = w' from ⟨h.1, h.2.symm⟩))
        have hle : (withinC (x.scores.take k) f t).length ≤ 1000000 := by have := withinC_len x.scores k f t; omega
        clear hcell hs
        by_cases hr : (decide (f ≤ s.1) && decide (s.1 ≤ t)) = true
        · rw [if_pos hr] at ST
          rw [hr] at I
          clear hr
          generalize withinC (x.scores.take k) f t = d at *
          go_wp2_with fail
          refine (I.out _).mono ?_
          rintro e w2 ⟨rfl, rfl⟩
          go_wp2_with (at_builtin; refine wpList_append_own_at _ rfl _ _ 22 rfl w.heap.size 9 i0 _ 1 16 Try.underlying22 hi hz0 hz1 hz2 rfl (by decide) _ _ _ rfl (HO.out.alloc _) ⟨wr.heap.size, 0, none⟩ 1 1 [.string s.2] rfl rfl ?c1 ?c2 ?c3 ?c4 ?c5 ?_)
          case c1 => exact cell_one_new _ _ _
          case c2 => intro u hu; simp at hu; subst hu; rfl
          case c3 => unfold maxLen; omega
          case c4 => omega
          case c5 => simp; omega
          intro v' w2 hown' hgrow _ hat
          have HO3 := Lib.hid hown'
          have D5 := Lib.hid (D4.out.go' (.cells #[.string s.2] 9) hgrow (fun g hg => (HO.out.lt g hg).1) (by
            intro e
            have h1 := own_ne HO.out D4.out.b (by decide)
            exact h1 e))
          clear hown' hgrow hat hc1 hc2 d0 d1 d2 d3 d4
          go_wp2
          go_roundg (x.scores.length - (k + 1))
          case measure => omega
          case rel => exact ⟨k + 1, rfl, by omega, by go_num, by rw [ST.out, textsV_append]; simpa [textsV] using HO3.out, D5.out⟩
        · rw [if_neg hr] at ST
          rw [show (decide (f ≤ s.1) && decide (s.1 ≤ t)) = false by simpa using hr] at I
          clear hr
          go_wp2_with fail
          refine (I.out _).mono ?_
          rintro e w2 ⟨rfl, rfl⟩
          go_wp2
          go_roundg (x.scores.length - (k + 1))
          case measure => omega
          case rel => exact ⟨k + 1, rfl, by omega, by go_num, by rw [ST.out]; exact HO.out, D4.out⟩
      · obtain rfl : k = x.scores.length := by omega
        rw [List.take_length] at HO ⊢
        go_wp2
        go_ret2
        exact ⟨_, rfl, HO.out, D4.out.f⟩
  · rw [if_neg ha]
    have q : (asCode 5 x != 0) = true := by simpa using ha
    clear ha
    generalize asCode 5 x = r at *
    go_enter Try.func22, Try.ntmps22
    go_wp2_with fail
    refine (RD.out _ D0.out.f).mono ?_
    rintro e w1 ⟨rfl, f1⟩
    have D1 := Lib.hid (D0.out.go f1)
    clear d0 d1 d2 d3 d4
    go_wp2
    go_ret2
    exact ⟨_, rfl, World.ownsRow_nil _ _ _ _, D1.out.f⟩

theorem range5_eq (x : Itm) (f t : Int) : (if asCode 5 x = 0 then takeR (x.scores.map (·.2)) (clampI f) (clampI t) x.scores.length else []) = range5 x f t := by
  unfold range5
  by_cases h : asCode 5 x = 0
  · rw [if_pos h, if_pos h]
    have h24 := (scores_ok h).2
    have := takeR_range (x.scores.map (·.2)) f t (by rw [List.length_map]; omega)
    rw [List.length_map] at this
    exact this
  · rw [if_neg h, if_neg h]

theorem filledC_own (l : List (Int × ByteArray)) (base : Nat) (v : Value) (w : World) (hl : l.length ≤ 1000000) (ht : ∀ s ∈ l, (-9223372036854775808 ≤ s.1 ∧ s.1 ≤ 9223372036854775807) ∧ s.2.size ≤ 281474976710656) (h : w.ownsRow base 36 2 v l.length (scoresV l)) :
    Calls Try.prog 75 #[.agg #[.int .i64 5, .string ⟨#[]⟩, .slice none 0 0, .slice none 0 0, v]] w (OwnI5 base (ofC l) w) := by
  obtain ⟨A, c, rfl, -⟩ := own_slice h
  have hv : ItemV w w.heap.size (.agg #[.int .i64 5, .string ⟨#[]⟩, .slice none 0 0, .slice none 0 0, .slice A l.length c]) (scoreI l) := ⟨none, 0, none, 0, A, c, rfl, Sl.nil _ _ _, Sl.nil _ _ _, own_sl h⟩
  refine (filled_any (scoreI l) _ w w.heap.size (scoreI_small hl ht) (Nat.le_refl _) hv).mono ?_
  rintro e w' ⟨rfl, hf⟩
  unfold ofV ofC
  rw [show many (scoreI l) = l.length from by show 0 + 0 + l.length = l.length; omega]
  by_cases h0 : l.length = 0
  · rw [if_pos h0, if_pos h0]
    exact ⟨_, rfl, ItemO.nothing _ _, hf⟩
  · rw [if_neg h0, if_neg h0]
    exact ⟨_, rfl, ⟨_, _, _, rfl, ⟨rfl, .inl ⟨rfl, rfl⟩⟩, ⟨rfl, .inl ⟨rfl, rfl⟩⟩, own_fr h hf (by simp)⟩, hf⟩


def dropTo5 (x : Itm) (m : List ByteArray) (k : Nat) : List (Int × ByteArray) := (x.scores.take k).filter fun p => !(m.any fun y => decide (y = p.2))
theorem dropTo5_step {x : Itm} {m : List ByteArray} {k : Nat} {s : Int × ByteArray} (h : x.scores[k]? = some s) : dropTo5 x m (k + 1) = if hasT m s.2 = true then dropTo5 x m k else dropTo5 x m k ++ [s] := by
  unfold dropTo5
  rw [List.take_add_one, h, Option.toList_some, List.filter_append]
  cases hs : hasT m s.2 <;> (unfold hasT at hs; simp [hs])
theorem dropTo5_len (x : Itm) (m : List ByteArray) (k : Nat) (hk : k ≤ x.scores.length) : (dropTo5 x m k).length ≤ k := by
  unfold dropTo5
  have := List.length_filter_le (fun p : Int × ByteArray => !(m.any fun y => decide (y = p.2))) (x.scores.take k)
  rw [List.length_take] at this
  omega

set_option maxHeartbeats 4000000 in
set_option maxRecDepth 100000 in
theorem dropScores_any (x : Itm) (v : Value) (l : List ByteArray) (A : Option Addr) (c : Nat) (w : World) (B : Nat) (hs : x.Small) (hB : B ≤ w.heap.size) (h : ItemV w B v x) (hl : l.length ≤ 281474976710656) (hL : Sl w B 1 (.slice A l.length c) l.length (textsV l)) :
    Calls Try.prog 18 #[v, .slice A l.length c] w (INPost (drop5N x l) (asCode 5 x) (drop5Y x l) w) := by
  obtain ⟨i0, hi, hz0, hz1, hz2⟩ := info_parts scoreInfo
  have RD := Lib.hid (fun W (hf : Fr [] w W) => checkAs_any x 5 v W B hs (Nat.le_trans hB hf.size) (h.fr hf hB (by simp)))
  have HT := Lib.hid (fun W s (hf : Fr [] w W) => hasText_any l s A c B W hl (Nat.le_trans hB hf.size) (hL.fr hf hB (by simp)))
  obtain ⟨A1, c1, A2, c2, A3, c3, rfl, h1, h2, h3⟩ := h
  have H3 := Lib.hid h3
  have D0 := Lib.hid (BO.new w (.int .i64 x.kind) (.string x.text) (.slice A1 x.list.length c1) (.slice A2 x.pairs.length c2) (.slice A3 x.scores.length c3))
  obtain ⟨d0, d1, d2, d3, d4⟩ := five D0.out.b
  have EY := Lib.hid (show drop5Y x l = if asCode 5 x = 0 then ofC (dropC x l) else newI 0 from rfl)
  have EK := Lib.hid (show drop5N x l = if asCode 5 x = 0 then (x.scores.length : Int) - (dropC x l).length else 0 from rfl)
  clear h1 h2 h3 hs hL
  by_cases ha : asCode 5 x = 0
  · have hok := dropC_ok l ha
    rw [EY.out, EK.out, if_pos ha, if_pos ha, ha]
    rw [ha] at RD
    have h24 := (scores_ok ha).2
    have hrl : (dropC x l).length ≤ x.scores.length := List.length_filter_le _ _
    have OF := Lib.hid (fun W base u hu => filledC_own (dropC x l) base u W (by omega) hok.1.small hu)
    have hend : dropTo5 x l x.scores.length = dropC x l := by unfold dropTo5 dropC; rw [List.take_length]
    have HE := Lib.hid hend
    have HW := Lib.hid (show IntKind.i64.wrap ((x.scores.length : Int) - ((dropC x l).length : Int)) = (x.scores.length : Int) - (dropC x l).length from IntWalk.i64_in _ (by omega))
    clear hok EY EK ha hend
    generalize ofC (dropC x l) = y at *
    generalize dropC x l = r at *
    go_enter Try.func18, Try.ntmps18
    go_wp2_with fail
    refine (RD.out _ D0.out.f).mono ?_
    rintro e w1 ⟨rfl, f1⟩
    have D1 := Lib.hid (D0.out.go f1)
    clear d0 d1 d2 d3 d4
    go_wp2
    go_loopg [8, 9] x.scores.length (fun g o i wr => ∃ (k : Nat), g = x.scores.length - k ∧ k ≤ x.scores.length ∧ i = .int .i64 k ∧ wr.ownsRow (w.heap.size + 2) 36 2 o (dropTo5 x l k).length (scoresV (dropTo5 x l k)) ∧ BO w 1 [.int .i64 x.kind, .string x.text, .slice A1 x.list.length c1, .slice A2 x.pairs.length c2, .slice A3 x.scores.length c3] wr)
    case atStart => exact ⟨0, rfl, Nat.zero_le _, rfl, World.ownsRow_nil _ _ _ _, D1.out⟩
    case round =>
      obtain ⟨k, rfl, hk, rfl, ho, hD⟩ := hrel
      have HO := Lib.hid ho
      have D4 := Lib.hid hD
      have hz4 := D4.out.lt
      obtain ⟨Av, cv, rfl, -⟩ := own_slice ho
      obtain ⟨d0, d1, d2, d3, d4⟩ := five D4.out.b
      clear ho hD
      by_cases hlt : k < x.scores.length
      · obtain ⟨b, off, rfl, hb, hc, hmx, hcell⟩ := H3.out.at_ (by omega)
        obtain ⟨s, hs⟩ : ∃ s, x.scores[k]? = some s := ⟨_, List.getElem?_eq_getElem hlt⟩
        have hc1 : wr.cell? ⟨b, off + 2 * k, none⟩ = some (.int .i64 s.1) := D4.out.f.cell (hcell _ _ (scoresV_get _ k s hs).1) (by simp)
        have hc2 : wr.cell? ⟨b, off + 2 * k + 1, none⟩ = some (.string s.2) := D4.out.f.cell (hcell _ _ (scoresV_get _ k s hs).2) (by simp)
        rw [Nat.mul_comm 2 k] at hc1 hc2
        have ST := Lib.hid (dropTo5_step (m := l) hs)
        have I := Lib.hid (HT.out wr s.2 D4.out.f)
        have hle := dropTo5_len x l k hk
        by_cases hr : hasT l s.2 = true
        · rw [if_pos hr] at ST
          rw [hr] at I
          clear hr hcell hs
          go_wp2_with fail
          refine I.out.mono ?_
          rintro e w1 ⟨rfl, rfl⟩
          go_wp2
          go_roundg (x.scores.length - (k + 1))
          case measure => omega
          case rel => exact ⟨k + 1, rfl, by omega, by go_num, by rw [ST.out]; exact HO.out, D4.out⟩
        · rw [if_neg hr] at ST
          rw [show hasT l s.2 = false by simpa using hr] at I
          have V6 := Lib.hid (Whole.new wr 36 [.int .i64 s.1, .string s.2])
          have S6 := Lib.hid (show Sl (wr.alloc (.cells #[.int .i64 s.1, .string s.2] 36)) (wr.heap.size + 1) 2 (.slice (some ⟨wr.heap.size, 0, none⟩) 1 1) 1 [.int .i64 s.1, .string s.2] from ⟨_, _, rfl, rfl, Nat.le_refl _, by unfold maxLen; omega, fun _ => ⟨_, 0, rfl, Nat.lt_succ_self _, fun j u hu => by rw [Nat.zero_add, V6.out.cell]; exact hu⟩⟩)
          clear hr hcell hs
          go_wp2_with fail
          refine I.out.mono ?_
          rintro e w1 ⟨rfl, rfl⟩
          generalize dropTo5 x l k = d at *
          go_wp2_with (at_builtin; refine wpList_append_sl _ rfl _ _ 24 rfl (w.heap.size + 2) 36 i0 _ 2 24 Try.underlying24 hi hz0 hz1 hz2 rfl (by decide) _ _ _ rfl (HO.out.alloc _) _ _ 1 _ rfl S6.out ?c2 ?c3 ?c4 ?c5 ?_)
          case c2 => intro u hu; simp at hu; rcases hu with rfl | rfl <;> rfl
          case c3 => unfold maxLen; omega
          case c4 => omega
          case c5 => simp; omega
          intro v' w2 hown' hgrow hat
          have HO2 := Lib.hid hown'
          have D5 := Lib.hid ((D4.out.alloc (.cells #[.int .i64 s.1, .string s.2] 36)).step (fr_ownL hgrow) (fun g hg => by have := ownL_base HO.out hg; omega))
          clear hown' hgrow hat hc1 hc2 d0 d1 d2 d3 d4
          go_wp2
          go_roundg (x.scores.length - (k + 1))
          case measure => omega
          case rel => exact ⟨k + 1, rfl, by omega, by go_num, by rw [ST.out, scoresV_append]; simpa [scoresV] using HO2.out, D5.out⟩
      · obtain rfl : k = x.scores.length := by omega
        rw [HE.out] at HO
        have hne1 : ¬ w.heap.size = w.heap.size + 1 := by omega
        have hne2 : ¬ w.heap.size + 1 = w.heap.size := by omega
        rw [HE.out]
        go_wp2
        go_region_held3 (fun wx => wx.cell? ⟨w.heap.size, 4, none⟩ = some (.slice A3 x.scores.length c3)) (go_keep) (first | (go_at_call 75; (refine (OF.out _ _ _ (show wr.drew.ownsRow _ _ _ _ _ _ from HO.out)).mono ?_); rintro e w5 ⟨u5, rfl, hi, f5⟩; have D5 := Lib.hid (D4.out.go (fr_predrew f5)); clear d0 d1 d2 d3 d4 f5; obtain ⟨d0, d1, d2, d3, d4⟩ := five D5.out.b; have HI := Lib.hid hi; obtain ⟨P1, p1, P2, p2, P3, p3, rfl⟩ := hi.form; clear hi; obtain ⟨a0, a1, a2, a3, a4⟩ := five D5.out.o; obtain ⟨b0, b2, b3, b4, b5⟩ := fiveF D5.out.o))
        go_wp2
        refine bodyPost_ret (v := .tuple #[.agg #[.int .i64 y.kind, .string y.text, .slice P1 y.list.length p1, .slice P2 y.pairs.length p2, .slice P3 y.scores.length p3], .int .i64 (IntKind.i64.wrap ((x.scores.length : Int) - (r.length : Int))), .int .i64 0]) (by simp [results, Try.results18, go_sem, a0, a1, a2, a3, a4]) rfl ?_
        exact ⟨_, by rw [HW.out], (itemO_later HI.out (by omega) _ _ _ _ _).less (by omega), D5.out.end5 _ _ _ _ _⟩
  · rw [EY.out, EK.out, if_neg ha, if_neg ha]
    have q2 : (asCode 5 x != 0) = true := by simpa using ha
    clear EY EK ha
    generalize asCode 5 x = r at *
    go_enter Try.func18, Try.ntmps18
    go_wp2_with fail
    refine (RD.out _ D0.out.f).mono ?_
    rintro e w1 ⟨rfl, f1⟩
    have D1 := Lib.hid (D0.out.go f1)
    clear d0 d1 d2 d3 d4
    obtain ⟨a0, a1, a2, a3, a4⟩ := five D1.out.o
    obtain ⟨b0, b2, b3, b4, b5⟩ := fiveF D1.out.o
    go_wp2
    refine bodyPost_ret (v := .tuple #[.agg #[.int .i64 0, .string ⟨#[]⟩, .slice none 0 0, .slice none 0 0, .slice none 0 0], .int .i64 0, .int .i64 r]) (by simp [results, Try.results18, go_sem, a0, a1, a2, a3, a4]) rfl ?_
    exact ⟨_, rfl, ItemO.nothing _ _, D1.out.end5 _ _ _ _ _⟩

end Go.Proofs.Ytmlmiboihjibiaa
