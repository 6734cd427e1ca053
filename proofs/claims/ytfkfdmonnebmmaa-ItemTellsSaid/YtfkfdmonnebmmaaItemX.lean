/- The walks of the reference's SameTexts and SameItem. (Printed by sameitem.py.) -/
import Derived.Test.YtfkfdmonnebmmaaItemQ
import Derived.Test.YtfkfdmonnebmmaaOwn
set_option linter.unusedVariables false
set_option linter.unusedSimpArgs false
namespace Go.Proofs.Ytfkfdmonnebmmaa
open Go.RowKit

/-- two lists agree ahead of a place. -/
def Ahead {α : Type} (a b : List α) (m : Nat) : Prop := ∀ j, j < m → a[j]? = b[j]?
theorem ahead_zero {α : Type} (a b : List α) : Ahead a b 0 := fun j hj => absurd hj (Nat.not_lt_zero _)
theorem ahead_step {α : Type} {a b : List α} {m : Nat} {s : α} (h : Ahead a b m) (ha : a[m]? = some s) (hb : b[m]? = some s) : Ahead a b (m + 1) := by
  intro j hj
  rcases Nat.lt_or_ge j m with h1 | h1
  · exact h j h1
  · have e : j = m := by omega
    rw [e, ha, hb]
theorem ahead_end {α : Type} {a b : List α} {m : Nat} (h : Ahead a b m) (ha : a.length ≤ m) (hl : a.length = b.length) : a = b := by
  apply List.ext_getElem?
  intro j
  rcases Nat.lt_or_ge j m with h1 | h1
  · exact h j h1
  · rw [List.getElem?_eq_none (by omega), List.getElem?_eq_none (by omega)]
theorem ahead_no {α : Type} {a b : List α} {m : Nat} {s t : α} (ha : a[m]? = some s) (hb : b[m]? = some t) (hne : s ≠ t) : a ≠ b := by
  rintro rfl
  rw [ha] at hb
  injection hb with hb
  exact hne hb

def sameT (a b : List ByteArray) : Bool := decide (a = b)

theorem neqB {s t : ByteArray} (h : s ≠ t) : (s.toList == t.toList) = false ∧ (s.toList != t.toList) = true := by
  have := eqB s t
  rw [decide_eq_false h] at this
  exact ⟨this, by rw [bne, this]; rfl⟩
theorem eqqB (s : ByteArray) : (s.toList == s.toList) = true ∧ (s.toList != s.toList) = false := by
  have := eqB s s
  rw [decide_eq_true rfl] at this
  exact ⟨this, by rw [bne, this]; rfl⟩

set_option maxHeartbeats 800000 in
theorem sameTexts_any (a b : List ByteArray) (A1 A2 : Option Addr) (c1 c2 B : Nat) (w : World) (la : a.length ≤ 281474976710656) (lb : b.length ≤ 281474976710656) (hB : B ≤ w.heap.size)
    (h1 : Sl w B 1 (.slice A1 a.length c1) a.length (textsV a)) (h2 : Sl w B 1 (.slice A2 b.length c2) b.length (textsV b)) :
    Calls Try.prog 38 #[.slice A1 a.length c1, .slice A2 b.length c2] w fun e w' => e = .returned (.bool (sameT a b)) ∧ Fr [] w w' := by
  have H1 := Lib.hid h1
  have H2 := Lib.hid h2
  clear h1 h2
  by_cases hl : a.length = b.length
  · have HL := Lib.hid hl
    have q1 : ((a.length : Int) != (b.length : Int)) = false := by simp [hl]
    have hle : b.length ≤ a.length := by omega
    have hle2 : a.length ≤ b.length := by omega
    clear hl
    go_enter Try.func38, Try.ntmps38
    go_wp2
    clear q1
    go_loopg [5] a.length (fun g i wr => ∃ (m : Nat), g = a.length - m ∧ i = .int .i64 m ∧ m ≤ a.length ∧ Ahead a b m ∧ Fr [] w wr)
    case atStart => exact ⟨0, rfl, rfl, Nat.zero_le _, ahead_zero _ _, Fr.refl _ _⟩
    case round =>
      obtain ⟨m, rfl, rfl, hm, hA, hf⟩ := hrel
      have HA := Lib.hid hA
      clear hA
      by_cases hlt : m < a.length
      · obtain ⟨s, hs⟩ : ∃ s, a[m]? = some s := ⟨_, List.getElem?_eq_getElem hlt⟩
        obtain ⟨t, ht⟩ : ∃ t, b[m]? = some t := ⟨_, List.getElem?_eq_getElem (by omega)⟩
        obtain ⟨g1, o1, rfl, hb1, hc1, hm1, hcell1⟩ := H1.out.at_ (by omega)
        obtain ⟨g2, o2, rfl, hb2, hc2, hm2, hcell2⟩ := H2.out.at_ (by omega)
        have x1 : wr.cell? ⟨g1, o1 + m, none⟩ = some (.string s) := hf.cell (hcell1 m _ (textsV_get a m s hs)) (by simp)
        have x2 : wr.cell? ⟨g2, o2 + m, none⟩ = some (.string t) := hf.cell (hcell2 m _ (textsV_get b m t ht)) (by simp)
        have hlt2 : m < b.length := by omega
        by_cases e : s = t
        · subst e
          obtain ⟨q1, q2⟩ := eqqB s
          have N := Lib.hid (ahead_step HA.out hs ht)
          clear hcell1 hcell2 hs ht
          go_wp2
          go_quiet (fail)
          go_wp2
          go_roundg (a.length - (m + 1))
          case measure => omega
          case rel => exact ⟨m + 1, rfl, rfl, by omega, N.out, hf.drewN _⟩
        · obtain ⟨q1, q2⟩ := neqB e
          have N := Lib.hid (show sameT a b = false from decide_eq_false (ahead_no hs ht e))
          clear hcell1 hcell2 hs ht e
          go_wp2
          go_quiet (fail)
          go_wp2
          go_ret
          rw [N.out]
          exact ⟨rfl, hf.drewN _⟩
      · have N := Lib.hid (show sameT a b = true from decide_eq_true (ahead_end HA.out (by omega) HL.out))
        go_wp2
        go_ret
        rw [N.out]
        exact ⟨rfl, hf⟩
  · have N := Lib.hid (show sameT a b = false from decide_eq_false (fun e => hl (by rw [e])))
    have q1 : ((a.length : Int) != (b.length : Int)) = true := by simp; omega
    clear hl
    go_enter Try.func38, Try.ntmps38
    go_wp2
    go_ret
    rw [N.out]
    exact ⟨rfl, Fr.refl _ _⟩

/-- are two items? -/
def sameI (x y : Itm) : Bool := decide (x.kind = y.kind) && decide (x.text = y.text) && sameT x.list y.list && decide (x.pairs = y.pairs) && decide (x.scores = y.scores)
theorem sameI_iff {x y : Itm} : sameI x y = true ↔ x = y := by
  constructor
  · intro h
    simp only [sameI, sameT, Bool.and_eq_true, decide_eq_true_eq] at h
    cases x
    cases y
    simp_all
  · rintro rfl
    simp [sameI, sameT]
theorem sameI_refl (x : Itm) : sameI x x = true := sameI_iff.2 rfl

/-- the two items' blocks. -/
structure Bx2 (w : World) (cs ds : List Value) (wr : World) : Prop where
  b1 : Whole wr w.heap.size 33 cs
  b2 : Whole wr (w.heap.size + 1) 33 ds
  fr : Fr [] w wr
theorem Bx2.step {w wr w1 : World} {cs ds : List Value} (h : Bx2 w cs ds wr) (f : Fr [] wr w1) : Bx2 w cs ds w1 := ⟨h.b1.fr f (by simp), h.b2.fr f (by simp), h.fr.trans f⟩
theorem Bx2.start (w : World) (cs ds : List Value) : Bx2 w cs ds ((w.alloc (.cells cs.toArray 33)).alloc (.cells ds.toArray 33)) := by
  refine ⟨(Whole.new w _ _).alloc _, ?_, ((Fr.refl [] w).alloc _).alloc _⟩
  have := Whole.new (w.alloc (.cells cs.toArray 33)) 33 ds
  simpa using this

set_option maxHeartbeats 4000000 in
set_option maxRecDepth 100000 in
theorem sameItem_any (x y : Itm) (v u : Value) (w : World) (B : Nat) (hx : x.Small) (hy : y.Small) (hB : B ≤ w.heap.size) (h : ItemV w B v x) (k : ItemV w B u y) :
    Calls Try.prog 24 #[v, u] w fun e w' => e = .returned (.bool (sameI x y)) ∧ Fr [] w w' := by
  obtain ⟨A1, c1, A2, c2, A3, c3, rfl, h1, h2, h3⟩ := h
  obtain ⟨D1, e1, D2, e2, D3, e3, rfl, k1, k2, k3⟩ := k
  have T := Lib.hid (fun W (hf : Fr [] w W) => sameTexts_any x.list y.list A1 D1 c1 e1 B W hx.list hy.list (Nat.le_trans hB hf.size) (h1.fr hf hB (by simp)) (k1.fr hf hB (by simp)))
  have S0 := Lib.hid (Bx2.start w [.int .i64 x.kind, .string x.text, .slice A1 x.list.length c1, .slice A2 x.pairs.length c2, .slice A3 x.scores.length c3] [.int .i64 y.kind, .string y.text, .slice D1 y.list.length e1, .slice D2 y.pairs.length e2, .slice D3 y.scores.length e3])
  have H2 := Lib.hid h2
  have H3 := Lib.hid h3
  have K2 := Lib.hid k2
  have K3 := Lib.hid k3
  have s2 := hx.pairs
  have s3 := hx.scores
  have t2 := hy.pairs
  have t3 := hy.scores
  have hS : sameI x y = (decide (x.kind = y.kind) && decide (x.text = y.text) && sameT x.list y.list && decide (x.pairs = y.pairs) && decide (x.scores = y.scores)) := rfl
  have HS := Lib.hid hS
  clear hS h1 h2 h3 k1 k2 k3 hx hy
  by_cases ek : x.kind = y.kind
  · by_cases et : x.text = y.text
    · have qk : (x.kind != y.kind) = false := by simp [ek]
      have qt : x.text.toList = y.text.toList := by rw [et]
      have HEK := Lib.hid ek
      have HET := Lib.hid et
      clear ek et
      cases el : sameT x.list y.list
      · have E := Lib.hid (show sameI x y = false by rw [HS.out, el]; simp)
        rw [el] at T
        clear el
        go_enter Try.func24, Try.ntmps24
        go_wp2_with fail
        refine (T.out _ S0.out.fr).mono ?_
        rintro e w1 ⟨rfl, g1⟩
        have S1 := Lib.hid (S0.out.step g1)
        go_wp2
        go_ret
        rw [E.out]
        exact ⟨rfl, S1.out.fr⟩
      · rw [el] at T
        have HEL := Lib.hid el
        clear el
        by_cases el : x.pairs.length = y.pairs.length
        · have q_pairs : ((x.pairs.length : Int) != (y.pairs.length : Int)) = false := by simp [el]
          have HL_pairs := Lib.hid el
          have le_pairs : x.pairs.length ≤ y.pairs.length := by omega
          clear el
          by_cases el : x.scores.length = y.scores.length
          · have q_scores : ((x.scores.length : Int) != (y.scores.length : Int)) = false := by simp [el]
            have HL_scores := Lib.hid el
            have le_scores : x.scores.length ≤ y.scores.length := by omega
            clear el
            go_enter Try.func24, Try.ntmps24
            go_wp2_with fail
            refine (T.out _ S0.out.fr).mono ?_
            rintro e w1 ⟨rfl, g1⟩
            have S1 := Lib.hid (S0.out.step g1)
            obtain ⟨d0, d1, d2, d3, d4⟩ := five S1.out.b1
            obtain ⟨f0, f1, f2, f3, f4⟩ := five S1.out.b2
            go_wp2
            clear d0 d1 d2 d3 d4 f0 f1 f2 f3 f4 qk qt q_pairs q_scores g1
            go_loopg [5] x.pairs.length (fun g i wr => ∃ (m : Nat), g = x.pairs.length - m ∧ i = .int .i64 m ∧ m ≤ x.pairs.length ∧ Ahead x.pairs y.pairs m ∧ Bx2 w [.int .i64 x.kind, .string x.text, .slice A1 x.list.length c1, .slice A2 x.pairs.length c2, .slice A3 x.scores.length c3] [.int .i64 y.kind, .string y.text, .slice D1 y.list.length e1, .slice D2 y.pairs.length e2, .slice D3 y.scores.length e3] wr)
            case atStart => exact ⟨0, rfl, rfl, Nat.zero_le _, ahead_zero _ _, S1.out⟩
            clear S1
            case round =>
            obtain ⟨m, rfl, rfl, hm, hA, hS⟩ := hrel
            have HA := Lib.hid hA
            have SB := Lib.hid hS
            clear hA hS
            obtain ⟨d0, d1, d2, d3, d4⟩ := five SB.out.b1
            obtain ⟨f0, f1, f2, f3, f4⟩ := five SB.out.b2
            by_cases hlt : m < x.pairs.length
            · obtain ⟨s, hs⟩ : ∃ s, x.pairs[m]? = some s := ⟨_, List.getElem?_eq_getElem hlt⟩
              obtain ⟨t, ht⟩ : ∃ t, y.pairs[m]? = some t := ⟨_, List.getElem?_eq_getElem (by omega)⟩
              obtain ⟨g1, o1, eq1, hb1, hc1, hm1, hcell1⟩ := H2.out.at_ (by omega)
              obtain ⟨g2, o2, eq2, hb2, hc2, hm2, hcell2⟩ := K2.out.at_ (by omega)
              have x1 : wr.cell? ⟨g1, o1 + 2 * m, none⟩ = some (.string s.1) := SB.out.fr.cell (hcell1 _ _ (pairsV_get _ m s hs).1) (by simp)
              have y1 : wr.cell? ⟨g1, o1 + 2 * m + 1, none⟩ = some (.string s.2) := SB.out.fr.cell (hcell1 _ _ (pairsV_get _ m s hs).2) (by simp)
              have x2 : wr.cell? ⟨g2, o2 + 2 * m, none⟩ = some (.string t.1) := SB.out.fr.cell (hcell2 _ _ (pairsV_get _ m t ht).1) (by simp)
              have y2 : wr.cell? ⟨g2, o2 + 2 * m + 1, none⟩ = some (.string t.2) := SB.out.fr.cell (hcell2 _ _ (pairsV_get _ m t ht).2) (by simp)
              rw [Nat.mul_comm 2 m] at x1 x2 y1 y2
              rw [eq1] at d3
              rw [eq2] at f3
              clear eq1 eq2
              have hlt2 : m < y.pairs.length := by omega
              by_cases e : s = t
              · subst e
                obtain ⟨q1, q2⟩ := eqqB s.1
                obtain ⟨q3, q4⟩ := eqqB s.2
                have N := Lib.hid (ahead_step HA.out hs ht)
                clear hcell1 hcell2 hs ht
                go_wp2
                go_quiet (fail)
                go_wp2
                go_roundg (x.pairs.length - (m + 1))
                case measure => omega
                case rel => exact ⟨m + 1, rfl, rfl, by omega, N.out, SB.out.step (Fr.drewN_of _ _ _)⟩
              · have E := Lib.hid (show sameI x y = false by rw [HS.out, decide_eq_false (ahead_no hs ht e)]; simp)
                have hor : s.1 ≠ t.1 ∨ (s.1 = t.1 ∧ s.2 ≠ t.2) := by
                  by_cases h : s.1 = t.1
                  · exact .inr ⟨h, fun h2 => e (Prod.ext h h2)⟩
                  · exact .inl h
                clear hcell1 hcell2 hs ht e
                rcases hor with hne | ⟨he, hne⟩
                · obtain ⟨q1, q2⟩ := neqB hne
                  clear hne
                  go_wp2
                  go_quiet (fail)
                  go_wp2
                  go_ret
                  rw [E.out]
                  exact ⟨rfl, (SB.out.step (Fr.drewN_of _ _ _)).fr⟩
                · obtain ⟨q1, q2⟩ := neqB hne
                  have q3 : (s.1.toList == t.1.toList) = true := by rw [he]; exact (eqqB _).1
                  clear hne he
                  go_wp2
                  go_quiet (fail)
                  go_wp2
                  go_ret
                  rw [E.out]
                  exact ⟨rfl, (SB.out.step (Fr.drewN_of _ _ _)).fr⟩
            have E_pairs := Lib.hid (ahead_end HA.out (by omega) HL_pairs.out)
            go_wp2
            clear d0 d1 d2 d3 d4 f0 f1 f2 f3 f4 hlt hm HA
            go_loopg [6] x.scores.length (fun g i wr => ∃ (m : Nat), g = x.scores.length - m ∧ i = .int .i64 m ∧ m ≤ x.scores.length ∧ Ahead x.scores y.scores m ∧ Bx2 w [.int .i64 x.kind, .string x.text, .slice A1 x.list.length c1, .slice A2 x.pairs.length c2, .slice A3 x.scores.length c3] [.int .i64 y.kind, .string y.text, .slice D1 y.list.length e1, .slice D2 y.pairs.length e2, .slice D3 y.scores.length e3] wr)
            case atStart => exact ⟨0, rfl, rfl, Nat.zero_le _, ahead_zero _ _, SB.out⟩
            clear SB
            case round =>
            obtain ⟨m, rfl, rfl, hm, hA, hS⟩ := hrel
            have HA := Lib.hid hA
            have SB := Lib.hid hS
            clear hA hS
            obtain ⟨d0, d1, d2, d3, d4⟩ := five SB.out.b1
            obtain ⟨f0, f1, f2, f3, f4⟩ := five SB.out.b2
            by_cases hlt : m < x.scores.length
            · obtain ⟨s, hs⟩ : ∃ s, x.scores[m]? = some s := ⟨_, List.getElem?_eq_getElem hlt⟩
              obtain ⟨t, ht⟩ : ∃ t, y.scores[m]? = some t := ⟨_, List.getElem?_eq_getElem (by omega)⟩
              obtain ⟨g1, o1, eq1, hb1, hc1, hm1, hcell1⟩ := H3.out.at_ (by omega)
              obtain ⟨g2, o2, eq2, hb2, hc2, hm2, hcell2⟩ := K3.out.at_ (by omega)
              have x1 : wr.cell? ⟨g1, o1 + 2 * m, none⟩ = some (.int .i64 s.1) := SB.out.fr.cell (hcell1 _ _ (scoresV_get _ m s hs).1) (by simp)
              have y1 : wr.cell? ⟨g1, o1 + 2 * m + 1, none⟩ = some (.string s.2) := SB.out.fr.cell (hcell1 _ _ (scoresV_get _ m s hs).2) (by simp)
              have x2 : wr.cell? ⟨g2, o2 + 2 * m, none⟩ = some (.int .i64 t.1) := SB.out.fr.cell (hcell2 _ _ (scoresV_get _ m t ht).1) (by simp)
              have y2 : wr.cell? ⟨g2, o2 + 2 * m + 1, none⟩ = some (.string t.2) := SB.out.fr.cell (hcell2 _ _ (scoresV_get _ m t ht).2) (by simp)
              rw [Nat.mul_comm 2 m] at x1 x2 y1 y2
              rw [eq1] at d4
              rw [eq2] at f4
              clear eq1 eq2
              have hlt2 : m < y.scores.length := by omega
              by_cases e : s = t
              · subst e
                obtain ⟨q3, q4⟩ := eqqB s.2
                have N := Lib.hid (ahead_step HA.out hs ht)
                clear hcell1 hcell2 hs ht
                go_wp2
                go_quiet (fail)
                go_wp2
                go_roundg (x.scores.length - (m + 1))
                case measure => omega
                case rel => exact ⟨m + 1, rfl, rfl, by omega, N.out, SB.out.step (Fr.drewN_of _ _ _)⟩
              · have E := Lib.hid (show sameI x y = false by rw [HS.out, decide_eq_false (ahead_no hs ht e)]; simp)
                have hor : s.1 ≠ t.1 ∨ (s.1 = t.1 ∧ s.2 ≠ t.2) := by
                  by_cases h : s.1 = t.1
                  · exact .inr ⟨h, fun h2 => e (Prod.ext h h2)⟩
                  · exact .inl h
                clear hcell1 hcell2 hs ht e
                rcases hor with hne | ⟨he, hne⟩
                · have q1 : (s.1 == t.1) = false := by simpa using hne
                  have q2 : (s.1 != t.1) = true := by simpa using hne
                  clear hne
                  go_wp2
                  go_quiet (fail)
                  go_wp2
                  go_ret
                  rw [E.out]
                  exact ⟨rfl, (SB.out.step (Fr.drewN_of _ _ _)).fr⟩
                · obtain ⟨q1, q2⟩ := neqB hne
                  have q3 : (s.1 == t.1) = true := by simpa using he
                  clear hne he
                  go_wp2
                  go_quiet (fail)
                  go_wp2
                  go_ret
                  rw [E.out]
                  exact ⟨rfl, (SB.out.step (Fr.drewN_of _ _ _)).fr⟩
            have E_scores := Lib.hid (ahead_end HA.out (by omega) HL_scores.out)
            have E := Lib.hid (show sameI x y = true by rw [HS.out, decide_eq_true HEK.out, decide_eq_true HET.out, HEL.out, decide_eq_true E_pairs.out, decide_eq_true E_scores.out]; rfl)
            go_wp2
            go_ret
            rw [E.out]
            exact ⟨rfl, SB.out.fr⟩
          · have q_scores : ((x.scores.length : Int) != (y.scores.length : Int)) = true := by simp; omega
            have E := Lib.hid (show sameI x y = false by rw [HS.out, decide_eq_false (show ¬ x.scores = y.scores from fun e => el (by rw [e]))]; simp)
            clear el
            go_enter Try.func24, Try.ntmps24
            go_wp2_with fail
            refine (T.out _ S0.out.fr).mono ?_
            rintro e w1 ⟨rfl, g1⟩
            have S1 := Lib.hid (S0.out.step g1)
            obtain ⟨d0, d1, d2, d3, d4⟩ := five S1.out.b1
            obtain ⟨f0, f1, f2, f3, f4⟩ := five S1.out.b2
            go_wp2
            go_ret
            rw [E.out]
            exact ⟨rfl, S1.out.fr⟩
        · have q_pairs : ((x.pairs.length : Int) != (y.pairs.length : Int)) = true := by simp; omega
          have E := Lib.hid (show sameI x y = false by rw [HS.out, decide_eq_false (show ¬ x.pairs = y.pairs from fun e => el (by rw [e]))]; simp)
          clear el
          go_enter Try.func24, Try.ntmps24
          go_wp2_with fail
          refine (T.out _ S0.out.fr).mono ?_
          rintro e w1 ⟨rfl, g1⟩
          have S1 := Lib.hid (S0.out.step g1)
          obtain ⟨d0, d1, d2, d3, d4⟩ := five S1.out.b1
          obtain ⟨f0, f1, f2, f3, f4⟩ := five S1.out.b2
          go_wp2
          go_ret
          rw [E.out]
          exact ⟨rfl, S1.out.fr⟩
    · have qk : (x.kind != y.kind) = false := by simp [ek]
      have qt : ¬ x.text.toList = y.text.toList := by have := (neqB et).1; simpa using this
      have E := Lib.hid (show sameI x y = false by rw [HS.out, decide_eq_false et]; simp)
      clear ek et
      go_enter Try.func24, Try.ntmps24
      go_wp2
      go_ret
      rw [E.out]
      exact ⟨rfl, S0.out.fr⟩
  · have qk : (x.kind != y.kind) = true := by simpa using ek
    have E := Lib.hid (show sameI x y = false by rw [HS.out, decide_eq_false ek]; simp)
    clear ek
    go_enter Try.func24, Try.ntmps24
    go_wp2
    go_ret
    rw [E.out]
    exact ⟨rfl, S0.out.fr⟩
end Go.Proofs.Ytfkfdmonnebmmaa
