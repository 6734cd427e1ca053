/- The walks of the reference's filled at pairs, FieldOf, DropPairs. -/
import Derived.Test.YtfkfdmonnebmmaaHwC
import Derived.Test.YtfkfdmonnebmmaaLqB
import Derived.Test.YtfkfdmonnebmmaaLqA
import Derived.Deep.RegionHeld3
import Derived.IntWalk
set_option linter.unusedVariables false
set_option linter.unusedSimpArgs false
namespace Go.Proofs.Ytfkfdmonnebmmaa
open Go.RowKit

theorem filledP_own (l : List (ByteArray × ByteArray)) (base : Nat) (v : Value) (w : World) (hl : l.length ≤ 1000000) (ht : ∀ s ∈ l, s.1.size ≤ 281474976710656 ∧ s.2.size ≤ 281474976710656) (h : w.ownsRow base 64 2 v l.length (pairsV l)) :
    Calls Try.prog 86 #[.agg #[.int .i64 4, .string ⟨#[]⟩, .slice none 0 0, v, .slice none 0 0]] w (OwnI base (ofP l) w) := by
  obtain ⟨A, c, rfl, -⟩ := own_slice h
  have hv : ItemV w w.heap.size (.agg #[.int .i64 4, .string ⟨#[]⟩, .slice none 0 0, .slice A l.length c, .slice none 0 0]) (pairI l) := ⟨none, 0, A, c, none, 0, rfl, Sl.nil _ _ _, own_sl h, Sl.nil _ _ _⟩
  refine (filled_any (pairI l) _ w w.heap.size (pairI_small hl ht) (Nat.le_refl _) hv).mono ?_
  rintro e w' ⟨rfl, hf⟩
  unfold ofV ofP
  rw [show many (pairI l) = l.length from by show 0 + l.length + 0 = l.length; omega]
  by_cases h0 : l.length = 0
  · rw [if_pos h0, if_pos h0]
    exact ⟨_, rfl, ItemO.nothing _ _, hf⟩
  · rw [if_neg h0, if_neg h0]
    exact ⟨_, rfl, ⟨_, _, _, rfl, ⟨rfl, .inl ⟨rfl, rfl⟩⟩, own_fr h hf (by simp), ⟨rfl, .inl ⟨rfl, rfl⟩⟩⟩, hf⟩

theorem getK_step {α : Type} {key : α → ByteArray} {l : List α} {f : ByteArray} {k : Nat} {q : α} (hno : ∀ (j : Nat) t, j < k → l[j]? = some t → key t ≠ f) (hq : l[k]? = some q) (he : key q = f) : getK key l f = some q := by
  unfold getK
  rw [List.find?_eq_some_iff_getElem]
  have hlt := (List.getElem?_eq_some_iff.1 hq)
  have hl := hlt.1
  refine ⟨decide_eq_true he, k, hlt.1, hlt.2, fun j hj => ?_⟩
  have := hno j _ hj (List.getElem?_eq_getElem (by omega))
  simp [this]

set_option maxHeartbeats 2000000 in
set_option maxRecDepth 100000 in
theorem fieldOf_any (x : Itm) (v : Value) (f : ByteArray) (w : World) (B : Nat) (hs : x.Small) (hB : B ≤ w.heap.size) (h : ItemV w B v x) :
    Calls Try.prog 44 #[v, .string f] w (SEPost (getS x f) (getCode x f) w) := by
  have RD := Lib.hid (fun W (hf : Fr [] w W) => checkAs_any x 4 v W B hs (Nat.le_trans hB hf.size) (h.fr hf hB (by simp)))
  obtain ⟨A1, c1, A2, c2, A3, c3, rfl, h1, h2, h3⟩ := h
  have H2 := Lib.hid h2
  have D0 := Lib.hid (BX.new w (.int .i64 x.kind) (.string x.text) (.slice A1 x.list.length c1) (.slice A2 x.pairs.length c2) (.slice A3 x.scores.length c3))
  obtain ⟨d0, d1, d2, d3, d4⟩ := five D0.out.b
  have EC := Lib.hid (show getCode x f = if asCode 4 x ≠ 0 then asCode 4 x else match getK Prod.fst x.pairs f with | some _ => 0 | none => 5 from rfl)
  have ES := Lib.hid (show getS x f = if asCode 4 x ≠ 0 then ⟨#[]⟩ else match getK Prod.fst x.pairs f with | some q => q.2 | none => ⟨#[]⟩ from rfl)
  have hs2 := hs.pairs
  clear h1 h2 h3 hs
  by_cases ha : asCode 4 x = 0
  · rw [ha] at RD
    have EC2 := Lib.hid (EC.out.trans (if_neg (by simpa using ha)))
    have ES2 := Lib.hid (ES.out.trans (if_neg (by simpa using ha)))
    clear EC ES ha
    go_enter Try.func44, Try.ntmps44
    go_wp2_with fail
    refine (RD.out _ D0.out.f).mono ?_
    rintro e w1 ⟨rfl, f1⟩
    have D1 := Lib.hid (D0.out.go f1)
    clear d0 d1 d2 d3 d4
    obtain ⟨d0, d1, d2, d3, d4⟩ := five D1.out.b
    go_wp2
    go_loopg [7] x.pairs.length (fun g i wr => ∃ (k : Nat), g = x.pairs.length - k ∧ k ≤ x.pairs.length ∧ i = .int .i64 k ∧ (∀ (j : Nat) t, j < k → x.pairs[j]? = some t → t.1 ≠ f) ∧ w1 = wr)
    case atStart => exact ⟨0, rfl, Nat.zero_le _, rfl, fun j t hj => absurd hj (Nat.not_lt_zero _), rfl⟩
    case round =>
      obtain ⟨k, rfl, hk, rfl, hno, rfl⟩ := hrel
      by_cases hlt : k < x.pairs.length
      · obtain ⟨b, off, rfl, hb, hc, hm, hcell⟩ := H2.out.at_ (by omega)
        obtain ⟨t, ht⟩ : ∃ t, x.pairs[k]? = some t := ⟨_, List.getElem?_eq_getElem hlt⟩
        have hc1 : w1.cell? ⟨b, off + 2 * k, none⟩ = some (.string t.1) := D1.out.f.cell (hcell _ _ (pairsV_get _ k t ht).1) (by simp)
        have hc2 : w1.cell? ⟨b, off + 2 * k + 1, none⟩ = some (.string t.2) := D1.out.f.cell (hcell _ _ (pairsV_get _ k t ht).2) (by simp)
        rw [Nat.mul_comm 2 k] at hc1 hc2
        by_cases hq : t.1 = f
        · have hg := getK_step (key := Prod.fst) hno ht hq
          have E1 := Lib.hid (EC2.out.trans (by rw [hg]) : getCode x f = 0)
          have E2 := Lib.hid (ES2.out.trans (by rw [hg]) : getS x f = t.2)
          have q : (t.1.toList == f.toList) = true := by have := eqB t.1 f; rw [decide_eq_true hq] at this; exact this
          clear hno hcell ht hq hg
          go_wp2
          go_ret2
          rw [E1.out, E2.out]
          exact ⟨rfl, D1.out.f⟩
        · have q : (t.1.toList == f.toList) = false := neqB' hq
          have N := Lib.hid (fun j t' (hj : j < k + 1) (ht' : x.pairs[j]? = some t') => (show t'.1 ≠ f by
            rcases Nat.lt_or_ge j k with h | h
            · exact hno j t' h ht'
            · have e : j = k := by omega
              subst e
              rw [ht] at ht'
              cases ht'
              exact hq))
          clear hno hcell ht hq
          go_wp2
          go_roundg (x.pairs.length - (k + 1))
          case measure => omega
          case rel => exact ⟨k + 1, rfl, by omega, by go_num, N.out, rfl⟩
      · have hg : getK Prod.fst x.pairs f = none := by
          unfold getK
          rw [List.find?_eq_none]
          intro q hq
          obtain ⟨j, hj⟩ := List.getElem?_of_mem hq
          have := hno j q (by have := (List.getElem?_eq_some_iff.1 hj).1; omega) hj
          simp [this]
        have E1 := Lib.hid (EC2.out.trans (by rw [hg]) : getCode x f = 5)
        have E2 := Lib.hid (ES2.out.trans (by rw [hg]) : getS x f = ⟨#[]⟩)
        clear hno hg
        go_wp2
        go_ret2
        rw [E1.out, E2.out]
        exact ⟨rfl, D1.out.f⟩
  · have E1 := Lib.hid (show getCode x f = asCode 4 x from by rw [EC.out, if_pos ha])
    have E2 := Lib.hid (show getS x f = ⟨#[]⟩ from by rw [ES.out, if_pos ha])
    rw [E1.out, E2.out]
    have q : (asCode 4 x != 0) = true := by simpa using ha
    clear ha EC ES E1 E2
    generalize asCode 4 x = r at *
    go_enter Try.func44, Try.ntmps44
    go_wp2_with fail
    refine (RD.out _ D0.out.f).mono ?_
    rintro e w1 ⟨rfl, f1⟩
    go_wp2
    go_ret2
    exact ⟨rfl, D0.out.f.trans f1⟩

def dropTo (x : Itm) (m : List ByteArray) (k : Nat) : List (ByteArray × ByteArray) := (x.pairs.take k).filter fun p => !(m.any fun y => decide (y = p.1))
theorem dropTo_step {x : Itm} {m : List ByteArray} {k : Nat} {s : ByteArray × ByteArray} (h : x.pairs[k]? = some s) : dropTo x m (k + 1) = if hasT m s.1 = true then dropTo x m k else dropTo x m k ++ [s] := by
  unfold dropTo
  rw [List.take_add_one, h, Option.toList_some, List.filter_append]
  cases hs : hasT m s.1 <;> (unfold hasT at hs; simp [hs])
theorem dropTo_len (x : Itm) (m : List ByteArray) (k : Nat) (hk : k ≤ x.pairs.length) : (dropTo x m k).length ≤ k := by
  unfold dropTo
  have := List.length_filter_le (fun p : ByteArray × ByteArray => !(m.any fun y => decide (y = p.1))) (x.pairs.take k)
  rw [List.length_take] at this
  omega

set_option maxHeartbeats 4000000 in
set_option maxRecDepth 100000 in
theorem dropPairs_any (x : Itm) (v : Value) (l : List ByteArray) (A : Option Addr) (c : Nat) (w : World) (B : Nat) (hs : x.Small) (hB : B ≤ w.heap.size) (h : ItemV w B v x) (hl : l.length ≤ 281474976710656) (hL : Sl w B 1 (.slice A l.length c) l.length (textsV l)) :
    Calls Try.prog 45 #[v, .slice A l.length c] w (INPost (dropN x l) (asCode 4 x) (dropY x l) w) := by
  obtain ⟨i0, hi, hz0, hz1, hz2⟩ := info_parts pairInfo
  have RD := Lib.hid (fun W (hf : Fr [] w W) => checkAs_any x 4 v W B hs (Nat.le_trans hB hf.size) (h.fr hf hB (by simp)))
  have HT := Lib.hid (fun W s (hf : Fr [] w W) => hasText_any l s A c B W hl (Nat.le_trans hB hf.size) (hL.fr hf hB (by simp)))
  obtain ⟨A1, c1, A2, c2, A3, c3, rfl, h1, h2, h3⟩ := h
  have H2 := Lib.hid h2
  have D0 := Lib.hid (BO.new w (.int .i64 x.kind) (.string x.text) (.slice A1 x.list.length c1) (.slice A2 x.pairs.length c2) (.slice A3 x.scores.length c3))
  obtain ⟨d0, d1, d2, d3, d4⟩ := five D0.out.b
  have EY := Lib.hid (show dropY x l = if asCode 4 x = 0 then ofP (dropP x l) else newI 0 from rfl)
  have EK := Lib.hid (show dropN x l = if asCode 4 x = 0 then (x.pairs.length : Int) - (dropP x l).length else 0 from rfl)
  clear h1 h2 h3 hs hL
  by_cases ha : asCode 4 x = 0
  · have hok := ok_pairs ha
    rw [EY.out, EK.out, if_pos ha, if_pos ha, ha]
    rw [ha] at RD
    have h24 := hok.1
    have hrl : (dropP x l).length ≤ x.pairs.length := List.length_filter_le _ _
    have OF := Lib.hid (fun W base u hu => filledP_own (dropP x l) base u W (by omega) (fun y hy => by have := hok.2 y (List.mem_filter.1 hy).1; omega) hu)
    have hend : dropTo x l x.pairs.length = dropP x l := by unfold dropTo dropP; rw [List.take_length]
    have HE := Lib.hid hend
    have HW := Lib.hid (show IntKind.i64.wrap ((x.pairs.length : Int) - ((dropP x l).length : Int)) = (x.pairs.length : Int) - (dropP x l).length from IntWalk.i64_in _ (by omega))
    clear hok EY EK ha hend
    generalize ofP (dropP x l) = y at *
    generalize dropP x l = r at *
    go_enter Try.func45, Try.ntmps45
    go_wp2_with fail
    refine (RD.out _ D0.out.f).mono ?_
    rintro e w1 ⟨rfl, f1⟩
    have D1 := Lib.hid (D0.out.go f1)
    clear d0 d1 d2 d3 d4
    go_wp2
    go_loopg [8, 9] x.pairs.length (fun g o i wr => ∃ (k : Nat), g = x.pairs.length - k ∧ k ≤ x.pairs.length ∧ i = .int .i64 k ∧ wr.ownsRow (w.heap.size + 2) 64 2 o (dropTo x l k).length (pairsV (dropTo x l k)) ∧ BO w 1 [.int .i64 x.kind, .string x.text, .slice A1 x.list.length c1, .slice A2 x.pairs.length c2, .slice A3 x.scores.length c3] wr)
    case atStart => exact ⟨0, rfl, Nat.zero_le _, rfl, World.ownsRow_nil _ _ _ _, D1.out⟩
    case round =>
      obtain ⟨k, rfl, hk, rfl, ho, hD⟩ := hrel
      have HO := Lib.hid ho
      have D4 := Lib.hid hD
      have hz4 := D4.out.lt
      obtain ⟨Av, cv, rfl, -⟩ := own_slice ho
      obtain ⟨d0, d1, d2, d3, d4⟩ := five D4.out.b
      clear ho hD
      by_cases hlt : k < x.pairs.length
      · obtain ⟨b, off, rfl, hb, hc, hmx, hcell⟩ := H2.out.at_ (by omega)
        obtain ⟨s, hs⟩ : ∃ s, x.pairs[k]? = some s := ⟨_, List.getElem?_eq_getElem hlt⟩
        have hc1 : wr.cell? ⟨b, off + 2 * k, none⟩ = some (.string s.1) := D4.out.f.cell (hcell _ _ (pairsV_get _ k s hs).1) (by simp)
        have hc2 : wr.cell? ⟨b, off + 2 * k + 1, none⟩ = some (.string s.2) := D4.out.f.cell (hcell _ _ (pairsV_get _ k s hs).2) (by simp)
        rw [Nat.mul_comm 2 k] at hc1 hc2
        have ST := Lib.hid (dropTo_step (m := l) hs)
        have I := Lib.hid (HT.out wr s.1 D4.out.f)
        have hle := dropTo_len x l k hk
        by_cases hr : hasT l s.1 = true
        · rw [if_pos hr] at ST
          rw [hr] at I
          clear hr hcell hs
          go_wp2_with fail
          refine I.out.mono ?_
          rintro e w1 ⟨rfl, rfl⟩
          go_wp2
          go_roundg (x.pairs.length - (k + 1))
          case measure => omega
          case rel => exact ⟨k + 1, rfl, by omega, by go_num, by rw [ST.out]; exact HO.out, D4.out⟩
        · rw [if_neg hr] at ST
          rw [show hasT l s.1 = false by simpa using hr] at I
          have V6 := Lib.hid (Whole.new wr 64 [.string s.1, .string s.2])
          have S6 := Lib.hid (show Sl (wr.alloc (.cells #[.string s.1, .string s.2] 64)) (wr.heap.size + 1) 2 (.slice (some ⟨wr.heap.size, 0, none⟩) 1 1) 1 [.string s.1, .string s.2] from ⟨_, _, rfl, rfl, Nat.le_refl _, by unfold maxLen; omega, fun _ => ⟨_, 0, rfl, Nat.lt_succ_self _, fun j u hu => by rw [Nat.zero_add, V6.out.cell]; exact hu⟩⟩)
          clear hr hcell hs
          go_wp2_with fail
          refine I.out.mono ?_
          rintro e w1 ⟨rfl, rfl⟩
          generalize dropTo x l k = d at *
          go_wp2_with (at_builtin; refine wpList_append_sl _ rfl _ _ 30 rfl (w.heap.size + 2) 64 i0 _ 2 32 Try.underlying30 hi hz0 hz1 hz2 rfl (by decide) _ _ _ rfl (HO.out.alloc _) _ _ 1 _ rfl S6.out ?c2 ?c3 ?c4 ?c5 ?_)
          case c2 => intro u hu; simp at hu; rcases hu with rfl | rfl <;> rfl
          case c3 => unfold maxLen; omega
          case c4 => omega
          case c5 => simp; omega
          intro v' w2 hown' hgrow hat
          have HO2 := Lib.hid hown'
          have D5 := Lib.hid ((D4.out.alloc (.cells #[.string s.1, .string s.2] 64)).step (fr_ownL hgrow) (fun g hg => by have := ownL_base HO.out hg; omega))
          clear hown' hgrow hat hc1 hc2 d0 d1 d2 d3 d4
          go_wp2
          go_roundg (x.pairs.length - (k + 1))
          case measure => omega
          case rel => exact ⟨k + 1, rfl, by omega, by go_num, by rw [ST.out, pairsV_append]; simpa [pairsV] using HO2.out, D5.out⟩
      · obtain rfl : k = x.pairs.length := by omega
        rw [HE.out] at HO
        have hne1 : ¬ w.heap.size = w.heap.size + 1 := by omega
        have hne2 : ¬ w.heap.size + 1 = w.heap.size := by omega
        rw [HE.out]
        go_wp2
        go_region_held3 (fun wx => wx.cell? ⟨w.heap.size, 3, none⟩ = some (.slice A2 x.pairs.length c2)) (go_keep) (first | (go_at_call 86; (refine (OF.out _ _ _ (show wr.drew.ownsRow _ _ _ _ _ _ from HO.out)).mono ?_); rintro e w5 ⟨u5, rfl, hi, f5⟩; have D5 := Lib.hid (D4.out.go (fr_predrew f5)); clear d0 d1 d2 d3 d4 f5; obtain ⟨d0, d1, d2, d3, d4⟩ := five D5.out.b; have HI := Lib.hid hi; obtain ⟨P1, p1, P2, p2, P3, p3, rfl⟩ := hi.form; clear hi; obtain ⟨a0, a1, a2, a3, a4⟩ := five D5.out.o; obtain ⟨b0, b2, b3, b4, b5⟩ := fiveF D5.out.o))
        go_wp2
        refine bodyPost_ret (v := .tuple #[.agg #[.int .i64 y.kind, .string y.text, .slice P1 y.list.length p1, .slice P2 y.pairs.length p2, .slice P3 y.scores.length p3], .int .i64 (IntKind.i64.wrap ((x.pairs.length : Int) - (r.length : Int))), .int .i64 0]) (by simp [results, Try.results45, go_sem, a0, a1, a2, a3, a4]) rfl ?_
        exact ⟨_, by rw [HW.out], (itemO_later HI.out (by omega) _ _ _ _ _).less (by omega), D5.out.end5 _ _ _ _ _⟩
  · rw [EY.out, EK.out, if_neg ha, if_neg ha]
    have q2 : (asCode 4 x != 0) = true := by simpa using ha
    clear EY EK ha
    generalize asCode 4 x = r at *
    go_enter Try.func45, Try.ntmps45
    go_wp2_with fail
    refine (RD.out _ D0.out.f).mono ?_
    rintro e w1 ⟨rfl, f1⟩
    have D1 := Lib.hid (D0.out.go f1)
    clear d0 d1 d2 d3 d4
    obtain ⟨a0, a1, a2, a3, a4⟩ := five D1.out.o
    obtain ⟨b0, b2, b3, b4, b5⟩ := fiveF D1.out.o
    go_wp2
    refine bodyPost_ret (v := .tuple #[.agg #[.int .i64 0, .string ⟨#[]⟩, .slice none 0 0, .slice none 0 0, .slice none 0 0], .int .i64 0, .int .i64 r]) (by simp [results, Try.results45, go_sem, a0, a1, a2, a3, a4]) rfl ?_
    exact ⟨_, rfl, ItemO.nothing _ _, D1.out.end5 _ _ _ _ _⟩
end Go.Proofs.Ytfkfdmonnebmmaa
