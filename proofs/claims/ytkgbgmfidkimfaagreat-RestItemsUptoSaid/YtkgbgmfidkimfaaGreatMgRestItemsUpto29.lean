/- The walk of list.Push. (Printed by lists.py.) -/
import Derived.Test.YtkgbgmfidkimfaaGreatMgRestItemsUpto6
import Derived.Test.YtkgbgmfidkimfaaGreatMgRestItemsUpto9
import Derived.Test.YtkgbgmfidkimfaaGreatMgRestItemsUpto28
set_option linter.unusedVariables false
set_option linter.unusedSimpArgs false
namespace Go.Proofs.YtkgbgmfidkimfaaGreat
open Go.RowKit

set_option maxHeartbeats 2000000 in
set_option maxRecDepth 100000 in
theorem listPush_any (x : Itm) (v : Value) (left : Bool) (l : List ByteArray) (Al : Option Addr) (cl : Nat) (w : World) (B : Nat) (hs : x.Small) (hB : B ≤ w.heap.size) (h : ItemV w B v x) (hl : l.length ≤ 281474976710656) (hL : Sl w B 1 (.slice Al l.length cl) l.length (textsV l)) :
    Calls Tryz.prog 11 #[v, .bool left, .slice Al l.length cl] w (INPost (pushK x left l) (pushCode x l) (pushY x left l) w) := by
  have RD := Lib.hid (fun W (hf : Fr [] w W) => ready_any x v W B hs (Nat.le_trans hB hf.size) (h.fr hf hB (by simp)))
  have SM := Lib.hid (fun W (hf : Fr [] w W) => some_any l Al cl W B hl (Nat.le_trans hB hf.size) (hL.fr hf hB (by simp)))
  have HL := Lib.hid hL
  obtain ⟨A1, c1, A2, c2, A3, c3, rfl, h1, h2, h3⟩ := h
  have H1 := Lib.hid h1
  have D0 := Lib.hid (BO.new w (.int .i64 x.kind) (.string x.text) (.slice A1 x.list.length c1) (.slice A2 x.pairs.length c2) (.slice A3 x.scores.length c3))
  obtain ⟨d0, d1, d2, d3, d4⟩ := five D0.out.b
  have EC := Lib.hid (show pushCode x l = if asCode 2 x ≠ 0 then asCode 2 x else if someCode l ≠ 0 then someCode l else if 24 < x.list.length + l.length then 2 else 0 from rfl)
  have EY := Lib.hid (show pushY x left l = if pushCode x l = 0 then ofL (pushL x left l) else newI 0 from rfl)
  have EK := Lib.hid (show pushK x left l = if pushCode x l = 0 then ((pushL x left l).length : Int) else 0 from rfl)
  have OK := Lib.hid (fun (h : asCode 2 x = 0) => asOk_of h)
  have OS := Lib.hid (fun (h : someCode l = 0) => some_texts h)
  have hs1 := hs.list
  clear h1 h2 h3 hs hL
  have no0 : ∀ c : Int, c ≠ 0 → pushCode x l = c → pushY x left l = newI 0 ∧ pushK x left l = 0 := fun c hc he => by
    have h0 : pushCode x l ≠ 0 := by rw [he]; exact hc
    exact ⟨by rw [EY.out, if_neg h0], by rw [EK.out, if_neg h0]⟩
  have NO := Lib.hid no0
  clear no0
  by_cases ha : asCode 2 x = 0
  · rw [ha] at RD
    by_cases hb : someCode l = 0
    · rw [hb] at SM
      by_cases hc : 24 < x.list.length + l.length
      · have E := Lib.hid (show pushCode x l = 2 from by rw [EC.out, if_neg (by simpa using ha), if_neg (by simpa using hb), if_pos hc])
        obtain ⟨e1, e2⟩ := NO.out 2 (by decide) E.out
        rw [e1, e2, E.out]
        have q : (x.list.length : Int) + (l.length : Int) > 24 := by omega
        clear e1 e2 EC EY EK OK OS ha hb hc NO
        generalize x.list.length = n at *
        go_enter Tryz.func11, Tryz.ntmps11
        go_wp2_with fail
        refine (RD.out _ D0.out.f).mono ?_
        rintro e w1 ⟨rfl, f1⟩
        have D1 := Lib.hid (D0.out.go f1)
        clear d0 d1 d2 d3 d4
        obtain ⟨d0, d1, d2, d3, d4⟩ := five D1.out.b
        go_wp2_with fail
        refine (SM.out _ D1.out.f).mono ?_
        rintro e w2 ⟨rfl, f2⟩
        have D2 := Lib.hid (D1.out.go f2)
        clear d0 d1 d2 d3 d4
        obtain ⟨d0, d1, d2, d3, d4⟩ := five D2.out.b
        obtain ⟨a0, a1, a2, a3, a4⟩ := five D2.out.o
        obtain ⟨b0, b2, b3, b4, b5⟩ := fiveF D2.out.o
        go_wp2
        refine bodyPost_ret (v := .tuple #[.agg #[.int .i64 0, .string ⟨#[]⟩, .slice none 0 0, .slice none 0 0, .slice none 0 0], .int .i64 0, .int .i64 2]) (by simp [results, Tryz.results11, go_sem, a0, a1, a2, a3, a4]) rfl ?_
        exact ⟨_, rfl, ItemO.nothing _ _, D2.out.end5 _ _ _ _ _⟩
      · have E := Lib.hid (show pushCode x l = 0 from by rw [EC.out, if_neg (by simpa using ha), if_neg (by simpa using hb), if_neg hc])
        have hok := OK.out ha
        have hos := OS.out hb
        have OF := Lib.hid (fun W base u hu => listOf_own (pushL x left l) base u W (by rw [push_length]; omega) (fun s hs => by
          rcases push_mem hs with h | h
          · have := hok.texts s h; omega
          · have := hos s h; omega) hu)
        rw [EY.out, EK.out, E.out, if_pos rfl, if_pos rfl]
        have q : ¬ ((x.list.length : Int) + (l.length : Int) > 24) := by omega
        have h24 : x.list.length + l.length ≤ 24 := by omega
        clear hok hos E EC EY EK OK OS ha hb hc NO
        cases left
        · have EP := Lib.hid (show pushL x false l = x.list ++ l from rfl)
          generalize ofL (pushL x false l) = y at *
          go_enter Tryz.func11, Tryz.ntmps11
          go_wp2_with fail
          refine (RD.out _ D0.out.f).mono ?_
          rintro e w1 ⟨rfl, f1⟩
          have D1 := Lib.hid (D0.out.go f1)
          clear d0 d1 d2 d3 d4
          obtain ⟨d0, d1, d2, d3, d4⟩ := five D1.out.b
          go_wp2_with fail
          refine (SM.out _ D1.out.f).mono ?_
          rintro e w2 ⟨rfl, f2⟩
          have D2 := Lib.hid (D1.out.go f2)
          clear d0 d1 d2 d3 d4
          obtain ⟨d0, d1, d2, d3, d4⟩ := five D2.out.b
          have D3 := Lib.hid (D2.out.alloc (.cells #[.slice A1 x.list.length c1, .slice Al l.length cl] 22))
          have V3 := Lib.hid (Whole.new w2 22 [.slice A1 x.list.length c1, .slice Al l.length cl])
          have CC := Lib.hid (concat_any x.list l _ _ w2.heap.size 2 _ B (by omega) (by omega) (by omega) (by omega) (Nat.le_trans hB D3.out.f.size) (H1.out.fr D3.out.f hB (by simp)) (HL.out.fr D3.out.f hB (by simp)) (V3.out.cell 0) (V3.out.cell 1))
          go_wp2_with fail
          refine CC.out.mono ?_
          rintro e w3 ⟨u, rfl, ho, f3⟩
          have D4 := Lib.hid (D3.out.go f3)
          have hz := D3.out.lt
          rw [← EP.out] at ho
          have HO := Lib.hid ho
          obtain ⟨U, cu, rfl, -⟩ := own_slice ho
          clear d0 d1 d2 d3 d4 ho
          have hle : (pushL x false l).length ≤ 24 := by rw [push_length]; omega
          go_wp2_with fail
          refine (OF.out _ _ _ HO.out).mono ?_
          rintro e w4 ⟨u, rfl, hi, f4⟩
          have D5 := Lib.hid (D4.out.go f4)
          have HI := Lib.hid hi
          obtain ⟨P1, p1, P2, p2, P3, p3, rfl⟩ := hi.form
          clear hi
          obtain ⟨a0, a1, a2, a3, a4⟩ := five D5.out.o
          obtain ⟨b0, b2, b3, b4, b5⟩ := fiveF D5.out.o
          go_wp2
          refine bodyPost_ret (v := .tuple #[.agg #[.int .i64 y.kind, .string y.text, .slice P1 y.list.length p1, .slice P2 y.pairs.length p2, .slice P3 y.scores.length p3], .int .i64 ((pushL x false l).length : Nat), .int .i64 0]) (by simp [results, Tryz.results11, go_sem, a0, a1, a2, a3, a4]) rfl ?_
          exact ⟨_, rfl, (itemO_later HI.out (by omega) _ _ _ _ _).less (by omega), D5.out.end5 _ _ _ _ _⟩
        · have EP := Lib.hid (show pushL x true l = l.reverse ++ x.list from rfl)
          generalize ofL (pushL x true l) = y at *
          go_enter Tryz.func11, Tryz.ntmps11
          go_wp2_with fail
          refine (RD.out _ D0.out.f).mono ?_
          rintro e w1 ⟨rfl, f1⟩
          have D1 := Lib.hid (D0.out.go f1)
          clear d0 d1 d2 d3 d4
          obtain ⟨d0, d1, d2, d3, d4⟩ := five D1.out.b
          go_wp2_with fail
          refine (SM.out _ D1.out.f).mono ?_
          rintro e w2 ⟨rfl, f2⟩
          have D2 := Lib.hid (D1.out.go f2)
          clear d0 d1 d2 d3 d4
          obtain ⟨d0, d1, d2, d3, d4⟩ := five D2.out.b
          have D3 := Lib.hid (D2.out.alloc (.cells #[.slice A1 x.list.length c1, .slice Al l.length cl] 22))
          have V3 := Lib.hid (Whole.new w2 22 [.slice A1 x.list.length c1, .slice Al l.length cl])
          have CC := Lib.hid (concat_any x.list l _ _ w2.heap.size 2 _ B (by omega) (by omega) (by omega) (by omega) (Nat.le_trans hB D3.out.f.size) (H1.out.fr D3.out.f hB (by simp)) (HL.out.fr D3.out.f hB (by simp)) (V3.out.cell 0) (V3.out.cell 1))
          go_wp2_with fail
          refine CC.out.mono ?_
          rintro e w3 ⟨u, rfl, ho, f3⟩
          have D4 := Lib.hid (D3.out.go f3)
          have hz := D3.out.lt
          obtain ⟨U, cu, rfl, -⟩ := own_slice ho
          clear d0 d1 d2 d3 d4 ho
          have CL := Lib.hid (cloneS_row l.length (textsV l) Al cl w3 B (by omega) (Nat.le_trans hB D4.out.f.size) (HL.out.fr D4.out.f hB (by simp)) (texts_one l))
          go_wp2_with fail
          refine CL.out.mono ?_
          rintro e w4 ⟨u2, rfl, ho2, f4⟩
          have D5 := Lib.hid (D4.out.go f4)
          have hz4 := D4.out.lt
          have RV := Lib.hid (rev_any l _ u2 w4 (by omega) ho2)
          obtain ⟨U2, cu2, rfl, -⟩ := own_slice ho2
          have HO2 := Lib.hid ho2
          clear ho2
          go_wp2_with fail
          refine RV.out.mono ?_
          rintro e w5 ⟨rfl, ho5, hg5⟩
          have D6 := Lib.hid (D5.out.step (S := ownL (.slice U2 l.length cu2)) ((Fr.refl _ w4).grown hg5 (fun k hk => .inl (by cases U2 with | none => cases hk | some ad => simp [Value.ownBlock] at hk; simp [ownL, hk]))) (fun g hg => by
            cases U2 with
            | none => simp [ownL] at hg
            | some ad => simp [ownL] at hg; have := (HO2.out.lt g (by simp [Value.ownBlock, hg])).1; omega))
          have hz6 := D6.out.lt
          have HO5 := Lib.hid ho5
          clear ho5 hg5
          obtain ⟨d0, d1, d2, d3, d4⟩ := five D6.out.b
          have D7 := Lib.hid (D6.out.alloc (.cells #[.slice U2 l.length cu2, .slice A1 x.list.length c1] 22))
          have V7 := Lib.hid (Whole.new w5 22 [.slice U2 l.length cu2, .slice A1 x.list.length c1])
          have hzz : w.heap.size + 1 < w5.heap.size := hz6
          have SL5 := Lib.hid (own_sl (own_fr HO5.out ((Fr.refl [] w5).alloc (.cells #[.slice U2 l.length cu2, .slice A1 x.list.length c1] 22)) (by simp)))
          have CD := Lib.hid (concat_any l.reverse x.list (.slice U2 l.length cu2) (.slice A1 x.list.length c1) w5.heap.size 2 _ _ (by simp; omega) (by omega) (by omega) (by omega) (Nat.le_refl _) (by rw [List.length_reverse]; exact SL5.out) ((H1.out.fr D7.out.f hB (by simp)).more (Nat.le_trans hB D7.out.f.size)) (V7.out.cell 0) (V7.out.cell 1))
          go_wp2_with fail
          refine CD.out.mono ?_
          rintro e w6 ⟨u6, rfl, ho6, f6⟩
          have D8 := Lib.hid (D7.out.go f6)
          have hz7 := D7.out.lt
          rw [← EP.out] at ho6
          have HO6 := Lib.hid ho6
          obtain ⟨U6, cu6, rfl, -⟩ := own_slice ho6
          clear d0 d1 d2 d3 d4 ho6
          have hle : (pushL x true l).length ≤ 24 := by rw [push_length]; omega
          go_wp2_with fail
          refine (OF.out _ _ _ HO6.out).mono ?_
          rintro e w7 ⟨u7, rfl, hi, f7⟩
          have D9 := Lib.hid (D8.out.go f7)
          have HI := Lib.hid hi
          obtain ⟨P1, p1, P2, p2, P3, p3, rfl⟩ := hi.form
          clear hi
          obtain ⟨a0, a1, a2, a3, a4⟩ := five D9.out.o
          obtain ⟨b0, b2, b3, b4, b5⟩ := fiveF D9.out.o
          go_wp2
          refine bodyPost_ret (v := .tuple #[.agg #[.int .i64 y.kind, .string y.text, .slice P1 y.list.length p1, .slice P2 y.pairs.length p2, .slice P3 y.scores.length p3], .int .i64 ((pushL x true l).length : Nat), .int .i64 0]) (by simp [results, Tryz.results11, go_sem, a0, a1, a2, a3, a4]) rfl ?_
          exact ⟨_, rfl, (itemO_later HI.out (by omega) _ _ _ _ _).less (by omega), D9.out.end5 _ _ _ _ _⟩
    · have E := Lib.hid (show pushCode x l = someCode l from by rw [EC.out, if_neg (by simpa using ha), if_pos hb])
      obtain ⟨e1, e2⟩ := NO.out _ hb E.out
      rw [e1, e2, E.out]
      have q : (someCode l == 0) = false := by simpa using hb
      have q2 : (someCode l != 0) = true := by simpa using hb
      clear e1 e2 EC EY EK OK OS ha hb NO E
      generalize someCode l = r at *
      go_enter Tryz.func11, Tryz.ntmps11
      go_wp2_with fail
      refine (RD.out _ D0.out.f).mono ?_
      rintro e w1 ⟨rfl, f1⟩
      have D1 := Lib.hid (D0.out.go f1)
      clear d0 d1 d2 d3 d4
      obtain ⟨d0, d1, d2, d3, d4⟩ := five D1.out.b
      go_wp2_with fail
      refine (SM.out _ D1.out.f).mono ?_
      rintro e w2 ⟨rfl, f2⟩
      have D2 := Lib.hid (D1.out.go f2)
      clear d0 d1 d2 d3 d4
      obtain ⟨a0, a1, a2, a3, a4⟩ := five D2.out.o
      obtain ⟨b0, b2, b3, b4, b5⟩ := fiveF D2.out.o
      go_wp2
      refine bodyPost_ret (v := .tuple #[.agg #[.int .i64 0, .string ⟨#[]⟩, .slice none 0 0, .slice none 0 0, .slice none 0 0], .int .i64 0, .int .i64 r]) (by simp [results, Tryz.results11, go_sem, a0, a1, a2, a3, a4]) rfl ?_
      exact ⟨_, rfl, ItemO.nothing _ _, D2.out.end5 _ _ _ _ _⟩
  · have E := Lib.hid (show pushCode x l = asCode 2 x from by rw [EC.out, if_pos ha])
    obtain ⟨e1, e2⟩ := NO.out _ ha E.out
    rw [e1, e2, E.out]
    have q : (asCode 2 x == 0) = false := by simpa using ha
    have q2 : (asCode 2 x != 0) = true := by simpa using ha
    clear e1 e2 EC EY EK OK OS ha NO E
    generalize asCode 2 x = r at *
    go_enter Tryz.func11, Tryz.ntmps11
    go_wp2_with fail
    refine (RD.out _ D0.out.f).mono ?_
    rintro e w1 ⟨rfl, f1⟩
    have D1 := Lib.hid (D0.out.go f1)
    clear d0 d1 d2 d3 d4
    obtain ⟨a0, a1, a2, a3, a4⟩ := five D1.out.o
    obtain ⟨b0, b2, b3, b4, b5⟩ := fiveF D1.out.o
    go_wp2
    refine bodyPost_ret (v := .tuple #[.agg #[.int .i64 0, .string ⟨#[]⟩, .slice none 0 0, .slice none 0 0, .slice none 0 0], .int .i64 0, .int .i64 r]) (by simp [results, Tryz.results11, go_sem, a0, a1, a2, a3, a4]) rfl ?_
    exact ⟨_, rfl, ItemO.nothing _ _, D1.out.end5 _ _ _ _ _⟩
end Go.Proofs.YtkgbgmfidkimfaaGreat
