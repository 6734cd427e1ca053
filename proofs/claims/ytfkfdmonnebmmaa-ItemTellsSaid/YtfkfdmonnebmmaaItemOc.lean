/- The walk of the reference's ItemOf, second: lists. -/
import Derived.Test.YtfkfdmonnebmmaaItemOb
set_option linter.unusedVariables false
set_option linter.unusedSimpArgs false
namespace Go.Proofs.Ytfkfdmonnebmmaa
open Go.RowKit

attribute [local go_sem ↓] Go.wp_at_zero Go.wp_at_succ

set_option maxHeartbeats 1000000 in
set_option maxRecDepth 100000 in
theorem itemOf_two (s : ByteArray) (w : World) (hs : s.size ≤ 281474976710656) (r : ByteArray) (ho : oneB s = some (2, r)) : Calls Try.prog 21 #[.string s] w (DecPost s w) := by
  have I := Lib.hid (fun W => between_any (2 : Int) 1 5 W)
  rw [show (decide ((1 : Int) ≤ 2) && decide ((2 : Int) ≤ 5)) = true from rfl] at I
  have r0 : Tk ((w.alloc (.cells #[.int .i64 0, .string ⟨#[]⟩, .slice none 0 0, .slice none 0 0, .slice none 0 0] 33)).alloc (.cells #[.string s, .bool false] 89)) (w.heap.size + 1) s false := by
    have := Whole.new (w.alloc (.cells #[.int .i64 0, .string ⟨#[]⟩, .slice none 0 0, .slice none 0 0, .slice none 0 0] 33)) 89 [.string s, .bool false]
    simpa [Tk] using this
  have N1 := Lib.hid (tkOne_any (w.heap.size + 1) s false _ r0 hs)
  go_enter Try.func21, Try.ntmps21
  go_wp2_with fail
  refine N1.out.mono ?_
  rintro e w1 ⟨n', r', b1, rfl, hr1, f1, hread, hn, hrs⟩
  have hread := hread.1 rfl
  rw [ho] at hread
  obtain ⟨hn1, hr2, hb2⟩ := hread
  have hn1 : 2 = n' := hn1.symm
  have hr2 : r = r' := hr2.symm
  subst hn1 hr2 hb2
  have d0 : OfIn w w1.heap.size (newI 2) (.slice none 0 0) (.slice none 0 0) (.slice none 0 0) r false (w1.alloc (.cells #[.int .i64 2, .string ⟨#[]⟩, .slice none 0 0, .slice none 0 0, .slice none 0 0] 33)) := by
    have hz := f1.size
    simp at hz
    refine ⟨((Whole.new w _ _).alloc _ |>.fr f1 (by simp)).alloc _, Whole.alloc hr1 _, ⟨Whole.new w1 _ _, World.ownsRow_nil _ _ _ _, ⟨rfl, .inl ⟨rfl, rfl⟩⟩, ⟨rfl, .inl ⟨rfl, rfl⟩⟩⟩, by omega, by simp, ?_, newI_small _ (by omega)⟩
    exact ((((Fr.refl [] w).alloc _).alloc _).step f1 (by intro k hk; simp at hk; subst hk; exact .inr (by omega))).alloc _
  have D0 := Lib.hid d0
  have x0 : World.cell? _ ⟨w1.heap.size, 0, none⟩ = some (Value.int .i64 2) := d0.gr.whole.cell 0
  have e0 := Whole.cell d0.rd 0
  have e1 := Whole.cell d0.rd 1
  clear d0 hr1 f1 N1 r0
  have HR := Lib.hid (read1_some ho)
  clear ho
  have N2 := Lib.hid (fun W (hW : Tk W (w.heap.size + 1) r false) => tkOne_any (w.heap.size + 1) r false W hW (by omega))
  go_wp2_with fail
  refine (I.out _).mono ?_
  rintro e w2 ⟨rfl, rfl⟩
  go_wp2_with fail
  refine (N2.out _ D0.out.rd).mono ?_
  rintro e w2 ⟨m, r2, b2, rfl, hr2, f2, hread2, hm, hrs2⟩
  have D2 := Lib.hid (D0.out.read hr2 f2)
  have HR2 := Lib.hid (hread2.1 rfl)
  clear hr2 f2 x0 e0 e1 hread2 D0 N2 I
  go_wp2
  go_loopg [7] (2 * m) (fun gh sv wr => ∃ (j i : Nat) (x : Itm) (v1 v2 v3 : Value) (s' : ByteArray) (b' : Bool), gh = 2 * j ∧ sv = .int .i64 i ∧ i + j = m ∧ x.kind = 2 ∧ many x + j ≤ 255 ∧ s'.size ≤ 281474976710656 ∧ LoopR j m x (newI 2) s' r2 b2 b' ∧ OfIn w w1.heap.size x v1 v2 v3 s' b' wr)
  case atStart => exact ⟨m, 0, newI 2, _, _, _, r2, b2, rfl, rfl, by omega, rfl, by show 0 + 0 + 0 + m ≤ 255; omega, by omega, loopR_start _ _ _ _, D2.out⟩
  clear D2
  case round =>
  obtain ⟨j, i, x, v1, v2, v3, s', b', rfl, rfl, hij, hxk, hmj, hss, hloop, hD⟩ := hrel
  have HL := Lib.hid hloop
  have D3 := Lib.hid hD
  have HXK := Lib.hid hxk
  have e0 := Whole.cell D3.out.rd 0
  have e1 := Whole.cell D3.out.rd 1
  clear hloop hD hxk
  cases b'
  · rcases j with _ | j
    · clear e0 e1
      obtain rfl : i = m := by omega
      by_cases hz : s'.size = 0
      · obtain rfl := nilOf hz
        have HDEC := Lib.hid ((dec_els HR.out ⟨by omega, by omega⟩ HR2.out HL.out).trans (if_pos rfl))
        clear hz HL HR HR2
        obtain ⟨A1, c1, rfl⟩ := sl_form (own_sl D3.out.gr.o1)
        obtain ⟨A2, c2, rfl⟩ := sl_form (own_sl D3.out.gr.o2)
        obtain ⟨A3, c3, rfl⟩ := sl_form (own_sl D3.out.gr.o3)
        obtain ⟨a0, a1, a2, a3, a4⟩ := five D3.out.out
        obtain ⟨b0, b2, b3, b4, b5⟩ := fiveF D3.out.out
        have e0 := Whole.cell D3.out.rd 0
        have e1 := Whole.cell D3.out.rd 1
        have x0 : World.cell? _ ⟨w1.heap.size, 0, none⟩ = some (.int .i64 x.kind : Value) := D3.out.gr.whole.cell 0
        have x1 : World.cell? _ ⟨w1.heap.size, 1, none⟩ = some (.string x.text : Value) := D3.out.gr.whole.cell 1
        have x2 : World.cell? _ ⟨w1.heap.size, 2, none⟩ = some (.slice A1 x.list.length c1 : Value) := D3.out.gr.whole.cell 2
        have x3 : World.cell? _ ⟨w1.heap.size, 3, none⟩ = some (.slice A2 x.pairs.length c2 : Value) := D3.out.gr.whole.cell 3
        have x4 : World.cell? _ ⟨w1.heap.size, 4, none⟩ = some (.slice A3 x.scores.length c3 : Value) := D3.out.gr.whole.cell 4
        have C := Lib.hid (fun W (hD : OfIn w w1.heap.size x (.slice A1 x.list.length c1) (.slice A2 x.pairs.length c2) (.slice A3 x.scores.length c3) ⟨#[]⟩ false W) => refCheck_any x (.agg #[.int .i64 x.kind, .string x.text, .slice A1 x.list.length c1, .slice A2 x.pairs.length c2, .slice A3 x.scores.length c3]) W W.heap.size hD.small (Nat.le_refl _) hD.val.item)
        have HC2 := Lib.hid (fun hc => dec_bad HDEC.out hc)
        have HC3 := Lib.hid (fun hc => dec_ok HDEC.out hc)
        generalize checkItm x = c at *
        by_cases hc : c = 0
        · subst hc
          have N := Lib.hid (HC3.out rfl)
          go_wp2_with fail
          refine (C.out _ D3.out).mono ?_
          rintro e w9 ⟨rfl, f9⟩
          have D9 := Lib.hid (D3.out.fr0 f9)
          clear a0 a1 a2 a3 a4 b0 b2 b3 b4 b5 e0 e1 x0 x1 x2 x3 x4
          obtain ⟨a0, a1, a2, a3, a4⟩ := five D9.out.out
          obtain ⟨b0, b2, b3, b4, b5⟩ := fiveF D9.out.out
          have e0 := Whole.cell D9.out.rd 0
          have e1 := Whole.cell D9.out.rd 1
          have x0 : World.cell? _ ⟨w1.heap.size, 0, none⟩ = some (.int .i64 x.kind : Value) := D9.out.gr.whole.cell 0
          have x1 : World.cell? _ ⟨w1.heap.size, 1, none⟩ = some (.string x.text : Value) := D9.out.gr.whole.cell 1
          have x2 : World.cell? _ ⟨w1.heap.size, 2, none⟩ = some (.slice A1 x.list.length c1 : Value) := D9.out.gr.whole.cell 2
          have x3 : World.cell? _ ⟨w1.heap.size, 3, none⟩ = some (.slice A2 x.pairs.length c2 : Value) := D9.out.gr.whole.cell 3
          have x4 : World.cell? _ ⟨w1.heap.size, 4, none⟩ = some (.slice A3 x.scores.length c3 : Value) := D9.out.gr.whole.cell 4
          go_wp2
          refine bodyPost_ret (v := .tuple #[.agg #[.int .i64 x.kind, .string x.text, .slice A1 x.list.length c1, .slice A2 x.pairs.length c2, .slice A3 x.scores.length c3], .int .i64 0]) (by simp [results, Try.results21, go_sem, a0, a1, a2, a3, a4]) rfl ?_
          refine ⟨_, by rw [N.out.1], by rw [N.out.2]; exact D9.out.val5 _ _ _ _ _, D9.out.end5 _ _ _ _ _⟩
        · have q : (c != 0) = true := by simpa using hc
          have N := Lib.hid (HC2.out hc)
          clear hc
          go_wp2_with fail
          refine (C.out _ D3.out).mono ?_
          rintro e w9 ⟨rfl, f9⟩
          have D9 := Lib.hid (D3.out.fr0 f9)
          clear a0 a1 a2 a3 a4 b0 b2 b3 b4 b5 e0 e1 x0 x1 x2 x3 x4
          obtain ⟨a0, a1, a2, a3, a4⟩ := five D9.out.out
          obtain ⟨b0, b2, b3, b4, b5⟩ := fiveF D9.out.out
          have e0 := Whole.cell D9.out.rd 0
          have e1 := Whole.cell D9.out.rd 1
          go_wp2
          refine bodyPost_ret (v := .tuple #[.agg #[.int .i64 0, .string ⟨#[]⟩, .slice none 0 0, .slice none 0 0, .slice none 0 0], .int .i64 c]) (by simp [results, Try.results21, go_sem, a0, a1, a2, a3, a4]) rfl ?_
          refine ⟨_, by rw [N.out.1], by rw [N.out.2]; exact ItemO.nothing _ _, D9.out.end5 _ _ _ _ _⟩
      · obtain ⟨yT1, yT2⟩ := neNil hz
        have N := Lib.hid (dec_no ((dec_els HR.out ⟨by omega, by omega⟩ HR2.out HL.out).trans (if_neg hz)))
        clear hz HL HR HR2
        obtain ⟨a0, a1, a2, a3, a4⟩ := five D3.out.out
        obtain ⟨b0, b2, b3, b4, b5⟩ := fiveF D3.out.out
        have e0 := Whole.cell D3.out.rd 0
        have e1 := Whole.cell D3.out.rd 1
        go_wp2
        refine bodyPost_ret (v := .tuple #[.agg #[.int .i64 0, .string ⟨#[]⟩, .slice none 0 0, .slice none 0 0, .slice none 0 0], .int .i64 1]) (by simp [results, Try.results21, go_sem, a0, a1, a2, a3, a4]) rfl ?_
        refine ⟨_, by rw [N.out.1], by rw [N.out.2]; exact ItemO.nothing _ _, D3.out.end5 _ _ _ _ _⟩
    · skip
      have hj : (i : Int) < (m : Int) := by omega
      have hgt := D3.out.lt
      have hgl := D3.out.le
      have x0 : wr.cell? ⟨w1.heap.size, 0, none⟩ = some (.int .i64 2) := by
        have := D3.out.gr.whole.cell 0
        rw [HXK.out] at this
        exact this
      obtain ⟨ii0, hi, hz0, hz1, hz2⟩ := info_parts stringInfo
      have T := Lib.hid (fun W (hW : Tk W (w.heap.size + 1) s' false) => tkTold_any (w.heap.size + 1) s' false W hW hss)
      have c2 : wr.cell? ⟨w1.heap.size, 2, none⟩ = some v1 := D3.out.gr.whole.cell 2
      have hmm : x.list.length ≤ 255 := by unfold many at hmj; omega
      go_wp2_with fail
      go_region_law
        (first
          | (refine step_append_lies _ (by rfl) _ _ 29 (by rfl) (w1.heap.size + 1) 9 ii0 _ 1 16 Try.underlying29 hi hz0 hz1 hz2 rfl (by decide) v1 x.list.length (textsV x.list) (by rfl) (hown.alloc _)
              ⟨w4.heap.size, 0, none⟩ 1 1 [.string t] (by rfl) (by rfl) (World.news_of_block (cs := #[.string t]) (t := 9) (fr := (0, 0)) (heap_alloc_new _ _)) (by simp [Value.oneCell'])
              (by omega) (by unfold maxLen; omega) (by omega) (by simp; omega) (w4.heap.size + 1) (by simp) ?_
             intro g' cap w3 hown' hgrow hat hlt
             have W3 : Whole w3 w1.heap.size 33 [.int .i64 x.kind, .string x.text, v1, v2, v3] := (D4.out.gr.whole.alloc _).grown hgrow (fun e => own_ne hown D4.out.gr.whole (by decide) e.symm)
             have d3 : w3.cell? ⟨w1.heap.size, 2, none⟩ = some v1 := W3.cell 2
             have z3 : w3.frozen? ⟨w1.heap.size, 2, none⟩ = false := W3.frozen 2
             have D5 := Lib.hid (D4.out.lists (.inr trivial) (by omega) hts hown' hgrow W3)
             clear W3 hgrow hown' hown hat)
          | (go_simp
             go_at_call 64
             refine (T.out _ ?hr).mono ?_
             case hr => exact D3.out.rd
             rintro e w4 ⟨t, r4, b4, rfl, hr4, f4, hread4, hts, hrs4⟩
             have f5 : Fr [w.heap.size + 1] wr w4 := ⟨f4.os, f4.tape, f4.output, f4.size, f4.block⟩
             have hz4 := f5.size
             have D4 := Lib.hid (D3.out.read hr4 f5)
             have c3 : w4.cell? ⟨w1.heap.size, 2, none⟩ = some v1 := D4.out.gr.whole.cell 2
             have hown := D4.out.gr.o1
             have c4 : (w4.alloc (.cells #[.string t] 9)).cell? ⟨w1.heap.size, 2, none⟩ = some v1 := (D4.out.gr.whole.alloc _).cell 2
             have HL2 := Lib.hid (loopR_step HL.out (readL (by rw [HXK.out]; decide) (by rw [HXK.out]; decide) hread4))
             clear hr4 f4 hread4))
      all_goals
        go_wp2
        go_roundg (2 * j)
        case measure => omega
        case rel => exact ⟨j, i + 1, { x with list := x.list ++ [t] }, _, _, _, r4, b4, rfl, by simp, by omega, HXK.out, by unfold many at hmj ⊢; simp; omega, by omega, HL2.out, D5.out⟩
  · have N := Lib.hid (dec_no (dec_short HR.out ⟨by omega, by omega⟩ HR2.out HL.out))
    clear e0 e1 HL HR HR2
    by_cases hj0 : (i : Int) < (m : Int)
    · skip
      obtain ⟨a0, a1, a2, a3, a4⟩ := five D3.out.out
      obtain ⟨b0, b2, b3, b4, b5⟩ := fiveF D3.out.out
      have e0 := Whole.cell D3.out.rd 0
      have e1 := Whole.cell D3.out.rd 1
      go_wp2
      refine bodyPost_ret (v := .tuple #[.agg #[.int .i64 0, .string ⟨#[]⟩, .slice none 0 0, .slice none 0 0, .slice none 0 0], .int .i64 1]) (by simp [results, Try.results21, go_sem, a0, a1, a2, a3, a4]) rfl ?_
      refine ⟨_, by rw [N.out.1], by rw [N.out.2]; exact ItemO.nothing _ _, D3.out.end5 _ _ _ _ _⟩
    · skip
      obtain ⟨a0, a1, a2, a3, a4⟩ := five D3.out.out
      obtain ⟨b0, b2, b3, b4, b5⟩ := fiveF D3.out.out
      have e0 := Whole.cell D3.out.rd 0
      have e1 := Whole.cell D3.out.rd 1
      go_wp2
      refine bodyPost_ret (v := .tuple #[.agg #[.int .i64 0, .string ⟨#[]⟩, .slice none 0 0, .slice none 0 0, .slice none 0 0], .int .i64 1]) (by simp [results, Try.results21, go_sem, a0, a1, a2, a3, a4]) rfl ?_
      refine ⟨_, by rw [N.out.1], by rw [N.out.2]; exact ItemO.nothing _ _, D3.out.end5 _ _ _ _ _⟩

set_option maxHeartbeats 1000000 in
set_option maxRecDepth 100000 in
theorem itemOf_three (s : ByteArray) (w : World) (hs : s.size ≤ 281474976710656) (r : ByteArray) (ho : oneB s = some (3, r)) : Calls Try.prog 21 #[.string s] w (DecPost s w) := by
  have I := Lib.hid (fun W => between_any (3 : Int) 1 5 W)
  rw [show (decide ((1 : Int) ≤ 3) && decide ((3 : Int) ≤ 5)) = true from rfl] at I
  have r0 : Tk ((w.alloc (.cells #[.int .i64 0, .string ⟨#[]⟩, .slice none 0 0, .slice none 0 0, .slice none 0 0] 33)).alloc (.cells #[.string s, .bool false] 89)) (w.heap.size + 1) s false := by
    have := Whole.new (w.alloc (.cells #[.int .i64 0, .string ⟨#[]⟩, .slice none 0 0, .slice none 0 0, .slice none 0 0] 33)) 89 [.string s, .bool false]
    simpa [Tk] using this
  have N1 := Lib.hid (tkOne_any (w.heap.size + 1) s false _ r0 hs)
  go_enter Try.func21, Try.ntmps21
  go_wp2_with fail
  refine N1.out.mono ?_
  rintro e w1 ⟨n', r', b1, rfl, hr1, f1, hread, hn, hrs⟩
  have hread := hread.1 rfl
  rw [ho] at hread
  obtain ⟨hn1, hr2, hb2⟩ := hread
  have hn1 : 3 = n' := hn1.symm
  have hr2 : r = r' := hr2.symm
  subst hn1 hr2 hb2
  have d0 : OfIn w w1.heap.size (newI 3) (.slice none 0 0) (.slice none 0 0) (.slice none 0 0) r false (w1.alloc (.cells #[.int .i64 3, .string ⟨#[]⟩, .slice none 0 0, .slice none 0 0, .slice none 0 0] 33)) := by
    have hz := f1.size
    simp at hz
    refine ⟨((Whole.new w _ _).alloc _ |>.fr f1 (by simp)).alloc _, Whole.alloc hr1 _, ⟨Whole.new w1 _ _, World.ownsRow_nil _ _ _ _, ⟨rfl, .inl ⟨rfl, rfl⟩⟩, ⟨rfl, .inl ⟨rfl, rfl⟩⟩⟩, by omega, by simp, ?_, newI_small _ (by omega)⟩
    exact ((((Fr.refl [] w).alloc _).alloc _).step f1 (by intro k hk; simp at hk; subst hk; exact .inr (by omega))).alloc _
  have D0 := Lib.hid d0
  have x0 : World.cell? _ ⟨w1.heap.size, 0, none⟩ = some (Value.int .i64 3) := d0.gr.whole.cell 0
  have e0 := Whole.cell d0.rd 0
  have e1 := Whole.cell d0.rd 1
  clear d0 hr1 f1 N1 r0
  have HR := Lib.hid (read1_some ho)
  clear ho
  have N2 := Lib.hid (fun W (hW : Tk W (w.heap.size + 1) r false) => tkOne_any (w.heap.size + 1) r false W hW (by omega))
  go_wp2_with fail
  refine (I.out _).mono ?_
  rintro e w2 ⟨rfl, rfl⟩
  go_wp2_with fail
  refine (N2.out _ D0.out.rd).mono ?_
  rintro e w2 ⟨m, r2, b2, rfl, hr2, f2, hread2, hm, hrs2⟩
  have D2 := Lib.hid (D0.out.read hr2 f2)
  have HR2 := Lib.hid (hread2.1 rfl)
  clear hr2 f2 x0 e0 e1 hread2 D0 N2 I
  go_wp2
  go_loopg [7] (2 * m) (fun gh sv wr => ∃ (j i : Nat) (x : Itm) (v1 v2 v3 : Value) (s' : ByteArray) (b' : Bool), gh = 2 * j ∧ sv = .int .i64 i ∧ i + j = m ∧ x.kind = 3 ∧ many x + j ≤ 255 ∧ s'.size ≤ 281474976710656 ∧ LoopR j m x (newI 3) s' r2 b2 b' ∧ OfIn w w1.heap.size x v1 v2 v3 s' b' wr)
  case atStart => exact ⟨m, 0, newI 3, _, _, _, r2, b2, rfl, rfl, by omega, rfl, by show 0 + 0 + 0 + m ≤ 255; omega, by omega, loopR_start _ _ _ _, D2.out⟩
  clear D2
  case round =>
  obtain ⟨j, i, x, v1, v2, v3, s', b', rfl, rfl, hij, hxk, hmj, hss, hloop, hD⟩ := hrel
  have HL := Lib.hid hloop
  have D3 := Lib.hid hD
  have HXK := Lib.hid hxk
  have e0 := Whole.cell D3.out.rd 0
  have e1 := Whole.cell D3.out.rd 1
  clear hloop hD hxk
  cases b'
  · rcases j with _ | j
    · clear e0 e1
      obtain rfl : i = m := by omega
      by_cases hz : s'.size = 0
      · obtain rfl := nilOf hz
        have HDEC := Lib.hid ((dec_els HR.out ⟨by omega, by omega⟩ HR2.out HL.out).trans (if_pos rfl))
        clear hz HL HR HR2
        obtain ⟨A1, c1, rfl⟩ := sl_form (own_sl D3.out.gr.o1)
        obtain ⟨A2, c2, rfl⟩ := sl_form (own_sl D3.out.gr.o2)
        obtain ⟨A3, c3, rfl⟩ := sl_form (own_sl D3.out.gr.o3)
        obtain ⟨a0, a1, a2, a3, a4⟩ := five D3.out.out
        obtain ⟨b0, b2, b3, b4, b5⟩ := fiveF D3.out.out
        have e0 := Whole.cell D3.out.rd 0
        have e1 := Whole.cell D3.out.rd 1
        have x0 : World.cell? _ ⟨w1.heap.size, 0, none⟩ = some (.int .i64 x.kind : Value) := D3.out.gr.whole.cell 0
        have x1 : World.cell? _ ⟨w1.heap.size, 1, none⟩ = some (.string x.text : Value) := D3.out.gr.whole.cell 1
        have x2 : World.cell? _ ⟨w1.heap.size, 2, none⟩ = some (.slice A1 x.list.length c1 : Value) := D3.out.gr.whole.cell 2
        have x3 : World.cell? _ ⟨w1.heap.size, 3, none⟩ = some (.slice A2 x.pairs.length c2 : Value) := D3.out.gr.whole.cell 3
        have x4 : World.cell? _ ⟨w1.heap.size, 4, none⟩ = some (.slice A3 x.scores.length c3 : Value) := D3.out.gr.whole.cell 4
        have C := Lib.hid (fun W (hD : OfIn w w1.heap.size x (.slice A1 x.list.length c1) (.slice A2 x.pairs.length c2) (.slice A3 x.scores.length c3) ⟨#[]⟩ false W) => refCheck_any x (.agg #[.int .i64 x.kind, .string x.text, .slice A1 x.list.length c1, .slice A2 x.pairs.length c2, .slice A3 x.scores.length c3]) W W.heap.size hD.small (Nat.le_refl _) hD.val.item)
        have HC2 := Lib.hid (fun hc => dec_bad HDEC.out hc)
        have HC3 := Lib.hid (fun hc => dec_ok HDEC.out hc)
        generalize checkItm x = c at *
        by_cases hc : c = 0
        · subst hc
          have N := Lib.hid (HC3.out rfl)
          go_wp2_with fail
          refine (C.out _ D3.out).mono ?_
          rintro e w9 ⟨rfl, f9⟩
          have D9 := Lib.hid (D3.out.fr0 f9)
          clear a0 a1 a2 a3 a4 b0 b2 b3 b4 b5 e0 e1 x0 x1 x2 x3 x4
          obtain ⟨a0, a1, a2, a3, a4⟩ := five D9.out.out
          obtain ⟨b0, b2, b3, b4, b5⟩ := fiveF D9.out.out
          have e0 := Whole.cell D9.out.rd 0
          have e1 := Whole.cell D9.out.rd 1
          have x0 : World.cell? _ ⟨w1.heap.size, 0, none⟩ = some (.int .i64 x.kind : Value) := D9.out.gr.whole.cell 0
          have x1 : World.cell? _ ⟨w1.heap.size, 1, none⟩ = some (.string x.text : Value) := D9.out.gr.whole.cell 1
          have x2 : World.cell? _ ⟨w1.heap.size, 2, none⟩ = some (.slice A1 x.list.length c1 : Value) := D9.out.gr.whole.cell 2
          have x3 : World.cell? _ ⟨w1.heap.size, 3, none⟩ = some (.slice A2 x.pairs.length c2 : Value) := D9.out.gr.whole.cell 3
          have x4 : World.cell? _ ⟨w1.heap.size, 4, none⟩ = some (.slice A3 x.scores.length c3 : Value) := D9.out.gr.whole.cell 4
          go_wp2
          refine bodyPost_ret (v := .tuple #[.agg #[.int .i64 x.kind, .string x.text, .slice A1 x.list.length c1, .slice A2 x.pairs.length c2, .slice A3 x.scores.length c3], .int .i64 0]) (by simp [results, Try.results21, go_sem, a0, a1, a2, a3, a4]) rfl ?_
          refine ⟨_, by rw [N.out.1], by rw [N.out.2]; exact D9.out.val5 _ _ _ _ _, D9.out.end5 _ _ _ _ _⟩
        · have q : (c != 0) = true := by simpa using hc
          have N := Lib.hid (HC2.out hc)
          clear hc
          go_wp2_with fail
          refine (C.out _ D3.out).mono ?_
          rintro e w9 ⟨rfl, f9⟩
          have D9 := Lib.hid (D3.out.fr0 f9)
          clear a0 a1 a2 a3 a4 b0 b2 b3 b4 b5 e0 e1 x0 x1 x2 x3 x4
          obtain ⟨a0, a1, a2, a3, a4⟩ := five D9.out.out
          obtain ⟨b0, b2, b3, b4, b5⟩ := fiveF D9.out.out
          have e0 := Whole.cell D9.out.rd 0
          have e1 := Whole.cell D9.out.rd 1
          go_wp2
          refine bodyPost_ret (v := .tuple #[.agg #[.int .i64 0, .string ⟨#[]⟩, .slice none 0 0, .slice none 0 0, .slice none 0 0], .int .i64 c]) (by simp [results, Try.results21, go_sem, a0, a1, a2, a3, a4]) rfl ?_
          refine ⟨_, by rw [N.out.1], by rw [N.out.2]; exact ItemO.nothing _ _, D9.out.end5 _ _ _ _ _⟩
      · obtain ⟨yT1, yT2⟩ := neNil hz
        have N := Lib.hid (dec_no ((dec_els HR.out ⟨by omega, by omega⟩ HR2.out HL.out).trans (if_neg hz)))
        clear hz HL HR HR2
        obtain ⟨a0, a1, a2, a3, a4⟩ := five D3.out.out
        obtain ⟨b0, b2, b3, b4, b5⟩ := fiveF D3.out.out
        have e0 := Whole.cell D3.out.rd 0
        have e1 := Whole.cell D3.out.rd 1
        go_wp2
        refine bodyPost_ret (v := .tuple #[.agg #[.int .i64 0, .string ⟨#[]⟩, .slice none 0 0, .slice none 0 0, .slice none 0 0], .int .i64 1]) (by simp [results, Try.results21, go_sem, a0, a1, a2, a3, a4]) rfl ?_
        refine ⟨_, by rw [N.out.1], by rw [N.out.2]; exact ItemO.nothing _ _, D3.out.end5 _ _ _ _ _⟩
    · skip
      have hj : (i : Int) < (m : Int) := by omega
      have hgt := D3.out.lt
      have hgl := D3.out.le
      have x0 : wr.cell? ⟨w1.heap.size, 0, none⟩ = some (.int .i64 3) := by
        have := D3.out.gr.whole.cell 0
        rw [HXK.out] at this
        exact this
      obtain ⟨ii0, hi, hz0, hz1, hz2⟩ := info_parts stringInfo
      have T := Lib.hid (fun W (hW : Tk W (w.heap.size + 1) s' false) => tkTold_any (w.heap.size + 1) s' false W hW hss)
      have c2 : wr.cell? ⟨w1.heap.size, 2, none⟩ = some v1 := D3.out.gr.whole.cell 2
      have hmm : x.list.length ≤ 255 := by unfold many at hmj; omega
      go_wp2_with fail
      go_region_law
        (first
          | (refine step_append_lies _ (by rfl) _ _ 29 (by rfl) (w1.heap.size + 1) 9 ii0 _ 1 16 Try.underlying29 hi hz0 hz1 hz2 rfl (by decide) v1 x.list.length (textsV x.list) (by rfl) (hown.alloc _)
              ⟨w4.heap.size, 0, none⟩ 1 1 [.string t] (by rfl) (by rfl) (World.news_of_block (cs := #[.string t]) (t := 9) (fr := (0, 0)) (heap_alloc_new _ _)) (by simp [Value.oneCell'])
              (by omega) (by unfold maxLen; omega) (by omega) (by simp; omega) (w4.heap.size + 1) (by simp) ?_
             intro g' cap w3 hown' hgrow hat hlt
             have W3 : Whole w3 w1.heap.size 33 [.int .i64 x.kind, .string x.text, v1, v2, v3] := (D4.out.gr.whole.alloc _).grown hgrow (fun e => own_ne hown D4.out.gr.whole (by decide) e.symm)
             have d3 : w3.cell? ⟨w1.heap.size, 2, none⟩ = some v1 := W3.cell 2
             have z3 : w3.frozen? ⟨w1.heap.size, 2, none⟩ = false := W3.frozen 2
             have D5 := Lib.hid (D4.out.lists (.inr trivial) (by omega) hts hown' hgrow W3)
             clear W3 hgrow hown' hown hat)
          | (go_simp
             go_at_call 64
             refine (T.out _ ?hr).mono ?_
             case hr => exact D3.out.rd
             rintro e w4 ⟨t, r4, b4, rfl, hr4, f4, hread4, hts, hrs4⟩
             have f5 : Fr [w.heap.size + 1] wr w4 := ⟨f4.os, f4.tape, f4.output, f4.size, f4.block⟩
             have hz4 := f5.size
             have D4 := Lib.hid (D3.out.read hr4 f5)
             have c3 : w4.cell? ⟨w1.heap.size, 2, none⟩ = some v1 := D4.out.gr.whole.cell 2
             have hown := D4.out.gr.o1
             have c4 : (w4.alloc (.cells #[.string t] 9)).cell? ⟨w1.heap.size, 2, none⟩ = some v1 := (D4.out.gr.whole.alloc _).cell 2
             have HL2 := Lib.hid (loopR_step HL.out (readL (by rw [HXK.out]; decide) (by rw [HXK.out]; decide) hread4))
             clear hr4 f4 hread4))
      all_goals
        go_wp2
        go_roundg (2 * j)
        case measure => omega
        case rel => exact ⟨j, i + 1, { x with list := x.list ++ [t] }, _, _, _, r4, b4, rfl, by simp, by omega, HXK.out, by unfold many at hmj ⊢; simp; omega, by omega, HL2.out, D5.out⟩
  · have N := Lib.hid (dec_no (dec_short HR.out ⟨by omega, by omega⟩ HR2.out HL.out))
    clear e0 e1 HL HR HR2
    by_cases hj0 : (i : Int) < (m : Int)
    · skip
      obtain ⟨a0, a1, a2, a3, a4⟩ := five D3.out.out
      obtain ⟨b0, b2, b3, b4, b5⟩ := fiveF D3.out.out
      have e0 := Whole.cell D3.out.rd 0
      have e1 := Whole.cell D3.out.rd 1
      go_wp2
      refine bodyPost_ret (v := .tuple #[.agg #[.int .i64 0, .string ⟨#[]⟩, .slice none 0 0, .slice none 0 0, .slice none 0 0], .int .i64 1]) (by simp [results, Try.results21, go_sem, a0, a1, a2, a3, a4]) rfl ?_
      refine ⟨_, by rw [N.out.1], by rw [N.out.2]; exact ItemO.nothing _ _, D3.out.end5 _ _ _ _ _⟩
    · skip
      obtain ⟨a0, a1, a2, a3, a4⟩ := five D3.out.out
      obtain ⟨b0, b2, b3, b4, b5⟩ := fiveF D3.out.out
      have e0 := Whole.cell D3.out.rd 0
      have e1 := Whole.cell D3.out.rd 1
      go_wp2
      refine bodyPost_ret (v := .tuple #[.agg #[.int .i64 0, .string ⟨#[]⟩, .slice none 0 0, .slice none 0 0, .slice none 0 0], .int .i64 1]) (by simp [results, Try.results21, go_sem, a0, a1, a2, a3, a4]) rfl ?_
      refine ⟨_, by rw [N.out.1], by rw [N.out.2]; exact ItemO.nothing _ _, D3.out.end5 _ _ _ _ _⟩

end Go.Proofs.Ytfkfdmonnebmmaa
