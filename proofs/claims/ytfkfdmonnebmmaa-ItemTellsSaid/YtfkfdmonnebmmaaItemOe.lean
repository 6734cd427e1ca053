/- The walk of the reference's ItemOf, fourth: scores. -/
import Derived.Test.YtfkfdmonnebmmaaItemOb
set_option linter.unusedVariables false
set_option linter.unusedSimpArgs false
namespace Go.Proofs.Ytfkfdmonnebmmaa
open Go.RowKit

attribute [local go_sem ↓] Go.wp_at_zero Go.wp_at_succ

set_option maxHeartbeats 1000000 in
set_option maxRecDepth 100000 in
theorem itemOf_five (s : ByteArray) (w : World) (hs : s.size ≤ 281474976710656) (r : ByteArray) (ho : oneB s = some (5, r)) : Calls Try.prog 21 #[.string s] w (DecPost s w) := by
  have I := Lib.hid (fun W => between_any (5 : Int) 1 5 W)
  rw [show (decide ((1 : Int) ≤ 5) && decide ((5 : Int) ≤ 5)) = true from rfl] at I
  have r0 : Tk ((w.alloc (.cells #[.int .i64 0, .string ⟨#[]⟩, .slice none 0 0, .slice none 0 0, .slice none 0 0] 33)).alloc (.cells #[.string s, .bool false] 89)) (w.heap.size + 1) s false := by
    have := Whole.new (w.alloc (.cells #[.int .i64 0, .string ⟨#[]⟩, .slice none 0 0, .slice none 0 0, .slice none 0 0] 33)) 89 [.string s, .bool false]
    simpa [Tk] using this
  have N1 := Lib.hid (tkOne_any (w.heap.size + 1) s false _ r0 hs)
  go_enter Try.func21, Try.ntmps21
  go_wp2_with fail
  refine N1.out.mono ?_
  rintro e w1 ⟨n', r', b1, rfl, hr1, f1, hread, hn, hrs⟩
  have hread := hread.1 rfl
  rw [ho] at hread
  obtain ⟨hn1, hr2, hb2⟩ := hread
  have hn1 : 5 = n' := hn1.symm
  have hr2 : r = r' := hr2.symm
  subst hn1 hr2 hb2
  have d0 : OfIn w w1.heap.size (newI 5) (.slice none 0 0) (.slice none 0 0) (.slice none 0 0) r false (w1.alloc (.cells #[.int .i64 5, .string ⟨#[]⟩, .slice none 0 0, .slice none 0 0, .slice none 0 0] 33)) := by
    have hz := f1.size
    simp at hz
    refine ⟨((Whole.new w _ _).alloc _ |>.fr f1 (by simp)).alloc _, Whole.alloc hr1 _, ⟨Whole.new w1 _ _, World.ownsRow_nil _ _ _ _, ⟨rfl, .inl ⟨rfl, rfl⟩⟩, ⟨rfl, .inl ⟨rfl, rfl⟩⟩⟩, by omega, by simp, ?_, newI_small _ (by omega)⟩
    exact ((((Fr.refl [] w).alloc _).alloc _).step f1 (by intro k hk; simp at hk; subst hk; exact .inr (by omega))).alloc _
  have D0 := Lib.hid d0
  have x0 : World.cell? _ ⟨w1.heap.size, 0, none⟩ = some (Value.int .i64 5) := d0.gr.whole.cell 0
  have e0 := Whole.cell d0.rd 0
  have e1 := Whole.cell d0.rd 1
  clear d0 hr1 f1 N1 r0
  have HR := Lib.hid (read1_some ho)
  clear ho
  have N2 := Lib.hid (fun W (hW : Tk W (w.heap.size + 1) r false) => tkOne_any (w.heap.size + 1) r false W hW (by omega))
  go_wp2_with fail
  refine (I.out _).mono ?_
  rintro e w2 ⟨rfl, rfl⟩
  go_wp2_with fail
  refine (N2.out _ D0.out.rd).mono ?_
  rintro e w2 ⟨m, r2, b2, rfl, hr2, f2, hread2, hm, hrs2⟩
  have D2 := Lib.hid (D0.out.read hr2 f2)
  have HR2 := Lib.hid (hread2.1 rfl)
  clear hr2 f2 x0 e0 e1 hread2 D0 N2 I
  go_wp2
  go_loopg [7] (2 * m) (fun gh sv wr => ∃ (j i : Nat) (x : Itm) (v1 v2 v3 : Value) (s' : ByteArray) (b' : Bool), gh = 2 * j ∧ sv = .int .i64 i ∧ i + j = m ∧ x.kind = 5 ∧ many x + j ≤ 255 ∧ s'.size ≤ 281474976710656 ∧ LoopR j m x (newI 5) s' r2 b2 b' ∧ OfIn w w1.heap.size x v1 v2 v3 s' b' wr)
  case atStart => exact ⟨m, 0, newI 5, _, _, _, r2, b2, rfl, rfl, by omega, rfl, by show 0 + 0 + 0 + m ≤ 255; omega, by omega, loopR_start _ _ _ _, D2.out⟩
  clear D2
  case round =>
  obtain ⟨j, i, x, v1, v2, v3, s', b', rfl, rfl, hij, hxk, hmj, hss, hloop, hD⟩ := hrel
  have HL := Lib.hid hloop
  have D3 := Lib.hid hD
  have HXK := Lib.hid hxk
  have e0 := Whole.cell D3.out.rd 0
  have e1 := Whole.cell D3.out.rd 1
  clear hloop hD hxk
  cases b'
  · rcases j with _ | j
    · clear e0 e1
      obtain rfl : i = m := by omega
      by_cases hz : s'.size = 0
      · obtain rfl := nilOf hz
        have HDEC := Lib.hid ((dec_els HR.out ⟨by omega, by omega⟩ HR2.out HL.out).trans (if_pos rfl))
        clear hz HL HR HR2
        obtain ⟨A1, c1, rfl⟩ := sl_form (own_sl D3.out.gr.o1)
        obtain ⟨A2, c2, rfl⟩ := sl_form (own_sl D3.out.gr.o2)
        obtain ⟨A3, c3, rfl⟩ := sl_form (own_sl D3.out.gr.o3)
        obtain ⟨a0, a1, a2, a3, a4⟩ := five D3.out.out
        obtain ⟨b0, b2, b3, b4, b5⟩ := fiveF D3.out.out
        have e0 := Whole.cell D3.out.rd 0
        have e1 := Whole.cell D3.out.rd 1
        have x0 : World.cell? _ ⟨w1.heap.size, 0, none⟩ = some (.int .i64 x.kind : Value) := D3.out.gr.whole.cell 0
        have x1 : World.cell? _ ⟨w1.heap.size, 1, none⟩ = some (.string x.text : Value) := D3.out.gr.whole.cell 1
        have x2 : World.cell? _ ⟨w1.heap.size, 2, none⟩ = some (.slice A1 x.list.length c1 : Value) := D3.out.gr.whole.cell 2
        have x3 : World.cell? _ ⟨w1.heap.size, 3, none⟩ = some (.slice A2 x.pairs.length c2 : Value) := D3.out.gr.whole.cell 3
        have x4 : World.cell? _ ⟨w1.heap.size, 4, none⟩ = some (.slice A3 x.scores.length c3 : Value) := D3.out.gr.whole.cell 4
        have C := Lib.hid (fun W (hD : OfIn w w1.heap.size x (.slice A1 x.list.length c1) (.slice A2 x.pairs.length c2) (.slice A3 x.scores.length c3) ⟨#[]⟩ false W) => refCheck_any x (.agg #[.int .i64 x.kind, .string x.text, .slice A1 x.list.length c1, .slice A2 x.pairs.length c2, .slice A3 x.scores.length c3]) W W.heap.size hD.small (Nat.le_refl _) hD.val.item)
        have HC2 := Lib.hid (fun hc => dec_bad HDEC.out hc)
        have HC3 := Lib.hid (fun hc => dec_ok HDEC.out hc)
        generalize checkItm x = c at *
        by_cases hc : c = 0
        · subst hc
          have N := Lib.hid (HC3.out rfl)
          go_wp2_with fail
          refine (C.out _ D3.out).mono ?_
          rintro e w9 ⟨rfl, f9⟩
          have D9 := Lib.hid (D3.out.fr0 f9)
          clear a0 a1 a2 a3 a4 b0 b2 b3 b4 b5 e0 e1 x0 x1 x2 x3 x4
          obtain ⟨a0, a1, a2, a3, a4⟩ := five D9.out.out
          obtain ⟨b0, b2, b3, b4, b5⟩ := fiveF D9.out.out
          have e0 := Whole.cell D9.out.rd 0
          have e1 := Whole.cell D9.out.rd 1
          have x0 : World.cell? _ ⟨w1.heap.size, 0, none⟩ = some (.int .i64 x.kind : Value) := D9.out.gr.whole.cell 0
          have x1 : World.cell? _ ⟨w1.heap.size, 1, none⟩ = some (.string x.text : Value) := D9.out.gr.whole.cell 1
          have x2 : World.cell? _ ⟨w1.heap.size, 2, none⟩ = some (.slice A1 x.list.length c1 : Value) := D9.out.gr.whole.cell 2
          have x3 : World.cell? _ ⟨w1.heap.size, 3, none⟩ = some (.slice A2 x.pairs.length c2 : Value) := D9.out.gr.whole.cell 3
          have x4 : World.cell? _ ⟨w1.heap.size, 4, none⟩ = some (.slice A3 x.scores.length c3 : Value) := D9.out.gr.whole.cell 4
          go_wp2
          refine bodyPost_ret (v := .tuple #[.agg #[.int .i64 x.kind, .string x.text, .slice A1 x.list.length c1, .slice A2 x.pairs.length c2, .slice A3 x.scores.length c3], .int .i64 0]) (by simp [results, Try.results21, go_sem, a0, a1, a2, a3, a4]) rfl ?_
          refine ⟨_, by rw [N.out.1], by rw [N.out.2]; exact D9.out.val5 _ _ _ _ _, D9.out.end5 _ _ _ _ _⟩
        · have q : (c != 0) = true := by simpa using hc
          have N := Lib.hid (HC2.out hc)
          clear hc
          go_wp2_with fail
          refine (C.out _ D3.out).mono ?_
          rintro e w9 ⟨rfl, f9⟩
          have D9 := Lib.hid (D3.out.fr0 f9)
          clear a0 a1 a2 a3 a4 b0 b2 b3 b4 b5 e0 e1 x0 x1 x2 x3 x4
          obtain ⟨a0, a1, a2, a3, a4⟩ := five D9.out.out
          obtain ⟨b0, b2, b3, b4, b5⟩ := fiveF D9.out.out
          have e0 := Whole.cell D9.out.rd 0
          have e1 := Whole.cell D9.out.rd 1
          go_wp2
          refine bodyPost_ret (v := .tuple #[.agg #[.int .i64 0, .string ⟨#[]⟩, .slice none 0 0, .slice none 0 0, .slice none 0 0], .int .i64 c]) (by simp [results, Try.results21, go_sem, a0, a1, a2, a3, a4]) rfl ?_
          refine ⟨_, by rw [N.out.1], by rw [N.out.2]; exact ItemO.nothing _ _, D9.out.end5 _ _ _ _ _⟩
      · obtain ⟨yT1, yT2⟩ := neNil hz
        have N := Lib.hid (dec_no ((dec_els HR.out ⟨by omega, by omega⟩ HR2.out HL.out).trans (if_neg hz)))
        clear hz HL HR HR2
        obtain ⟨a0, a1, a2, a3, a4⟩ := five D3.out.out
        obtain ⟨b0, b2, b3, b4, b5⟩ := fiveF D3.out.out
        have e0 := Whole.cell D3.out.rd 0
        have e1 := Whole.cell D3.out.rd 1
        go_wp2
        refine bodyPost_ret (v := .tuple #[.agg #[.int .i64 0, .string ⟨#[]⟩, .slice none 0 0, .slice none 0 0, .slice none 0 0], .int .i64 1]) (by simp [results, Try.results21, go_sem, a0, a1, a2, a3, a4]) rfl ?_
        refine ⟨_, by rw [N.out.1], by rw [N.out.2]; exact ItemO.nothing _ _, D3.out.end5 _ _ _ _ _⟩
    · skip
      have hj : (i : Int) < (m : Int) := by omega
      have hgt := D3.out.lt
      have hgl := D3.out.le
      have x0 : wr.cell? ⟨w1.heap.size, 0, none⟩ = some (.int .i64 5) := by
        have := D3.out.gr.whole.cell 0
        rw [HXK.out] at this
        exact this
      obtain ⟨wo, rfl⟩ : ∃ wo, wo = wr := ⟨_, rfl⟩
      obtain ⟨ii0, hi, hz0, hz1, hz2⟩ := info_parts scoreInfo
      have T := Lib.hid (fun S' B' W (hS : S'.size ≤ 281474976710656) (hW : Tk W (w.heap.size + 1) S' B') => tkTold_any (w.heap.size + 1) S' B' W hW hS)
      have O := Lib.hid (fun S' B' W (hS : S'.size ≤ 281474976710656) (hW : Tk W (w.heap.size + 1) S' B') => tkOne_any (w.heap.size + 1) S' B' W hW hS)
      have hmm : x.scores.length ≤ 255 := by unfold many at hmj; omega
      have L := Lib.hid D3.out.lim
      have D4 := Lib.hid (D3.out.alloc (.cells #[.int .i64 0, .string ⟨#[]⟩] 84))
      have P4 := Lib.hid (Whole.new wo 84 [.int .i64 0, .string ⟨#[]⟩])
      go_wp2
      clear x0 e0 e1
      go_loopg [10] 8 (fun gk sv wq => ∃ (k c m1 : Nat) (s1 : ByteArray) (b1 : Bool), gk = 2 * k ∧ sv = .int .i64 c ∧ c + k = 4 ∧ m1 < 256 ^ c ∧ s1.size ≤ s'.size ∧ NumR k m1 s1 s' b1 ∧ OfIn w w1.heap.size x v1 v2 v3 s1 b1 wq ∧ Whole wq wo.heap.size 84 [.int .i64 m1, .string ⟨#[]⟩] ∧ wo.heap.size + 1 ≤ wq.heap.size)
      case atStart => exact ⟨4, 0, 0, s', false, rfl, rfl, rfl, by decide, Nat.le_refl _, numR_start s', D4.out, P4.out, by simp⟩
      clear D4 P4
      case round =>
      obtain ⟨k, c, m1, s1, b1, rfl, rfl, hck, hm1, hs1, hnum, hD5, hP5, hzq⟩ := hrel
      have D5 := Lib.hid hD5
      have P5 := Lib.hid hP5
      have HN := Lib.hid hnum
      have HM := Lib.hid hm1
      clear hD5 hP5 hnum hm1
      rcases k with _ | k
      · obtain rfl : c = 4 := by omega
        have hm4 : m1 < 4294967296 := HM.out
        have hw : IntKind.i64.wrap ((m1 : Int) - 999999999) = (m1 : Int) - 999999999 := IntWalk.i64_in _ (by omega)
        have p0 : wr.cell? ⟨wo.heap.size, 0, none⟩ = some (.int .i64 m1) := P5.out.cell 0
        have q0 : wr.frozen? ⟨wo.heap.size, 0, none⟩ = false := P5.out.frozen 0
        have D6 := Lib.hid (D5.out.set L.out (p := ⟨wo.heap.size, 0, none⟩) (Nat.le_refl _) (.int .i64 ((m1 : Int) - 999999999)))
        have P6 := Lib.hid (P5.out.set_ 0 (.int .i64 ((m1 : Int) - 999999999)))
        go_wp2_with fail
        refine (T.out s1 b1 _ (by omega) D6.out.rd).mono ?_
        rintro e w5 ⟨t2, r5, b5, rfl, hr5, f5, hread5, hts2, hrs5⟩
        have hz5 : wr.heap.size ≤ w5.heap.size := by simpa [World.setCell] using f5.size
        have D7 := Lib.hid (D6.out.read hr5 f5)
        have P7 := Lib.hid (P6.out.fr f5 (by simp; omega))
        have p1 : w5.cell? ⟨wo.heap.size, 1, none⟩ = some (.string ⟨#[]⟩) := P7.out.cell 1
        have q1 : w5.frozen? ⟨wo.heap.size, 1, none⟩ = false := P7.out.frozen 1
        have D8 := Lib.hid (D7.out.set L.out (p := ⟨wo.heap.size, 1, none⟩) (Nat.le_refl _) (.string t2))
        have P8 := Lib.hid (P7.out.set_ 1 (.string t2))
        have y0 : (w5.setCell ⟨wo.heap.size, 1, none⟩ (.string t2)).cell? ⟨wo.heap.size, 0, none⟩ = some (.int .i64 ((m1 : Int) - 999999999)) := P8.out.cell 0
        have y1 : (w5.setCell ⟨wo.heap.size, 1, none⟩ (.string t2)).cell? ⟨wo.heap.size, 1, none⟩ = some (.string t2) := P8.out.cell 1
        have c2 : (w5.setCell ⟨wo.heap.size, 1, none⟩ (.string t2)).cell? ⟨w1.heap.size, 4, none⟩ = some v3 := D8.out.gr.whole.cell 4
        have hown := D8.out.gr.o3
        have HL2 := Lib.hid (loopR_step HL.out (readS HXK.out HN.out hread5))
        clear p0 q0 hr5 f5 D5 D6 D7 P5 P6 hread5
        go_wp2_with (at_builtin; refine wpList_append_own_at _ rfl _ _ 31 rfl (w1.heap.size + 1) 84 ii0 _ 2 24 Try.underlying31 hi hz0 hz1 hz2 rfl (by decide) _ _ _ rfl (hown.alloc _) ⟨w5.heap.size, 0, none⟩ 1 1 [.int .i64 ((m1 : Int) - 999999999), .string t2] rfl rfl ?c1 ?c2 ?c3 ?c4 ?c5 ?_)
        case c1 => exact World.news_of_block (cs := #[.int .i64 ((m1 : Int) - 999999999), .string t2]) (t := 84) (fr := (0, 0)) (by rw [show w5.heap.size = (w5.setCell ⟨wo.heap.size, 1, none⟩ (.string t2)).heap.size by simp [World.setCell]]; exact heap_alloc_new _ _)
        case c2 => simp [Value.oneCell']
        case c3 => unfold maxLen; omega
        case c4 => omega
        case c5 => simp [World.setCell]; omega
        intro v' w6 hown' hgrow _ hat
        have W6 : Whole w6 w1.heap.size 33 [.int .i64 x.kind, .string x.text, v1, v2, v3] := (D8.out.gr.whole.alloc _).grown hgrow (fun e => own_ne hown D8.out.gr.whole (by decide) e.symm)
        have d3 : w6.cell? ⟨w1.heap.size, 4, none⟩ = some v3 := W6.cell 4
        have z3 : w6.frozen? ⟨w1.heap.size, 4, none⟩ = false := W6.frozen 4
        obtain ⟨g', cap, rfl⟩ := slice_of_own hown'
        have D9 := Lib.hid (D8.out.scores (by omega) (by omega) hts2 hown' hgrow W6)
        clear W6 hgrow hown' hown hat y0 y1 c2
        go_wp2
        go_roundg (2 * j)
        case measure => omega
        case rel => exact ⟨j, i + 1, { x with scores := x.scores ++ [((m1 : Int) - 999999999, t2)] }, _, _, _, r5, b5, rfl, by simp, by omega, HXK.out, by unfold many at hmj ⊢; simp; omega, by omega, HL2.out, D9.out⟩
      · skip
        have hc3 : m1 ≤ 16777215 := by
          have h := HM.out
          have : 256 ^ c ≤ 256 ^ 3 := Nat.pow_le_pow_right (by decide) (by omega)
          have e : (256 : Nat) ^ 3 = 16777216 := rfl
          omega
        have hlt : (c : Int) < 4 := by omega
        have p0 : wr.cell? ⟨wo.heap.size, 0, none⟩ = some (.int .i64 m1) := P5.out.cell 0
        go_wp2_with fail
        go_region_law (go_simp; go_at_call 62; (refine (O.out s1 b1 _ ?hs ?hr).mono ?_); (case hs => omega); (case hr => exact D5.out.rd); (rintro e w4 ⟨n4, r4, b4, rfl, hr4, f4, hread4, hn4, hrs4⟩); have f5 : Fr [w.heap.size + 1] wr w4 := ⟨f4.os, f4.tape, f4.output, f4.size, f4.block⟩; have hz4 := f5.size; have D6 := Lib.hid (D5.out.read hr4 f5); have P6 := Lib.hid (P5.out.fr f5 (by simp; omega)); have p1 : w4.cell? ⟨wo.heap.size, 0, none⟩ = some (.int .i64 m1) := P6.out.cell 0; have q1 : w4.frozen? ⟨wo.heap.size, 0, none⟩ = false := P6.out.frozen 0; have HR4 := Lib.hid hread4; clear hr4 f4 hread4)
        all_goals
          have D7 := Lib.hid (D6.out.set L.out (p := ⟨wo.heap.size, 0, none⟩) (Nat.le_refl _) (.int .i64 ((256 * m1 + n4 : Nat) : Int)))
          have P7 := Lib.hid (P6.out.set_ 0 (.int .i64 ((256 * m1 + n4 : Nat) : Int)))
          go_wp2
          go_roundg (2 * k)
          case measure => omega
          case rel => exact ⟨k, c + 1, 256 * m1 + n4, r4, b4, rfl, by simp, by omega, (by have h := HM.out; rw [Nat.pow_succ]; omega), by omega, numR_step HN.out HR4.out, by simpa using D7.out, by simpa using P7.out, by simp [World.setCell]; omega⟩
  · have N := Lib.hid (dec_no (dec_short HR.out ⟨by omega, by omega⟩ HR2.out HL.out))
    clear e0 e1 HL HR HR2
    by_cases hj0 : (i : Int) < (m : Int)
    · skip
      obtain ⟨a0, a1, a2, a3, a4⟩ := five D3.out.out
      obtain ⟨b0, b2, b3, b4, b5⟩ := fiveF D3.out.out
      have e0 := Whole.cell D3.out.rd 0
      have e1 := Whole.cell D3.out.rd 1
      go_wp2
      refine bodyPost_ret (v := .tuple #[.agg #[.int .i64 0, .string ⟨#[]⟩, .slice none 0 0, .slice none 0 0, .slice none 0 0], .int .i64 1]) (by simp [results, Try.results21, go_sem, a0, a1, a2, a3, a4]) rfl ?_
      refine ⟨_, by rw [N.out.1], by rw [N.out.2]; exact ItemO.nothing _ _, D3.out.end5 _ _ _ _ _⟩
    · skip
      obtain ⟨a0, a1, a2, a3, a4⟩ := five D3.out.out
      obtain ⟨b0, b2, b3, b4, b5⟩ := fiveF D3.out.out
      have e0 := Whole.cell D3.out.rd 0
      have e1 := Whole.cell D3.out.rd 1
      go_wp2
      refine bodyPost_ret (v := .tuple #[.agg #[.int .i64 0, .string ⟨#[]⟩, .slice none 0 0, .slice none 0 0, .slice none 0 0], .int .i64 1]) (by simp [results, Try.results21, go_sem, a0, a1, a2, a3, a4]) rfl ?_
      refine ⟨_, by rw [N.out.1], by rw [N.out.2]; exact ItemO.nothing _ _, D3.out.end5 _ _ _ _ _⟩

end Go.Proofs.Ytfkfdmonnebmmaa
