/- The walk of the reference's ItemOf, first: nothing told, another kind, a text. -/
import Derived.Test.YtfkfdmonnebmmaaItemOa
import Derived.Test.YtfkfdmonnebmmaaItemRc
set_option linter.unusedVariables false
set_option linter.unusedSimpArgs false
namespace Go.Proofs.Ytfkfdmonnebmmaa
open Go.RowKit

theorem decN_none {s : ByteArray} (h : oneB s = none) : decItm s = none := by unfold decItm; rw [h]; rfl
theorem read1_some {s r : ByteArray} {n : Nat} (h : oneB s = some (n, r)) : Read1 (oneB s) n r false false := by rw [h]; exact ⟨rfl, rfl, rfl⟩

set_option maxHeartbeats 2000000 in
set_option maxRecDepth 100000 in
theorem itemOf_none (s : ByteArray) (w : World) (hs : s.size ≤ 281474976710656) (ho : oneB s = none) : Calls Try.prog 21 #[.string s] w (DecPost s w) := by
  have N := Lib.hid (dec_no (decN_none ho))
  have r0 : Tk ((w.alloc (.cells #[.int .i64 0, .string ⟨#[]⟩, .slice none 0 0, .slice none 0 0, .slice none 0 0] 33)).alloc (.cells #[.string s, .bool false] 89)) (w.heap.size + 1) s false := by
    have := Whole.new (w.alloc (.cells #[.int .i64 0, .string ⟨#[]⟩, .slice none 0 0, .slice none 0 0, .slice none 0 0] 33)) 89 [.string s, .bool false]
    simpa [Tk] using this
  have N1 := Lib.hid (tkOne_any (w.heap.size + 1) s false _ r0 hs)
  go_enter Try.func21, Try.ntmps21
  go_wp2_with fail
  refine N1.out.mono ?_
  rintro e w1 ⟨n', r', b1, rfl, hr1, f1, hread, hn, hrs⟩
  have hread := hread.1 rfl
  rw [ho] at hread
  have hb1 : b1 = true := hread
  subst hb1
  have d0 : OfIn w w1.heap.size (newI n') (.slice none 0 0) (.slice none 0 0) (.slice none 0 0) r' true (w1.alloc (.cells #[.int .i64 n', .string ⟨#[]⟩, .slice none 0 0, .slice none 0 0, .slice none 0 0] 33)) := by
    have hz := f1.size
    simp at hz
    refine ⟨((Whole.new w _ _).alloc _ |>.fr f1 (by simp)).alloc _, Whole.alloc hr1 _, ⟨Whole.new w1 _ _, World.ownsRow_nil _ _ _ _, ⟨rfl, .inl ⟨rfl, rfl⟩⟩, ⟨rfl, .inl ⟨rfl, rfl⟩⟩⟩, by omega, by simp, ?_, newI_small _ (by omega)⟩
    exact ((((Fr.refl [] w).alloc _).alloc _).step f1 (by intro k hk; simp at hk; subst hk; exact .inr (by omega))).alloc _
  have D0 := Lib.hid d0
  have x0 : World.cell? _ ⟨w1.heap.size, 0, none⟩ = some (Value.int .i64 (n' : Int)) := d0.gr.whole.cell 0
  have e0 := Whole.cell d0.rd 0
  have e1 := Whole.cell d0.rd 1
  clear d0 hread hr1 f1 N1 r0
  clear x0 e0 e1 ho
  obtain ⟨a0, a1, a2, a3, a4⟩ := five D0.out.out
  obtain ⟨b0, b2, b3, b4, b5⟩ := fiveF D0.out.out
  have e0 := Whole.cell D0.out.rd 0
  have e1 := Whole.cell D0.out.rd 1
  go_wp2
  refine bodyPost_ret (v := .tuple #[.agg #[.int .i64 0, .string ⟨#[]⟩, .slice none 0 0, .slice none 0 0, .slice none 0 0], .int .i64 1]) (by simp [results, Try.results21, go_sem, a0, a1, a2, a3, a4]) rfl ?_
  refine ⟨_, by rw [N.out.1], by rw [N.out.2]; exact ItemO.nothing _ _, D0.out.end5 _ _ _ _ _⟩

set_option maxHeartbeats 2000000 in
set_option maxRecDepth 100000 in
theorem itemOf_other (s : ByteArray) (w : World) (hs : s.size ≤ 281474976710656) (n : Nat) (r : ByteArray) (ho : oneB s = some (n, r)) (hk : ¬ (1 ≤ n ∧ n ≤ 5)) : Calls Try.prog 21 #[.string s] w (DecPost s w) := by
  have N := Lib.hid (dec_no (dec_other (read1_some ho) (by omega) (by omega)))
  have I := Lib.hid (fun W => between_any (n : Int) 1 5 W)
  rw [show (decide (1 ≤ (n : Int)) && decide ((n : Int) ≤ 5)) = false by simp; omega] at I
  have r0 : Tk ((w.alloc (.cells #[.int .i64 0, .string ⟨#[]⟩, .slice none 0 0, .slice none 0 0, .slice none 0 0] 33)).alloc (.cells #[.string s, .bool false] 89)) (w.heap.size + 1) s false := by
    have := Whole.new (w.alloc (.cells #[.int .i64 0, .string ⟨#[]⟩, .slice none 0 0, .slice none 0 0, .slice none 0 0] 33)) 89 [.string s, .bool false]
    simpa [Tk] using this
  have N1 := Lib.hid (tkOne_any (w.heap.size + 1) s false _ r0 hs)
  go_enter Try.func21, Try.ntmps21
  go_wp2_with fail
  refine N1.out.mono ?_
  rintro e w1 ⟨n', r', b1, rfl, hr1, f1, hread, hn, hrs⟩
  have hread := hread.1 rfl
  rw [ho] at hread
  obtain ⟨hn1, hr2, hb2⟩ := hread
  have hn1 : n = n' := hn1.symm
  have hr2 : r = r' := hr2.symm
  subst hn1 hr2 hb2
  have d0 : OfIn w w1.heap.size (newI n) (.slice none 0 0) (.slice none 0 0) (.slice none 0 0) r false (w1.alloc (.cells #[.int .i64 n, .string ⟨#[]⟩, .slice none 0 0, .slice none 0 0, .slice none 0 0] 33)) := by
    have hz := f1.size
    simp at hz
    refine ⟨((Whole.new w _ _).alloc _ |>.fr f1 (by simp)).alloc _, Whole.alloc hr1 _, ⟨Whole.new w1 _ _, World.ownsRow_nil _ _ _ _, ⟨rfl, .inl ⟨rfl, rfl⟩⟩, ⟨rfl, .inl ⟨rfl, rfl⟩⟩⟩, by omega, by simp, ?_, newI_small _ (by omega)⟩
    exact ((((Fr.refl [] w).alloc _).alloc _).step f1 (by intro k hk; simp at hk; subst hk; exact .inr (by omega))).alloc _
  have D0 := Lib.hid d0
  have x0 : World.cell? _ ⟨w1.heap.size, 0, none⟩ = some (Value.int .i64 (n : Int)) := d0.gr.whole.cell 0
  have e0 := Whole.cell d0.rd 0
  have e1 := Whole.cell d0.rd 1
  clear d0 hr1 f1 N1 r0
  clear hk ho
  go_wp2_with fail
  refine (I.out _).mono ?_
  rintro e w2 ⟨rfl, rfl⟩
  clear x0 e0 e1
  obtain ⟨a0, a1, a2, a3, a4⟩ := five D0.out.out
  obtain ⟨b0, b2, b3, b4, b5⟩ := fiveF D0.out.out
  have e0 := Whole.cell D0.out.rd 0
  have e1 := Whole.cell D0.out.rd 1
  go_wp2
  refine bodyPost_ret (v := .tuple #[.agg #[.int .i64 0, .string ⟨#[]⟩, .slice none 0 0, .slice none 0 0, .slice none 0 0], .int .i64 1]) (by simp [results, Try.results21, go_sem, a0, a1, a2, a3, a4]) rfl ?_
  refine ⟨_, by rw [N.out.1], by rw [N.out.2]; exact ItemO.nothing _ _, D0.out.end5 _ _ _ _ _⟩

set_option maxHeartbeats 2000000 in
set_option maxRecDepth 100000 in
theorem itemOf_text (s : ByteArray) (w : World) (hs : s.size ≤ 281474976710656) (r : ByteArray) (ho : oneB s = some (1, r)) : Calls Try.prog 21 #[.string s] w (DecPost s w) := by
  have HDEC := Lib.hid (dec_text (read1_some ho) rfl)
  have I := Lib.hid (fun W => between_any (1 : Int) 1 5 W)
  rw [show (decide ((1 : Int) ≤ 1) && decide ((1 : Int) ≤ 5)) = true from rfl] at I
  have r0 : Tk ((w.alloc (.cells #[.int .i64 0, .string ⟨#[]⟩, .slice none 0 0, .slice none 0 0, .slice none 0 0] 33)).alloc (.cells #[.string s, .bool false] 89)) (w.heap.size + 1) s false := by
    have := Whole.new (w.alloc (.cells #[.int .i64 0, .string ⟨#[]⟩, .slice none 0 0, .slice none 0 0, .slice none 0 0] 33)) 89 [.string s, .bool false]
    simpa [Tk] using this
  have N1 := Lib.hid (tkOne_any (w.heap.size + 1) s false _ r0 hs)
  go_enter Try.func21, Try.ntmps21
  go_wp2_with fail
  refine N1.out.mono ?_
  rintro e w1 ⟨n', r', b1, rfl, hr1, f1, hread, hn, hrs⟩
  have hread := hread.1 rfl
  rw [ho] at hread
  obtain ⟨hn1, hr2, hb2⟩ := hread
  have hn1 : 1 = n' := hn1.symm
  have hr2 : r = r' := hr2.symm
  subst hn1 hr2 hb2
  have d0 : OfIn w w1.heap.size (newI 1) (.slice none 0 0) (.slice none 0 0) (.slice none 0 0) r false (w1.alloc (.cells #[.int .i64 1, .string ⟨#[]⟩, .slice none 0 0, .slice none 0 0, .slice none 0 0] 33)) := by
    have hz := f1.size
    simp at hz
    refine ⟨((Whole.new w _ _).alloc _ |>.fr f1 (by simp)).alloc _, Whole.alloc hr1 _, ⟨Whole.new w1 _ _, World.ownsRow_nil _ _ _ _, ⟨rfl, .inl ⟨rfl, rfl⟩⟩, ⟨rfl, .inl ⟨rfl, rfl⟩⟩⟩, by omega, by simp, ?_, newI_small _ (by omega)⟩
    exact ((((Fr.refl [] w).alloc _).alloc _).step f1 (by intro k hk; simp at hk; subst hk; exact .inr (by omega))).alloc _
  have D0 := Lib.hid d0
  have x0 : World.cell? _ ⟨w1.heap.size, 0, none⟩ = some (Value.int .i64 1) := d0.gr.whole.cell 0
  have e0 := Whole.cell d0.rd 0
  have e1 := Whole.cell d0.rd 1
  clear d0 hr1 f1 N1 r0
  clear ho
  have T := Lib.hid (fun W (hW : Tk W (w.heap.size + 1) r false) => tkText_any (w.heap.size + 1) r.size r false W hW (by omega) (by omega))
  rw [show takeB r.size r = some (r, ⟨#[]⟩) by unfold takeB; rw [if_neg (by omega), extract_all, extract_none]] at T
  go_wp2_with fail
  refine (I.out _).mono ?_
  rintro e w2 ⟨rfl, rfl⟩
  go_wp2_with fail
  refine (T.out _ D0.out.rd).mono ?_
  rintro e w2 ⟨t, r2, b2, rfl, hr2, f2, hread, ht, hrs2, hlast⟩
  obtain ⟨h1, h2, h3⟩ := hread.1 rfl
  have h1 : r = t := h1.symm
  have h2 : (⟨#[]⟩ : ByteArray) = r2 := h2.symm
  subst h1 h2 h3
  have d2 := D0.out.read hr2 f2
  have y1 : World.cell? _ ⟨w1.heap.size, 1, none⟩ = some (Value.string ⟨#[]⟩) := d2.gr.whole.cell 1
  have z1 := d2.gr.whole.frozen 1
  have D2 := Lib.hid (d2.text _ ht)
  clear d2 hr2 f2 x0 e0 e1 hlast
  obtain ⟨a0, a1, a2, a3, a4⟩ := five D2.out.out
  obtain ⟨b0, b2, b3, b4, b5⟩ := fiveF D2.out.out
  have e0 := Whole.cell D2.out.rd 0
  have e1 := Whole.cell D2.out.rd 1
  have x0 : World.cell? _ ⟨w1.heap.size, 0, none⟩ = some (.int .i64 1 : Value) := D2.out.gr.whole.cell 0
  have x1 : World.cell? _ ⟨w1.heap.size, 1, none⟩ = some (.string r : Value) := D2.out.gr.whole.cell 1
  have x2 : World.cell? _ ⟨w1.heap.size, 2, none⟩ = some (.slice none 0 0 : Value) := D2.out.gr.whole.cell 2
  have x3 : World.cell? _ ⟨w1.heap.size, 3, none⟩ = some (.slice none 0 0 : Value) := D2.out.gr.whole.cell 3
  have x4 : World.cell? _ ⟨w1.heap.size, 4, none⟩ = some (.slice none 0 0 : Value) := D2.out.gr.whole.cell 4
  have C := Lib.hid (fun W (hD : OfIn w w1.heap.size { newI 1 with text := r } (.slice none 0 0) (.slice none 0 0) (.slice none 0 0) ⟨#[]⟩ false W) => refCheck_any { newI 1 with text := r } (.agg #[.int .i64 1, .string r, .slice none 0 0, .slice none 0 0, .slice none 0 0]) W W.heap.size hD.small (Nat.le_refl _) hD.val.item)
  have HC2 := Lib.hid (fun hc => dec_bad HDEC.out hc)
  have HC3 := Lib.hid (fun hc => dec_ok HDEC.out hc)
  generalize checkItm { newI 1 with text := r } = c at *
  by_cases hc : c = 0
  · subst hc
    have N := Lib.hid (HC3.out rfl)
    go_wp2_with fail
    refine (C.out _ D2.out).mono ?_
    rintro e w9 ⟨rfl, f9⟩
    have D9 := Lib.hid (D2.out.fr0 f9)
    clear a0 a1 a2 a3 a4 b0 b2 b3 b4 b5 e0 e1 x0 x1 x2 x3 x4
    obtain ⟨a0, a1, a2, a3, a4⟩ := five D9.out.out
    obtain ⟨b0, b2, b3, b4, b5⟩ := fiveF D9.out.out
    have e0 := Whole.cell D9.out.rd 0
    have e1 := Whole.cell D9.out.rd 1
    have x0 : World.cell? _ ⟨w1.heap.size, 0, none⟩ = some (.int .i64 1 : Value) := D9.out.gr.whole.cell 0
    have x1 : World.cell? _ ⟨w1.heap.size, 1, none⟩ = some (.string r : Value) := D9.out.gr.whole.cell 1
    have x2 : World.cell? _ ⟨w1.heap.size, 2, none⟩ = some (.slice none 0 0 : Value) := D9.out.gr.whole.cell 2
    have x3 : World.cell? _ ⟨w1.heap.size, 3, none⟩ = some (.slice none 0 0 : Value) := D9.out.gr.whole.cell 3
    have x4 : World.cell? _ ⟨w1.heap.size, 4, none⟩ = some (.slice none 0 0 : Value) := D9.out.gr.whole.cell 4
    go_wp2
    refine bodyPost_ret (v := .tuple #[.agg #[.int .i64 1, .string r, .slice none 0 0, .slice none 0 0, .slice none 0 0], .int .i64 0]) (by simp [results, Try.results21, go_sem, a0, a1, a2, a3, a4]) rfl ?_
    refine ⟨_, by rw [N.out.1], by rw [N.out.2]; exact D9.out.val5 _ _ _ _ _, D9.out.end5 _ _ _ _ _⟩
  · have q : (c != 0) = true := by simpa using hc
    have N := Lib.hid (HC2.out hc)
    clear hc
    go_wp2_with fail
    refine (C.out _ D2.out).mono ?_
    rintro e w9 ⟨rfl, f9⟩
    have D9 := Lib.hid (D2.out.fr0 f9)
    clear a0 a1 a2 a3 a4 b0 b2 b3 b4 b5 e0 e1 x0 x1 x2 x3 x4
    obtain ⟨a0, a1, a2, a3, a4⟩ := five D9.out.out
    obtain ⟨b0, b2, b3, b4, b5⟩ := fiveF D9.out.out
    have e0 := Whole.cell D9.out.rd 0
    have e1 := Whole.cell D9.out.rd 1
    go_wp2
    refine bodyPost_ret (v := .tuple #[.agg #[.int .i64 0, .string ⟨#[]⟩, .slice none 0 0, .slice none 0 0, .slice none 0 0], .int .i64 c]) (by simp [results, Try.results21, go_sem, a0, a1, a2, a3, a4]) rfl ?_
    refine ⟨_, by rw [N.out.1], by rw [N.out.2]; exact ItemO.nothing _ _, D9.out.end5 _ _ _ _ _⟩
end Go.Proofs.Ytfkfdmonnebmmaa
