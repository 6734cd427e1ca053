/- The walk of the law's setBegun. (Printed by sets3.py.) -/
import Derived.Test.YtmlmiboihjibiaaSeE
import Derived.Test.YtmlmiboihjibiaaSeI
import Derived.Test.YtmlmiboihjibiaaScG0
import Derived.Test.YtmlmiboihjibiaaItf
set_option linter.unusedVariables false
set_option linter.unusedSimpArgs false
namespace Go.Proofs.Ytmlmiboihjibiaa
open Go.RowKit

def tsL : List ByteArray := [⟨#[98]⟩, ⟨#[97]⟩, ⟨#[98]⟩]
def ts1 : Itm := kindI 3 [⟨#[97]⟩, ⟨#[98]⟩]
def ts2 : Itm := kindI 3 [⟨#[98]⟩]
theorem ts1_small : ts1.Small := kindI_small (by decide) (by decide) (by decide)
theorem ts2_small : ts2.Small := kindI_small (by decide) (by decide) (by decide)
theorem setU_eq {l r : List ByteArray} (hr : rises ltS r = true) (h : ∀ s, s ∈ l ↔ s ∈ r) : setU l = r := rises_ext (setU_rises l) hr (fun s => setU_mem.trans (h s))
theorem ts_addL : addL3 (newI 0) tsL = [⟨#[97]⟩, ⟨#[98]⟩] := setU_eq (by kernel_rfl) (fun s => by
  show s ∈ [] ++ [(⟨#[98]⟩ : ByteArray), ⟨#[97]⟩, ⟨#[98]⟩] ↔ _
  simp only [List.nil_append, List.mem_cons, List.not_mem_nil, or_false]
  constructor
  · rintro (h | h | h)
    · exact .inr h
    · exact .inl h
    · exact .inr h
  · rintro (h | h)
    · exact .inr (.inl h)
    · exact .inl h)
theorem ts_add : add3 (newI 0) tsL = 0 ∧ add3N (newI 0) tsL = 2 ∧ add3Y (newI 0) tsL = ts1 := by
  have h1 : add3 (newI 0) tsL = 0 := by
    unfold add3
    rw [ts_addL]
    rfl
  refine ⟨h1, ?_, ?_⟩
  · unfold add3N
    rw [if_pos h1, ts_addL]
    rfl
  · unfold add3Y
    rw [if_pos h1, ts_addL]
    rfl
theorem ts_rem : asCode 3 ts1 = 0 ∧ remOfK 3 ts1 [⟨#[97]⟩, ⟨#[122]⟩] = 1 ∧ remOfY 3 ts1 [⟨#[97]⟩, ⟨#[122]⟩] = ts2 := ⟨by kernel_rfl, by kernel_rfl, by kernel_rfl⟩
theorem ts_has : (decide (asCode 3 ts1 = 0) && hasT ts1.list ⟨#[98]⟩) = true := by kernel_rfl
theorem ts_code : setsCode [ts1, ts2] = 0 := by kernel_rfl
theorem ts_meet : setsR (meetP [ts1, ts2].length) [ts1, ts2] = [⟨#[98]⟩] := by
  unfold setsR
  rw [if_pos ts_code, show (allT [ts1, ts2]).filter (pick (meetP [ts1, ts2].length) [ts1, ts2]) = [⟨#[98]⟩, ⟨#[98]⟩] from by kernel_rfl]
  exact setU_eq (by kernel_rfl) (fun s => by simp)
theorem ts_join : setsR joinP [ts1, ts2] = [⟨#[97]⟩, ⟨#[98]⟩] := by
  unfold setsR
  rw [if_pos ts_code, show (allT [ts1, ts2]).filter (pick joinP [ts1, ts2]) = [⟨#[97]⟩, ⟨#[98]⟩, ⟨#[98]⟩] from by kernel_rfl]
  exact setU_eq (by kernel_rfl) (fun s => by simp)
theorem ts_less : setsR lessP [ts1, ts2] = [⟨#[97]⟩] := by
  unfold setsR
  rw [if_pos ts_code, show (allT [ts1, ts2]).filter (pick lessP [ts1, ts2]) = [⟨#[97]⟩] from by kernel_rfl]
  exact setU_eq (by kernel_rfl) (fun s => by simp)
theorem items_lit2 {w : World} {x y : Itm} {A1 A2 A3 B1 B2 B3 : Option Addr} {a1 a2 a3 b1 b2 b3 : Nat} (hx : ItemV w w.heap.size (.agg #[.int .i64 x.kind, .string x.text, .slice A1 x.list.length a1, .slice A2 x.pairs.length a2, .slice A3 x.scores.length a3]) x)
    (hy : ItemV w w.heap.size (.agg #[.int .i64 y.kind, .string y.text, .slice B1 y.list.length b1, .slice B2 y.pairs.length b2, .slice B3 y.scores.length b3]) y) :
    ItemsV (w.alloc (.cells #[.int .i64 x.kind, .string x.text, .slice A1 x.list.length a1, .slice A2 x.pairs.length a2, .slice A3 x.scores.length a3, .int .i64 y.kind, .string y.text, .slice B1 y.list.length b1, .slice B2 y.pairs.length b2, .slice B3 y.scores.length b3] 26)) (w.alloc (.cells #[.int .i64 x.kind, .string x.text, .slice A1 x.list.length a1, .slice A2 x.pairs.length a2, .slice A3 x.scores.length a3, .int .i64 y.kind, .string y.text, .slice B1 y.list.length b1, .slice B2 y.pairs.length b2, .slice B3 y.scores.length b3] 26)).heap.size (.slice (some ⟨w.heap.size, 0, none⟩) 2 2) [x, y] := by
  have up : ∀ {v z}, ItemV w w.heap.size v z → ItemV (w.alloc (.cells #[.int .i64 x.kind, .string x.text, .slice A1 x.list.length a1, .slice A2 x.pairs.length a2, .slice A3 x.scores.length a3, .int .i64 y.kind, .string y.text, .slice B1 y.list.length b1, .slice B2 y.pairs.length b2, .slice B3 y.scores.length b3] 26)) (w.alloc (.cells #[.int .i64 x.kind, .string x.text, .slice A1 x.list.length a1, .slice A2 x.pairs.length a2, .slice A3 x.scores.length a3, .int .i64 y.kind, .string y.text, .slice B1 y.list.length b1, .slice B2 y.pairs.length b2, .slice B3 y.scores.length b3] 26)).heap.size v z := fun h => (h.fr ((Fr.refl [] w).alloc _) (Nat.le_refl _) (by simp)).more (by simp)
  refine ⟨_, _, [[.int .i64 x.kind, .string x.text, .slice A1 x.list.length a1, .slice A2 x.pairs.length a2, .slice A3 x.scores.length a3], [.int .i64 y.kind, .string y.text, .slice B1 y.list.length b1, .slice B2 y.pairs.length b2, .slice B3 y.scores.length b3]], rfl, rfl, fun i z hz => ?_, ?_⟩
  · match i with
    | 0 => simp at hz; subst hz; exact ⟨_, rfl, rfl, up hx⟩
    | 1 => simp at hz; subst hz; exact ⟨_, rfl, rfl, up hy⟩
    | i + 2 => simp at hz
  · exact own_sl (World.ownsRow_lit (base := w.heap.size) (e := 26) (size := 5) w #[.int .i64 x.kind, .string x.text, .slice A1 x.list.length a1, .slice A2 x.pairs.length a2, .slice A3 x.scores.length a3, .int .i64 y.kind, .string y.text, .slice B1 y.list.length b1, .slice B2 y.pairs.length b2, .slice B3 y.scores.length b3] 2 (Nat.le_refl _) (by decide) rfl)

set_option maxHeartbeats 8000000 in
set_option maxRecDepth 100000 in
theorem setBegun_any (w : World) : Calls Try.prog 55 #[] w fun e w' => e = .returned (.bool true) ∧ Fr [] w w' := by
  have SMS : ∀ x ∈ [ts1, ts2], x.Small := fun x hx => by
    simp at hx
    rcases hx with rfl | rfl
    · exact ts1_small
    · exact ts2_small
  have AD := Lib.hid (fun (W : World) v u (h : ItemV W W.heap.size v (newI 0)) (k : Sl W W.heap.size 1 (.slice u 3 3) 3 (textsV [⟨#[98]⟩, ⟨#[97]⟩, ⟨#[98]⟩])) => (show Calls Try.prog 45 #[v, .slice u 3 3] W (INPost 2 0 ts1 W) from by
    have := setAdd_any (newI 0) v tsL u 3 W W.heap.size (newI_small 0 (by decide)) (Nat.le_refl _) h (by decide) k
    rw [ts_add.1, ts_add.2.1, ts_add.2.2] at this
    exact this))
  have RM := Lib.hid (fun (W : World) v u (h : ItemV W W.heap.size v ts1) (k : Sl W W.heap.size 1 (.slice u 2 2) 2 (textsV [⟨#[97]⟩, ⟨#[122]⟩])) => (show Calls Try.prog 46 #[v, .slice u 2 2] W (INPost 1 0 ts2 W) from by
    have := setRemove_any ts1 v [⟨#[97]⟩, ⟨#[122]⟩] u 2 W W.heap.size ts1_small (Nat.le_refl _) h (by decide) k
    rw [ts_rem.1, ts_rem.2.1, ts_rem.2.2] at this
    exact this))
  have HH := Lib.hid (fun (W : World) v (h : ItemV W W.heap.size v ts1) => (show Calls Try.prog 47 #[v, .string ⟨#[98]⟩] W (fun e w' => e = .returned (.tuple #[.bool true, .int .i64 0]) ∧ Fr [] W w') from by
    have := setHasOp_any ts1 v ⟨#[98]⟩ W W.heap.size ts1_small (Nat.le_refl _) h
    rw [ts_has, ts_rem.1] at this
    exact this))
  have ME := Lib.hid (fun (W : World) v (h : ItemsV W W.heap.size v [ts1, ts2]) => (show Calls Try.prog 48 #[v] W (SetsPost [⟨#[98]⟩] 0 W) from by
    have := setMeet_any [ts1, ts2] v W W.heap.size SMS (by decide) (Nat.le_refl _) h
    rw [ts_code, ts_meet] at this
    exact this))
  have JO := Lib.hid (fun (W : World) v (h : ItemsV W W.heap.size v [ts1, ts2]) => (show Calls Try.prog 49 #[v] W (SetsPost [⟨#[97]⟩, ⟨#[98]⟩] 0 W) from by
    have := setJoin_any [ts1, ts2] v W W.heap.size SMS (by decide) (Nat.le_refl _) h
    rw [ts_code, ts_join] at this
    exact this))
  have LE := Lib.hid (fun (W : World) v (h : ItemsV W W.heap.size v [ts1, ts2]) => (show Calls Try.prog 50 #[v] W (SetsPost [⟨#[97]⟩] 0 W) from by
    have := setLess_any [ts1, ts2] v W W.heap.size SMS (by decide) (Nat.le_refl _) h
    rw [ts_code, ts_less] at this
    exact this))
  have SB := Lib.hid (fun (W : World) a b c d (h : Sl W W.heap.size 1 (.slice a 1 c) 1 (textsV [⟨#[98]⟩])) (k : Sl W W.heap.size 1 (.slice b 1 d) 1 (textsV [⟨#[98]⟩])) => (show Calls Try.prog 25 #[.slice a 1 c, .slice b 1 d] W (fun e w' => e = .returned (.bool true) ∧ Fr [] W w') from by
    have := sameTexts_any [⟨#[98]⟩] [⟨#[98]⟩] a b c d W.heap.size W (by decide) (by decide) (Nat.le_refl _) h k
    rw [show sameT [⟨#[98]⟩] [⟨#[98]⟩] = true from by simp [sameT]] at this
    exact this))
  have SAB := Lib.hid (fun (W : World) a b c d (h : Sl W W.heap.size 1 (.slice a 2 c) 2 (textsV [⟨#[97]⟩, ⟨#[98]⟩])) (k : Sl W W.heap.size 1 (.slice b 2 d) 2 (textsV [⟨#[97]⟩, ⟨#[98]⟩])) => (show Calls Try.prog 25 #[.slice a 2 c, .slice b 2 d] W (fun e w' => e = .returned (.bool true) ∧ Fr [] W w') from by
    have := sameTexts_any [⟨#[97]⟩, ⟨#[98]⟩] [⟨#[97]⟩, ⟨#[98]⟩] a b c d W.heap.size W (by decide) (by decide) (Nat.le_refl _) h k
    rw [show sameT [⟨#[97]⟩, ⟨#[98]⟩] [⟨#[97]⟩, ⟨#[98]⟩] = true from by simp [sameT]] at this
    exact this))
  have SA := Lib.hid (fun (W : World) a b c d (h : Sl W W.heap.size 1 (.slice a 1 c) 1 (textsV [⟨#[97]⟩])) (k : Sl W W.heap.size 1 (.slice b 1 d) 1 (textsV [⟨#[97]⟩])) => (show Calls Try.prog 25 #[.slice a 1 c, .slice b 1 d] W (fun e w' => e = .returned (.bool true) ∧ Fr [] W w') from by
    have := sameTexts_any [⟨#[97]⟩] [⟨#[97]⟩] a b c d W.heap.size W (by decide) (by decide) (Nat.le_refl _) h k
    rw [show sameT [⟨#[97]⟩] [⟨#[97]⟩] = true from by simp [sameT]] at this
    exact this))
  clear SMS
  have E0 := Lib.hid (Env.start w)
  have ZI := Lib.hid (newI_item w w.heap.size)
  have E1 := Lib.hid (E0.out.item ZI.out)
  go_enter Try.func55, Try.ntmps55
  have E2 := Lib.hid (E1.out.alloc (.cells #[.string ⟨#[98]⟩, .string ⟨#[97]⟩, .string ⟨#[98]⟩] 9))
  have E3 := Lib.hid (E2.out.row (slT_lit3 w ⟨#[98]⟩ ⟨#[97]⟩ ⟨#[98]⟩))
  go_wp2_with fail
  refine (AD.out _ _ _ (E3.out.its _ (.head _)) (E3.out.rs _ (.head _))).mono ?_
  rintro e w1 ⟨v1, rfl, i1, f1⟩
  have E4 := Lib.hid (E3.out.go f1)
  have E5 := Lib.hid (E4.out.item i1.item)
  obtain ⟨P1, p1, P2, p2, P3, p3, rfl⟩ := i1.form
  clear i1
  have E6 := Lib.hid (E5.out.box (.int .i64 ts1.kind) (.string ts1.text) (.slice P1 ts1.list.length p1) (.slice P2 ts1.pairs.length p2) (.slice P3 ts1.scores.length p3))
  obtain ⟨d0, d1, d2, d3, d4⟩ := five (E6.out.bl _ (.head _))
  have E7 := Lib.hid (E6.out.alloc (.cells #[.string ⟨#[97]⟩, .string ⟨#[122]⟩] 9))
  have E8 := Lib.hid (E7.out.row (slT_lit2b w1 _ ⟨#[97]⟩ ⟨#[122]⟩))
  go_wp2_with fail
  refine (RM.out _ _ _ (E8.out.its _ (.head _)) (E8.out.rs _ (.head _))).mono ?_
  rintro e w2 ⟨v2, rfl, i2, f2⟩
  have E9 := Lib.hid (E8.out.go f2)
  clear d0 d1 d2 d3 d4
  have E10 := Lib.hid (E9.out.item i2.item)
  obtain ⟨Q1, q1, Q2, q2, Q3, q3, rfl⟩ := i2.form
  clear i2
  have E11 := Lib.hid (E10.out.box (.int .i64 ts2.kind) (.string ts2.text) (.slice Q1 ts2.list.length q1) (.slice Q2 ts2.pairs.length q2) (.slice Q3 ts2.scores.length q3))
  obtain ⟨d0, d1, d2, d3, d4⟩ := five (E11.out.bl _ (.tail _ (.head _)))
  go_wp2_with fail
  refine (HH.out _ _ (E11.out.its _ (.tail _ (.head _)))).mono ?_
  rintro e w3 ⟨rfl, f3⟩
  have E12 := Lib.hid (E11.out.go f3)
  clear d0 d1 d2 d3 d4
  obtain ⟨d0, d1, d2, d3, d4⟩ := five (E12.out.bl _ (.tail _ (.head _)))
  obtain ⟨g0, g1, g2, g3, g4⟩ := five (E12.out.bl _ (.head _))
  have E13 := Lib.hid (E12.out.alloc (.cells #[.int .i64 ts1.kind, .string ts1.text, .slice P1 ts1.list.length p1, .slice P2 ts1.pairs.length p2, .slice P3 ts1.scores.length p3, .int .i64 ts2.kind, .string ts2.text, .slice Q1 ts2.list.length q1, .slice Q2 ts2.pairs.length q2, .slice Q3 ts2.scores.length q3] 26))
  go_wp2_with fail
  refine (ME.out _ _ (items_lit2 (E12.out.its _ (.tail _ (.head _))) (E12.out.its _ (.head _)))).mono ?_
  rintro e w4 ⟨um, rfl, om, f4⟩
  have E14 := Lib.hid (E13.out.go f4)
  have E15 := Lib.hid (E14.out.row (own_sl om))
  obtain ⟨Am, cm, rfl, -⟩ := own_slice om
  clear om
  clear d0 d1 d2 d3 d4 g0 g1 g2 g3 g4
  obtain ⟨d0, d1, d2, d3, d4⟩ := five (E15.out.bl _ (.tail _ (.head _)))
  obtain ⟨g0, g1, g2, g3, g4⟩ := five (E15.out.bl _ (.head _))
  have E16 := Lib.hid (E15.out.alloc (.cells #[.int .i64 ts1.kind, .string ts1.text, .slice P1 ts1.list.length p1, .slice P2 ts1.pairs.length p2, .slice P3 ts1.scores.length p3, .int .i64 ts2.kind, .string ts2.text, .slice Q1 ts2.list.length q1, .slice Q2 ts2.pairs.length q2, .slice Q3 ts2.scores.length q3] 26))
  go_wp2_with fail
  refine (JO.out _ _ (items_lit2 (E15.out.its _ (.tail _ (.head _))) (E15.out.its _ (.head _)))).mono ?_
  rintro e w5 ⟨uj, rfl, oj, f5⟩
  have E17 := Lib.hid (E16.out.go f5)
  have E18 := Lib.hid (E17.out.row (own_sl oj))
  obtain ⟨Aj, cj, rfl, -⟩ := own_slice oj
  clear oj
  clear d0 d1 d2 d3 d4 g0 g1 g2 g3 g4
  obtain ⟨d0, d1, d2, d3, d4⟩ := five (E18.out.bl _ (.tail _ (.head _)))
  obtain ⟨g0, g1, g2, g3, g4⟩ := five (E18.out.bl _ (.head _))
  have E19 := Lib.hid (E18.out.alloc (.cells #[.int .i64 ts1.kind, .string ts1.text, .slice P1 ts1.list.length p1, .slice P2 ts1.pairs.length p2, .slice P3 ts1.scores.length p3, .int .i64 ts2.kind, .string ts2.text, .slice Q1 ts2.list.length q1, .slice Q2 ts2.pairs.length q2, .slice Q3 ts2.scores.length q3] 26))
  go_wp2_with fail
  refine (LE.out _ _ (items_lit2 (E18.out.its _ (.tail _ (.head _))) (E18.out.its _ (.head _)))).mono ?_
  rintro e w6 ⟨uk, rfl, ok, f6⟩
  have E20 := Lib.hid (E19.out.go f6)
  have E21 := Lib.hid (E20.out.row (own_sl ok))
  obtain ⟨Ak, ck, rfl, -⟩ := own_slice ok
  clear ok
  clear d0 d1 d2 d3 d4 g0 g1 g2 g3 g4
  have E22 := Lib.hid (E21.out.alloc (.cells #[.string ⟨#[98]⟩] 9))
  have E23 := Lib.hid (E22.out.row (slT_lit1 w6 ⟨#[98]⟩))
  go_wp2_with fail
  refine (SB.out _ _ _ _ _ (E23.out.rs _ (.tail _ (.tail _ (.tail _ (.head _))))) (E23.out.rs _ (.head _))).mono ?_
  rintro e w7 ⟨rfl, f7⟩
  have E24 := Lib.hid (E23.out.go f7)
  have E25 := Lib.hid (E24.out.alloc (.cells #[.string ⟨#[97]⟩, .string ⟨#[98]⟩] 9))
  have E26 := Lib.hid (E25.out.row (slT_lit2 w7 ⟨#[97]⟩ ⟨#[98]⟩))
  go_wp2_with fail
  refine (SAB.out _ _ _ _ _ (E26.out.rs _ (.tail _ (.tail _ (.tail _ (.head _))))) (E26.out.rs _ (.head _))).mono ?_
  rintro e w8 ⟨rfl, f8⟩
  have E27 := Lib.hid (E26.out.go f8)
  have E28 := Lib.hid (E27.out.alloc (.cells #[.string ⟨#[97]⟩] 9))
  have E29 := Lib.hid (E28.out.row (slT_lit1 w8 ⟨#[97]⟩))
  go_wp2_with fail
  refine (SA.out _ _ _ _ _ (E29.out.rs _ (.tail _ (.tail _ (.tail _ (.head _))))) (E29.out.rs _ (.head _))).mono ?_
  rintro e w9 ⟨rfl, f9⟩
  have E30 := Lib.hid (E29.out.go f9)
  go_wp2
  go_ret
  exact ⟨rfl, E30.out.f⟩
end Go.Proofs.Ytmlmiboihjibiaa
