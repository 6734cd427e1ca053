/- The walks of set.Meet, Join, Less. The walk of the law's setBegun. (Printed by sets3.py.) What the law RestItems holds in a round: blocks, items and rows that read, and what may be written over. No walk. -/
import Derived.Test.YtkgbgmfidkimfaaGreatMgRestItemsUpto21
import Derived.Test.YtkgbgmfidkimfaaGreatMgRestItemsUpto20
import Derived.Test.YtkgbgmfidkimfaaGreatMgRestItemsUpto2
import Derived.Test.YtkgbgmfidkimfaaGreatItf
import Derived.Test.YtkgbgmfidkimfaaGreatItE
set_option linter.unusedVariables false
set_option linter.unusedSimpArgs false
namespace Go.Proofs.YtkgbgmfidkimfaaGreat
open Go.RowKit

def meetP (m : Nat) (n : Nat) (_ : Bool) : Bool := decide (n = m)
def joinP (_ : Nat) (_ : Bool) : Bool := true
def lessP (n : Nat) (b : Bool) : Bool := b && decide (n = 1)

theorem meetP_any (l : List Itm) (A : Option Addr) (c g m : Nat) (n : Nat) (b : Bool) (w : World) (hm : m = l.length) (hl : l.length ≤ 281474976710656) (hg : w.cell? ⟨g, 0, none⟩ = some (.slice A l.length c)) :
    Calls Tryz.prog 58 (#[.int .i64 n, .bool b] ++ #[.pointer (some ⟨g, 0, none⟩)]) w fun e w' => e = .returned (.bool (meetP m n b)) ∧ Fr [] w w' := by
  subst hm
  by_cases h : n = l.length
  · have E : meetP l.length n b = true := decide_eq_true h
    have q : ((n : Int) == (l.length : Int)) = true := by simp [h]
    rw [E]
    clear h E
    go_enter Tryz.func58, Tryz.ntmps58
    go_wp2
    go_ret
    exact ⟨rfl, Fr.refl _ _⟩
  · have E : meetP l.length n b = false := decide_eq_false h
    have q : ((n : Int) == (l.length : Int)) = false := beq_eq_false_iff_ne.2 (by omega)
    rw [E]
    clear h E
    go_enter Tryz.func58, Tryz.ntmps58
    go_wp2
    go_ret
    exact ⟨rfl, Fr.refl _ _⟩
theorem joinP_any (n : Nat) (b : Bool) (w : World) :
    Calls Tryz.prog 59 (#[.int .i64 n, .bool b] ++ #[]) w fun e w' => e = .returned (.bool (joinP n b)) ∧ Fr [] w w' := by
  go_enter Tryz.func59, Tryz.ntmps59
  go_wp2
  go_ret
  exact ⟨rfl, Fr.refl _ _⟩
theorem lessP_any (n : Nat) (b : Bool) (w : World) :
    Calls Tryz.prog 97 (#[.int .i64 n, .bool b] ++ #[]) w fun e w' => e = .returned (.bool (lessP n b)) ∧ Fr [] w w' := by
  cases b with
  | false =>
    rw [show lessP n false = false from rfl]
    go_enter Tryz.func97, Tryz.ntmps97
    go_wp2
    go_ret
    exact ⟨rfl, Fr.refl _ _⟩
  | true =>
    by_cases h : n = 1
    · subst h
      rw [show lessP 1 true = true from rfl]
      go_enter Tryz.func97, Tryz.ntmps97
      go_wp2
      go_ret
      exact ⟨rfl, Fr.refl _ _⟩
    · have E : lessP n true = false := by unfold lessP; rw [decide_eq_false h]; rfl
      have q : ((n : Int) == 1) = false := beq_eq_false_iff_ne.2 (by omega)
      rw [E]
      clear h E
      go_enter Tryz.func97, Tryz.ntmps97
      go_wp2
      go_ret
      exact ⟨rfl, Fr.refl _ _⟩

set_option maxRecDepth 100000 in
theorem setMeet_any (l : List Itm) (v : Value) (w : World) (B : Nat) (hs : ∀ x ∈ l, x.Small) (hl : l.length ≤ 1048576) (hB : B ≤ w.heap.size) (h : ItemsV w B v l) :
    Calls Tryz.prog 19 #[v] w (SetsPost (setsR (meetP l.length) l) (setsCode l) w) := by
  obtain ⟨A, c, rfl⟩ := h.form
  have F1 := Lib.hid ((Fr.refl [] w).alloc (.cells #[.slice A l.length c] 42))
  have W1 := Lib.hid (Whole.new w 42 [.slice A l.length c])
  have SO := Lib.hid (setSome_any 58 #[.pointer (some ⟨w.heap.size, 0, none⟩)] (enters_any Tryz.func58 (by kernel_rfl) rfl) (meetP l.length) l (.slice A l.length c) (w.alloc (.cells #[.slice A l.length c] 42)) B
    (fun W n b hW => meetP_any l A c w.heap.size l.length n b W rfl (by omega) (by
      have := hW.whole W1.out (by simp) (by simp)
      exact this.cell 0)) hs hl (Nat.le_trans hB F1.out.size) (h.fr F1.out hB (by simp)))
  clear h hs
  go_enter Tryz.func19, Tryz.ntmps19
  go_wp2_with fail
  refine SO.out.mono ?_
  rintro e w1 ⟨u, rfl, ho, f1⟩
  have HO := Lib.hid ho
  have FF := Lib.hid (F1.out.trans f1)
  clear ho f1
  go_wp2
  go_ret2
  exact ⟨_, rfl, own_base HO.out (by simp), FF.out⟩
set_option maxRecDepth 100000 in
theorem setJoin_any (l : List Itm) (v : Value) (w : World) (B : Nat) (hs : ∀ x ∈ l, x.Small) (hl : l.length ≤ 1048576) (hB : B ≤ w.heap.size) (h : ItemsV w B v l) :
    Calls Tryz.prog 20 #[v] w (SetsPost (setsR joinP l) (setsCode l) w) := by
  have SO := Lib.hid (setSome_any 59 #[] (enters_any Tryz.func59 (by kernel_rfl) rfl) joinP l v w B (fun W n b hW => joinP_any n b W) hs hl hB h)
  obtain ⟨A, c, rfl⟩ := h.form
  clear h hs
  go_enter Tryz.func20, Tryz.ntmps20
  go_wp2_with fail
  refine SO.out.mono ?_
  rintro e w1 ⟨u, rfl, ho, f1⟩
  have HO := Lib.hid ho
  have FF := Lib.hid f1
  clear ho f1
  go_wp2
  go_ret2
  exact ⟨_, rfl, HO.out, FF.out⟩
set_option maxRecDepth 100000 in
theorem setLess_any (l : List Itm) (v : Value) (w : World) (B : Nat) (hs : ∀ x ∈ l, x.Small) (hl : l.length ≤ 1048576) (hB : B ≤ w.heap.size) (h : ItemsV w B v l) :
    Calls Tryz.prog 35 #[v] w (SetsPost (setsR lessP l) (setsCode l) w) := by
  have SO := Lib.hid (setSome_any 97 #[] (enters_any Tryz.func97 (by kernel_rfl) rfl) lessP l v w B (fun W n b hW => lessP_any n b W) hs hl hB h)
  obtain ⟨A, c, rfl⟩ := h.form
  clear h hs
  go_enter Tryz.func35, Tryz.ntmps35
  go_wp2_with fail
  refine SO.out.mono ?_
  rintro e w1 ⟨u, rfl, ho, f1⟩
  have HO := Lib.hid ho
  have FF := Lib.hid f1
  clear ho f1
  go_wp2
  go_ret2
  exact ⟨_, rfl, HO.out, FF.out⟩
end Go.Proofs.YtkgbgmfidkimfaaGreat

namespace Go.Proofs.YtkgbgmfidkimfaaGreat
open Go.RowKit

def tsL : List ByteArray := [⟨#[98]⟩, ⟨#[97]⟩, ⟨#[98]⟩]
def ts1 : Itm := kindI 3 [⟨#[97]⟩, ⟨#[98]⟩]
def ts2 : Itm := kindI 3 [⟨#[98]⟩]
theorem ts1_small : ts1.Small := kindI_small (by decide) (by decide) (by decide)
theorem ts2_small : ts2.Small := kindI_small (by decide) (by decide) (by decide)
theorem setU_eq {l r : List ByteArray} (hr : rises ltS r = true) (h : ∀ s, s ∈ l ↔ s ∈ r) : setU l = r := rises_ext (setU_rises l) hr (fun s => setU_mem.trans (h s))
theorem ts_addL : addL3 (newI 0) tsL = [⟨#[97]⟩, ⟨#[98]⟩] := setU_eq (by kernel_rfl) (fun s => by
  show s ∈ [] ++ [(⟨#[98]⟩ : ByteArray), ⟨#[97]⟩, ⟨#[98]⟩] ↔ _
  simp only [List.nil_append, List.mem_cons, List.not_mem_nil, or_false]
  constructor
  · rintro (h | h | h)
    · exact .inr h
    · exact .inl h
    · exact .inr h
  · rintro (h | h)
    · exact .inr (.inl h)
    · exact .inl h)
theorem ts_add : add3 (newI 0) tsL = 0 ∧ add3N (newI 0) tsL = 2 ∧ add3Y (newI 0) tsL = ts1 := by
  have h1 : add3 (newI 0) tsL = 0 := by
    unfold add3
    rw [ts_addL]
    rfl
  refine ⟨h1, ?_, ?_⟩
  · unfold add3N
    rw [if_pos h1, ts_addL]
    rfl
  · unfold add3Y
    rw [if_pos h1, ts_addL]
    rfl
theorem ts_rem : asCode 3 ts1 = 0 ∧ remOfK 3 ts1 [⟨#[97]⟩, ⟨#[122]⟩] = 1 ∧ remOfY 3 ts1 [⟨#[97]⟩, ⟨#[122]⟩] = ts2 := ⟨by kernel_rfl, by kernel_rfl, by kernel_rfl⟩
theorem ts_has : (decide (asCode 3 ts1 = 0) && hasT ts1.list ⟨#[98]⟩) = true := by kernel_rfl
theorem ts_code : setsCode [ts1, ts2] = 0 := by kernel_rfl
theorem ts_meet : setsR (meetP [ts1, ts2].length) [ts1, ts2] = [⟨#[98]⟩] := by
  unfold setsR
  rw [if_pos ts_code, show (allT [ts1, ts2]).filter (pick (meetP [ts1, ts2].length) [ts1, ts2]) = [⟨#[98]⟩, ⟨#[98]⟩] from by kernel_rfl]
  exact setU_eq (by kernel_rfl) (fun s => by simp)
theorem ts_join : setsR joinP [ts1, ts2] = [⟨#[97]⟩, ⟨#[98]⟩] := by
  unfold setsR
  rw [if_pos ts_code, show (allT [ts1, ts2]).filter (pick joinP [ts1, ts2]) = [⟨#[97]⟩, ⟨#[98]⟩, ⟨#[98]⟩] from by kernel_rfl]
  exact setU_eq (by kernel_rfl) (fun s => by simp)
theorem ts_less : setsR lessP [ts1, ts2] = [⟨#[97]⟩] := by
  unfold setsR
  rw [if_pos ts_code, show (allT [ts1, ts2]).filter (pick lessP [ts1, ts2]) = [⟨#[97]⟩] from by kernel_rfl]
  exact setU_eq (by kernel_rfl) (fun s => by simp)
theorem items_lit2 {w : World} {x y : Itm} {A1 A2 A3 B1 B2 B3 : Option Addr} {a1 a2 a3 b1 b2 b3 : Nat} (hx : ItemV w w.heap.size (.agg #[.int .i64 x.kind, .string x.text, .slice A1 x.list.length a1, .slice A2 x.pairs.length a2, .slice A3 x.scores.length a3]) x)
    (hy : ItemV w w.heap.size (.agg #[.int .i64 y.kind, .string y.text, .slice B1 y.list.length b1, .slice B2 y.pairs.length b2, .slice B3 y.scores.length b3]) y) :
    ItemsV (w.alloc (.cells #[.int .i64 x.kind, .string x.text, .slice A1 x.list.length a1, .slice A2 x.pairs.length a2, .slice A3 x.scores.length a3, .int .i64 y.kind, .string y.text, .slice B1 y.list.length b1, .slice B2 y.pairs.length b2, .slice B3 y.scores.length b3] 26)) (w.alloc (.cells #[.int .i64 x.kind, .string x.text, .slice A1 x.list.length a1, .slice A2 x.pairs.length a2, .slice A3 x.scores.length a3, .int .i64 y.kind, .string y.text, .slice B1 y.list.length b1, .slice B2 y.pairs.length b2, .slice B3 y.scores.length b3] 26)).heap.size (.slice (some ⟨w.heap.size, 0, none⟩) 2 2) [x, y] := by
  have up : ∀ {v z}, ItemV w w.heap.size v z → ItemV (w.alloc (.cells #[.int .i64 x.kind, .string x.text, .slice A1 x.list.length a1, .slice A2 x.pairs.length a2, .slice A3 x.scores.length a3, .int .i64 y.kind, .string y.text, .slice B1 y.list.length b1, .slice B2 y.pairs.length b2, .slice B3 y.scores.length b3] 26)) (w.alloc (.cells #[.int .i64 x.kind, .string x.text, .slice A1 x.list.length a1, .slice A2 x.pairs.length a2, .slice A3 x.scores.length a3, .int .i64 y.kind, .string y.text, .slice B1 y.list.length b1, .slice B2 y.pairs.length b2, .slice B3 y.scores.length b3] 26)).heap.size v z := fun h => (h.fr ((Fr.refl [] w).alloc _) (Nat.le_refl _) (by simp)).more (by simp)
  refine ⟨_, _, [[.int .i64 x.kind, .string x.text, .slice A1 x.list.length a1, .slice A2 x.pairs.length a2, .slice A3 x.scores.length a3], [.int .i64 y.kind, .string y.text, .slice B1 y.list.length b1, .slice B2 y.pairs.length b2, .slice B3 y.scores.length b3]], rfl, rfl, fun i z hz => ?_, ?_⟩
  · match i with
    | 0 => simp at hz; subst hz; exact ⟨_, rfl, rfl, up hx⟩
    | 1 => simp at hz; subst hz; exact ⟨_, rfl, rfl, up hy⟩
    | i + 2 => simp at hz
  · exact own_sl (World.ownsRow_lit (base := w.heap.size) (e := 26) (size := 5) w #[.int .i64 x.kind, .string x.text, .slice A1 x.list.length a1, .slice A2 x.pairs.length a2, .slice A3 x.scores.length a3, .int .i64 y.kind, .string y.text, .slice B1 y.list.length b1, .slice B2 y.pairs.length b2, .slice B3 y.scores.length b3] 2 (Nat.le_refl _) (by decide) rfl)

set_option maxHeartbeats 8000000 in
set_option maxRecDepth 100000 in
theorem setBegun_any (w : World) : Calls Tryz.prog 6 #[] w fun e w' => e = .returned (.bool true) ∧ Fr [] w w' := by
  have SMS : ∀ x ∈ [ts1, ts2], x.Small := fun x hx => by
    simp at hx
    rcases hx with rfl | rfl
    · exact ts1_small
    · exact ts2_small
  have AD := Lib.hid (fun (W : World) v u (h : ItemV W W.heap.size v (newI 0)) (k : Sl W W.heap.size 1 (.slice u 3 3) 3 (textsV [⟨#[98]⟩, ⟨#[97]⟩, ⟨#[98]⟩])) => (show Calls Tryz.prog 17 #[v, .slice u 3 3] W (INPost 2 0 ts1 W) from by
    have := setAdd_any (newI 0) v tsL u 3 W W.heap.size (newI_small 0 (by decide)) (Nat.le_refl _) h (by decide) k
    rw [ts_add.1, ts_add.2.1, ts_add.2.2] at this
    exact this))
  have RM := Lib.hid (fun (W : World) v u (h : ItemV W W.heap.size v ts1) (k : Sl W W.heap.size 1 (.slice u 2 2) 2 (textsV [⟨#[97]⟩, ⟨#[122]⟩])) => (show Calls Tryz.prog 18 #[v, .slice u 2 2] W (INPost 1 0 ts2 W) from by
    have := setRemove_any ts1 v [⟨#[97]⟩, ⟨#[122]⟩] u 2 W W.heap.size ts1_small (Nat.le_refl _) h (by decide) k
    rw [ts_rem.1, ts_rem.2.1, ts_rem.2.2] at this
    exact this))
  have HH := Lib.hid (fun (W : World) v (h : ItemV W W.heap.size v ts1) => (show Calls Tryz.prog 34 #[v, .string ⟨#[98]⟩] W (fun e w' => e = .returned (.tuple #[.bool true, .int .i64 0]) ∧ Fr [] W w') from by
    have := setHasOp_any ts1 v ⟨#[98]⟩ W W.heap.size ts1_small (Nat.le_refl _) h
    rw [ts_has, ts_rem.1] at this
    exact this))
  have ME := Lib.hid (fun (W : World) v (h : ItemsV W W.heap.size v [ts1, ts2]) => (show Calls Tryz.prog 19 #[v] W (SetsPost [⟨#[98]⟩] 0 W) from by
    have := setMeet_any [ts1, ts2] v W W.heap.size SMS (by decide) (Nat.le_refl _) h
    rw [ts_code, ts_meet] at this
    exact this))
  have JO := Lib.hid (fun (W : World) v (h : ItemsV W W.heap.size v [ts1, ts2]) => (show Calls Tryz.prog 20 #[v] W (SetsPost [⟨#[97]⟩, ⟨#[98]⟩] 0 W) from by
    have := setJoin_any [ts1, ts2] v W W.heap.size SMS (by decide) (Nat.le_refl _) h
    rw [ts_code, ts_join] at this
    exact this))
  have LE := Lib.hid (fun (W : World) v (h : ItemsV W W.heap.size v [ts1, ts2]) => (show Calls Tryz.prog 35 #[v] W (SetsPost [⟨#[97]⟩] 0 W) from by
    have := setLess_any [ts1, ts2] v W W.heap.size SMS (by decide) (Nat.le_refl _) h
    rw [ts_code, ts_less] at this
    exact this))
  have SB := Lib.hid (fun (W : World) a b c d (h : Sl W W.heap.size 1 (.slice a 1 c) 1 (textsV [⟨#[98]⟩])) (k : Sl W W.heap.size 1 (.slice b 1 d) 1 (textsV [⟨#[98]⟩])) => (show Calls Tryz.prog 28 #[.slice a 1 c, .slice b 1 d] W (fun e w' => e = .returned (.bool true) ∧ Fr [] W w') from by
    have := sameTexts_any [⟨#[98]⟩] [⟨#[98]⟩] a b c d W.heap.size W (by decide) (by decide) (Nat.le_refl _) h k
    rw [show sameT [⟨#[98]⟩] [⟨#[98]⟩] = true from by simp [sameT]] at this
    exact this))
  have SAB := Lib.hid (fun (W : World) a b c d (h : Sl W W.heap.size 1 (.slice a 2 c) 2 (textsV [⟨#[97]⟩, ⟨#[98]⟩])) (k : Sl W W.heap.size 1 (.slice b 2 d) 2 (textsV [⟨#[97]⟩, ⟨#[98]⟩])) => (show Calls Tryz.prog 28 #[.slice a 2 c, .slice b 2 d] W (fun e w' => e = .returned (.bool true) ∧ Fr [] W w') from by
    have := sameTexts_any [⟨#[97]⟩, ⟨#[98]⟩] [⟨#[97]⟩, ⟨#[98]⟩] a b c d W.heap.size W (by decide) (by decide) (Nat.le_refl _) h k
    rw [show sameT [⟨#[97]⟩, ⟨#[98]⟩] [⟨#[97]⟩, ⟨#[98]⟩] = true from by simp [sameT]] at this
    exact this))
  have SA := Lib.hid (fun (W : World) a b c d (h : Sl W W.heap.size 1 (.slice a 1 c) 1 (textsV [⟨#[97]⟩])) (k : Sl W W.heap.size 1 (.slice b 1 d) 1 (textsV [⟨#[97]⟩])) => (show Calls Tryz.prog 28 #[.slice a 1 c, .slice b 1 d] W (fun e w' => e = .returned (.bool true) ∧ Fr [] W w') from by
    have := sameTexts_any [⟨#[97]⟩] [⟨#[97]⟩] a b c d W.heap.size W (by decide) (by decide) (Nat.le_refl _) h k
    rw [show sameT [⟨#[97]⟩] [⟨#[97]⟩] = true from by simp [sameT]] at this
    exact this))
  clear SMS
  have E0 := Lib.hid (Env.start w)
  have ZI := Lib.hid (newI_item w w.heap.size)
  have E1 := Lib.hid (E0.out.item ZI.out)
  go_enter Tryz.func6, Tryz.ntmps6
  have E2 := Lib.hid (E1.out.alloc (.cells #[.string ⟨#[98]⟩, .string ⟨#[97]⟩, .string ⟨#[98]⟩] 9))
  have E3 := Lib.hid (E2.out.row (slT_lit3 w ⟨#[98]⟩ ⟨#[97]⟩ ⟨#[98]⟩))
  go_wp2_with fail
  refine (AD.out _ _ _ (E3.out.its _ (.head _)) (E3.out.rs _ (.head _))).mono ?_
  rintro e w1 ⟨v1, rfl, i1, f1⟩
  have E4 := Lib.hid (E3.out.go f1)
  have E5 := Lib.hid (E4.out.item i1.item)
  obtain ⟨P1, p1, P2, p2, P3, p3, rfl⟩ := i1.form
  clear i1
  have E6 := Lib.hid (E5.out.box (.int .i64 ts1.kind) (.string ts1.text) (.slice P1 ts1.list.length p1) (.slice P2 ts1.pairs.length p2) (.slice P3 ts1.scores.length p3))
  obtain ⟨d0, d1, d2, d3, d4⟩ := five (E6.out.bl _ (.head _))
  have E7 := Lib.hid (E6.out.alloc (.cells #[.string ⟨#[97]⟩, .string ⟨#[122]⟩] 9))
  have E8 := Lib.hid (E7.out.row (slT_lit2b w1 _ ⟨#[97]⟩ ⟨#[122]⟩))
  go_wp2_with fail
  refine (RM.out _ _ _ (E8.out.its _ (.head _)) (E8.out.rs _ (.head _))).mono ?_
  rintro e w2 ⟨v2, rfl, i2, f2⟩
  have E9 := Lib.hid (E8.out.go f2)
  clear d0 d1 d2 d3 d4
  have E10 := Lib.hid (E9.out.item i2.item)
  obtain ⟨Q1, q1, Q2, q2, Q3, q3, rfl⟩ := i2.form
  clear i2
  have E11 := Lib.hid (E10.out.box (.int .i64 ts2.kind) (.string ts2.text) (.slice Q1 ts2.list.length q1) (.slice Q2 ts2.pairs.length q2) (.slice Q3 ts2.scores.length q3))
  obtain ⟨d0, d1, d2, d3, d4⟩ := five (E11.out.bl _ (.tail _ (.head _)))
  go_wp2_with fail
  refine (HH.out _ _ (E11.out.its _ (.tail _ (.head _)))).mono ?_
  rintro e w3 ⟨rfl, f3⟩
  have E12 := Lib.hid (E11.out.go f3)
  clear d0 d1 d2 d3 d4
  obtain ⟨d0, d1, d2, d3, d4⟩ := five (E12.out.bl _ (.tail _ (.head _)))
  obtain ⟨g0, g1, g2, g3, g4⟩ := five (E12.out.bl _ (.head _))
  have E13 := Lib.hid (E12.out.alloc (.cells #[.int .i64 ts1.kind, .string ts1.text, .slice P1 ts1.list.length p1, .slice P2 ts1.pairs.length p2, .slice P3 ts1.scores.length p3, .int .i64 ts2.kind, .string ts2.text, .slice Q1 ts2.list.length q1, .slice Q2 ts2.pairs.length q2, .slice Q3 ts2.scores.length q3] 26))
  go_wp2_with fail
  refine (ME.out _ _ (items_lit2 (E12.out.its _ (.tail _ (.head _))) (E12.out.its _ (.head _)))).mono ?_
  rintro e w4 ⟨um, rfl, om, f4⟩
  have E14 := Lib.hid (E13.out.go f4)
  have E15 := Lib.hid (E14.out.row (own_sl om))
  obtain ⟨Am, cm, rfl, -⟩ := own_slice om
  clear om
  clear d0 d1 d2 d3 d4 g0 g1 g2 g3 g4
  obtain ⟨d0, d1, d2, d3, d4⟩ := five (E15.out.bl _ (.tail _ (.head _)))
  obtain ⟨g0, g1, g2, g3, g4⟩ := five (E15.out.bl _ (.head _))
  have E16 := Lib.hid (E15.out.alloc (.cells #[.int .i64 ts1.kind, .string ts1.text, .slice P1 ts1.list.length p1, .slice P2 ts1.pairs.length p2, .slice P3 ts1.scores.length p3, .int .i64 ts2.kind, .string ts2.text, .slice Q1 ts2.list.length q1, .slice Q2 ts2.pairs.length q2, .slice Q3 ts2.scores.length q3] 26))
  go_wp2_with fail
  refine (JO.out _ _ (items_lit2 (E15.out.its _ (.tail _ (.head _))) (E15.out.its _ (.head _)))).mono ?_
  rintro e w5 ⟨uj, rfl, oj, f5⟩
  have E17 := Lib.hid (E16.out.go f5)
  have E18 := Lib.hid (E17.out.row (own_sl oj))
  obtain ⟨Aj, cj, rfl, -⟩ := own_slice oj
  clear oj
  clear d0 d1 d2 d3 d4 g0 g1 g2 g3 g4
  obtain ⟨d0, d1, d2, d3, d4⟩ := five (E18.out.bl _ (.tail _ (.head _)))
  obtain ⟨g0, g1, g2, g3, g4⟩ := five (E18.out.bl _ (.head _))
  have E19 := Lib.hid (E18.out.alloc (.cells #[.int .i64 ts1.kind, .string ts1.text, .slice P1 ts1.list.length p1, .slice P2 ts1.pairs.length p2, .slice P3 ts1.scores.length p3, .int .i64 ts2.kind, .string ts2.text, .slice Q1 ts2.list.length q1, .slice Q2 ts2.pairs.length q2, .slice Q3 ts2.scores.length q3] 26))
  go_wp2_with fail
  refine (LE.out _ _ (items_lit2 (E18.out.its _ (.tail _ (.head _))) (E18.out.its _ (.head _)))).mono ?_
  rintro e w6 ⟨uk, rfl, ok, f6⟩
  have E20 := Lib.hid (E19.out.go f6)
  have E21 := Lib.hid (E20.out.row (own_sl ok))
  obtain ⟨Ak, ck, rfl, -⟩ := own_slice ok
  clear ok
  clear d0 d1 d2 d3 d4 g0 g1 g2 g3 g4
  have E22 := Lib.hid (E21.out.alloc (.cells #[.string ⟨#[98]⟩] 9))
  have E23 := Lib.hid (E22.out.row (slT_lit1 w6 ⟨#[98]⟩))
  go_wp2_with fail
  refine (SB.out _ _ _ _ _ (E23.out.rs _ (.tail _ (.tail _ (.tail _ (.head _))))) (E23.out.rs _ (.head _))).mono ?_
  rintro e w7 ⟨rfl, f7⟩
  have E24 := Lib.hid (E23.out.go f7)
  have E25 := Lib.hid (E24.out.alloc (.cells #[.string ⟨#[97]⟩, .string ⟨#[98]⟩] 9))
  have E26 := Lib.hid (E25.out.row (slT_lit2 w7 ⟨#[97]⟩ ⟨#[98]⟩))
  go_wp2_with fail
  refine (SAB.out _ _ _ _ _ (E26.out.rs _ (.tail _ (.tail _ (.tail _ (.head _))))) (E26.out.rs _ (.head _))).mono ?_
  rintro e w8 ⟨rfl, f8⟩
  have E27 := Lib.hid (E26.out.go f8)
  have E28 := Lib.hid (E27.out.alloc (.cells #[.string ⟨#[97]⟩] 9))
  have E29 := Lib.hid (E28.out.row (slT_lit1 w8 ⟨#[97]⟩))
  go_wp2_with fail
  refine (SA.out _ _ _ _ _ (E29.out.rs _ (.tail _ (.tail _ (.tail _ (.head _))))) (E29.out.rs _ (.head _))).mono ?_
  rintro e w9 ⟨rfl, f9⟩
  have E30 := Lib.hid (E29.out.go f9)
  go_wp2
  go_ret
  exact ⟨rfl, E30.out.f⟩
end Go.Proofs.YtkgbgmfidkimfaaGreat

namespace Go.Proofs.YtkgbgmfidkimfaaGreat
open Go.RowKit

structure RE (W : World) (is : List (Value × Itm)) (tr : List (Value × Nat)) (w0 : World) (bl : List (Nat × List Value)) (its : List (Value × Itm)) (rs : List (Nat × Value × Nat × List Value)) (wr : World) : Prop extends Env w0 bl its rs wr where
  wis : ∀ q, q ∈ is → WrI wr W.heap.size wr.heap.size q.1 q.2
  wtr : ∀ q, q ∈ tr → Wr wr W.heap.size wr.heap.size 1 q.2 q.1
  fw : Fr [] W wr
section
variable {W w0 wr w1 : World} {is : List (Value × Itm)} {tr : List (Value × Nat)} {bl : List (Nat × List Value)} {its : List (Value × Itm)} {rs : List (Nat × Value × Nat × List Value)}
theorem RE.start (h : Env w0 bl its rs W) : RE W [] [] w0 bl its rs W := ⟨h, (fun q hq => by cases hq), (fun q hq => by cases hq), Fr.refl [] W⟩
theorem RE.go (h : RE W is tr w0 bl its rs wr) (k : Fr [] wr w1) : RE W is tr w0 bl its rs w1 :=
  ⟨h.toEnv.go k, fun q hq => ((h.wis q hq).kp (Kp.fr k)).wide (Nat.le_refl _) k.size, fun q hq => ((h.wtr q hq).kp (Kp.fr k)).wide (Nat.le_refl _) k.size, h.fw.trans k⟩
theorem RE.alloc (h : RE W is tr w0 bl its rs wr) (o : Obj) : RE W is tr w0 bl its rs (wr.alloc o) := h.go ((Fr.refl [] wr).alloc o)
theorem RE.box (h : RE W is tr w0 bl its rs wr) (a b c d e : Value) : RE W is tr w0 ((wr.heap.size, [a, b, c, d, e]) :: bl) its rs (wr.alloc (.cells #[a, b, c, d, e] 26)) :=
  ⟨h.toEnv.box a b c d e, (h.alloc _).wis, (h.alloc _).wtr, (h.alloc _).fw⟩
theorem RE.item {v : Value} {x : Itm} (h : RE W is tr w0 bl its rs wr) (hv : ItemV wr wr.heap.size v x) : RE W is tr w0 bl ((v, x) :: its) rs wr := ⟨h.toEnv.item hv, h.wis, h.wtr, h.fw⟩
theorem RE.row {size n : Nat} {v : Value} {xs : List Value} (h : RE W is tr w0 bl its rs wr) (hv : Sl wr wr.heap.size size v n xs) : RE W is tr w0 bl its ((size, v, n, xs) :: rs) wr := ⟨h.toEnv.row hv, h.wis, h.wtr, h.fw⟩
theorem RE.out {v : Value} {x : Itm} (h : RE W is tr w0 bl its rs wr) (hv : WrI wr W.heap.size wr.heap.size v x) : RE W ((v, x) :: is) tr w0 bl its rs wr :=
  ⟨h.toEnv, (fun q hq => by
    rcases List.mem_cons.1 hq with rfl | hq
    · exact hv
    · exact h.wis q hq), h.wtr, h.fw⟩
theorem RE.outT {v : Value} {n : Nat} (h : RE W is tr w0 bl its rs wr) (hv : Wr wr W.heap.size wr.heap.size 1 n v) : RE W is ((v, n) :: tr) w0 bl its rs wr :=
  ⟨h.toEnv, h.wis, (fun q hq => by
    rcases List.mem_cons.1 hq with rfl | hq
    · exact hv
    · exact h.wtr q hq), h.fw⟩
end
/-- an item's five cells in a row of items, and that its rows may be written. -/
def AllI (w : World) (g lo hi : Nat) (ys : List Itm) (vs : List Value) : Prop :=
  ∀ (k : Nat) (y : Itm), ys[k]? = some y → ∃ A1 c1 A2 c2 A3 c3, WrI w lo hi (.agg #[.int .i64 y.kind, .string y.text, .slice A1 y.list.length c1, .slice A2 y.pairs.length c2, .slice A3 y.scores.length c3]) y
    ∧ vs[k * 5]? = some (.int .i64 y.kind) ∧ vs[k * 5 + 1]? = some (.string y.text) ∧ vs[k * 5 + 2]? = some (.slice A1 y.list.length c1) ∧ vs[k * 5 + 3]? = some (.slice A2 y.pairs.length c2) ∧ vs[k * 5 + 4]? = some (.slice A3 y.scores.length c3)
theorem AllI.nil (w : World) (g lo hi : Nat) : AllI w g lo hi [] [] := fun k y h => by simp at h
theorem AllI.cons {w : World} {g lo hi : Nat} {ys : List Itm} {vs : List Value} {y : Itm} {A1 A2 A3 : Option Addr} {c1 c2 c3 : Nat} (hy : WrI w lo hi (.agg #[.int .i64 y.kind, .string y.text, .slice A1 y.list.length c1, .slice A2 y.pairs.length c2, .slice A3 y.scores.length c3]) y) (h : AllI w g lo hi ys vs) :
    AllI w g lo hi (y :: ys) (.int .i64 y.kind :: .string y.text :: .slice A1 y.list.length c1 :: .slice A2 y.pairs.length c2 :: .slice A3 y.scores.length c3 :: vs) := fun k z hz => by
  cases k with
  | zero => simp at hz; subst hz; exact ⟨A1, c1, A2, c2, A3, c3, hy, rfl, rfl, rfl, rfl, rfl⟩
  | succ k =>
    obtain ⟨D1, e1, D2, e2, D3, e3, q, q0, q1, q2, q3, q4⟩ := h k z (by simpa using hz)
    rw [show (k + 1) * 5 = k * 5 + 5 from by omega]
    exact ⟨D1, e1, D2, e2, D3, e3, q, q0, q1, q2, q3, q4⟩
theorem AllI.kp {w w' : World} {g lo hi : Nat} {ys : List Itm} {vs : List Value} (h : AllI w g lo hi ys vs) (k : Kp w w') : AllI w' g lo hi ys vs := fun j y hy => by
  obtain ⟨A1, c1, A2, c2, A3, c3, q, r⟩ := h j y hy
  exact ⟨A1, c1, A2, c2, A3, c3, q.kp k, r⟩
theorem sp_off {lo hi b : Nat} (h : hi ≤ b) : b ∉ Sp lo hi := fun hm => by have := (mem_Sp.1 hm).2; omega
theorem fr_sp {W w w' : World} {lo hi : Nat} (h : Fr [] W w) (hl : W.heap.size ≤ lo) (k : Fr (Sp lo hi) w w') : Fr [] W w' := h.step k (fun g hg => .inr (Nat.le_trans hl (mem_Sp.1 hg).1))
theorem enc_small (x : Itm) : (encAns x).size ≤ 281474976710656 := by
  unfold encAns
  split
  · rename_i h
    exact enc_size (right_of h)
  · show 0 ≤ _
    omega
theorem items_lit1 {w : World} {x : Itm} {A1 A2 A3 : Option Addr} {a1 a2 a3 : Nat} (hx : ItemV w w.heap.size (.agg #[.int .i64 x.kind, .string x.text, .slice A1 x.list.length a1, .slice A2 x.pairs.length a2, .slice A3 x.scores.length a3]) x) :
    ItemsV (w.alloc (.cells #[.int .i64 x.kind, .string x.text, .slice A1 x.list.length a1, .slice A2 x.pairs.length a2, .slice A3 x.scores.length a3] 26)) (w.alloc (.cells #[.int .i64 x.kind, .string x.text, .slice A1 x.list.length a1, .slice A2 x.pairs.length a2, .slice A3 x.scores.length a3] 26)).heap.size (.slice (some ⟨w.heap.size, 0, none⟩) 1 1) [x] := by
  refine ⟨_, _, [[.int .i64 x.kind, .string x.text, .slice A1 x.list.length a1, .slice A2 x.pairs.length a2, .slice A3 x.scores.length a3]], rfl, rfl, fun i z hz => ?_, ?_⟩
  · match i with
    | 0 => simp at hz; subst hz; exact ⟨_, rfl, rfl, (hx.fr ((Fr.refl [] w).alloc _) (Nat.le_refl _) (by simp)).more (by simp)⟩
    | i + 1 => simp at hz
  · exact own_sl (World.ownsRow_lit (base := w.heap.size) (e := 26) (size := 5) w #[.int .i64 x.kind, .string x.text, .slice A1 x.list.length a1, .slice A2 x.pairs.length a2, .slice A3 x.scores.length a3] 1 (Nat.le_refl _) (by decide) rfl)
theorem slAddr {W : World} {B g g' n c : Nat} {l : List Itm} (h : ItemsV W B (.slice (some ⟨g, 0, none⟩) n c) l) (e : g' = g) : ItemsV W B (.slice (some ⟨g', 0, none⟩) n c) l := e ▸ h
end Go.Proofs.YtkgbgmfidkimfaaGreat
