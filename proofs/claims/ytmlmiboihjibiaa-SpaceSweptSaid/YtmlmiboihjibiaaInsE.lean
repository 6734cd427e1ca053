/- slices.Delete at springhouse/api.Entry: elements are taken out of an owned row. (Printed by elem.py.) slices.Insert at springhouse/api.Entry: one element, laid in a block of its own, is put into an owned row. (Printed by elem.py.) -/
import Derived.Test.YtmlmiboihjibiaaSlB
import Derived.Test.YtmlmiboihjibiaaEntI
import Derived.Test.YtmlmiboihjibiaaSlA
import Derived.Laws.OwnMore
import Derived.WalkSpells
import Derived.Deep.RegionLaw
import Derived.Test.YtmlmiboihjibiaaSlX
import Derived.Test.YtmlmiboihjibiaaItf
import Derived.Lib.Overlaps
import Derived.Laws.Externs
import Derived.Lib.AppendZerosOnto
import Derived.Lib.AppendZeros
import Derived.Laws.NewBlocks
set_option linter.unusedVariables false
set_option linter.unusedSimpArgs false
namespace Go.Proofs.Ytmlmiboihjibiaa
open Go.RowKit

def DelPostE (m : Nat) (ys : List Value) (base : Nat) (v : Value) (w : World) (e : Ending) (w' : World) : Prop :=
  ∃ v', e = .returned v' ∧ w'.ownsRow base 58 7 v' m ys ∧ w.grownBy w' v.ownBlock ∧ v'.ownBlock = v.ownBlock

theorem zeroE : ∀ w, (zeroValue 58).run Try.prog w = .ok (.agg #[.string ⟨#[]⟩, .int .i64 0, .string ⟨#[]⟩, .slice none 0 0, .slice none 0 0, .slice none 0 0, .int .i64 0]) w := fun w => by kernel_rfl

set_option maxHeartbeats 2000000 in
set_option maxRecDepth 1000000 in
theorem delE_row (n i j : Nat) (xs : List Value) (base : Nat) (v : Value) (w : World) (hn : n ≤ 281474976710656) (hij : i < j) (hj : j ≤ n) (h : w.ownsRow base 58 7 v n xs) (h1 : ∀ u ∈ xs, u.oneCell' = true) :
    Calls Try.prog 133 #[v, .int .i64 i, .int .i64 j] w (DelPostE (i + (n - j)) (xs.take (i * 7) ++ xs.drop (j * 7)) base v w) := by
  obtain ⟨i0, hi, hz0, hz1, hz2⟩ := info_parts entInfo
  obtain ⟨A, c, rfl, hA, hc, hm⟩ := own_slice h
  rcases hA with rfl | ⟨g, rfl⟩
  · exfalso
    rcases h.2 with ⟨_, h0⟩ | ⟨g', cap', cur, h', _⟩
    · omega
    · cases h'
  obtain ⟨cur0, w0, l0, t0, hb0, _, _, hxl⟩ := own_whole h
  have hdl : (xs.drop (j * 7)).length = (n - j) * 7 := by rw [List.length_drop, hxl]; omega
  obtain ⟨zs, hzs⟩ : ∃ zs, zs = (Builtin.zeroCells (Value.cells (.agg #[.string ⟨#[]⟩, .int .i64 0, .string ⟨#[]⟩, .slice none 0 0, .slice none 0 0, .slice none 0 0, .int .i64 0])) (n - (i + (n - j)))).toList := ⟨_, rfl⟩
  have hzl : zs.length = (j - i) * 7 := by rw [hzs]; simp [Builtin.zeroCells, Value.cells]; omega
  obtain ⟨cur1, w1, l1, o2⟩ := del_own (w := w.drew) h hij hj hzl
  obtain ⟨A, hA, hsrc⟩ : ∃ A : Addr, (if c = j then (some ⟨g, 0, none⟩ : Option Addr) else some ⟨g, j * 7, none⟩) = some A ∧ Hid (∀ t u, (xs.drop (j * 7))[t]? = some u → w.drew.cell? (A.add t) = some u) := by
    by_cases hcj : c = j
    · refine ⟨⟨g, 0, none⟩, by simp [hcj], fun t u hu => ?_⟩
      have h0 : (xs.drop (j * 7)).length = 0 := by rw [hdl]; omega
      rw [List.length_eq_zero_iff.1 h0] at hu
      simp at hu
    · refine ⟨⟨g, j * 7, none⟩, by simp [hcj], fun t u hu => ?_⟩
      rw [List.getElem?_drop] at hu
      have hlt := (List.getElem?_eq_some_iff.1 hu).1
      have := (h.cellAt (j * 7 + t) (by omega)).trans hu
      unfold Addr.add
      split
      · have e : t = 0 := by assumption
        subst e
        exact this
      · exact this
  have s1 := Lib.hid hdl
  have s2 := Lib.hid (show ∀ u ∈ xs.drop (j * 7), u.oneCell' = true from fun u hu => h1 u (List.mem_of_mem_drop hu))
  have hcn : (i + (n - j)) * 7 ≤ c * 7 := Nat.mul_le_mul_right _ (by omega)
  have s3 := Lib.hid (show ∀ t, t < (xs.drop (j * 7)).length → (w.drew.cell? ⟨g, 0 + i * 7 + t, none⟩).isSome = true ∧ w.drew.frozen? ⟨g, 0 + i * 7 + t, none⟩ = false from fun t ht => by
    rw [Nat.zero_add]
    exact whole_cells w0 (o := i * 7) (m := (n - j) * 7) (by rw [l0]; omega) t (by omega))
  obtain ⟨W1, hW1⟩ : ∃ W1, W1 = w.drew.setCells g (0 + i * 7) (xs.drop (j * 7)) := ⟨_, rfl⟩
  have hcl : ∀ ty, (Builtin.clear_ #[44] ty #[.slice (some ⟨g, (i + (n - j)) * 7, none⟩) (n - (i + (n - j))) (c - (i + (n - j)))]).run Try.prog W1 = .ok (.tuple #[]) (W1.setCells g ((i + (n - j)) * 7) zs) := fun ty => by
    have := run_clear_k (P := Try.prog) W1 44 58 ty (.agg #[.string ⟨#[]⟩, .int .i64 0, .string ⟨#[]⟩, .slice none 0 0, .slice none 0 0, .slice none 0 0, .int .i64 0]) Try.underlying44 zeroE (by intro u hu; simp [Value.cells] at hu; rcases hu with rfl | rfl | rfl | rfl | rfl | rfl | rfl <;> rfl) g ((i + (n - j)) * 7) (n - (i + (n - j))) (c - (i + (n - j))) (by omega) (fun t ht => by
      rw [hW1, Nat.zero_add]
      exact whole_cells (w := (w.drew.setCells g (i * 7) (xs.drop (j * 7)))) w1 (o := (i + (n - j)) * 7) (m := (n - (i + (n - j))) * 7) (by rw [l1]; omega) t (by simpa [Value.cells] using ht))
    rw [← hzs, show (i + (n - j)) * 7 = (i + (n - j)) * 7 by omega] at this
    exact this
  rw [show (i + (n - j)) * 7 = (i + (n - j)) * 7 by omega] at o2
  have O2 := Lib.hid o2
  have HW := Lib.hid hW1
  have hic : i ≤ c := by omega
  have hjc : j ≤ c := by omega
  have hlt : i < j := hij
  unfold maxLen at hm
  clear h h1 cur0 w0 l0 t0 hb0 hxl hdl hzs hzl w1 l1 o2 cur1 hW1 hcn
  go_enter Try.func133, Try.ntmps133
  go_wp2_with fail
  go_region_law (refine step_append_room rfl (.tmp 22) (.tmp 25) 44 rfl 58 i0 7 Try.underlying44 hi hz1 g 0 i c (by simp [Act.eval, Act.put]) A (n - j) (c - j) (xs.drop (j * 7)) (by simp [Act.eval, Act.put]) s1.out hsrc.out s2.out (by omega) s3.out ?_; rw [← HW.out])
  go_wp2
  go_ret
  have e1 := HW.out
  rw [Nat.zero_add] at e1
  subst e1
  exact ⟨_, rfl, O2.out, grown_predrew ((setCells_grown _ _ _).trans (setCells_grown _ _ _)), rfl⟩
end Go.Proofs.Ytmlmiboihjibiaa

namespace Go.Proofs.Ytmlmiboihjibiaa
open Go.RowKit

def InsPostE (m : Nat) (ys : List Value) (base : Nat) (v : Value) (w : World) (e : Ending) (w' : World) : Prop :=
  ∃ v', e = .returned v' ∧ w'.ownsRow base 58 7 v' m ys ∧ w.grownBy w' v.ownBlock ∧ (v'.ownBlock = v.ownBlock ∨ v'.ownBlock = some w.heap.size)

set_option maxHeartbeats 1000000 in
set_option maxRecDepth 100000 in
theorem insE_end (n : Nat) (xs vs : List Value) (base gv : Nat) (v : Value) (w : World) (hn : (n + 1) * 120 ≤ 140737488355328) (h : w.ownsRow base 58 7 v n xs) (hv1 : ∀ u ∈ vs, u.oneCell' = true) (hvl : vs.length = 7) (hgv : Whole w gv 58 vs) (hb : base ≤ w.heap.size) :
    Calls Try.prog 134 #[v, .int .i64 n, .slice (some ⟨gv, 0, none⟩) 1 1] w (InsPostE (n + 1) (xs ++ vs) base v w) := by
  obtain ⟨i0, hi, hz0, hz1, hz2⟩ := info_parts entInfo
  have hs : Sl w w.heap.size 7 (.slice (some ⟨gv, 0, none⟩) 1 1) 1 vs := ⟨_, _, rfl, by omega, by omega, by unfold maxLen; omega, fun _ => ⟨gv, 0, rfl, hgv.lt, fun j u hu => by rw [Nat.zero_add, hgv.cell]; exact hu⟩⟩
  have HS := Lib.hid hs
  have HO := Lib.hid h
  have H1 := Lib.hid hv1
  obtain ⟨A, c, rfl, hA, hc, hm⟩ := own_slice h
  unfold maxLen at hm
  clear hs h hv1 hvl hgv
  rcases hA with rfl | ⟨g, rfl⟩
  · have hn0 : n = 0 := by
      rcases HO.out.2 with ⟨_, h0⟩ | ⟨g', cap', cur, h', _⟩
      · exact h0
      · cases h'
    subst hn0
    go_enter Try.func134, Try.ntmps134
    go_wp2_with (at_builtin; refine wpList_append_sl2 _ rfl _ _ 44 43 rfl base 58 i0 _ 7 120 Try.underlying44 Try.underlying43 hi hz0 hz1 hz2 rfl (by decide) _ _ _ rfl HO.out _ _ 1 vs rfl HS.out H1.out ?c1 ?c2 hb ?_)
    case c1 => unfold maxLen; omega
    case c2 => omega
    intro v' w2 hown' hgrow hat
    go_wp2
    go_ret
    exact ⟨_, rfl, hown', hgrow, hat⟩
  · by_cases hcn : c = n
    all_goals
      go_enter Try.func134, Try.ntmps134
      go_wp2_with (at_builtin; refine wpList_append_sl2 _ rfl _ _ 44 43 rfl base 58 i0 _ 7 120 Try.underlying44 Try.underlying43 hi hz0 hz1 hz2 rfl (by decide) _ _ _ rfl HO.out _ _ 1 vs rfl HS.out H1.out (by unfold maxLen; omega) (by omega) hb (fun v' w2 hown' hgrow hat => ?_))
      go_ret
      exact ⟨_, rfl, hown', hgrow, hat⟩

set_option maxHeartbeats 2000000 in
set_option maxRecDepth 100000 in
theorem insE_in (n i c g : Nat) (xs vs : List Value) (base gv : Nat) (w : World) (hin : i < n) (hr : n + 1 ≤ c) (h : w.ownsRow base 58 7 (.slice (some ⟨g, 0, none⟩) n c) n xs) (h1 : ∀ u ∈ xs, u.oneCell' = true) (hv1 : ∀ u ∈ vs, u.oneCell' = true) (hvl : vs.length = 7) (hgv : Whole w gv 58 vs) (hne : gv ≠ g) :
    Calls Try.prog 134 #[.slice (some ⟨g, 0, none⟩) n c, .int .i64 i, .slice (some ⟨gv, 0, none⟩) 1 1] w (InsPostE (n + 1) (insCells xs vs (i * 7)) base (.slice (some ⟨g, 0, none⟩) n c) w) := by
  obtain ⟨i0, hi, hz0, hz1, hz2⟩ := info_parts entInfo
  obtain ⟨cur0, cur, w0, l0, w1, l1, o2⟩ := ins_own (w := w.drew) h (Nat.le_of_lt hin) hr hvl
  obtain ⟨_, _, _, _, _, _, hm, hxl⟩ := own_whole h
  have hdl : (xs.drop (i * 7)).length = (n - i) * 7 := by rw [List.length_drop, hxl]; omega
  have hov : ∀ lb cb, (callFunc 156 #[.slice (some ⟨gv, 0, none⟩) 1 1, .slice (some ⟨g, (i + 1) * 7, none⟩) lb cb]).run Try.prog w = .ok (.value (.bool false)) w := fun lb cb => by
    rw [run_callFunc_extern Try.func156 (by kernel_rfl) (by kernel_rfl) (by kernel_rfl) (e := Extern.SlicesOverlaps.overlaps #[43, 43] #[4]) (by kernel_rfl),
      Lib.run_overlaps_apart w 43 4 58 Try.underlying43 7 (fun w => by kernel_rfl) ⟨gv, 0, none⟩ ⟨g, (i + 1) * 7, none⟩ 1 1 lb cb hne 58 58 vs.length cur0.length (by unfold Whole at hgv; simp [World.shape?, hgv]) (by have := w0; unfold Whole at this; have : w.heap[g]? = _ := this; simp [World.shape?, this]) (by rw [l0]; omega) (hgv.frozen _) (hgv.frozen _)]
    rfl
  have hc1 : ∀ ty dc sc, (Builtin.copy_ #[44, 44] ty #[.slice (some ⟨g, (i + 1) * 7, none⟩) (n - i) dc, .slice (some ⟨g, i * 7, none⟩) (n + 1 - i) sc]).run Try.prog w.drew = .ok (goInt ((n - i : Nat))) (w.drew.setCells g ((i + 1) * 7) (xs.drop (i * 7))) := fun ty dc sc =>
    run_copy_k w.drew _ _ ty 58 i0 7 g ((i + 1) * 7) (n - i) dc ⟨g, i * 7, none⟩ (n + 1 - i) sc (n - i) _ Try.underlying44 hi hz1 (by simp only [Nat.min_def]; split <;> omega) hdl
      (fun t u hu => by
        rw [List.getElem?_drop] at hu
        have hlt := (List.getElem?_eq_some_iff.1 hu).1
        have := (h.cellAt (i * 7 + t) (by omega)).trans hu
        rw [Addr.add_lit, show i * 7 = i * 7 by omega]
        exact this)
      (fun t ht => by
        rw [show (i + 1) * 7 = (i + 1) * 7 by omega]
        exact whole_cells w0 (o := (i + 1) * 7) (m := (n - i) * 7) (by rw [l0]; omega) t (by omega))
      (fun u hu => h1 u (List.mem_of_mem_drop hu))
  rw [show (i + 1) * 7 = (i + 1) * 7 by omega] at w1 o2
  obtain ⟨W1, hW1⟩ : ∃ W1, W1 = w.drew.setCells g ((i + 1) * 7) (xs.drop (i * 7)) := ⟨_, rfl⟩
  rw [← hW1] at hc1 w1 o2
  have hgv1 : Whole W1 gv 58 vs := by
    rw [hW1]
    exact hgv.drew.grown (setCells_grown _ _ _) (by simpa using hne)
  rw [show i * 7 = i * 7 by omega] at o2
  have hc2 : ∀ ty dc, (Builtin.copy_ #[44, 43] ty #[.slice (some ⟨g, i * 7, none⟩) (n + 1 - i) dc, .slice (some ⟨gv, 0, none⟩) 1 1]).run Try.prog W1 = .ok (goInt ((1 : Nat))) (W1.setCells g (i * 7) vs) := fun ty dc =>
    run_copy_k W1 _ _ ty 58 i0 7 g (i * 7) (n + 1 - i) dc ⟨gv, 0, none⟩ 1 1 1 vs Try.underlying44 hi hz1 (by simp only [Nat.min_def]; split <;> omega) (by omega)
      (fun t u hu => by
        rw [Addr.add_lit, Nat.zero_add, hgv1.cell]
        exact hu)
      (fun t ht => by
        rw [show i * 7 = i * 7 by omega]
        exact whole_cells w1 (o := i * 7) (m := 7) (by rw [l1]; omega) t (by omega))
      hv1
  have HW := Lib.hid hW1
  have O2 := Lib.hid o2
  unfold maxLen at hm
  have hz1' : ¬ ((i : Int) = (n : Int)) := by omega
  have hw1 : IntKind.i64.wrap ((i : Int) + 1) = (i : Int) + 1 := by rw [IntKind.wrap_i64]; omega
  have hw2 : IntKind.i64.wrap ((n : Int) + 1) = (n : Int) + 1 := by rw [IntKind.wrap_i64]; omega
  have ht1 : ((i : Int) + 1).toNat = i + 1 := by omega
  have ht2 : ((n : Int) + 1).toNat = n + 1 := by omega
  have hb0 : i ≤ n := by omega
  have hb1 : (0 : Int) ≤ (i : Int) + 1 := by omega
  have hb2 : (0 : Int) ≤ (n : Int) + 1 := by omega
  have hb3 : (n : Int) + 1 ≤ (c : Int) := by omega
  have hb4 : (i : Int) ≤ (n : Int) + 1 := by omega
  have hb5 : (i : Int) ≤ (n : Int) := by omega
  have hb6 : ¬ (c = i) := by omega
  have hb7 : ¬ (c = i + 1) := by omega
  have hb8 : ¬ ((c : Int) < (n : Int) + 1) := by omega
  clear h h1 hv1 hvl hgv hgv1 cur0 cur w0 l0 w1 l1 o2 hxl hdl hW1 hi hz0 hz1 hz2
  go_enter Try.func134, Try.ntmps134
  go_wp2_with (simp only [hov])
  go_region_law (refine step_copy_eq rfl _ _ 44 44 rfl _ _ (by simp [Act.eval, Act.put]) (by simp [Act.eval, Act.put]) (hc1 _ _ _) ?_)
  go_wp2_with (at_builtin; refine wpList_copy_eq _ rfl _ _ 44 43 rfl _ _ rfl rfl (hc2 _ _) ?_)
  go_ret
  refine ⟨_, rfl, O2.out, ?_, .inl rfl⟩
  rw [HW.out]
  exact grown_predrew ((setCells_grown _ _ _).trans (setCells_grown _ _ _))

set_option maxHeartbeats 2000000 in
set_option maxRecDepth 100000 in
theorem insE_new (n i c g : Nat) (xs vs : List Value) (base gv : Nat) (w : World) (hn : (n + 1) * 120 ≤ 140737488355328) (hin : i < n) (hnc : n ≤ c) (hr : c < n + 1) (h : w.ownsRow base 58 7 (.slice (some ⟨g, 0, none⟩) n c) n xs) (h1 : ∀ u ∈ xs, u.oneCell' = true) (hv1 : ∀ u ∈ vs, u.oneCell' = true) (hvl : vs.length = 7) (hgv : Whole w gv 58 vs) (hb : base ≤ w.heap.size) :
    Calls Try.prog 134 #[.slice (some ⟨g, 0, none⟩) n c, .int .i64 i, .slice (some ⟨gv, 0, none⟩) 1 1] w (InsPostE (n + 1) (insCells xs vs (i * 7)) base (.slice (some ⟨g, 0, none⟩) n c) w) := by
  obtain ⟨i0, hi, hz0, hz1, hz2⟩ := info_parts entInfo
  obtain ⟨cur0, w0, l0, hx0, _, _, hm, hxl⟩ := own_whole h
  clear hx0
  have hdl : (xs.drop (i * 7)).length = (n - i) * 7 := by rw [List.length_drop, hxl]; omega
  have htl : (xs.take (i * 7)).length = i * 7 := by rw [List.length_take, hxl]; omega
  have hcell : ∀ t u, xs[t]? = some u → w.cell? ⟨g, t, none⟩ = some u := fun t u hu => by
    have hlt := (List.getElem?_eq_some_iff.1 hu).1
    exact (h.cellAt t (by omega)).trans hu
  have hold : (Builtin.firstCells i0.size i (.slice (some ⟨g, 0, none⟩) i c)).run Try.prog w.drew = .ok (xs.take (i * 7)).toArray w.drew := by
    rw [hz1]
    exact run_firstCells_some w.drew 7 i ⟨g, 0, none⟩ i c (xs.take (i * 7)) htl (fun t u hu => by
      rw [Addr.add_lit, Nat.zero_add]
      rw [List.getElem?_take] at hu
      split at hu
      · exact hcell t u hu
      · cases hu)
  have hG : grownCap w (n + 1) c 58 ≤ maxLen := grownCap_le_maxLen w _ _ _ (by unfold maxLen; omega)
  have hGe : n + 1 ≤ grownCap w (n + 1) c 58 := grownCap_ge w _ _ _
  have hrz : ∀ ty, (Builtin.append_ #[44, 3] ty #[.slice (some ⟨g, 0, none⟩) i c, .int .i64 ((n : Int) + 1 - (i : Int))]).run Try.prog w =
      .ok (.slice (some ⟨w.heap.size, 0, none⟩) (n + 1) (grownCap w (n + 1) c 58)) (w.drew.alloc (.cells ((xs.take (i * 7)).toArray ++ Builtin.zeroCells (Value.cells (.agg #[.string ⟨#[]⟩, .int .i64 0, .string ⟨#[]⟩, .slice none 0 0, .slice none 0 0, .slice none 0 0, .int .i64 0])) (n + 1 - i) ++ Builtin.zeroCells (Value.cells (.agg #[.string ⟨#[]⟩, .int .i64 0, .string ⟨#[]⟩, .slice none 0 0, .slice none 0 0, .slice none 0 0, .int .i64 0])) (grownCap w (n + 1) c 58 - (n + 1))) 58)) := fun ty => by
    have hik : i + (n + 1 - i) = n + 1 := by omega
    have h := Lib.run_append_grow_zeros w 44 3 ty 58 i0 _ .i64 .i64 Try.underlying44 Try.underlying3 hi hz0 (some ⟨g, 0, none⟩) i c _ hold (n + 1 - i) (by omega) (by omega) (by omega) (by omega) (by rw [hz2]; omega) (by rw [hz2, hik]; exact growslice_fits hr hn)
    rw [hik] at h
    rw [show (n : Int) + 1 - (i : Int) = ((n + 1 - i : Nat) : Int) by omega]
    exact h
  generalize grownCap w (n + 1) c 58 = G at *
  obtain ⟨zs, hzs⟩ : ∃ zs, zs = (Builtin.zeroCells (Value.cells (.agg #[.string ⟨#[]⟩, .int .i64 0, .string ⟨#[]⟩, .slice none 0 0, .slice none 0 0, .slice none 0 0, .int .i64 0])) (n + 1 - i) ++ Builtin.zeroCells (Value.cells (.agg #[.string ⟨#[]⟩, .int .i64 0, .string ⟨#[]⟩, .slice none 0 0, .slice none 0 0, .slice none 0 0, .int .i64 0])) (G - (n + 1))).toList := ⟨_, rfl⟩
  have hzl : zs.length = (n + 1 - i) * 7 + (G - (n + 1)) * 7 := by rw [hzs]; simp [Builtin.zeroCells, Value.cells]; try omega
  have hra : (xs.take (i * 7)).toArray ++ Builtin.zeroCells (Value.cells (.agg #[.string ⟨#[]⟩, .int .i64 0, .string ⟨#[]⟩, .slice none 0 0, .slice none 0 0, .slice none 0 0, .int .i64 0])) (n + 1 - i) ++ Builtin.zeroCells (Value.cells (.agg #[.string ⟨#[]⟩, .int .i64 0, .string ⟨#[]⟩, .slice none 0 0, .slice none 0 0, .slice none 0 0, .int .i64 0])) (G - (n + 1)) = (xs.take (i * 7) ++ zs).toArray := by
    rw [hzs]; simp
  rw [hra] at hrz
  obtain ⟨W0, hW0⟩ : ∃ W0, W0 = w.drew.alloc (.cells (xs.take (i * 7) ++ zs).toArray 58) := ⟨_, rfl⟩
  rw [← hW0] at hrz
  have wn : Whole W0 w.heap.size 58 (xs.take (i * 7) ++ zs) := by rw [hW0]; exact Whole.new w.drew 58 _
  have hgr : w.grownBy W0 (some g) := by rw [hW0]; exact grown_predrew (grown_alloc _ _ _)
  have hgv0 : Whole W0 gv 58 vs := by rw [hW0]; exact hgv.drew.alloc _
  have wg0 : Whole W0 g 58 cur0 := by rw [hW0]; exact w0.drew.alloc _
  have hgl : g ≠ w.heap.size := Nat.ne_of_lt w0.lt
  obtain ⟨cur, w1, l1, o2⟩ := ins_new (i := i) (n := n) (base := base) hxl (Nat.le_of_lt hin) hvl hGe hG hb wn (by rw [List.length_append, htl, hzl]; omega)
  rw [show (i + 1) * 7 = (i + 1) * 7 by omega, show i * 7 = i * 7 by omega] at o2
  rw [show i * 7 = i * 7 by omega] at w1
  have hc1 : ∀ ty dc, (Builtin.copy_ #[44, 43] ty #[.slice (some ⟨w.heap.size, i * 7, none⟩) (n + 1 - i) dc, .slice (some ⟨gv, 0, none⟩) 1 1]).run Try.prog W0 = .ok (goInt ((1 : Nat))) (W0.setCells w.heap.size (i * 7) vs) := fun ty dc =>
    run_copy_k W0 _ _ ty 58 i0 7 w.heap.size (i * 7) (n + 1 - i) dc ⟨gv, 0, none⟩ 1 1 1 vs Try.underlying44 hi hz1 (by simp only [Nat.min_def]; split <;> omega) (by omega)
      (fun t u hu => by
        rw [Addr.add_lit, Nat.zero_add, hgv0.cell]
        exact hu)
      (fun t ht => by
        rw [show i * 7 = i * 7 by omega]
        exact whole_cells wn (o := i * 7) (m := 7) (by rw [List.length_append, htl, hzl]; omega) t (by omega))
      hv1
  obtain ⟨W1, hW1⟩ : ∃ W1, W1 = W0.setCells w.heap.size (i * 7) vs := ⟨_, rfl⟩
  rw [← hW1] at hc1 o2 w1
  have hgr1 : w.grownBy W1 (some g) := by rw [hW1]; exact grown_fresh hgr (setCells_grown _ _ _) (Nat.le_refl _)
  have wg1 : Whole W1 g 58 cur0 := by rw [hW1]; exact wg0.grown (setCells_grown _ _ _) (by simpa using hgl)
  have hc2 : ∀ ty dc sc, (Builtin.copy_ #[44, 44] ty #[.slice (some ⟨w.heap.size, (i + 1) * 7, none⟩) (n - i) dc, .slice (some ⟨g, i * 7, none⟩) (n - i) sc]).run Try.prog W1.drew = .ok (goInt ((n - i : Nat))) (W1.drew.setCells w.heap.size ((i + 1) * 7) (xs.drop (i * 7))) := fun ty dc sc =>
    run_copy_k W1.drew _ _ ty 58 i0 7 w.heap.size ((i + 1) * 7) (n - i) dc ⟨g, i * 7, none⟩ (n - i) sc (n - i) _ Try.underlying44 hi hz1 (by simp only [Nat.min_def]; split <;> omega) hdl
      (fun t u hu => by
        rw [List.getElem?_drop] at hu
        have h2 := hcell _ u hu
        have e1 := wg0.cell (i * 7 + t)
        have e2 := w0.cell (i * 7 + t)
        have e3 := wg1.drew.cell (i * 7 + t)
        rw [Addr.add_lit, show i * 7 = i * 7 by omega, e3, ← e2]
        exact h2)
      (fun t ht => by
        rw [show (i + 1) * 7 = (i + 1) * 7 by omega]
        exact whole_cells w1.drew (o := (i + 1) * 7) (m := (n - i) * 7) (by rw [l1]; omega) t (by omega))
      (fun u hu => h1 u (List.mem_of_mem_drop hu))
  have O2 := Lib.hid (show (W1.drew.setCells w.heap.size ((i + 1) * 7) (xs.drop (i * 7))).ownsRow base 58 7 (.slice (some ⟨w.heap.size, 0, none⟩) (n + 1) G) (n + 1) (insCells xs vs (i * 7)) by rw [setCells_drew]; exact o2)
  have G2 := Lib.hid (show w.grownBy (W1.drew.setCells w.heap.size ((i + 1) * 7) (xs.drop (i * 7))) (some g) from grown_fresh (grown_drew hgr1) (setCells_grown _ _ _) (Nat.le_refl _))
  obtain ⟨W2, hW2⟩ : ∃ W2, W2 = W1.drew.setCells w.heap.size ((i + 1) * 7) (xs.drop (i * 7)) := ⟨_, rfl⟩
  rw [← hW2] at hc2 O2 G2
  unfold maxLen at hm hG
  have hz1' : ¬ ((i : Int) = (n : Int)) := by omega
  have hw1 : IntKind.i64.wrap ((i : Int) + 1) = (i : Int) + 1 := by rw [IntKind.wrap_i64]; omega
  have hw2 : IntKind.i64.wrap ((n : Int) + 1) = (n : Int) + 1 := by rw [IntKind.wrap_i64]; omega
  have hw3 : IntKind.i64.wrap ((n : Int) + 1 - (i : Int)) = (n : Int) + 1 - (i : Int) := by rw [IntKind.wrap_i64]; omega
  have ht1 : ((i : Int) + 1).toNat = i + 1 := by omega
  have hb0 : i ≤ n := by omega
  have hb1 : (0 : Int) ≤ (i : Int) + 1 := by omega
  have hb4 : (i : Int) ≤ (n : Int) + 1 := by omega
  have hb5 : (i : Int) ≤ (n : Int) := by omega
  have hb6 : ¬ (c = i) := by omega
  have hb7 : ¬ (G = i + 1) := by omega
  have hb9 : ¬ (G = i) := by omega
  have hb10 : (i : Int) ≤ (c : Int) := by omega
  have hb8 : (c : Int) < (n : Int) + 1 := by omega
  clear h h1 hv1 hvl hgv hgv0 cur0 cur w0 l0 w1 l1 o2 hxl hdl hW1 hi hz0 hz1 hz2 htl hcell hold hzs hzl hra hW0 wn hgr wg0 wg1 hgr1 hW2
  go_enter Try.func134, Try.ntmps134
  go_wp2_with (first
    | (at_builtin; refine Lib.wpList_append_run _ rfl _ _ _ _ rfl _ _ rfl rfl _ _ (hrz _) ?_)
    | (at_builtin; refine wpList_copy_eq _ rfl _ _ 44 43 rfl _ _ rfl rfl (hc1 _ _) ?_))
  go_region_law (refine step_copy_eq rfl _ _ 44 44 rfl _ _ (by simp [Act.eval, Act.put]) (by simp [Act.eval, Act.put]) (hc2 _ _ _) ?_)
  go_wp2
  go_ret
  exact ⟨_, rfl, O2.out, G2.out, .inr rfl⟩

/-- slices.Insert of one element. -/
theorem insE_row (n i : Nat) (xs vs : List Value) (base gv : Nat) (v : Value) (w : World) (hn : (n + 1) * 120 ≤ 140737488355328) (hin : i ≤ n) (h : w.ownsRow base 58 7 v n xs) (h1 : ∀ u ∈ xs, u.oneCell' = true) (hv1 : ∀ u ∈ vs, u.oneCell' = true) (hvl : vs.length = 7) (hgv : Whole w gv 58 vs) (hne : v.ownBlock ≠ some gv) (hb : base ≤ w.heap.size) :
    Calls Try.prog 134 #[v, .int .i64 i, .slice (some ⟨gv, 0, none⟩) 1 1] w (InsPostE (n + 1) (insCells xs vs (i * 7)) base v w) := by
  rcases Nat.lt_or_ge i n with hlt | hge
  · obtain ⟨A, c, rfl, hA, hc, hm⟩ := own_slice h
    rcases hA with rfl | ⟨g, rfl⟩
    · exfalso
      rcases h.2 with ⟨_, h0⟩ | ⟨g', cap', cur, h', _⟩
      · omega
      · cases h'
    · by_cases hr : n + 1 ≤ c
      · exact insE_in n i c g xs vs base gv w hlt hr h h1 hv1 hvl hgv (by
          rintro rfl
          exact hne rfl)
      · exact insE_new n i c g xs vs base gv w hn hlt hc (by omega) h h1 hv1 hvl hgv hb
  · obtain rfl : i = n := by omega
    have e : insCells xs vs (i * 7) = xs ++ vs := by
      have hl : xs.length = i * 7 := h.1
      unfold insCells
      rw [List.take_of_length_le (by omega), List.drop_of_length_le (by omega), List.append_nil]
    rw [e]
    exact insE_end i xs vs base gv v w hn h hv1 hvl hgv hb
end Go.Proofs.Ytmlmiboihjibiaa
