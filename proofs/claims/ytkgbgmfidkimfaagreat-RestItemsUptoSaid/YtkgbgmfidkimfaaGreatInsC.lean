/- slices.Insert at springhouse/api.Score: one element, laid in a block of its own, is put into an owned row. (Printed by elem.py.) -/
import Derived.Test.YtkgbgmfidkimfaaGreatSlB
import Derived.Test.YtkgbgmfidkimfaaGreatSlA
import Derived.Test.YtkgbgmfidkimfaaGreatItf
import Derived.Laws.OwnMore
import Derived.WalkSpells
import Derived.Deep.RegionLaw
import Derived.Lib.Overlaps
import Derived.Laws.Externs
import Derived.Lib.AppendZerosOnto
import Derived.Lib.AppendZeros
import Derived.Laws.NewBlocks
set_option linter.unusedVariables false
set_option linter.unusedSimpArgs false
namespace Go.Proofs.YtkgbgmfidkimfaaGreat
open Go.RowKit

def InsPostC (m : Nat) (ys : List Value) (base : Nat) (v : Value) (w : World) (e : Ending) (w' : World) : Prop :=
  ∃ v', e = .returned v' ∧ w'.ownsRow base 60 2 v' m ys ∧ w.grownBy w' v.ownBlock ∧ (v'.ownBlock = v.ownBlock ∨ v'.ownBlock = some w.heap.size)

set_option maxHeartbeats 1000000 in
set_option maxRecDepth 100000 in
theorem insC_end (n : Nat) (xs vs : List Value) (base gv : Nat) (v : Value) (w : World) (hn : (n + 1) * 24 ≤ 140737488355328) (h : w.ownsRow base 60 2 v n xs) (hv1 : ∀ u ∈ vs, u.oneCell' = true) (hvl : vs.length = 2) (hgv : Whole w gv 60 vs) (hb : base ≤ w.heap.size) :
    Calls Tryz.prog 77 #[v, .int .i64 n, .slice (some ⟨gv, 0, none⟩) 1 1] w (InsPostC (n + 1) (xs ++ vs) base v w) := by
  obtain ⟨i0, hi, hz0, hz1, hz2⟩ := info_parts scoreInfo
  have hs : Sl w w.heap.size 2 (.slice (some ⟨gv, 0, none⟩) 1 1) 1 vs := ⟨_, _, rfl, by omega, by omega, by unfold maxLen; omega, fun _ => ⟨gv, 0, rfl, hgv.lt, fun j u hu => by rw [Nat.zero_add, hgv.cell]; exact hu⟩⟩
  have HS := Lib.hid hs
  have HO := Lib.hid h
  have H1 := Lib.hid hv1
  obtain ⟨A, c, rfl, hA, hc, hm⟩ := own_slice h
  unfold maxLen at hm
  clear hs h hv1 hvl hgv
  rcases hA with rfl | ⟨g, rfl⟩
  · have hn0 : n = 0 := by
      rcases HO.out.2 with ⟨_, h0⟩ | ⟨g', cap', cur, h', _⟩
      · exact h0
      · cases h'
    subst hn0
    go_enter Tryz.func77, Tryz.ntmps77
    go_wp2_with (at_builtin; refine wpList_append_sl _ rfl _ _ 24 rfl base 60 i0 _ 2 24 Tryz.underlying24 hi hz0 hz1 hz2 rfl (by decide) _ _ _ rfl HO.out _ _ 1 vs rfl HS.out H1.out ?c1 ?c2 hb ?_)
    case c1 => unfold maxLen; omega
    case c2 => omega
    intro v' w2 hown' hgrow hat
    go_wp2
    go_ret
    exact ⟨_, rfl, hown', hgrow, hat⟩
  · by_cases hcn : c = n
    all_goals
      go_enter Tryz.func77, Tryz.ntmps77
      go_wp2_with (at_builtin; refine wpList_append_sl _ rfl _ _ 24 rfl base 60 i0 _ 2 24 Tryz.underlying24 hi hz0 hz1 hz2 rfl (by decide) _ _ _ rfl HO.out _ _ 1 vs rfl HS.out H1.out (by unfold maxLen; omega) (by omega) hb (fun v' w2 hown' hgrow hat => ?_))
      go_ret
      exact ⟨_, rfl, hown', hgrow, hat⟩

set_option maxHeartbeats 2000000 in
set_option maxRecDepth 100000 in
theorem insC_in (n i c g : Nat) (xs vs : List Value) (base gv : Nat) (w : World) (hin : i < n) (hr : n + 1 ≤ c) (h : w.ownsRow base 60 2 (.slice (some ⟨g, 0, none⟩) n c) n xs) (h1 : ∀ u ∈ xs, u.oneCell' = true) (hv1 : ∀ u ∈ vs, u.oneCell' = true) (hvl : vs.length = 2) (hgv : Whole w gv 60 vs) (hne : gv ≠ g) :
    Calls Tryz.prog 77 #[.slice (some ⟨g, 0, none⟩) n c, .int .i64 i, .slice (some ⟨gv, 0, none⟩) 1 1] w (InsPostC (n + 1) (insCells xs vs (i * 2)) base (.slice (some ⟨g, 0, none⟩) n c) w) := by
  obtain ⟨i0, hi, hz0, hz1, hz2⟩ := info_parts scoreInfo
  obtain ⟨cur0, cur, w0, l0, w1, l1, o2⟩ := ins_own (w := w.drew) h (Nat.le_of_lt hin) hr hvl
  obtain ⟨_, _, _, _, _, _, hm, hxl⟩ := own_whole h
  have hdl : (xs.drop (i * 2)).length = (n - i) * 2 := by rw [List.length_drop, hxl]; omega
  have hov : ∀ lb cb, (callFunc 116 #[.slice (some ⟨gv, 0, none⟩) 1 1, .slice (some ⟨g, (i + 1) * 2, none⟩) lb cb]).run Tryz.prog w = .ok (.value (.bool false)) w := fun lb cb => by
    rw [run_callFunc_extern Tryz.func116 (by kernel_rfl) (by kernel_rfl) (by kernel_rfl) (e := Extern.SlicesOverlaps.overlaps #[24, 24] #[4]) (by kernel_rfl),
      Lib.run_overlaps_apart w 24 4 60 Tryz.underlying24 2 (fun w => by kernel_rfl) ⟨gv, 0, none⟩ ⟨g, (i + 1) * 2, none⟩ 1 1 lb cb hne 60 60 vs.length cur0.length (by unfold Whole at hgv; simp [World.shape?, hgv]) (by have := w0; unfold Whole at this; have : w.heap[g]? = _ := this; simp [World.shape?, this]) (by rw [l0]; omega) (hgv.frozen _) (hgv.frozen _)]
    rfl
  have hc1 : ∀ ty dc sc, (Builtin.copy_ #[24, 24] ty #[.slice (some ⟨g, (i + 1) * 2, none⟩) (n - i) dc, .slice (some ⟨g, i * 2, none⟩) (n + 1 - i) sc]).run Tryz.prog w.drew = .ok (goInt ((n - i : Nat))) (w.drew.setCells g ((i + 1) * 2) (xs.drop (i * 2))) := fun ty dc sc =>
    run_copy_k w.drew _ _ ty 60 i0 2 g ((i + 1) * 2) (n - i) dc ⟨g, i * 2, none⟩ (n + 1 - i) sc (n - i) _ Tryz.underlying24 hi hz1 (by simp only [Nat.min_def]; split <;> omega) hdl
      (fun t u hu => by
        rw [List.getElem?_drop] at hu
        have hlt := (List.getElem?_eq_some_iff.1 hu).1
        have := (h.cellAt (i * 2 + t) (by omega)).trans hu
        rw [Addr.add_lit, show i * 2 = i * 2 by omega]
        exact this)
      (fun t ht => by
        rw [show (i + 1) * 2 = (i + 1) * 2 by omega]
        exact whole_cells w0 (o := (i + 1) * 2) (m := (n - i) * 2) (by rw [l0]; omega) t (by omega))
      (fun u hu => h1 u (List.mem_of_mem_drop hu))
  rw [show (i + 1) * 2 = (i + 1) * 2 by omega] at w1 o2
  obtain ⟨W1, hW1⟩ : ∃ W1, W1 = w.drew.setCells g ((i + 1) * 2) (xs.drop (i * 2)) := ⟨_, rfl⟩
  rw [← hW1] at hc1 w1 o2
  have hgv1 : Whole W1 gv 60 vs := by
    rw [hW1]
    exact hgv.drew.grown (setCells_grown _ _ _) (by simpa using hne)
  rw [show i * 2 = i * 2 by omega] at o2
  have hc2 : ∀ ty dc, (Builtin.copy_ #[24, 24] ty #[.slice (some ⟨g, i * 2, none⟩) (n + 1 - i) dc, .slice (some ⟨gv, 0, none⟩) 1 1]).run Tryz.prog W1 = .ok (goInt ((1 : Nat))) (W1.setCells g (i * 2) vs) := fun ty dc =>
    run_copy_k W1 _ _ ty 60 i0 2 g (i * 2) (n + 1 - i) dc ⟨gv, 0, none⟩ 1 1 1 vs Tryz.underlying24 hi hz1 (by simp only [Nat.min_def]; split <;> omega) (by omega)
      (fun t u hu => by
        rw [Addr.add_lit, Nat.zero_add, hgv1.cell]
        exact hu)
      (fun t ht => by
        rw [show i * 2 = i * 2 by omega]
        exact whole_cells w1 (o := i * 2) (m := 2) (by rw [l1]; omega) t (by omega))
      hv1
  have HW := Lib.hid hW1
  have O2 := Lib.hid o2
  unfold maxLen at hm
  have hz1' : ¬ ((i : Int) = (n : Int)) := by omega
  have hw1 : IntKind.i64.wrap ((i : Int) + 1) = (i : Int) + 1 := by rw [IntKind.wrap_i64]; omega
  have hw2 : IntKind.i64.wrap ((n : Int) + 1) = (n : Int) + 1 := by rw [IntKind.wrap_i64]; omega
  have ht1 : ((i : Int) + 1).toNat = i + 1 := by omega
  have ht2 : ((n : Int) + 1).toNat = n + 1 := by omega
  have hb0 : i ≤ n := by omega
  have hb1 : (0 : Int) ≤ (i : Int) + 1 := by omega
  have hb2 : (0 : Int) ≤ (n : Int) + 1 := by omega
  have hb3 : (n : Int) + 1 ≤ (c : Int) := by omega
  have hb4 : (i : Int) ≤ (n : Int) + 1 := by omega
  have hb5 : (i : Int) ≤ (n : Int) := by omega
  have hb6 : ¬ (c = i) := by omega
  have hb7 : ¬ (c = i + 1) := by omega
  have hb8 : ¬ ((c : Int) < (n : Int) + 1) := by omega
  clear h h1 hv1 hvl hgv hgv1 cur0 cur w0 l0 w1 l1 o2 hxl hdl hW1 hi hz0 hz1 hz2
  go_enter Tryz.func77, Tryz.ntmps77
  go_wp2_with (simp only [hov])
  go_region_law (refine step_copy_eq rfl _ _ 24 24 rfl _ _ (by simp [Act.eval, Act.put]) (by simp [Act.eval, Act.put]) (hc1 _ _ _) ?_)
  go_wp2_with (at_builtin; refine wpList_copy_eq _ rfl _ _ 24 24 rfl _ _ rfl rfl (hc2 _ _) ?_)
  go_ret
  refine ⟨_, rfl, O2.out, ?_, .inl rfl⟩
  rw [HW.out]
  exact grown_predrew ((setCells_grown _ _ _).trans (setCells_grown _ _ _))

set_option maxHeartbeats 2000000 in
set_option maxRecDepth 100000 in
theorem insC_new (n i c g : Nat) (xs vs : List Value) (base gv : Nat) (w : World) (hn : (n + 1) * 24 ≤ 140737488355328) (hin : i < n) (hnc : n ≤ c) (hr : c < n + 1) (h : w.ownsRow base 60 2 (.slice (some ⟨g, 0, none⟩) n c) n xs) (h1 : ∀ u ∈ xs, u.oneCell' = true) (hv1 : ∀ u ∈ vs, u.oneCell' = true) (hvl : vs.length = 2) (hgv : Whole w gv 60 vs) (hb : base ≤ w.heap.size) :
    Calls Tryz.prog 77 #[.slice (some ⟨g, 0, none⟩) n c, .int .i64 i, .slice (some ⟨gv, 0, none⟩) 1 1] w (InsPostC (n + 1) (insCells xs vs (i * 2)) base (.slice (some ⟨g, 0, none⟩) n c) w) := by
  obtain ⟨i0, hi, hz0, hz1, hz2⟩ := info_parts scoreInfo
  obtain ⟨cur0, w0, l0, hx0, _, _, hm, hxl⟩ := own_whole h
  clear hx0
  have hdl : (xs.drop (i * 2)).length = (n - i) * 2 := by rw [List.length_drop, hxl]; omega
  have htl : (xs.take (i * 2)).length = i * 2 := by rw [List.length_take, hxl]; omega
  have hcell : ∀ t u, xs[t]? = some u → w.cell? ⟨g, t, none⟩ = some u := fun t u hu => by
    have hlt := (List.getElem?_eq_some_iff.1 hu).1
    exact (h.cellAt t (by omega)).trans hu
  have hold : (Builtin.firstCells i0.size i (.slice (some ⟨g, 0, none⟩) i c)).run Tryz.prog w.drew = .ok (xs.take (i * 2)).toArray w.drew := by
    rw [hz1]
    exact run_firstCells_some w.drew 2 i ⟨g, 0, none⟩ i c (xs.take (i * 2)) htl (fun t u hu => by
      rw [Addr.add_lit, Nat.zero_add]
      rw [List.getElem?_take] at hu
      split at hu
      · exact hcell t u hu
      · cases hu)
  have hG : grownCap w (n + 1) c 60 ≤ maxLen := grownCap_le_maxLen w _ _ _ (by unfold maxLen; omega)
  have hGe : n + 1 ≤ grownCap w (n + 1) c 60 := grownCap_ge w _ _ _
  have hrz : ∀ ty, (Builtin.append_ #[24, 3] ty #[.slice (some ⟨g, 0, none⟩) i c, .int .i64 ((n : Int) + 1 - (i : Int))]).run Tryz.prog w =
      .ok (.slice (some ⟨w.heap.size, 0, none⟩) (n + 1) (grownCap w (n + 1) c 60)) (w.drew.alloc (.cells ((xs.take (i * 2)).toArray ++ Builtin.zeroCells (Value.cells (.agg #[.int .i64 0, .string ⟨#[]⟩])) (n + 1 - i) ++ Builtin.zeroCells (Value.cells (.agg #[.int .i64 0, .string ⟨#[]⟩])) (grownCap w (n + 1) c 60 - (n + 1))) 60)) := fun ty => by
    have hik : i + (n + 1 - i) = n + 1 := by omega
    have h := Lib.run_append_grow_zeros w 24 3 ty 60 i0 _ .i64 .i64 Tryz.underlying24 Tryz.underlying3 hi hz0 (some ⟨g, 0, none⟩) i c _ hold (n + 1 - i) (by omega) (by omega) (by omega) (by omega) (by rw [hz2]; omega) (by rw [hz2, hik]; exact growslice_fits hr hn)
    rw [hik] at h
    rw [show (n : Int) + 1 - (i : Int) = ((n + 1 - i : Nat) : Int) by omega]
    exact h
  generalize grownCap w (n + 1) c 60 = G at *
  obtain ⟨zs, hzs⟩ : ∃ zs, zs = (Builtin.zeroCells (Value.cells (.agg #[.int .i64 0, .string ⟨#[]⟩])) (n + 1 - i) ++ Builtin.zeroCells (Value.cells (.agg #[.int .i64 0, .string ⟨#[]⟩])) (G - (n + 1))).toList := ⟨_, rfl⟩
  have hzl : zs.length = (n + 1 - i) * 2 + (G - (n + 1)) * 2 := by rw [hzs]; simp [Builtin.zeroCells, Value.cells]; try omega
  have hra : (xs.take (i * 2)).toArray ++ Builtin.zeroCells (Value.cells (.agg #[.int .i64 0, .string ⟨#[]⟩])) (n + 1 - i) ++ Builtin.zeroCells (Value.cells (.agg #[.int .i64 0, .string ⟨#[]⟩])) (G - (n + 1)) = (xs.take (i * 2) ++ zs).toArray := by
    rw [hzs]; simp
  rw [hra] at hrz
  obtain ⟨W0, hW0⟩ : ∃ W0, W0 = w.drew.alloc (.cells (xs.take (i * 2) ++ zs).toArray 60) := ⟨_, rfl⟩
  rw [← hW0] at hrz
  have wn : Whole W0 w.heap.size 60 (xs.take (i * 2) ++ zs) := by rw [hW0]; exact Whole.new w.drew 60 _
  have hgr : w.grownBy W0 (some g) := by rw [hW0]; exact grown_predrew (grown_alloc _ _ _)
  have hgv0 : Whole W0 gv 60 vs := by rw [hW0]; exact hgv.drew.alloc _
  have wg0 : Whole W0 g 60 cur0 := by rw [hW0]; exact w0.drew.alloc _
  have hgl : g ≠ w.heap.size := Nat.ne_of_lt w0.lt
  obtain ⟨cur, w1, l1, o2⟩ := ins_new (i := i) (n := n) (base := base) hxl (Nat.le_of_lt hin) hvl hGe hG hb wn (by rw [List.length_append, htl, hzl]; omega)
  rw [show (i + 1) * 2 = (i + 1) * 2 by omega, show i * 2 = i * 2 by omega] at o2
  rw [show i * 2 = i * 2 by omega] at w1
  have hc1 : ∀ ty dc, (Builtin.copy_ #[24, 24] ty #[.slice (some ⟨w.heap.size, i * 2, none⟩) (n + 1 - i) dc, .slice (some ⟨gv, 0, none⟩) 1 1]).run Tryz.prog W0 = .ok (goInt ((1 : Nat))) (W0.setCells w.heap.size (i * 2) vs) := fun ty dc =>
    run_copy_k W0 _ _ ty 60 i0 2 w.heap.size (i * 2) (n + 1 - i) dc ⟨gv, 0, none⟩ 1 1 1 vs Tryz.underlying24 hi hz1 (by simp only [Nat.min_def]; split <;> omega) (by omega)
      (fun t u hu => by
        rw [Addr.add_lit, Nat.zero_add, hgv0.cell]
        exact hu)
      (fun t ht => by
        rw [show i * 2 = i * 2 by omega]
        exact whole_cells wn (o := i * 2) (m := 2) (by rw [List.length_append, htl, hzl]; omega) t (by omega))
      hv1
  obtain ⟨W1, hW1⟩ : ∃ W1, W1 = W0.setCells w.heap.size (i * 2) vs := ⟨_, rfl⟩
  rw [← hW1] at hc1 o2 w1
  have hgr1 : w.grownBy W1 (some g) := by rw [hW1]; exact grown_fresh hgr (setCells_grown _ _ _) (Nat.le_refl _)
  have wg1 : Whole W1 g 60 cur0 := by rw [hW1]; exact wg0.grown (setCells_grown _ _ _) (by simpa using hgl)
  have hc2 : ∀ ty dc sc, (Builtin.copy_ #[24, 24] ty #[.slice (some ⟨w.heap.size, (i + 1) * 2, none⟩) (n - i) dc, .slice (some ⟨g, i * 2, none⟩) (n - i) sc]).run Tryz.prog W1.drew = .ok (goInt ((n - i : Nat))) (W1.drew.setCells w.heap.size ((i + 1) * 2) (xs.drop (i * 2))) := fun ty dc sc =>
    run_copy_k W1.drew _ _ ty 60 i0 2 w.heap.size ((i + 1) * 2) (n - i) dc ⟨g, i * 2, none⟩ (n - i) sc (n - i) _ Tryz.underlying24 hi hz1 (by simp only [Nat.min_def]; split <;> omega) hdl
      (fun t u hu => by
        rw [List.getElem?_drop] at hu
        have h2 := hcell _ u hu
        have e1 := wg0.cell (i * 2 + t)
        have e2 := w0.cell (i * 2 + t)
        have e3 := wg1.drew.cell (i * 2 + t)
        rw [Addr.add_lit, show i * 2 = i * 2 by omega, e3, ← e2]
        exact h2)
      (fun t ht => by
        rw [show (i + 1) * 2 = (i + 1) * 2 by omega]
        exact whole_cells w1.drew (o := (i + 1) * 2) (m := (n - i) * 2) (by rw [l1]; omega) t (by omega))
      (fun u hu => h1 u (List.mem_of_mem_drop hu))
  have O2 := Lib.hid (show (W1.drew.setCells w.heap.size ((i + 1) * 2) (xs.drop (i * 2))).ownsRow base 60 2 (.slice (some ⟨w.heap.size, 0, none⟩) (n + 1) G) (n + 1) (insCells xs vs (i * 2)) by rw [setCells_drew]; exact o2)
  have G2 := Lib.hid (show w.grownBy (W1.drew.setCells w.heap.size ((i + 1) * 2) (xs.drop (i * 2))) (some g) from grown_fresh (grown_drew hgr1) (setCells_grown _ _ _) (Nat.le_refl _))
  obtain ⟨W2, hW2⟩ : ∃ W2, W2 = W1.drew.setCells w.heap.size ((i + 1) * 2) (xs.drop (i * 2)) := ⟨_, rfl⟩
  rw [← hW2] at hc2 O2 G2
  unfold maxLen at hm hG
  have hz1' : ¬ ((i : Int) = (n : Int)) := by omega
  have hw1 : IntKind.i64.wrap ((i : Int) + 1) = (i : Int) + 1 := by rw [IntKind.wrap_i64]; omega
  have hw2 : IntKind.i64.wrap ((n : Int) + 1) = (n : Int) + 1 := by rw [IntKind.wrap_i64]; omega
  have hw3 : IntKind.i64.wrap ((n : Int) + 1 - (i : Int)) = (n : Int) + 1 - (i : Int) := by rw [IntKind.wrap_i64]; omega
  have ht1 : ((i : Int) + 1).toNat = i + 1 := by omega
  have hb0 : i ≤ n := by omega
  have hb1 : (0 : Int) ≤ (i : Int) + 1 := by omega
  have hb4 : (i : Int) ≤ (n : Int) + 1 := by omega
  have hb5 : (i : Int) ≤ (n : Int) := by omega
  have hb6 : ¬ (c = i) := by omega
  have hb7 : ¬ (G = i + 1) := by omega
  have hb9 : ¬ (G = i) := by omega
  have hb10 : (i : Int) ≤ (c : Int) := by omega
  have hb8 : (c : Int) < (n : Int) + 1 := by omega
  clear h h1 hv1 hvl hgv hgv0 cur0 cur w0 l0 w1 l1 o2 hxl hdl hW1 hi hz0 hz1 hz2 htl hcell hold hzs hzl hra hW0 wn hgr wg0 wg1 hgr1 hW2
  go_enter Tryz.func77, Tryz.ntmps77
  go_wp2_with (first
    | (at_builtin; refine Lib.wpList_append_run _ rfl _ _ _ _ rfl _ _ rfl rfl _ _ (hrz _) ?_)
    | (at_builtin; refine wpList_copy_eq _ rfl _ _ 24 24 rfl _ _ rfl rfl (hc1 _ _) ?_))
  go_region_law (refine step_copy_eq rfl _ _ 24 24 rfl _ _ (by simp [Act.eval, Act.put]) (by simp [Act.eval, Act.put]) (hc2 _ _ _) ?_)
  go_wp2
  go_ret
  exact ⟨_, rfl, O2.out, G2.out, .inr rfl⟩

/-- slices.Insert of one element. -/
theorem insC_row (n i : Nat) (xs vs : List Value) (base gv : Nat) (v : Value) (w : World) (hn : (n + 1) * 24 ≤ 140737488355328) (hin : i ≤ n) (h : w.ownsRow base 60 2 v n xs) (h1 : ∀ u ∈ xs, u.oneCell' = true) (hv1 : ∀ u ∈ vs, u.oneCell' = true) (hvl : vs.length = 2) (hgv : Whole w gv 60 vs) (hne : v.ownBlock ≠ some gv) (hb : base ≤ w.heap.size) :
    Calls Tryz.prog 77 #[v, .int .i64 i, .slice (some ⟨gv, 0, none⟩) 1 1] w (InsPostC (n + 1) (insCells xs vs (i * 2)) base v w) := by
  rcases Nat.lt_or_ge i n with hlt | hge
  · obtain ⟨A, c, rfl, hA, hc, hm⟩ := own_slice h
    rcases hA with rfl | ⟨g, rfl⟩
    · exfalso
      rcases h.2 with ⟨_, h0⟩ | ⟨g', cap', cur, h', _⟩
      · omega
      · cases h'
    · by_cases hr : n + 1 ≤ c
      · exact insC_in n i c g xs vs base gv w hlt hr h h1 hv1 hvl hgv (by
          rintro rfl
          exact hne rfl)
      · exact insC_new n i c g xs vs base gv w hn hlt hc (by omega) h h1 hv1 hvl hgv hb
  · obtain rfl : i = n := by omega
    have e : insCells xs vs (i * 2) = xs ++ vs := by
      have hl : xs.length = i * 2 := h.1
      unfold insCells
      rw [List.take_of_length_le (by omega), List.drop_of_length_le (by omega), List.append_nil]
    rw [e]
    exact insC_end i xs vs base gv v w hn h hv1 hvl hgv hb
end Go.Proofs.YtkgbgmfidkimfaaGreat
