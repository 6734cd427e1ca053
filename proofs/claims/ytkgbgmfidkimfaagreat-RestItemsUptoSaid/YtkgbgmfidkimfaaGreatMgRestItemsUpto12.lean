/- Items that set.Add and Remove give are small. slices.Delete at texts. -/
import Derived.Test.YtkgbgmfidkimfaaGreatMgRestItemsUpto20
import Derived.Test.YtkgbgmfidkimfaaGreatMgRestItemsUpto19
import Derived.Test.YtkgbgmfidkimfaaGreatMgRestItemsUpto4
import Derived.Test.YtkgbgmfidkimfaaGreatSlA
import Derived.Test.YtkgbgmfidkimfaaGreatItf
import Derived.Laws.OwnMore
import Derived.WalkSpells
import Derived.Deep.RegionLaw
set_option linter.unusedVariables false
set_option linter.unusedSimpArgs false
namespace Go.Proofs.YtkgbgmfidkimfaaGreat
open Go.RowKit
theorem add3Y_small (x : Itm) (l : List ByteArray) : (add3Y x l).Small := by
  unfold add3Y
  split
  · rename_i h
    obtain ⟨h1, h2⟩ := add3_ok h
    unfold ofK
    split
    · exact newI_small 0 (by decide)
    · exact kindI_small (by decide) (by omega) (fun s hs => by have := addL3_texts h1 s hs; omega)
  · exact newI_small 0 (by decide)
theorem remOfY_small (x : Itm) (l : List ByteArray) : (remOfY 3 x l).Small := by
  unfold remOfY
  split
  · rename_i h
    have h1 := (setOk h).2
    have h2 : (lessL x.list l).length ≤ x.list.length := List.length_filter_le _ _
    unfold ofK
    split
    · exact newI_small 0 (by decide)
    · exact kindI_small (by decide) (by omega) (fun s hs => by have := (asOk_of h).texts s (List.mem_filter.1 hs).1; omega)
  · exact newI_small 0 (by decide)
end Go.Proofs.YtkgbgmfidkimfaaGreat

namespace Go.Proofs.YtkgbgmfidkimfaaGreat
open Go.RowKit

def DelPostS (m : Nat) (ys : List Value) (base : Nat) (v : Value) (w : World) (e : Ending) (w' : World) : Prop :=
  ∃ v', e = .returned v' ∧ w'.ownsRow base 9 1 v' m ys ∧ w.grownBy w' v.ownBlock ∧ v'.ownBlock = v.ownBlock
theorem zeroS : ∀ w, (zeroValue 9).run Tryz.prog w = .ok (.string ⟨#[]⟩) w := fun w => by kernel_rfl
set_option maxHeartbeats 2000000 in
set_option maxRecDepth 1000000 in
theorem delS_row (n i j : Nat) (xs : List Value) (base : Nat) (v : Value) (w : World) (hn : n ≤ 1000000) (hij : i < j) (hj : j ≤ n) (h : w.ownsRow base 9 1 v n xs) (h1 : ∀ u ∈ xs, u.oneCell' = true) :
    Calls Tryz.prog 49 #[v, .int .i64 i, .int .i64 j] w (DelPostS (i + (n - j)) (xs.take (i * 1) ++ xs.drop (j * 1)) base v w) := by
  obtain ⟨i0, hi, hz0, hz1, hz2⟩ := info_parts stringInfo
  obtain ⟨A, c, rfl, hA, hc, hm⟩ := own_slice h
  rcases hA with rfl | ⟨g, rfl⟩
  · exfalso
    rcases h.2 with ⟨_, h0⟩ | ⟨g', cap', cur, h', _⟩
    · omega
    · cases h'
  obtain ⟨cur0, w0, l0, t0, hb0, _, _, hxl⟩ := own_whole h
  have hdl : (xs.drop (j * 1)).length = (n - j) * 1 := by rw [List.length_drop, hxl]; omega
  obtain ⟨zs, hzs⟩ : ∃ zs, zs = (Builtin.zeroCells (Value.cells (.string ⟨#[]⟩)) (n - (i + (n - j)))).toList := ⟨_, rfl⟩
  have hzl : zs.length = (j - i) * 1 := by rw [hzs]; simp [Builtin.zeroCells, Value.cells]; omega
  obtain ⟨cur1, w1, l1, o2⟩ := del_own (w := w.drew) h hij hj hzl
  obtain ⟨A, hA, hsrc⟩ : ∃ A : Addr, (if c = j then (some ⟨g, 0, none⟩ : Option Addr) else some ⟨g, j, none⟩) = some A ∧ Hid (∀ t u, (xs.drop (j * 1))[t]? = some u → w.drew.cell? (A.add t) = some u) := by
    by_cases hcj : c = j
    · refine ⟨⟨g, 0, none⟩, by simp [hcj], fun t u hu => ?_⟩
      have h0 : (xs.drop (j * 1)).length = 0 := by rw [hdl]; omega
      rw [List.length_eq_zero_iff.1 h0] at hu
      simp at hu
    · refine ⟨⟨g, j * 1, none⟩, by simp [hcj], fun t u hu => ?_⟩
      rw [List.getElem?_drop] at hu
      have hlt := (List.getElem?_eq_some_iff.1 hu).1
      have := (h.cellAt (j * 1 + t) (by omega)).trans hu
      unfold Addr.add
      split
      · have e : t = 0 := by assumption
        subst e
        exact this
      · exact this
  have s1 := Lib.hid hdl
  have s2 := Lib.hid (show ∀ u ∈ xs.drop (j * 1), u.oneCell' = true from fun u hu => h1 u (List.mem_of_mem_drop hu))
  have hcn : (i + (n - j)) * 1 ≤ c * 1 := Nat.mul_le_mul_right _ (by omega)
  have s3 := Lib.hid (show ∀ t, t < (xs.drop (j * 1)).length → (w.drew.cell? ⟨g, 0 + i * 1 + t, none⟩).isSome = true ∧ w.drew.frozen? ⟨g, 0 + i * 1 + t, none⟩ = false from fun t ht => by
    rw [Nat.zero_add]
    exact whole_cells w0 (o := i * 1) (m := (n - j) * 1) (by rw [l0]; omega) t (by omega))
  obtain ⟨W1, hW1⟩ : ∃ W1, W1 = w.drew.setCells g (0 + i * 1) (xs.drop (j * 1)) := ⟨_, rfl⟩
  have hcl : ∀ ty, (Builtin.clear_ #[22] ty #[.slice (some ⟨g, (i + (n - j)), none⟩) (n - (i + (n - j))) (c - (i + (n - j)))]).run Tryz.prog W1 = .ok (.tuple #[]) (W1.setCells g ((i + (n - j))) zs) := fun ty => by
    have := run_clear_k (P := Tryz.prog) W1 22 9 ty (.string ⟨#[]⟩) Tryz.underlying22 zeroS (by intro u hu; simp [Value.cells] at hu; rcases hu with rfl | rfl <;> rfl) g ((i + (n - j)) * 1) (n - (i + (n - j))) (c - (i + (n - j))) (by omega) (fun t ht => by
      rw [hW1, Nat.zero_add]
      exact whole_cells (w := (w.drew.setCells g (i * 1) (xs.drop (j * 1)))) w1 (o := (i + (n - j)) * 1) (m := (n - (i + (n - j))) * 1) (by rw [l1]; omega) t (by simpa [Value.cells] using ht))
    rw [← hzs, show (i + (n - j)) * 1 = (i + (n - j)) by omega] at this
    exact this
  rw [show (i + (n - j)) * 1 = (i + (n - j)) by omega] at o2
  have O2 := Lib.hid o2
  have HW := Lib.hid hW1
  have hic : i ≤ c := by omega
  have hjc : j ≤ c := by omega
  have hlt : i < j := hij
  unfold maxLen at hm
  clear h h1 cur0 w0 l0 t0 hb0 hxl hdl hzs hzl w1 l1 o2 cur1 hW1 hcn
  go_enter Tryz.func49, Tryz.ntmps49
  go_wp2_with fail
  go_region_law (refine step_append_room rfl (.tmp 22) (.tmp 25) 22 rfl 9 i0 1 Tryz.underlying22 hi hz1 g 0 i c (by simp [Act.eval, Act.put]) A (n - j) (c - j) (xs.drop (j * 1)) (by simp [Act.eval, Act.put]) s1.out hsrc.out s2.out (by omega) s3.out ?_; rw [← HW.out])
  go_wp2
  go_ret
  have e1 := HW.out
  rw [Nat.zero_add] at e1
  subst e1
  exact ⟨_, rfl, O2.out, grown_predrew ((setCells_grown _ _ _).trans (setCells_grown _ _ _)), rfl⟩
end Go.Proofs.YtkgbgmfidkimfaaGreat
