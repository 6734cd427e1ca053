/- slices.Grow of nothing, slices.Concat of two, at texts. -/
import Derived.Test.YtkgbgmfidkimfaaGreatSlA
import Derived.Test.YtkgbgmfidkimfaaGreatItf
import Derived.ChangeAlike
import Derived.RegionTactic
import Derived.Lib.AppendZerosOnto
import Derived.Lib.AppendZeros
set_option linter.unusedVariables false
set_option linter.unusedSimpArgs false
namespace Go.Proofs.YtkgbgmfidkimfaaGreat
open Go.RowKit

set_option maxRecDepth 100000 in
theorem growS_any (n : Nat) (w : World) (hn : n * 16 ≤ 140737488355328) :
    Calls Tryz.prog 103 #[.slice none 0 0, .int .i64 n] w (RowPost 9 1 0 [] w) := by
  obtain ⟨i0, hi, hz0, hz1, hz2⟩ := info_parts stringInfo
  by_cases h0 : n = 0
  · subst h0
    go_enter Tryz.func103, Tryz.ntmps103
    go_wp2
    go_ret
    exact ⟨_, rfl, World.ownsRow_nil _ _ _ _, Fr.refl [] w⟩
  · have h4 : (n : Int) > 0 := by omega
    have hold : (Builtin.firstCells i0.size 0 (.slice none 0 0)).run Tryz.prog w.drew = .ok ([] : List Value).toArray w.drew := run_firstCells_none w.drew i0.size 0 0 0
    have hrz : ∀ ty, (Builtin.append_ #[22, 3] ty #[.slice none 0 0, .int .i64 (n : Int)]).run Tryz.prog w = .ok (.slice (some ⟨w.heap.size, 0, none⟩) (0 + n) (grownCap w (0 + n) 0 9)) (w.drew.alloc (.cells (([] : List Value).toArray ++ Builtin.zeroCells (Value.string ⟨#[]⟩).cells n ++ Builtin.zeroCells (Value.string ⟨#[]⟩).cells (grownCap w (0 + n) 0 9 - (0 + n))) 9)) := fun ty =>
      Lib.run_append_grow_zeros w 22 3 ty 9 i0 _ .i64 .i64 Tryz.underlying22 Tryz.underlying3 hi hz0 none 0 0 [] hold n (by omega) (by omega) (by omega) (by omega) (by rw [hz2]; omega) (by have := growslice_fits (need := 0 + n) (old := 0) (bytes := i0.bytes) (by omega) (by rw [hz2]; omega); exact this)
    have hG : grownCap w (0 + n) 0 9 ≤ maxLen := grownCap_le_maxLen w _ _ _ (by unfold maxLen; omega)
    have hGe : 0 + n ≤ grownCap w (0 + n) 0 9 := grownCap_ge w _ _ _
    generalize grownCap w (0 + n) 0 9 = G at *
    have hO : (w.alloc (.cells (Builtin.zeroCells #[Value.string ⟨#[]⟩] n ++ Builtin.zeroCells #[Value.string ⟨#[]⟩] (G - n)) 9)).drew.ownsRow w.heap.size 9 1 (.slice (some ⟨w.heap.size, 0, none⟩) 0 G) 0 [] :=
      World.ownsRow_made (base := w.heap.size) (e := 9) (size := 1) w (Builtin.zeroCells #[Value.string ⟨#[]⟩] n ++ Builtin.zeroCells #[Value.string ⟨#[]⟩] (G - n)) G (Nat.le_refl _) hG (by simp [Builtin.zeroCells]; omega)
    have HO := Lib.hid hO
    have hG2 : G ≤ 9223372036854775807 := by unfold maxLen at hG; omega
    clear hO hG h0 hold
    go_enter Tryz.func103, Tryz.ntmps103
    go_wp2_with (at_builtin; refine Lib.wpList_append_run _ rfl _ _ _ _ rfl _ _ rfl rfl _ _ (hrz _) ?_)
    go_ret
    exact ⟨_, rfl, HO.out, ((Fr.refl [] w).drew).alloc _⟩

/-- the first so many of two. -/
def firstOf (a b : List ByteArray) (k : Nat) : List ByteArray := if k = 0 then [] else if k = 1 then a else a ++ b

set_option maxHeartbeats 800000 in
set_option maxRecDepth 100000 in
theorem concat_any (a b : List ByteArray) (v1 v2 : Value) (g c : Nat) (w : World) (B : Nat) (ha : a.length ≤ 256) (hb : b.length ≤ 8796093021952) (hc : 2 ≤ c) (hc2 : c ≤ 1000) (hB : B ≤ w.heap.size) (h1 : Sl w B 1 v1 a.length (textsV a)) (h2 : Sl w B 1 v2 b.length (textsV b))
    (g0 : w.cell? ⟨g, 0, none⟩ = some v1) (g1 : w.cell? ⟨g, 1, none⟩ = some v2) :
    Calls Tryz.prog 45 #[.slice (some ⟨g, 0, none⟩) 2 c] w (RowPost 9 1 (a ++ b).length (textsV (a ++ b)) w) := by
  obtain ⟨i0, hi, hz0, hz1, hz2⟩ := info_parts stringInfo
  obtain ⟨A1, c1, rfl, _⟩ := id h1
  obtain ⟨A2, c2, rfl, _⟩ := id h2
  have H1 := Lib.hid h1
  have H2 := Lib.hid h2
  have G0 := Lib.hid g0
  have G1 := Lib.hid g1
  have hgl : g < w.heap.size := World.block_lt_of_cell? w _ g0
  clear h1 h2
  go_enter Tryz.func45, Tryz.ntmps45
  go_wp2
  go_loopg [3, 11] 2 (fun k s i wr => ∃ (m : Nat), k = 2 - m ∧ m ≤ 2 ∧ i = .int .i64 m ∧ s = .int .i64 ((firstOf a b m).length : Nat) ∧ w = wr)
  case atStart => exact ⟨0, rfl, by omega, rfl, rfl, rfl⟩
  case round =>
    obtain ⟨m, rfl, hm, rfl, rfl, rfl⟩ := hrel
    rcases (show m = 0 ∨ m = 1 ∨ m = 2 by omega) with rfl | rfl | rfl
    · rw [show (firstOf a b 0).length = 0 from rfl]
      go_wp2
      go_roundg (2 - (0 + 1))
      case measure => omega
      case rel => exact ⟨1, rfl, by omega, by simp, by simp [firstOf], rfl⟩
    · rw [show (firstOf a b 1).length = a.length from rfl]
      go_wp2
      go_roundg (2 - (1 + 1))
      case measure => omega
      case rel => exact ⟨2, rfl, by omega, by simp, by simp [firstOf], rfl⟩
    obtain ⟨N, hN⟩ : ∃ N, N = (firstOf a b 2).length := ⟨_, rfl⟩
    rw [← hN]
    have hab : N ≤ 8796093022208 := by rw [hN]; simp [firstOf]; omega
    clear g0 g1 hN
    go_wp2_with fail
    refine (growS_any N _ (by omega)).mono ?_
    rintro e w1 ⟨v, rfl, ho, hf⟩
    have HO := Lib.hid ho
    have HF := Lib.hid hf
    have hz := hf.size
    obtain ⟨Av, cv, rfl, -⟩ := own_slice ho
    clear ho hf
    go_wp2
    go_loopg [6, 27] 2 (fun k v i wr => ∃ (m : Nat), k = 2 - m ∧ m ≤ 2 ∧ i = .int .i64 m ∧ wr.ownsRow w.heap.size 9 1 v (firstOf a b m).length (textsV (firstOf a b m)) ∧ Fr [] w wr)
    case atStart => exact ⟨0, rfl, by omega, rfl, HO.out, HF.out⟩
    case round =>
    obtain ⟨m, rfl, hm, rfl, ho, hf⟩ := hrel
    have hzr := hf.size
    have HF1 := Lib.hid hf
    have HO1 := Lib.hid ho
    obtain ⟨Am, cm, rfl, -⟩ := own_slice ho
    clear ho hf
    rcases (show m = 0 ∨ m = 1 ∨ m = 2 by omega) with rfl | rfl | rfl
    · have x1 : wr.cell? ⟨g, 0, none⟩ = some (.slice A1 a.length c1) := HF1.out.cell G0.out (by simp)
      go_wp2_with (at_builtin; refine wpList_append_sl _ rfl _ _ 22 rfl w.heap.size 9 i0 _ 1 16 Tryz.underlying22 hi hz0 hz1 hz2 rfl (by decide) _ _ _ rfl HO1.out B _ a.length (textsV a) rfl (H1.out.fr HF1.out hB (by simp)) (texts_one a) ?c1 ?c2 ?c3 ?_)
      case c1 => show 0 + a.length ≤ _; unfold maxLen; omega
      case c2 => show (0 + a.length) * 16 ≤ _; omega
      case c3 => omega
      intro v' w2 hown' hgrow hat
      have HO2 := Lib.hid hown'
      have HF2 := Lib.hid (HF1.out.grown hgrow (fun k hk => .inr (HO1.out.lt k hk).1))
      clear hown' hgrow hat x1
      go_wp2
      go_roundg (2 - (0 + 1))
      case measure => omega
      case rel => exact ⟨1, rfl, by omega, by simp, by have := HO2.out; simpa [firstOf, textsV] using this, HF2.out⟩
    · have x1 : wr.cell? ⟨g, 1, none⟩ = some (.slice A2 b.length c2) := HF1.out.cell G1.out (by simp)
      go_wp2_with (at_builtin; refine wpList_append_sl _ rfl _ _ 22 rfl w.heap.size 9 i0 _ 1 16 Tryz.underlying22 hi hz0 hz1 hz2 rfl (by decide) _ _ _ rfl HO1.out B _ b.length (textsV b) rfl (H2.out.fr HF1.out hB (by simp)) (texts_one b) ?d1 ?d2 ?d3 ?_)
      case d1 => show a.length + b.length ≤ _; unfold maxLen; omega
      case d2 => show (a.length + b.length) * 16 ≤ _; omega
      case d3 => omega
      intro v' w2 hown' hgrow hat
      have HO2 := Lib.hid hown'
      have HF2 := Lib.hid (HF1.out.grown hgrow (fun k hk => .inr (HO1.out.lt k hk).1))
      clear hown' hgrow hat x1
      go_wp2
      go_roundg (2 - (1 + 1))
      case measure => omega
      case rel => exact ⟨2, rfl, by omega, by simp, by have := HO2.out; simpa [firstOf, textsV] using this, HF2.out⟩
    go_wp2
    go_ret
    exact ⟨_, rfl, HO1.out, HF1.out⟩
end Go.Proofs.YtkgbgmfidkimfaaGreat
