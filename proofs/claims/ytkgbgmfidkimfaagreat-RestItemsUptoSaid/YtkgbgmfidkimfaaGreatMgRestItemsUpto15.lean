/- The walk of the law's hashBegun. (Printed by hashes2.py.) slices.Clone at springhouse/api.Score: a row of the call's own. (Printed by elem.py.) -/
import Derived.Test.YtkgbgmfidkimfaaGreatMgRestItemsUpto31
import Derived.Test.YtkgbgmfidkimfaaGreatMgRestItemsUpto32
import Derived.Test.YtkgbgmfidkimfaaGreatMgRestItemsUpto5
import Derived.Test.YtkgbgmfidkimfaaGreatItf
import Derived.Test.YtkgbgmfidkimfaaGreatSlA
import Derived.Laws.OwnMore
import Derived.WalkSpells
set_option linter.unusedVariables false
set_option linter.unusedSimpArgs false
namespace Go.Proofs.YtkgbgmfidkimfaaGreat
open Go.RowKit

def hbL : List (ByteArray × ByteArray) := [(⟨#[98]⟩, ⟨#[49]⟩), (⟨#[97]⟩, ⟨#[50]⟩), (⟨#[98]⟩, ⟨#[51]⟩)]
def hb1 : Itm := pairI [(⟨#[97]⟩, ⟨#[50]⟩), (⟨#[98]⟩, ⟨#[51]⟩)]
def hb2 : Itm := pairI [(⟨#[97]⟩, ⟨#[50]⟩)]
theorem hb1_small : hb1.Small := pairI_small (by decide) (by decide)
theorem hb2_small : hb2.Small := pairI_small (by decide) (by decide)
theorem hb_put : putCode (newI 0) hbL = 0 ∧ putN (newI 0) hbL = 2 ∧ putY (newI 0) hbL = hb1 := ⟨by kernel_rfl, by kernel_rfl, by kernel_rfl⟩
theorem hb_get : getCode hb1 ⟨#[98]⟩ = 0 ∧ getS hb1 ⟨#[98]⟩ = ⟨#[51]⟩ := ⟨by kernel_rfl, by kernel_rfl⟩
theorem hb_drop : asCode 4 hb1 = 0 ∧ dropN hb1 [⟨#[98]⟩, ⟨#[122]⟩] = 1 ∧ dropY hb1 [⟨#[98]⟩, ⟨#[122]⟩] = hb2 := ⟨by kernel_rfl, by kernel_rfl, by kernel_rfl⟩
theorem hb_get2 : getCode hb2 ⟨#[98]⟩ = 5 ∧ getS hb2 ⟨#[98]⟩ = ⟨#[]⟩ := ⟨by kernel_rfl, by kernel_rfl⟩
theorem slP_lit (w : World) : Sl (w.alloc (.cells #[.string ⟨#[98]⟩, .string ⟨#[49]⟩, .string ⟨#[97]⟩, .string ⟨#[50]⟩, .string ⟨#[98]⟩, .string ⟨#[51]⟩] 57)) (w.alloc (.cells #[.string ⟨#[98]⟩, .string ⟨#[49]⟩, .string ⟨#[97]⟩, .string ⟨#[50]⟩, .string ⟨#[98]⟩, .string ⟨#[51]⟩] 57)).heap.size 2 (.slice (some ⟨w.heap.size, 0, none⟩) 3 3) 3 (pairsV hbL) :=
  own_sl (World.ownsRow_lit (base := w.heap.size) (e := 57) (size := 2) w #[.string ⟨#[98]⟩, .string ⟨#[49]⟩, .string ⟨#[97]⟩, .string ⟨#[50]⟩, .string ⟨#[98]⟩, .string ⟨#[51]⟩] 3 (Nat.le_refl _) (by decide) rfl)
theorem slS_lit2 (w : World) (a b : ByteArray) : Sl (w.alloc (.cells #[.string a, .string b] 9)) (w.alloc (.cells #[.string a, .string b] 9)).heap.size 1 (.slice (some ⟨w.heap.size, 0, none⟩) 2 2) 2 (textsV [a, b]) :=
  own_sl (World.ownsRow_lit (base := w.heap.size) (e := 9) (size := 1) w #[.string a, .string b] 2 (Nat.le_refl _) (by decide) rfl)

set_option maxHeartbeats 4000000 in
set_option maxRecDepth 100000 in
theorem hashBegun_any (w : World) : Calls Tryz.prog 7 #[] w fun e w' => e = .returned (.bool true) ∧ Fr [] w w' := by
  have PU := Lib.hid (fun (W : World) u (k : Sl W W.heap.size 2 (.slice u 3 3) 3 (pairsV hbL)) => (show Calls Tryz.prog 21 #[.agg #[.int .i64 0, .string ⟨#[]⟩, .slice none 0 0, .slice none 0 0, .slice none 0 0], .slice u 3 3] W (INPost 2 0 hb1 W) from by
    have := hashPut_any (newI 0) (.agg #[.int .i64 0, .string ⟨#[]⟩, .slice none 0 0, .slice none 0 0, .slice none 0 0]) hbL u 3 W W.heap.size (newI_small 0 (by decide)) (Nat.le_refl _) (newI_item _ _) (by decide) k
    rw [hb_put.1, hb_put.2.1, hb_put.2.2] at this
    exact this))
  have GE := Lib.hid (fun (W : World) v (h : ItemV W W.heap.size v hb1) => (show Calls Tryz.prog 36 #[v, .string ⟨#[98]⟩] W (SEPost ⟨#[51]⟩ 0 W) from by
    have := hashGet_any hb1 v ⟨#[98]⟩ W W.heap.size hb1_small (Nat.le_refl _) h
    rw [hb_get.1, hb_get.2] at this
    exact this))
  have DR := Lib.hid (fun (W : World) v u (h : ItemV W W.heap.size v hb1) (k : Sl W W.heap.size 1 (.slice u 2 2) 2 (textsV [⟨#[98]⟩, ⟨#[122]⟩])) => (show Calls Tryz.prog 22 #[v, .slice u 2 2] W (INPost 1 0 hb2 W) from by
    have := hashDrop_any hb1 v [⟨#[98]⟩, ⟨#[122]⟩] u 2 W W.heap.size hb1_small (Nat.le_refl _) h (by decide) k
    rw [hb_drop.1, hb_drop.2.1, hb_drop.2.2] at this
    exact this))
  have GF := Lib.hid (fun (W : World) v (h : ItemV W W.heap.size v hb2) => (show Calls Tryz.prog 36 #[v, .string ⟨#[98]⟩] W (SEPost ⟨#[]⟩ 5 W) from by
    have := hashGet_any hb2 v ⟨#[98]⟩ W W.heap.size hb2_small (Nat.le_refl _) h
    rw [hb_get2.1, hb_get2.2] at this
    exact this))
  have q1 : ((⟨#[51]⟩ : ByteArray).toList == (⟨#[51]⟩ : ByteArray).toList) = true := by simp
  have E0 := Lib.hid (Env.start w)
  have E1 := Lib.hid (E0.out.alloc (.cells #[.string ⟨#[98]⟩, .string ⟨#[49]⟩, .string ⟨#[97]⟩, .string ⟨#[50]⟩, .string ⟨#[98]⟩, .string ⟨#[51]⟩] 57))
  have E2 := Lib.hid (E1.out.row (slP_lit w))
  go_enter Tryz.func7, Tryz.ntmps7
  go_wp2_with fail
  refine (PU.out _ _ (E2.out.rs _ (.head _))).mono ?_
  rintro e w1 ⟨v1, rfl, i1, f1⟩
  have E3 := Lib.hid (E2.out.go f1)
  have E4 := Lib.hid (E3.out.item i1.item)
  obtain ⟨P1, p1, P2, p2, P3, p3, rfl⟩ := i1.form
  clear i1
  have E5 := Lib.hid (E4.out.box (.int .i64 hb1.kind) (.string hb1.text) (.slice P1 hb1.list.length p1) (.slice P2 hb1.pairs.length p2) (.slice P3 hb1.scores.length p3))
  obtain ⟨d0, d1, d2, d3, d4⟩ := five (E5.out.bl _ (.head _))
  go_wp2_with fail
  refine (GE.out _ _ (E5.out.its _ (.head _))).mono ?_
  rintro e w2 ⟨rfl, f2⟩
  have E6 := Lib.hid (E5.out.go f2)
  clear d0 d1 d2 d3 d4
  obtain ⟨d0, d1, d2, d3, d4⟩ := five (E6.out.bl _ (.head _))
  have E7 := Lib.hid (E6.out.alloc (.cells #[.string ⟨#[98]⟩, .string ⟨#[122]⟩] 9))
  have E8 := Lib.hid (E7.out.row (slS_lit2 w2 ⟨#[98]⟩ ⟨#[122]⟩))
  go_wp2_with fail
  refine (DR.out _ _ _ (E8.out.its _ (.head _)) (E8.out.rs _ (.head _))).mono ?_
  rintro e w3 ⟨v2, rfl, i2, f3⟩
  have E9 := Lib.hid (E8.out.go f3)
  clear d0 d1 d2 d3 d4
  have E10 := Lib.hid (E9.out.item i2.item)
  obtain ⟨Q1, q1, Q2, q2, Q3, q3, rfl⟩ := i2.form
  clear i2
  have E11 := Lib.hid (E10.out.box (.int .i64 hb2.kind) (.string hb2.text) (.slice Q1 hb2.list.length q1) (.slice Q2 hb2.pairs.length q2) (.slice Q3 hb2.scores.length q3))
  obtain ⟨d0, d1, d2, d3, d4⟩ := five (E11.out.bl _ (.head _))
  go_wp2_with fail
  refine (GF.out _ _ (E11.out.its _ (.head _))).mono ?_
  rintro e w4 ⟨rfl, f4⟩
  have E12 := Lib.hid (E11.out.go f4)
  clear d0 d1 d2 d3 d4
  obtain ⟨d0, d1, d2, d3, d4⟩ := five (E12.out.bl _ (.head _))
  have hl2 : hb2.pairs.length = 1 := rfl
  go_wp2
  go_ret
  exact ⟨rfl, E12.out.f⟩
end Go.Proofs.YtkgbgmfidkimfaaGreat

namespace Go.Proofs.YtkgbgmfidkimfaaGreat
open Go.RowKit

set_option maxRecDepth 100000 in
theorem cloneC_row (n : Nat) (xs : List Value) (A : Option Addr) (c : Nat) (w : World) (B : Nat) (hl : n ≤ 1000000) (hB : B ≤ w.heap.size) (h : Sl w B 2 (.slice A n c) n xs) (h1 : ∀ u ∈ xs, u.oneCell' = true) :
    Calls Tryz.prog 72 #[.slice A n c] w (RowPost 60 2 n xs w) := by
  obtain ⟨i0, hi, hz0, hz1, hz2⟩ := info_parts scoreInfo
  have q29 : ∀ (w : World) (a : Option Addr) (n c n' c' : Nat), (binOp .eql 24 (.slice a n c) (.slice none n' c')).run Tryz.prog w = .ok (.bool a.isNone) w := fun w a n c n' c' => Lib.run_eql_slice_nil w _ _ a n c n' c' Tryz.underlying24
  cases A with
  | none =>
    obtain ⟨A', c', e, hlx, hc, hm, hr⟩ := h
    cases e
    have h0 : n = 0 := by
      rcases Nat.eq_zero_or_pos n with h0 | h0
      · exact h0
      · obtain ⟨_, _, h, _⟩ := hr h0
        cases h
    subst h0
    obtain rfl : xs = [] := List.eq_nil_of_length_eq_zero (by omega)
    clear hr h1
    go_enter Tryz.func72, Tryz.ntmps72
    go_wp2
    go_ret
    exact ⟨_, rfl, World.ownsRow_nil _ _ _ _, Fr.refl [] w⟩
  | some ad =>
    have hO := (World.ownsRow_lit (base := w.heap.size) (e := 60) (size := 2) w #[] 0 (Nat.le_refl _) (Nat.zero_le _) rfl)
    have hsl := h.fr ((Fr.refl [] w).alloc (.cells #[] 60)) hB (by simp)
    have H1 := Lib.hid h1
    have HS := Lib.hid hsl
    clear h h1 hsl
    go_enter Tryz.func72, Tryz.ntmps72
    go_wp2_with (at_builtin; refine wpList_append_sl _ rfl _ _ 24 rfl w.heap.size 60 i0 _ 2 24 Tryz.underlying24 hi hz0 hz1 hz2 rfl (by decide) _ _ _ rfl hO B _ n xs rfl HS.out H1.out ?c1 ?c2 (by simp) ?_)
    case c1 => unfold maxLen; omega
    case c2 => omega
    intro v' w2 hown' hgrow hat
    go_wp2
    go_ret
    refine ⟨_, rfl, by simpa using hown', ((Fr.refl [] w).alloc _).grown hgrow (fun k hk => ?_)⟩
    simp [Value.ownBlock] at hk
    subst hk
    exact .inr (Nat.le_refl _)
end Go.Proofs.YtkgbgmfidkimfaaGreat
