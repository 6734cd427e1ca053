/- The walk of the law HashLast. (Printed by hashes2.py.) -/
import Derived.Test.YtfkfdmonnebmmaaHpC
import Derived.Test.YtfkfdmonnebmmaaHwH
set_option linter.unusedVariables false
set_option linter.unusedSimpArgs false
namespace Go.Proofs.Ytfkfdmonnebmmaa
open Go.RowKit

set_option maxHeartbeats 4000000 in
set_option maxRecDepth 100000 in
theorem hashLast_any (x : Itm) (v : Value) (l : List (ByteArray × ByteArray)) (Al : Option Addr) (cl : Nat) (f : ByteArray) (w : World) (B : Nat) (hs : x.Small) (hB : B ≤ w.heap.size) (h : ItemV w B v x) (hl : (24 + l.length) * 32 ≤ 140737488355328) (hL : Sl w B 2 (.slice Al l.length cl) l.length (pairsV l)) :
    Calls Try.prog 11 #[v, .slice Al l.length cl, .string f] w fun e w' => e = .returned (.bool true) ∧ Fr [] w w' := by
  have PU := Lib.hid (fun (W : World) u A c (h : ItemV W W.heap.size u x) k => hashPut_any x u l A c W W.heap.size hs (Nat.le_refl _) h hl k)
  have GX := Lib.hid (fun (W : World) u (h : ItemV W W.heap.size u x) => hashGet_any x u f W W.heap.size hs (Nat.le_refl _) h)
  have GY := Lib.hid (fun (W : World) u (h : ItemV W W.heap.size u (putY x l)) => hashGet_any (putY x l) u f W W.heap.size (putY_small x l) (Nat.le_refl _) h)
  have N1 := Lib.hid (fun (hc : putCode x l ≠ 0) => (show putN x l = 0 from if_neg hc))
  have GP := Lib.hid (fun (hc : putCode x l = 0) => get_put f hc)
  unfold SEPost at GX GY
  have E0 := Lib.hid (Env.start w)
  have E1 := Lib.hid (E0.out.item (h.more hB))
  have E2 := Lib.hid (E1.out.row (hL.more hB))
  obtain ⟨A1, c1, A2, c2, A3, c3, rfl⟩ := h.form
  clear h hL hs
  have E3 := Lib.hid (E2.out.box (.int .i64 x.kind) (.string x.text) (.slice A1 x.list.length c1) (.slice A2 x.pairs.length c2) (.slice A3 x.scores.length c3))
  generalize putY x l = y1 at *
  generalize putN x l = n1 at *
  generalize putCode x l = e1 at *
  go_enter Try.func11, Try.ntmps11
  go_wp2_with fail
  refine (hashBegun_any _).mono ?_
  rintro e w1 ⟨rfl, f1⟩
  have E4 := Lib.hid (E3.out.go f1)
  obtain ⟨d0, d1, d2, d3, d4⟩ := five (E4.out.bl _ (.head _))
  go_wp2_with fail
  refine (PU.out _ _ _ _ (E4.out.its _ (.head _)) (E4.out.rs _ (.head _))).mono ?_
  rintro e w2 ⟨v1, rfl, i1, f2⟩
  have E5 := Lib.hid (E4.out.go f2)
  clear d0 d1 d2 d3 d4
  have E6 := Lib.hid (E5.out.item i1.item)
  obtain ⟨P1, p1, P2, p2, P3, p3, rfl⟩ := i1.form
  clear i1
  have E7 := Lib.hid (E6.out.box (.int .i64 y1.kind) (.string y1.text) (.slice P1 y1.list.length p1) (.slice P2 y1.pairs.length p2) (.slice P3 y1.scores.length p3))
  by_cases he : e1 = 0
  · subst he
    obtain ⟨g1, g2⟩ := GP.out rfl
    rw [g1, g2] at GY
    clear g1 g2 GP N1
    go_wp2
    go_loopg [10, 11, 12] l.length (fun g wt fd i wr => ∃ (k : Nat), g = l.length - k ∧ k ≤ l.length ∧ i = .int .i64 k ∧ wt = .string (wantOf (lastK Prod.fst (l.take k) f)) ∧ fd = .bool (lastK Prod.fst (l.take k) f).isSome ∧ _ = wr)
    case atStart => exact ⟨0, rfl, Nat.zero_le _, rfl, rfl, rfl, rfl⟩
    case round =>
    obtain ⟨k, rfl, hk, rfl, rfl, rfl, rfl⟩ := hrel
    by_cases hlt : k < l.length
    · have hsl := (E7.out.rs _ (.head _))
      obtain ⟨b, off, rfl, hb, hc, hm, hcell⟩ := hsl.at_ (by omega)
      obtain ⟨t, ht⟩ : ∃ t, l[k]? = some t := ⟨_, List.getElem?_eq_getElem hlt⟩
      have hc1 := (show World.cell? _ ⟨b, off + 2 * k, none⟩ = some (.string t.1) from hcell _ _ (pairsV_get _ k t ht).1)
      have hc2 := (show World.cell? _ ⟨b, off + 2 * k + 1, none⟩ = some (.string t.2) from hcell _ _ (pairsV_get _ k t ht).2)
      rw [Nat.mul_comm 2 k] at hc1 hc2
      have hst := lastK_step (f := f) ht
      clear hsl hcell ht
      by_cases hq : t.1 = f
      · rw [if_pos hq] at hst
        have ST := Lib.hid hst
        have q : (t.1.toList == f.toList) = true := by have := eqB t.1 f; rw [decide_eq_true hq] at this; exact this
        clear hq hst
        go_wp2
        go_roundg (l.length - (k + 1))
        case measure => omega
        case rel => exact ⟨k + 1, rfl, by omega, by go_num, by rw [ST.out]; rfl, by rw [ST.out]; rfl, rfl⟩
      · rw [if_neg hq] at hst
        have ST := Lib.hid hst
        have q : (t.1.toList == f.toList) = false := neqB' hq
        clear hq hst
        go_wp2
        go_roundg (l.length - (k + 1))
        case measure => omega
        case rel => exact ⟨k + 1, rfl, by omega, by go_num, by rw [ST.out], by rw [ST.out], rfl⟩
    obtain rfl : k = l.length := by omega
    rw [List.take_length]
    clear hlt hk
    rcases hlk : lastK Prod.fst l f with _ | q
    · rw [hlk] at GY
      clear hlk
      obtain ⟨d0, d1, d2, d3, d4⟩ := five (E7.out.bl _ (.head _))
      go_wp2_with fail
      refine (GY.out _ _ (E7.out.its _ (.head _))).mono ?_
      rintro e w3 ⟨rfl, f3⟩
      have E8 := Lib.hid (E7.out.go f3)
      clear d0 d1 d2 d3 d4
      obtain ⟨d0, d1, d2, d3, d4⟩ := five (E8.out.bl _ (.tail _ (.head _)))
      have qs : ((getS x f).toList == (getS x f).toList) = true := by simp
      have qc : (getCode x f == getCode x f) = true := by simp
      generalize getS x f = gs at *
      generalize getCode x f = gc at *
      go_wp2_with fail
      refine (GX.out _ _ (E8.out.its _ (.tail _ (.head _)))).mono ?_
      rintro e w4 ⟨rfl, f4⟩
      have E9 := Lib.hid (E8.out.go f4)
      go_wp2
      go_ret
      exact ⟨rfl, E9.out.f⟩
    · rw [hlk] at GY
      clear hlk
      obtain ⟨d0, d1, d2, d3, d4⟩ := five (E7.out.bl _ (.head _))
      go_wp2_with fail
      refine (GY.out _ _ (E7.out.its _ (.head _))).mono ?_
      rintro e w3 ⟨rfl, f3⟩
      have E8 := Lib.hid (E7.out.go f3)
      clear d0 d1 d2 d3 d4
      have qs : (q.2.toList == (wantOf (some q)).toList) = true := by simp [wantOf]
      go_wp2
      go_ret
      exact ⟨rfl, E8.out.f⟩
  · have hn := N1.out he
    subst hn
    have q : (e1 != 0) = true := by simpa using he
    clear he N1 GP
    go_wp2
    go_ret
    exact ⟨rfl, E7.out.f⟩
end Go.Proofs.Ytfkfdmonnebmmaa
