/- The walk of reply.Decode. -/
import Derived.Test.YtoabjcnacnojbaaDoorReM
import Derived.Test.YtoabjcnacnojbaaDoorReE
set_option linter.unusedVariables false
set_option linter.unusedSimpArgs false
namespace Go.Proofs.YtoabjcnacnojbaaDoor
open Go.RowKit

def DecR (s : ByteArray) (w : World) (e : Ending) (w' : World) : Prop :=
  ∃ v, e = .returned (.tuple #[v, .int .i64 (ansC s.data.toList)]) ∧ RepO w' w.heap.size v (ansR s.data.toList) ∧ Fr [] w w'
theorem ans_form {l : List UInt8} (h : wholeL l = none) : ansC l = 1 ∧ ansR l = zeroR := by
  unfold ansC ansR; rw [h]; exact ⟨rfl, rfl⟩
theorem ans_bad {l : List UInt8} {r : Rep} (h : wholeL l = some r) (hc : repCode r ≠ 0) : ansC l = repCode r ∧ ansR l = zeroR := by
  unfold ansC ansR; rw [h]; exact ⟨rfl, if_neg hc⟩
theorem ans_good {l : List UInt8} {r : Rep} (h : wholeL l = some r) (hc : repCode r = 0) : ansC l = 0 ∧ ansR l = r := by
  unfold ansC ansR; rw [h]; exact ⟨hc, if_pos hc⟩

set_option maxHeartbeats 4000000 in
set_option maxRecDepth 100000 in
theorem rDecode_any (s : ByteArray) (w : World) (hs : s.size < 4294967281) (hv : Vars w) (hm : Mx w) :
    Calls Tryd.prog 6 #[.string s] w (DecR s w) := by
  have A1 := ((Fr.refl [] w).alloc (.cells #[.int .i64 0, .string ⟨#[]⟩, .int .i64 0, .slice none 0 0] 24)).alloc (.cells #[.string s, .bool false] 38)
  have hsz : (w.alloc (.cells #[.int .i64 0, .string ⟨#[]⟩, .int .i64 0, .slice none 0 0] 24)).heap.size = w.heap.size + 1 := by simp
  have R0 : Rr (w.heap.size + 1) s false ((w.alloc (.cells #[.int .i64 0, .string ⟨#[]⟩, .int .i64 0, .slice none 0 0] 24)).alloc (.cells #[.string s, .bool false] 38)) := by
    have := Whole.new (w.alloc (.cells #[.int .i64 0, .string ⟨#[]⟩, .int .i64 0, .slice none 0 0] 24)) 38 [.string s, .bool false]
    rw [hsz] at this
    exact this
  have V0 := Lib.hid (show Whole ((w.alloc (.cells #[.int .i64 0, .string ⟨#[]⟩, .int .i64 0, .slice none 0 0] 24)).alloc (.cells #[.string s, .bool false] 38)) w.heap.size 24 zero4 from Whole.alloc (Whole.new w _ _) _)
  have C0 := Lib.hid (show Ctx w (w.heap.size + 1) ((w.alloc (.cells #[.int .i64 0, .string ⟨#[]⟩, .int .i64 0, .slice none 0 0] 24)).alloc (.cells #[.string s, .bool false] 38)) from ⟨hv, hm, Nat.le_succ _, A1⟩)
  have RP := Lib.hid (reply_rd w _ s _ hs R0 C0.out)
  have hne : w.heap.size ≠ w.heap.size + 1 := by omega
  have hs2 : ((w.alloc (.cells #[.int .i64 0, .string ⟨#[]⟩, .int .i64 0, .slice none 0 0] 24)).alloc (.cells #[.string s, .bool false] 38)).heap.size = w.heap.size + 2 := by simp
  clear A1 R0 hv hm hsz
  go_enter Tryd.func6, Tryd.ntmps6
  go_wp2_with fail
  refine RP.out.mono ?_
  rintro e w1 (⟨rp, v, r, rfl, hd, ho, r1, f1⟩ | ⟨r, k, t, n, A, m, c, rfl, hd, r1, f1⟩)
  · obtain ⟨A, c, rfl⟩ := ho.form
    have HO := Lib.hid ho
    have R1 := Lib.hid r1
    have V1 := Lib.hid (V0.out.fr f1 (by simp))
    have F1 := Lib.hid (C0.out.go f1).f
    have hl1 := V1.out.lt
    have hl2 := R1.out.lt
    have HD := Lib.hid hd
    have SM := Lib.hid (decL_small (by simpa using (show s.size ≤ 281474976710656 by omega)) hd)
    clear r1 f1 hd RP V0 ho
    obtain ⟨⟨c0, c1⟩, z0, z1⟩ := R1.out.two
    obtain ⟨a0, a1, a2, a3⟩ := four V1.out
    obtain ⟨b0, b1, b2, b3⟩ := fourF V1.out
    by_cases hr : r = []
    · have q := (emptyT (toB r)).1
      rw [decide_eq_true (by rw [toB_size, hr]; rfl)] at q
      have HW := Lib.hid (show wholeL s.data.toList = some rp from by unfold wholeL; rw [HD.out, hr])
      have V2 := Lib.hid (Whole.new w1 24 [.int .i64 rp.kind, .string rp.text, .int .i64 rp.n, .slice A rp.list.length c])
      have CK := Lib.hid (rCheck_any rp _ (w1.alloc (.cells #[.int .i64 rp.kind, .string rp.text, .int .i64 rp.n, .slice A rp.list.length c] 24)) w1.heap.size SM.out.1 SM.out.2 ((Fr.refl [] w1).alloc (.cells #[.int .i64 rp.kind, .string rp.text, .int .i64 rp.n, .slice A rp.list.length c] 24)).size (HO.out.v.fr ((Fr.refl [] w1).alloc (.cells #[.int .i64 rp.kind, .string rp.text, .int .i64 rp.n, .slice A rp.list.length c] 24)) (Nat.le_refl _) (by simp)))
      have G1 := Lib.hid ((Fr.refl [] w1).alloc (.cells #[.int .i64 rp.kind, .string rp.text, .int .i64 rp.n, .slice A rp.list.length c] 24))
      have V3 := Lib.hid (V1.out.alloc (.cells #[.int .i64 rp.kind, .string rp.text, .int .i64 rp.n, .slice A rp.list.length c] 24))
      clear hr
      by_cases h0 : repCode rp = 0
      · have HA := Lib.hid (ans_good HW.out h0)
        rw [h0] at CK
        clear h0 HD
        generalize toB r = tr at *
        go_wp2_with fail
        refine CK.out.mono ?_
        rintro e w2 ⟨rfl, f2⟩
        have G2 := Lib.hid (G1.out.trans f2)
        have V4 := Lib.hid (V3.out.fr f2 (by simp))
        have V5 := Lib.hid (V2.out.fr f2 (by simp))
        have hl3 := V4.out.lt
        have hl4 := V5.out.lt
        clear f2 CK a0 a1 a2 a3 b0 b1 b2 b3 c0 c1 z0 z1
        obtain ⟨a0, a1, a2, a3⟩ := four V4.out
        obtain ⟨b0, b1, b2, b3⟩ := fourF V4.out
        obtain ⟨x0, x1, x2, x3⟩ := four V5.out
        have hx1 : ¬ w1.heap.size = w.heap.size := by omega
        have hx2 : ¬ w.heap.size = w1.heap.size := by omega
        go_wp2
        obtain ⟨y0, y1, y2, y3⟩ := four (show Whole ((((w2.setCell ⟨w.heap.size, 0, none⟩ (.int .i64 rp.kind)).setCell ⟨w.heap.size, 1, none⟩ (.string rp.text)).setCell ⟨w.heap.size, 2, none⟩ (.int .i64 rp.n)).setCell ⟨w.heap.size, 3, none⟩ (.slice A rp.list.length c)) w.heap.size 24 [.int .i64 rp.kind, .string rp.text, .int .i64 rp.n, .slice A rp.list.length c] from Whole.set_ (Whole.set_ (Whole.set_ (Whole.set_ V4.out 0 _) 1 _) 2 _) 3 _)
        refine bodyPost_ret (v := .tuple #[.agg #[.int .i64 rp.kind, .string rp.text, .int .i64 rp.n, .slice A rp.list.length c], .int .i64 0]) (by simp [results, Tryd.results6, go_sem, y0, y1, y2, y3]) rfl ?_
        unfold DecR
        rw [HA.out.1, HA.out.2]
        exact ⟨_, rfl, ((HO.out.fr G2.out).set4 (by omega) _ _ _ _).base (by omega), fr_set4 (F1.out.trans G2.out) (Nat.le_refl _) _ _ _ _⟩
      · have HA := Lib.hid (ans_bad HW.out h0)
        have q0 : (repCode rp != 0) = true := by simpa using h0
        clear h0 HD
        generalize repCode rp = code at *
        generalize toB r = tr at *
        go_wp2_with fail
        refine CK.out.mono ?_
        rintro e w2 ⟨rfl, f2⟩
        have G2 := Lib.hid (G1.out.trans f2)
        have V4 := Lib.hid (V3.out.fr f2 (by simp))
        have hl3 := V4.out.lt
        clear f2 CK a0 a1 a2 a3 b0 b1 b2 b3 c0 c1 z0 z1
        obtain ⟨a0, a1, a2, a3⟩ := four V4.out
        obtain ⟨b0, b1, b2, b3⟩ := fourF V4.out
        go_wp2
        obtain ⟨y0, y1, y2, y3⟩ := four (show Whole ((((w2.setCell ⟨w.heap.size, 0, none⟩ (.int .i64 0)).setCell ⟨w.heap.size, 1, none⟩ (.string ⟨#[]⟩)).setCell ⟨w.heap.size, 2, none⟩ (.int .i64 0)).setCell ⟨w.heap.size, 3, none⟩ (.slice none 0 0)) w.heap.size 24 [.int .i64 0, .string ⟨#[]⟩, .int .i64 0, .slice none 0 0] from Whole.set_ (Whole.set_ (Whole.set_ (Whole.set_ V4.out 0 _) 1 _) 2 _) 3 _)
        refine bodyPost_ret (v := .tuple #[.agg #[.int .i64 0, .string ⟨#[]⟩, .int .i64 0, .slice none 0 0], .int .i64 code]) (by simp [results, Tryd.results6, go_sem, y0, y1, y2, y3]) rfl ?_
        unfold DecR
        rw [HA.out.1, HA.out.2]
        exact ⟨_, rfl, RepO.bare _ _ _ _ _, fr_set4 (F1.out.trans G2.out) (Nat.le_refl _) _ _ _ _⟩
    · have q := (emptyT (toB r)).1
      rw [decide_eq_false (by rw [toB_size]; exact fun h => hr (List.eq_nil_of_length_eq_zero h))] at q
      have HA := Lib.hid (ans_form (show wholeL s.data.toList = none from by
        unfold wholeL
        rw [HD.out]
        cases r with
        | nil => exact absurd rfl hr
        | cons x r => rfl))
      clear hr HD
      generalize toB r = tr at *
      go_wp2
      obtain ⟨y0, y1, y2, y3⟩ := four (show Whole (((((w1.setCell ⟨w.heap.size, 0, none⟩ (.int .i64 0)).setCell ⟨w.heap.size, 1, none⟩ (.string ⟨#[]⟩)).setCell ⟨w.heap.size, 2, none⟩ (.int .i64 0)).setCell ⟨w.heap.size, 3, none⟩ (.slice none 0 0)).alloc (.cells #[.int .i64 rp.kind, .string rp.text, .int .i64 rp.n, .slice A rp.list.length c] 24)) w.heap.size 24 [.int .i64 0, .string ⟨#[]⟩, .int .i64 0, .slice none 0 0] from Whole.alloc (Whole.set_ (Whole.set_ (Whole.set_ (Whole.set_ V1.out 0 _) 1 _) 2 _) 3 _) _)
      refine bodyPost_ret (v := .tuple #[.agg #[.int .i64 0, .string ⟨#[]⟩, .int .i64 0, .slice none 0 0], .int .i64 1]) (by simp [results, Tryd.results6, go_sem, y0, y1, y2, y3]) rfl ?_
      unfold DecR
      rw [HA.out.1, HA.out.2]
      exact ⟨_, rfl, RepO.bare _ _ _ _ _, (fr_set4 F1.out (Nat.le_refl _) _ _ _ _).alloc _⟩
  · have R1 := Lib.hid r1
    have V1 := Lib.hid (V0.out.fr f1 (by simp))
    have F1 := Lib.hid (C0.out.go f1).f
    have HA := Lib.hid (ans_form (show wholeL s.data.toList = none from by unfold wholeL; rw [hd]))
    have hl1 := V1.out.lt
    have hl2 := R1.out.lt
    clear r1 f1 hd RP V0
    obtain ⟨⟨c0, c1⟩, z0, z1⟩ := R1.out.two
    obtain ⟨a0, a1, a2, a3⟩ := four V1.out
    obtain ⟨b0, b1, b2, b3⟩ := fourF V1.out
    go_wp2
    obtain ⟨y0, y1, y2, y3⟩ := four (show Whole (((((w1.setCell ⟨w.heap.size, 0, none⟩ (.int .i64 0)).setCell ⟨w.heap.size, 1, none⟩ (.string ⟨#[]⟩)).setCell ⟨w.heap.size, 2, none⟩ (.int .i64 0)).setCell ⟨w.heap.size, 3, none⟩ (.slice none 0 0)).alloc (.cells #[.int .i64 k, .string t, .int .i64 n, .slice A m c] 24)) w.heap.size 24 [.int .i64 0, .string ⟨#[]⟩, .int .i64 0, .slice none 0 0] from Whole.alloc (Whole.set_ (Whole.set_ (Whole.set_ (Whole.set_ V1.out 0 _) 1 _) 2 _) 3 _) _)
    refine bodyPost_ret (v := .tuple #[.agg #[.int .i64 0, .string ⟨#[]⟩, .int .i64 0, .slice none 0 0], .int .i64 1]) (by simp [results, Tryd.results6, go_sem, y0, y1, y2, y3]) rfl ?_
    unfold DecR
    rw [HA.out.1, HA.out.2]
    exact ⟨_, rfl, RepO.bare _ _ _ _ _, (fr_set4 F1.out (Nat.le_refl _) _ _ _ _).alloc _⟩
end Go.Proofs.YtoabjcnacnojbaaDoor
