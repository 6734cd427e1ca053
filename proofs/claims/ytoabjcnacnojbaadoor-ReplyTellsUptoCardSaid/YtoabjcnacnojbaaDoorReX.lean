/- The walks of the document's ReplyOf, and of SameReply, of two that are. -/
import Derived.Test.YtoabjcnacnojbaaDoorReW
import Derived.Deep.RegionHeld3
set_option linter.unusedVariables false
set_option linter.unusedSimpArgs false
namespace Go.Proofs.YtoabjcnacnojbaaDoor
open Go.RowKit

set_option maxHeartbeats 4000000 in
set_option maxRecDepth 100000 in
theorem dDecode_any (s : ByteArray) (w : World) (hs : s.size < 4294967281) :
    Calls Tryd.prog 9 #[.string s] w (DecR s w) := by
  have A1 := Lib.hid ((Fr.refl [] w).alloc (.cells #[.int .i64 0, .string ⟨#[]⟩, .int .i64 0, .slice none 0 0] 24))
  have V0 := Lib.hid (Whole.new w 24 zero4)
  have AT := Lib.hid (show Calls Tryd.prog 17 #[.string s, .int .i64 0, .bool true] (w.alloc (.cells #[.int .i64 0, .string ⟨#[]⟩, .int .i64 0, .slice none 0 0] 24)) (AtP s 0 (w.alloc (.cells #[.int .i64 0, .string ⟨#[]⟩, .int .i64 0, .slice none 0 0] 24))) from at_any s 0 _ hs (Nat.zero_le _))
  have hsz : (w.alloc (.cells #[.int .i64 0, .string ⟨#[]⟩, .int .i64 0, .slice none 0 0] 24)).heap.size = w.heap.size + 1 := by simp
  go_enter Tryd.func9, Tryd.ntmps9
  go_wp2_with fail
  refine AT.out.mono ?_
  rintro e w1 ⟨k, tx, n, A, m, c, ti, bz, rfl, hc, f1⟩
  have F1 := Lib.hid (A1.out.trans f1)
  have V1 := Lib.hid (V0.out.fr f1 (by simp))
  rw [hsz, List.drop_zero] at hc
  have HC := Lib.hid hc
  clear f1 V0 A1 AT hc
  obtain ⟨a0, a1, a2, a3⟩ := four V1.out
  obtain ⟨b0, b1, b2, b3⟩ := fourF V1.out
  have hl1 := V1.out.lt
  cases bz
  · have HA := Lib.hid (ans_form (show wholeL s.data.toList = none from by
      unfold wholeL
      obtain ⟨_, _, h, _⟩ | ⟨_, h⟩ := HC.out
      · cases h
      · rw [h]))
    clear HC
    go_wp2
    obtain ⟨y0, y1, y2, y3⟩ := four (show Whole (((((w1.setCell ⟨w.heap.size, 0, none⟩ (.int .i64 0)).setCell ⟨w.heap.size, 1, none⟩ (.string ⟨#[]⟩)).setCell ⟨w.heap.size, 2, none⟩ (.int .i64 0)).setCell ⟨w.heap.size, 3, none⟩ (.slice none 0 0)).alloc (.cells #[.int .i64 k, .string tx, .int .i64 n, .slice A m c] 24)) w.heap.size 24 [.int .i64 0, .string ⟨#[]⟩, .int .i64 0, .slice none 0 0] from Whole.alloc (Whole.set_ (Whole.set_ (Whole.set_ (Whole.set_ V1.out 0 _) 1 _) 2 _) 3 _) _)
    refine bodyPost_ret (v := .tuple #[.agg #[.int .i64 0, .string ⟨#[]⟩, .int .i64 0, .slice none 0 0], .int .i64 1]) (by simp [results, Tryd.results9, go_sem, y0, y1, y2, y3]) rfl ?_
    unfold DecR
    rw [HA.out.1, HA.out.2]
    exact ⟨_, rfl, RepO.bare _ _ _ _ _, (fr_set4 F1.out (Nat.le_refl _) _ _ _ _).alloc _⟩
  obtain ⟨t, rp, rfl, ht, hd, ho⟩ : ∃ (t : Nat) (rp : Rep), ti = t ∧ t ≤ s.size ∧ decL s.data.toList = some (rp, s.data.toList.drop t) ∧ RepO w1 (w.heap.size + 1) (.agg #[.int .i64 k, .string tx, .int .i64 n, .slice A m c]) rp := by
    obtain ⟨t, rp, _, h2, h3, h4, h5⟩ | ⟨h, _⟩ := HC.out
    · exact ⟨t, rp, h2, h3, h4, h5⟩
    · cases h
  clear HC
  obtain ⟨A', c', hv⟩ := ho.form
  have HO := Lib.hid ho
  simp at hv
  obtain ⟨rfl, rfl, rfl, rfl, rfl, rfl⟩ := hv
  have HD := Lib.hid hd
  have SM := Lib.hid (decL_small (by simpa using (show s.size ≤ 281474976710656 by omega)) hd)
  clear hd ho
  by_cases htl : t < s.size
  · have q1 : (t : Int) < (s.size : Int) := by omega
    have HA := Lib.hid (ans_form (show wholeL s.data.toList = none from by
      unfold wholeL
      rw [HD.out]
      have : s.data.toList.drop t ≠ [] := fun h => by
        have h2 := congrArg List.length h
        rw [List.length_drop] at h2
        simp at h2
        omega
      rcases hq : s.data.toList.drop t with _ | ⟨x, l⟩
      · exact absurd hq this
      · rfl))
    clear HD
    go_wp2
    obtain ⟨y0, y1, y2, y3⟩ := four (show Whole (((((w1.setCell ⟨w.heap.size, 0, none⟩ (.int .i64 0)).setCell ⟨w.heap.size, 1, none⟩ (.string ⟨#[]⟩)).setCell ⟨w.heap.size, 2, none⟩ (.int .i64 0)).setCell ⟨w.heap.size, 3, none⟩ (.slice none 0 0)).alloc (.cells #[.int .i64 rp.kind, .string rp.text, .int .i64 rp.n, .slice A rp.list.length c] 24)) w.heap.size 24 [.int .i64 0, .string ⟨#[]⟩, .int .i64 0, .slice none 0 0] from Whole.alloc (Whole.set_ (Whole.set_ (Whole.set_ (Whole.set_ V1.out 0 _) 1 _) 2 _) 3 _) _)
    refine bodyPost_ret (v := .tuple #[.agg #[.int .i64 0, .string ⟨#[]⟩, .int .i64 0, .slice none 0 0], .int .i64 1]) (by simp [results, Tryd.results9, go_sem, y0, y1, y2, y3]) rfl ?_
    unfold DecR
    rw [HA.out.1, HA.out.2]
    exact ⟨_, rfl, RepO.bare _ _ _ _ _, (fr_set4 F1.out (Nat.le_refl _) _ _ _ _).alloc _⟩
  have q1 : ¬ (t : Int) < (s.size : Int) := by omega
  have HW := Lib.hid (show wholeL s.data.toList = some rp from by
    unfold wholeL
    rw [HD.out, List.drop_of_length_le (by simp; omega)])
  have V2 := Lib.hid (Whole.new w1 24 [.int .i64 rp.kind, .string rp.text, .int .i64 rp.n, .slice A rp.list.length c])
  have CK := Lib.hid (dCheck_any rp _ (w1.alloc (.cells #[.int .i64 rp.kind, .string rp.text, .int .i64 rp.n, .slice A rp.list.length c] 24)) w1.heap.size SM.out.1 SM.out.2 ((Fr.refl [] w1).alloc (.cells #[.int .i64 rp.kind, .string rp.text, .int .i64 rp.n, .slice A rp.list.length c] 24)).size (HO.out.v.fr ((Fr.refl [] w1).alloc (.cells #[.int .i64 rp.kind, .string rp.text, .int .i64 rp.n, .slice A rp.list.length c] 24)) (Nat.le_refl _) (by simp)))
  have G1 := Lib.hid ((Fr.refl [] w1).alloc (.cells #[.int .i64 rp.kind, .string rp.text, .int .i64 rp.n, .slice A rp.list.length c] 24))
  have V3 := Lib.hid (V1.out.alloc (.cells #[.int .i64 rp.kind, .string rp.text, .int .i64 rp.n, .slice A rp.list.length c] 24))
  by_cases h0 : repCode rp = 0
  · have HA := Lib.hid (ans_good HW.out h0)
    rw [h0] at CK
    clear h0 HD
    go_wp2_with fail
    refine CK.out.mono ?_
    rintro e w2 ⟨rfl, f2⟩
    have G2 := Lib.hid (G1.out.trans f2)
    have V4 := Lib.hid (V3.out.fr f2 (by simp))
    have V5 := Lib.hid (V2.out.fr f2 (by simp))
    have hl3 := V4.out.lt
    have hl4 := V5.out.lt
    clear f2 CK a0 a1 a2 a3 b0 b1 b2 b3
    obtain ⟨a0, a1, a2, a3⟩ := four V4.out
    obtain ⟨b0, b1, b2, b3⟩ := fourF V4.out
    obtain ⟨x0, x1, x2, x3⟩ := four V5.out
    have hx1 : ¬ w1.heap.size = w.heap.size := by omega
    have hx2 : ¬ w.heap.size = w1.heap.size := by omega
    go_wp2
    obtain ⟨y0, y1, y2, y3⟩ := four (show Whole ((((w2.setCell ⟨w.heap.size, 0, none⟩ (.int .i64 rp.kind)).setCell ⟨w.heap.size, 1, none⟩ (.string rp.text)).setCell ⟨w.heap.size, 2, none⟩ (.int .i64 rp.n)).setCell ⟨w.heap.size, 3, none⟩ (.slice A rp.list.length c)) w.heap.size 24 [.int .i64 rp.kind, .string rp.text, .int .i64 rp.n, .slice A rp.list.length c] from Whole.set_ (Whole.set_ (Whole.set_ (Whole.set_ V4.out 0 _) 1 _) 2 _) 3 _)
    refine bodyPost_ret (v := .tuple #[.agg #[.int .i64 rp.kind, .string rp.text, .int .i64 rp.n, .slice A rp.list.length c], .int .i64 0]) (by simp [results, Tryd.results9, go_sem, y0, y1, y2, y3]) rfl ?_
    unfold DecR
    rw [HA.out.1, HA.out.2]
    exact ⟨_, rfl, ((HO.out.fr G2.out).set4 (by omega) _ _ _ _).base (by omega), fr_set4 (F1.out.trans G2.out) (Nat.le_refl _) _ _ _ _⟩
  · have HA := Lib.hid (ans_bad HW.out h0)
    have q0 : (repCode rp != 0) = true := by simpa using h0
    clear h0 HD
    generalize repCode rp = code at *
    go_wp2_with fail
    refine CK.out.mono ?_
    rintro e w2 ⟨rfl, f2⟩
    have G2 := Lib.hid (G1.out.trans f2)
    have V4 := Lib.hid (V3.out.fr f2 (by simp))
    have hl3 := V4.out.lt
    clear f2 CK a0 a1 a2 a3 b0 b1 b2 b3
    obtain ⟨a0, a1, a2, a3⟩ := four V4.out
    obtain ⟨b0, b1, b2, b3⟩ := fourF V4.out
    go_wp2
    obtain ⟨y0, y1, y2, y3⟩ := four (show Whole ((((w2.setCell ⟨w.heap.size, 0, none⟩ (.int .i64 0)).setCell ⟨w.heap.size, 1, none⟩ (.string ⟨#[]⟩)).setCell ⟨w.heap.size, 2, none⟩ (.int .i64 0)).setCell ⟨w.heap.size, 3, none⟩ (.slice none 0 0)) w.heap.size 24 [.int .i64 0, .string ⟨#[]⟩, .int .i64 0, .slice none 0 0] from Whole.set_ (Whole.set_ (Whole.set_ (Whole.set_ V4.out 0 _) 1 _) 2 _) 3 _)
    refine bodyPost_ret (v := .tuple #[.agg #[.int .i64 0, .string ⟨#[]⟩, .int .i64 0, .slice none 0 0], .int .i64 code]) (by simp [results, Tryd.results9, go_sem, y0, y1, y2, y3]) rfl ?_
    unfold DecR
    rw [HA.out.1, HA.out.2]
    exact ⟨_, rfl, RepO.bare _ _ _ _ _, fr_set4 (F1.out.trans G2.out) (Nat.le_refl _) _ _ _ _⟩

theorem new_at (w : World) (o : Obj) (t : TypeId) (cs : List Value) : Whole ((w.alloc o).alloc (.cells cs.toArray t)) (w.heap.size + 1) t cs := by
  have := Whole.new (w.alloc o) t cs
  rwa [show (w.alloc o).heap.size = w.heap.size + 1 from by simp] at this

set_option maxHeartbeats 4000000 in
set_option maxRecDepth 100000 in
theorem same1_any (k n : Int) (t : ByteArray) (A A' : Option Addr) (c c' : Nat) (w : World) :
    Calls Tryd.prog 12 #[.agg #[.int .i64 k, .string t, .int .i64 n, .slice A 0 c], .agg #[.int .i64 k, .string t, .int .i64 n, .slice A' 0 c']] w fun e w' => e = .returned (.bool true) ∧ Fr [] w w' := by
  have F1 := Lib.hid (((Fr.refl [] w).alloc (.cells #[.int .i64 k, .string t, .int .i64 n, .slice A 0 c] 24)).alloc (.cells #[.int .i64 k, .string t, .int .i64 n, .slice A' 0 c'] 24))
  go_enter Tryd.func12, Tryd.ntmps12
  go_wp2
  go_loopg [5] 0 (fun x i wr => x = 0 ∧ i = .int .i64 0 ∧ wr = (w.alloc (.cells #[.int .i64 k, .string t, .int .i64 n, .slice A 0 c] 24)).alloc (.cells #[.int .i64 k, .string t, .int .i64 n, .slice A' 0 c'] 24))
  case atStart => exact ⟨rfl, rfl, rfl⟩
  case round =>
    obtain ⟨rfl, rfl, rfl⟩ := hrel
    go_wp2
    go_ret
    exact ⟨rfl, F1.out⟩

set_option maxHeartbeats 4000000 in
set_option maxRecDepth 100000 in
theorem same_any (r : Rep) (v u : Value) (w : World) (B : Nat) (hl : r.list.length ≤ 281474976710656) (h0 : ∀ x ∈ r.list, x.sub = 0) (hB : B ≤ w.heap.size) (h : RepV w B v r) (k : RepV w B u r) :
    Calls Tryd.prog 12 #[v, u] w fun e w' => e = .returned (.bool true) ∧ Fr [] w w' := by
  obtain ⟨A, c, rfl⟩ := h.form
  obtain ⟨A', c', rfl⟩ := k.form
  have F1 := Lib.hid (((Fr.refl [] w).alloc (.cells #[.int .i64 r.kind, .string r.text, .int .i64 r.n, .slice A r.list.length c] 24)).alloc (.cells #[.int .i64 r.kind, .string r.text, .int .i64 r.n, .slice A' r.list.length c'] 24))
  have V1 := Lib.hid (show Whole ((w.alloc (.cells #[.int .i64 r.kind, .string r.text, .int .i64 r.n, .slice A r.list.length c] 24)).alloc (.cells #[.int .i64 r.kind, .string r.text, .int .i64 r.n, .slice A' r.list.length c'] 24)) w.heap.size 24 [.int .i64 r.kind, .string r.text, .int .i64 r.n, .slice A r.list.length c] from Whole.alloc (Whole.new w _ _) _)
  have V2 := Lib.hid (new_at w (.cells #[.int .i64 r.kind, .string r.text, .int .i64 r.n, .slice A r.list.length c] 24) 24 [.int .i64 r.kind, .string r.text, .int .i64 r.n, .slice A' r.list.length c'])
  have HV := Lib.hid h
  have KV := Lib.hid k
  have H0 := Lib.hid h0
  clear h k h0
  go_enter Tryd.func12, Tryd.ntmps12
  go_wp2
  go_loopg [5] r.list.length (fun x i wr => ∃ (k : Nat), x = r.list.length - k ∧ k ≤ r.list.length ∧ i = .int .i64 k ∧ Fr [] ((w.alloc (.cells #[.int .i64 r.kind, .string r.text, .int .i64 r.n, .slice A r.list.length c] 24)).alloc (.cells #[.int .i64 r.kind, .string r.text, .int .i64 r.n, .slice A' r.list.length c'] 24)) wr)
  case atStart => exact ⟨0, rfl, Nat.zero_le _, rfl, Fr.refl _ _⟩
  case round =>
    obtain ⟨k, rfl, hk, rfl, hf⟩ := hrel
    have HF := Lib.hid hf
    have V3 := Lib.hid (V1.out.fr hf (by simp))
    have V4 := Lib.hid (V2.out.fr hf (by simp))
    clear hf
    obtain ⟨c0, c1, c2, c3⟩ := four V3.out
    obtain ⟨d0, d1, d2, d3⟩ := four V4.out
    by_cases hlt : k < r.list.length
    · obtain ⟨b, off, rfl, hb, hc, hmx, hat⟩ := HV.out.at_ (by omega)
      obtain ⟨b2, off2, rfl, hb2, hc2, hmx2, hat2⟩ := KV.out.at_ (by omega)
      obtain ⟨e, he⟩ : ∃ e, r.list[k]? = some e := ⟨_, List.getElem?_eq_getElem hlt⟩
      obtain ⟨A1, c1', h4⟩ := hat k e he
      obtain ⟨A2, c2', k4⟩ := hat2 k e he
      have P4 := Lib.hid (h4.fr (F1.out.trans HF.out) (by simp))
      have Q4 := Lib.hid (k4.fr (F1.out.trans HF.out) (by simp))
      have hes : e.sub = 0 := H0.out e (List.mem_of_getElem? he)
      clear hat hat2 h4 k4 he
      obtain ⟨ek, et, en, es⟩ := e
      have hes : es = 0 := hes
      subst hes
      have SI := Lib.hid (same1_any ek en et A1 A2 c1' c2' wr.drew)
      obtain ⟨x0, x1, x2, x3⟩ := P4.out
      obtain ⟨y0, y1, y2, y3⟩ := Q4.out
      go_wp2
      go_region_held3 (fun wx => wx.cell? ⟨b, off + k * 4, none⟩ = some (.int .i64 ek) ∧ wx.cell? ⟨b, off + k * 4 + 1, none⟩ = some (.string et) ∧ wx.cell? ⟨b, off + k * 4 + 2, none⟩ = some (.int .i64 en) ∧ wx.cell? ⟨b, off + k * 4 + 3, none⟩ = some (.slice A1 0 c1') ∧ wx.cell? ⟨b2, off2 + k * 4, none⟩ = some (.int .i64 ek) ∧ wx.cell? ⟨b2, off2 + k * 4 + 1, none⟩ = some (.string et) ∧ wx.cell? ⟨b2, off2 + k * 4 + 2, none⟩ = some (.int .i64 en) ∧ wx.cell? ⟨b2, off2 + k * 4 + 3, none⟩ = some (.slice A2 0 c2') ∧ wx.cell? ⟨w.heap.size, 3, none⟩ = some (.slice (some ⟨b, off, none⟩) r.list.length c) ∧ wx.cell? ⟨w.heap.size + 1, 3, none⟩ = some (.slice (some ⟨b2, off2, none⟩) r.list.length c')) (go_keep) ((go_at_call 12; refine SI.out.mono ?_; rintro e9 w2 ⟨rfl, f2⟩; have G2 := Lib.hid (fr_predrew f2); have P42 := Lib.hid (P4.out.fr G2.out (by simp)); have Q42 := Lib.hid (Q4.out.fr G2.out (by simp)); have V32 := Lib.hid (V3.out.fr G2.out (by simp)); have V42 := Lib.hid (V4.out.fr G2.out (by simp)); clear f2 x0 x1 x2 x3 y0 y1 y2 y3 c0 c1 c2 c3 d0 d1 d2 d3; obtain ⟨x0, x1, x2, x3⟩ := P42.out; obtain ⟨y0, y1, y2, y3⟩ := Q42.out; obtain ⟨c0, c1, c2, c3⟩ := four V32.out; obtain ⟨d0, d1, d2, d3⟩ := four V42.out))
      go_wp2
      go_roundg (r.list.length - (k + 1))
      case measure => omega
      case rel => exact ⟨k + 1, rfl, by omega, by go_num, HF.out.trans G2.out⟩
    · obtain rfl : k = r.list.length := by omega
      go_wp2
      go_ret
      exact ⟨rfl, F1.out.trans HF.out⟩
end Go.Proofs.YtoabjcnacnojbaaDoor
