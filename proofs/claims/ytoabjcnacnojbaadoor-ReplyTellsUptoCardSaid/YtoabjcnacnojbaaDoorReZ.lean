/- The walk of the law ReplyBack. -/
import Derived.Test.YtoabjcnacnojbaaDoorReY
set_option linter.unusedVariables false
set_option linter.unusedSimpArgs false
namespace Go.Proofs.YtoabjcnacnojbaaDoor
open Go.RowKit

theorem flat_len {l : List Rp1} (h : ∀ x ∈ l, Right1 x) (hl : l.length ≤ 300) : (repBs ⟨6, ⟨#[]⟩, 0, l⟩).length ≤ 30000 := by
  have := toldR_len h hl l.length
  rw [toldR_end ⟨#[]⟩ 0 l] at this
  omega
theorem rep_len {r : Rep} (h : repCode r = 0) : (repBs r).length ≤ 30000 := by
  rcases rep_right h with ⟨hk, h1, _⟩ | ⟨hk, ht, hn, hl, hx⟩
  · have e : repBs r = oneBs r.one := if_neg hk
    rw [e]
    have := oneBs_len h1
    omega
  · obtain ⟨k, t, n, l⟩ := r
    have hk : k = 6 := hk
    have ht : t = ⟨#[]⟩ := ht
    have hn : n = 0 := hn
    subst hk ht hn
    exact flat_len hx hl
theorem same_pre {r q : Rep} (h : repCode r = 0) (k : repCode q = 0) (e : (toB (repBs q)).extract 0 (toB (repBs r)).size = toB (repBs r)) : q = r := by
  rw [ext_zero, toB_list, toB_size] at e
  have e2 : (repBs q).take (repBs r).length = repBs r := by
    have := congrArg (fun b : ByteArray => b.data.toList) e
    simpa [toB_list] using this
  refine rep_prefix h k (m := (repBs q).drop (repBs r).length) ?_
  conv => rhs; lhs; rw [← e2]
  exact (List.take_append_drop _ _).symm

set_option maxHeartbeats 4000000 in
set_option maxRecDepth 100000 in
theorem replyBack_any (r : Rep) (v : Value) (q : Rep) (u : Value) (s : ByteArray) (w : World) (B : Nat) (hB : B ≤ w.heap.size) (hr : RepV w B v r) (hs : r.Small) (hl : r.list.length ≤ 281474976710656)
    (hq : RepV w B u q) (hqs : q.Small) (hql : q.list.length ≤ 281474976710656) (h1 : s.size ≤ 1048576) (hv : Vars w) (hm : Mx w) :
    Calls Tryd.prog 4 #[v, u, .string s] w fun e w' => e = .returned (.bool true) ∧ Fr [] w w' := by
  obtain ⟨A, c, rfl⟩ := hr.form
  obtain ⟨A', c', rfl⟩ := hq.form
  have F0 := Lib.hid (((Fr.refl [] w).alloc (.cells #[.int .i64 r.kind, .string r.text, .int .i64 r.n, .slice A r.list.length c] 24)).alloc (.cells #[.int .i64 q.kind, .string q.text, .int .i64 q.n, .slice A' q.list.length c'] 24))
  have V0 := Lib.hid (show Whole ((w.alloc (.cells #[.int .i64 r.kind, .string r.text, .int .i64 r.n, .slice A r.list.length c] 24)).alloc (.cells #[.int .i64 q.kind, .string q.text, .int .i64 q.n, .slice A' q.list.length c'] 24)) w.heap.size 24 [.int .i64 r.kind, .string r.text, .int .i64 r.n, .slice A r.list.length c] from Whole.alloc (Whole.new w _ _) _)
  have U0 := Lib.hid (new_at w (.cells #[.int .i64 r.kind, .string r.text, .int .i64 r.n, .slice A r.list.length c] 24) 24 [.int .i64 q.kind, .string q.text, .int .i64 q.n, .slice A' q.list.length c'])
  have HR := Lib.hid (fun W (hW : Fr [] w W) => hr.fr hW hB (by simp))
  have HQ := Lib.hid (fun W (hW : Fr [] w W) => hq.fr hW hB (by simp))
  have EN := Lib.hid (fun W (hW : Fr [] w W) => rEncode_any r _ W B (hv.fr hW).tab hs hl (Nat.le_trans hB hW.size) (HR.out W hW))
  have EQ := Lib.hid (fun W (hW : Fr [] w W) => rEncode_any q _ W B (hv.fr hW).tab hqs hql (Nat.le_trans hB hW.size) (HQ.out W hW))
  have DE := Lib.hid (fun W (hW : Fr [] w W) => rDecode_any s W (by omega) (hv.fr hW) (hm.fr hW (by simp)))
  have DT := Lib.hid (fun W (hW : Fr [] w W) (hc : repCode r = 0) => (show Calls Tryd.prog 6 #[.string (toB (repBs r))] W fun e w' => ∃ v, e = .returned (.tuple #[v, .int .i64 0]) ∧ RepO w' W.heap.size v r ∧ Fr [] W w' from by
    have := rDecode_any (toB (repBs r)) W (by rw [toB_size]; have := rep_len hc; omega) (hv.fr hW) (hm.fr hW (by simp))
    unfold DecR at this
    rw [toB_list, (ans_told hc).1, (ans_told hc).2] at this
    exact this))
  have BG := Lib.hid (fun W (hW : Fr [] w W) => replyBegun_any W (hv.fr hW) (hm.fr hW (by simp)))
  have SM := Lib.hid (fun (hc : repCode r = 0) W v (hW : Fr [] w W) (h : RepV W W.heap.size v r) => same_any r v _ W W.heap.size hl (right_sub hc).2 (Nat.le_refl _) h ((HR.out W hW).more (Nat.le_trans hB hW.size)))
  have SQ := Lib.hid (fun (hc : repCode r = 0) (e : q = r) W (hW : Fr [] w W) => (show Calls Tryd.prog 12 #[.agg #[.int .i64 r.kind, .string r.text, .int .i64 r.n, .slice A r.list.length c], .agg #[.int .i64 q.kind, .string q.text, .int .i64 q.n, .slice A' q.list.length c']] W fun e w' => e = .returned (.bool true) ∧ Fr [] W w' from by
    have h1 := HR.out W hW
    have h2 := HQ.out W hW
    rw [e] at h2 ⊢
    exact same_any r _ _ W B hl (right_sub hc).2 (Nat.le_trans hB hW.size) h1 h2))
  have ENX := Lib.hid (fun W v (hW : Fr [] w W) (h : RepV W W.heap.size v (ansR s.data.toList)) (h0 : ansC s.data.toList = 0) => (show Calls Tryd.prog 5 #[v] W fun e w' => e = .returned (.tuple #[.string s, .int .i64 0]) ∧ Fr [] W w' from by
    obtain ⟨hc, hb⟩ := ans_back h0
    have hsm : (ansR s.data.toList).Small := by
      unfold ansR
      rcases hw : wholeL s.data.toList with _ | x
      · exact ⟨⟨by decide, by decide, by decide, by decide⟩, fun x hx => by cases hx⟩
      · simp only
        split
        · unfold wholeL at hw
          split at hw
          · rename_i r' hd
            cases hw
            exact (decL_small (by simp; omega) hd).1
          · cases hw
        · exact ⟨⟨by decide, by decide, by decide, by decide⟩, fun x hx => by cases hx⟩
    have := rEncode_any _ v W W.heap.size (hv.fr hW).tab hsm (Nat.le_trans (ans_len _) (by decide)) (Nat.le_refl _) h
    unfold EncP at this
    rw [if_pos hc, hc, hb, toB_of] at this
    exact this))
  have AN := Lib.hid (@ans_no s.data.toList)
  unfold EncP at EN EQ
  unfold DecR at DE
  obtain ⟨t, ht⟩ : ∃ t, t = if repCode r = 0 then toB (repBs r) else ⟨#[]⟩ := ⟨_, rfl⟩
  obtain ⟨tq, htq⟩ : ∃ t, t = if repCode q = 0 then toB (repBs q) else ⟨#[]⟩ := ⟨_, rfl⟩
  rw [← ht] at EN
  rw [← htq] at EQ
  have HT := Lib.hid ht
  have HTQ := Lib.hid htq
  clear ht htq hr hs hq hqs hv hm
  generalize ansR s.data.toList = R at *
  generalize ansC s.data.toList = C at *
  go_enter Tryd.func4, Tryd.ntmps4
  go_wp2_with fail
  refine (BG.out _ F0.out).mono ?_
  rintro e w1 ⟨rfl, f1⟩
  have F1 := Lib.hid (F0.out.trans f1)
  have V1 := Lib.hid (V0.out.fr f1 (by simp))
  have U1 := Lib.hid (U0.out.fr f1 (by simp))
  obtain ⟨a0, a1, a2, a3⟩ := four V1.out
  clear f1 V0 U0 BG
  go_wp2_with fail
  refine (EN.out _ F1.out).mono ?_
  rintro e w2 ⟨rfl, f2⟩
  have F2 := Lib.hid (F1.out.trans f2)
  have V2 := Lib.hid (V1.out.fr f2 (by simp))
  have U2 := Lib.hid (U1.out.fr f2 (by simp))
  clear a0 a1 a2 a3 f2 V1 U1
  obtain ⟨b0, b1, b2, b3⟩ := four U2.out
  go_wp2_with fail
  refine (EQ.out _ F2.out).mono ?_
  rintro e w3 ⟨rfl, f3⟩
  have F3 := Lib.hid (F2.out.trans f3)
  have V3 := Lib.hid (V2.out.fr f3 (by simp))
  have U3 := Lib.hid (U2.out.fr f3 (by simp))
  clear b0 b1 b2 b3 f3 V2 U2 EN EQ
  go_upto_if 28 with fail
  go_cut [11, 12] from 28 to 66 (fun s11 s12 wx => Fr [] w3 wx)
  case first =>
    by_cases hc : repCode r = 0
    rotate_left
    · have q1 : (repCode r == 0) = false := by simpa using hc
      clear hc HT HTQ DT SM SQ
      go_wp2
      go_meet
      case rel => exact Fr.refl _ _
    have q1 : (repCode r == 0) = true := by simpa using hc
    have HT2 := Lib.hid (show t = toB (repBs r) from HT.out.trans (if_pos hc))
    have D3 := DT.out w3 F3.out hc
    rw [← HT2.out] at D3
    have D3 := Lib.hid D3
    have S3 := Lib.hid (SM.out hc)
    have SQ3 := Lib.hid (SQ.out hc)
    have HC := Lib.hid hc
    clear hc HT DT SM SQ
    go_wp2_with fail
    refine D3.out.mono ?_
    rintro e w4 ⟨v4, rfl, o4, f4⟩
    obtain ⟨A4, c4, rfl⟩ := o4.form
    have A5 := Lib.hid ((Fr.refl [] w4).alloc (.cells #[.int .i64 r.kind, .string r.text, .int .i64 r.n, .slice A4 r.list.length c4] 24))
    have F5 := Lib.hid (f4.trans A5.out)
    have O5 := Lib.hid (o4.v.go A5.out)
    have V5 := Lib.hid (V3.out.fr F5.out (by simp))
    have U5 := Lib.hid (U3.out.fr F5.out (by simp))
    have X5 := Lib.hid (Whole.new w4 24 [.int .i64 r.kind, .string r.text, .int .i64 r.n, .slice A4 r.list.length c4])
    have V4 := Lib.hid (V3.out.fr f4 (by simp))
    have hl1 := V4.out.lt
    obtain ⟨a0, a1, a2, a3⟩ := four V4.out
    clear f4 o4 D3
    go_wp2_with fail
    refine (S3.out _ _ (F3.out.trans F5.out) O5.out).mono ?_
    rintro e w6 ⟨rfl, f6⟩
    have F6 := Lib.hid (F5.out.trans f6)
    have V6 := Lib.hid (V5.out.fr f6 (by simp))
    have U6 := Lib.hid (U5.out.fr f6 (by simp))
    clear f6 a0 a1 a2 a3 S3
    by_cases hcq : repCode q = 0
    rotate_left
    · have q2 : (repCode q == 0) = false := by simpa using hcq
      clear hcq HTQ SQ3
      go_wp2
      go_meet
      case rel => exact F6.out
    have q2 : (repCode q == 0) = true := by simpa using hcq
    have HQ2 := Lib.hid (show tq = toB (repBs q) from HTQ.out.trans (if_pos hcq))
    by_cases hle : t.size ≤ tq.size
    rotate_left
    · have q3 : ¬ (t.size : Int) ≤ (tq.size : Int) := by omega
      clear hcq HTQ SQ3
      go_wp2
      go_meet
      case rel => exact F6.out
    have q3 : (t.size : Int) ≤ (tq.size : Int) := by omega
    have q4 := eqB (tq.extract 0 t.size) t
    by_cases hex : tq.extract 0 t.size = t
    rotate_left
    · rw [decide_eq_false hex] at q4
      clear hcq HTQ SQ3 hex
      go_wp2
      go_meet
      case rel => exact F6.out
    have SQ4 := Lib.hid (SQ3.out (same_pre HC.out hcq (by rw [← HT2.out, ← HQ2.out]; exact hex)))
    rw [decide_eq_true hex] at q4
    clear hcq HTQ SQ3 hex
    obtain ⟨a0, a1, a2, a3⟩ := four V6.out
    obtain ⟨b0, b1, b2, b3⟩ := four U6.out
    go_wp2_with fail
    refine (SQ4.out _ (F3.out.trans F6.out)).mono ?_
    rintro e w7 ⟨rfl, f7⟩
    have F7 := Lib.hid (F6.out.trans f7)
    clear f7
    go_wp2
    go_meet
    case rel => exact F7.out
  have F4 := Lib.hid (F3.out.trans hcut)
  clear hcut HT HTQ DT SM SQ V3 U3 HR HQ
  go_wp2_with fail
  refine (DE.out _ F4.out).mono ?_
  rintro e w5 ⟨v5, rfl, o5, f5⟩
  obtain ⟨A5, c5, rfl⟩ := o5.form
  have A6 := Lib.hid ((Fr.refl [] w5).alloc (.cells #[.int .i64 R.kind, .string R.text, .int .i64 R.n, .slice A5 R.list.length c5] 24))
  have F5 := Lib.hid ((F4.out.trans f5).trans A6.out)
  have O5 := Lib.hid (o5.v.go A6.out)
  clear f5 o5 DE
  by_cases h0 : C = 0
  · have EX := Lib.hid (ENX.out _ _ F5.out O5.out h0)
    subst h0
    clear ENX AN
    have q5 := (eqqB s).1
    go_wp2_with fail
    refine EX.out.mono ?_
    rintro e w6 ⟨rfl, f6⟩
    go_wp2
    go_ret
    exact ⟨rfl, F5.out.trans f6⟩
  · have q5 : (C != 0) = true := by simpa using h0
    have q6 : R = zeroR := AN.out h0
    subst q6
    clear ENX AN h0
    go_wp2
    go_ret
    exact ⟨rfl, F5.out⟩
end Go.Proofs.YtoabjcnacnojbaaDoor
