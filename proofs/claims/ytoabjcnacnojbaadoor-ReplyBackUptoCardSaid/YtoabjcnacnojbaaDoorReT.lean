/- The walk of the document's CheckReply. -/
import Derived.Test.YtoabjcnacnojbaaDoorReS
import Derived.Test.YtoabjcnacnojbaaDoorReE
set_option linter.unusedVariables false
set_option linter.unusedSimpArgs false
namespace Go.Proofs.YtoabjcnacnojbaaDoor
open Go.RowKit

set_option maxHeartbeats 4000000 in
set_option maxRecDepth 100000 in
theorem dCheck_any (r : Rep) (v : Value) (w : World) (B : Nat) (hs : r.Small) (hl : r.list.length ≤ 281474976710656) (hB : B ≤ w.heap.size) (h : RepV w B v r) :
    Calls Tryd.prog 7 #[v] w fun e w' => e = .returned (.int .i64 (repCode r)) ∧ Fr [] w w' := by
  obtain ⟨A, c, rfl⟩ := h.form
  have F1 := Lib.hid ((Fr.refl [] w).alloc (.cells #[.int .i64 r.kind, .string r.text, .int .i64 r.n, .slice A r.list.length c] 24))
  have V1 := Lib.hid (Whole.new w 24 [.int .i64 r.kind, .string r.text, .int .i64 r.n, .slice A r.list.length c])
  have RO := Lib.hid (show ∀ W, Calls Tryd.prog 15 #[.agg #[.int .i64 r.kind, .string r.text, .int .i64 r.n, .slice A r.list.length c]] W fun e w' => e = .returned (.int .i64 (oneCode r.one)) ∧ Fr [] W w' from fun W => dOne_any r.one A c W hl hs.one.text)
  by_cases hk : r.kind = 6
  · have HV := Lib.hid h
    have HS := Lib.hid hs.list
    obtain ⟨k, t, n, l⟩ := r
    have hk : k = 6 := hk
    subst hk
    have EF := Lib.hid (@rep6_form t n l)
    have ER := Lib.hid (@rep6_rest t n l)
    obtain ⟨q0, q0'⟩ := emptyT t
    obtain ⟨R, hR⟩ : ∃ R, R = repCode ⟨6, t, n, l⟩ := ⟨_, rfl⟩
    rw [← hR] at EF ER ⊢
    clear hR h hs RO
    simp only at F1 V1 HV HS hl
    by_cases ht0 : t.size = 0
    rotate_left
    · have EC := Lib.hid (EF.out (by simp [ht0]))
      rw [decide_eq_false ht0] at q0 q0'
      clear EF ER
      obtain ⟨c0, c1, c2, c3⟩ := four V1.out
      go_enter Tryd.func7, Tryd.ntmps7
      go_wp2
      go_ret
      exact ⟨by rw [EC.out]; rfl, F1.out⟩
    by_cases hn0 : n = 0
    rotate_left
    · have EC := Lib.hid (EF.out (by simp [hn0]))
      rw [decide_eq_true ht0] at q0 q0'
      have qn : (n == 0) = false := beq_eq_false_iff_ne.2 hn0
      clear EF ER
      obtain ⟨c0, c1, c2, c3⟩ := four V1.out
      go_enter Tryd.func7, Tryd.ntmps7
      go_wp2
      go_ret
      exact ⟨by rw [EC.out]; rfl, F1.out⟩
    rw [decide_eq_true ht0] at q0 q0'
    subst hn0
    · have EC := Lib.hid (ER.out (by simp [ht0]))
      clear EF ER
      by_cases h300 : 300 < l.length
      · have E2 := Lib.hid (EC.out.trans (if_pos h300))
        have q : (l.length : Int) > 300 := by omega
        clear EC h300
        obtain ⟨c0, c1, c2, c3⟩ := four V1.out
        go_enter Tryd.func7, Tryd.ntmps7
        go_wp2
        go_ret
        exact ⟨by rw [E2.out]; rfl, F1.out⟩
      · have E0 := Lib.hid (show R = listCode (l.drop 0) from EC.out.trans (if_neg h300))
        have q : ¬ (l.length : Int) > 300 := by omega
        have hl3 : l.length ≤ 300 := by omega
        clear EC h300
        obtain ⟨c0, c1, c2, c3⟩ := four V1.out
        go_enter Tryd.func7, Tryd.ntmps7
        go_wp2
        go_loopg [3] l.length (fun g i wr => ∃ (k : Nat), g = l.length - k ∧ k ≤ l.length ∧ i = .int .i64 k ∧ Hid (R = listCode (l.drop k)) ∧ Fr [] (w.alloc (.cells #[.int .i64 6, .string t, .int .i64 0, .slice A l.length c] 24)) wr)
        case atStart => exact ⟨0, rfl, Nat.zero_le _, rfl, E0, Fr.refl _ _⟩
        case round =>
          obtain ⟨k, rfl, hk, rfl, HE, hf⟩ := hrel
          have HF := Lib.hid hf
          have V3 := Lib.hid (V1.out.fr hf (by simp))
          clear hf c0 c1 c2 c3
          obtain ⟨c0, c1, c2, c3⟩ := four V3.out
          by_cases hlt : k < l.length
          · obtain ⟨b, off, rfl, hb, hc, hmx, hat⟩ := RepV.at_ (r := ⟨6, t, 0, l⟩) HV.out (show 0 < l.length by omega)
            obtain ⟨x, hx⟩ : ∃ x, l[k]? = some x := ⟨_, List.getElem?_eq_getElem hlt⟩
            obtain ⟨A1, n1, h4⟩ := hat k x hx
            have hxs := HS.out x (List.mem_of_getElem? hx)
            have P4 := Lib.hid (h4.fr (F1.out.trans HF.out) (by simp))
            obtain ⟨x0, x1, x2, x3⟩ := P4.out
            have ST := Lib.hid (HE.out.trans (listCode_step hx))
            have RX := Lib.hid (fun W => dOne_any x A1 n1 W hxs.sub hxs.text)
            have hc : l.length ≤ c := hc
            unfold maxLen at hmx
            clear hat h4 hx hxs HE
            by_cases h0 : oneCode x = 0
            · rw [h0] at RX
              have NX := Lib.hid (ST.out.trans (if_neg (fun hn => hn h0)))
              clear ST h0
              go_wp2_with fail
              refine (RX.out _).mono ?_
              rintro e w2 ⟨rfl, g2⟩
              have G2 := Lib.hid g2
              clear g2
              go_wp2
              go_roundg (l.length - (k + 1))
              case measure => omega
              case rel => exact ⟨k + 1, rfl, by omega, by go_num, NX, HF.out.trans G2.out⟩
            · have NX := Lib.hid (ST.out.trans (if_pos h0))
              have q0 : (oneCode x != 0) = true := by simpa using h0
              clear ST h0
              generalize oneCode x = y at *
              go_wp2_with fail
              refine (RX.out _).mono ?_
              rintro e w2 ⟨rfl, g2⟩
              have G2 := Lib.hid g2
              clear g2
              go_wp2
              go_ret
              exact ⟨by rw [NX.out]; rfl, F1.out.trans (HF.out.trans G2.out)⟩
          · obtain rfl : k = l.length := by omega
            have NX := Lib.hid (show R = 0 from by rw [HE.out, List.drop_of_length_le (by simp)]; rfl)
            clear HE
            go_wp2
            go_ret
            exact ⟨by rw [NX.out]; rfl, F1.out.trans HF.out⟩
  · have q6 : (r.kind != 6) = true := by simpa using hk
    have EC := Lib.hid (show repCode r = oneCode r.one from if_pos hk)
    have RO' : Hid (∀ W, Calls Tryd.prog 15 #[.agg #[.int .i64 r.kind, .string r.text, .int .i64 r.n, .slice A r.list.length c]] W fun e w' => e = .returned (.int .i64 (repCode r)) ∧ Fr [] W w') := Lib.hid (fun W => by rw [EC.out]; exact RO.out W)
    obtain ⟨R, hR⟩ : ∃ R, R = repCode r := ⟨_, rfl⟩
    rw [← hR] at RO' ⊢
    obtain ⟨m, hm⟩ : ∃ m, m = r.list.length := ⟨_, rfl⟩
    rw [← hm] at F1 V1 RO' hl ⊢
    clear hR hk h hs RO EC hm
    go_enter Tryd.func7, Tryd.ntmps7
    go_wp2_with fail
    refine (RO'.out _).mono ?_
    rintro e w1 ⟨rfl, f1⟩
    go_wp2
    go_ret
    exact ⟨rfl, F1.out.trans f1⟩
end Go.Proofs.YtoabjcnacnojbaaDoor
