/- The walks of the reader of a command: what gives up, a byte, bytes that are needed, a number, a word. -/
import Derived.Test.YtlmaiiloihabdaaDoorFdA
import Derived.Test.YtlmaiiloihabdaaDoorItB
import Derived.Test.YtlmaiiloihabdaaDoorSlA
import Derived.WalkLawsBesides
import Derived.BigQuiet
import Derived.Deep.QuietTactic
set_option linter.unusedVariables false
set_option linter.unusedSimpArgs false
namespace Go.Proofs.YtlmaiiloihabdaaDoor
open Go.RowKit
attribute [local go_sem] byteAt_eq

/-- a call that gives up by an errno. -/
def PanV (e : Int) : List PanicEntry := [{ v := .iface 23 (.int .i64 e), recovered := false }]
/-- a reader's block: a text, a place. -/
def Rd (g : Nat) (s : ByteArray) (at_ : Nat) (w : World) : Prop := Whole w g 74 [.string s, .int .i64 at_]
theorem Rd.set {g : Nat} {s : ByteArray} {a : Nat} {w : World} (h : Rd g s a w) (b : Nat) : Rd g s b (w.setCell ⟨g, 1, none⟩ (.int .i64 b)) := Whole.set_ h 1 _
theorem Rd.fr {g : Nat} {s : ByteArray} {a : Nat} {w w' : World} (h : Rd g s a w) (hf : Fr [] w w') : Rd g s a w' := Whole.fr h hf (by simp)
theorem fr_one {g : Nat} {w : World} (b : Nat) (v : Value) : Fr [g] w (w.setCell ⟨g, b, none⟩ v) := (Fr.refl [g] w).setCell (.inl (by simp)) v

theorem fail_any (e : Int) (w : World) : Calls Tryd.prog 43 #[.int .i64 e] w fun r w' => r = .panicked (PanV e) ∧ w' = w := by
  go_enter Tryd.func43, Tryd.ntmps43
  go_wp2
  exact ⟨rfl, rfl, rfl⟩

theorem next_no (g : Nat) (s : ByteArray) (w : World) (hs : s.size ≤ 4611686018427387904) (h : Rd g s s.size w) :
    Calls Tryd.prog 60 #[.pointer (some ⟨g, 0, none⟩)] w fun r w' => r = .panicked (PanV 8) ∧ Fr [g] w w' := by
  have c0 : w.cell? ⟨g, 0, none⟩ = some (.string s) := Whole.cell h 0
  have c1 : w.cell? ⟨g, 1, none⟩ = some (.int .i64 s.size) := Whole.cell h 1
  have q : ((s.size : Int) == (s.size : Int)) = true := by simp
  go_enter Tryd.func60, Tryd.ntmps60
  go_wp2
  go_quiet (fail)
  go_wp2_with fail
  refine (fail_any 8 _).mono ?_
  rintro e w1 ⟨rfl, rfl⟩
  go_wp2
  exact ⟨rfl, rfl, (Fr.refl _ _).drewN _⟩
theorem next_yes (g : Nat) (s : ByteArray) (a : Nat) (w : World) (hs : s.size ≤ 4611686018427387904) (ha : a < s.size) (h : Rd g s a w) :
    Calls Tryd.prog 60 #[.pointer (some ⟨g, 0, none⟩)] w fun r w' => r = .returned (.int .u8 (byteAt s a)) ∧ Rd g s (a + 1) w' ∧ Fr [g] w w' := by
  have c0 : w.cell? ⟨g, 0, none⟩ = some (.string s) := Whole.cell h 0
  have c1 : w.cell? ⟨g, 1, none⟩ = some (.int .i64 a) := Whole.cell h 1
  have z1 : w.frozen? ⟨g, 1, none⟩ = false := Whole.frozen h 1
  have q : ((a : Int) == (s.size : Int)) = false := by simp; omega
  have h1 := Lib.hid h
  have hw1 : IntKind.i64.wrap ((a : Int) + 1) = ((a + 1 : Nat) : Int) := by rw [IntKind.wrap_i64]; omega
  have hw2 : IntKind.i64.wrap (((a + 1 : Nat) : Int) - 1) = (a : Int) := by rw [IntKind.wrap_i64]; omega
  have hw3 : IntKind.i64.wrap ((a : Int) + 1 - 1) = (a : Int) := by rw [IntKind.wrap_i64]; omega
  clear h
  go_enter Tryd.func60, Tryd.ntmps60
  go_wp2
  go_quiet (fail)
  go_wp2
  go_quiet (fail)
  go_wp2
  go_ret
  exact ⟨rfl, Rd.set (a := a) (w := w.drewN _) h1.out (a + 1), (((Fr.refl [g] w).drewN _).setCell (p := ⟨g, 1, none⟩) (.inl (by simp)) _).drewN _⟩

/-- bytes that must come. -/
def needL : List Nat → List UInt8 → Int
  | [], _ => 0
  | _ :: _, [] => 8
  | b :: bs, c :: r => if c.toNat = b then needL bs r else 1
theorem need_step {bs : List Nat} {s : ByteArray} {k a b : Nat} (hb : bs[k]? = some b) (ha : a < s.size) : needL (bs.drop k) (s.data.toList.drop a) = if byteAt s a = b then needL (bs.drop (k + 1)) (s.data.toList.drop (a + 1)) else 1 := by
  obtain ⟨x, hx, ex⟩ := drop_byte s a ha
  have hk := (List.getElem?_eq_some_iff.1 hb).1
  have e1 : bs.drop k = b :: bs.drop (k + 1) := by
    rw [List.drop_eq_getElem_cons hk]
    congr 1
    rw [List.getElem?_eq_getElem hk] at hb
    exact Option.some.inj hb
  rw [e1, hx, ← ex]
  rfl
theorem need_short {bs : List Nat} {s : ByteArray} {k a : Nat} (hk : k < bs.length) (ha : s.size ≤ a) : needL (bs.drop k) (s.data.toList.drop a) = 8 := by
  rw [List.drop_eq_getElem_cons hk, List.drop_of_length_le (l := s.data.toList) (by simpa using ha)]
  rfl
def byN (b : Nat) : Value := .int .u8 b
def NeedP (c : Int) (g : Nat) (s : ByteArray) (a : Nat) (w : World) (e : Ending) (w' : World) : Prop := ((c = 0 ∧ e = .returned (.tuple #[]) ∧ Rd g s a w') ∨ (c ≠ 0 ∧ e = .panicked (PanV c))) ∧ Fr [g] w w'

set_option maxHeartbeats 1000000 in
set_option maxRecDepth 100000 in
theorem need_any (bs : List Nat) (g gb : Nat) (s : ByteArray) (a : Nat) (w : World) (hs : s.size ≤ 4611686018427387904) (ha : a ≤ s.size) (hl : bs.length ≤ 2) (hne : gb ≠ g) (h : Rd g s a w) (hb : Whole w gb 5 (bs.map byN)) :
    Calls Tryd.prog 59 #[.pointer (some ⟨g, 0, none⟩), .slice (some ⟨gb, 0, none⟩) bs.length bs.length] w (NeedP (needL bs (s.data.toList.drop a)) g s (a + bs.length) w) := by
  have H := Lib.hid h
  have HB := Lib.hid hb
  have E0 := Lib.hid (show needL bs (s.data.toList.drop a) = needL (bs.drop 0) (s.data.toList.drop (a + 0)) from rfl)
  clear h hb
  generalize needL bs (s.data.toList.drop a) = code at *
  go_enter Tryd.func59, Tryd.ntmps59
  go_wp2
  go_loopg [8] bs.length (fun x i wr => ∃ (k : Nat), x = bs.length - k ∧ k ≤ bs.length ∧ i = .int .i64 k ∧ a + k ≤ s.size ∧ Hid (code = needL (bs.drop k) (s.data.toList.drop (a + k))) ∧ Rd g s (a + k) wr ∧ Fr [g] w wr)
  case atStart => exact ⟨0, rfl, Nat.zero_le _, rfl, ha, E0, H.out, Fr.refl _ _⟩
  case round =>
    obtain ⟨k, rfl, hk, rfl, hak, HE, hR, hf⟩ := hrel
    have HR := Lib.hid hR
    have HF := Lib.hid hf
    clear hR hf
    by_cases hlt : k < bs.length
    · obtain ⟨b, hbk⟩ : ∃ b, bs[k]? = some b := ⟨_, List.getElem?_eq_getElem hlt⟩
      have x1 : wr.cell? ⟨gb, 0 + k, none⟩ = some (.int .u8 b) := by
        rw [Nat.zero_add]
        have := (HB.out.fr HF.out (by simpa using hne)).cell k
        rw [this, List.getElem?_map, hbk]
        rfl
      rw [Nat.zero_add] at x1
      by_cases he : a + k < s.size
      · have NY := Lib.hid (next_yes g s (a + k) wr hs he HR.out)
        have ST := Lib.hid (HE.out.trans (need_step hbk he))
        by_cases hbb : byteAt s (a + k) = b
        · have NX := Lib.hid (show code = needL (bs.drop (k + 1)) (s.data.toList.drop (a + (k + 1))) from by rw [ST.out, if_pos hbb]; rfl)
          have q1 : (((byteAt s (a + k) : Nat) : Int) != (b : Int)) = false := by simp; omega
          clear ST hbk hbb
          generalize byteAt s (a + k) = y at *
          go_wp2_with fail
          refine NY.out.mono ?_
          rintro e w1 ⟨rfl, r1, f1⟩
          have R1 := Lib.hid r1
          clear r1
          go_wp2
          go_roundg (bs.length - (k + 1))
          case measure => omega
          case rel => exact ⟨k + 1, rfl, by omega, by go_num, by omega, NX, R1.out, HF.out.trans f1⟩
        · have EX := Lib.hid (show code = 1 from by rw [ST.out, if_neg hbb])
          have q1 : (((byteAt s (a + k) : Nat) : Int) != (b : Int)) = true := by simp; omega
          clear ST hbk hbb
          generalize byteAt s (a + k) = y at *
          go_wp2_with fail
          refine NY.out.mono ?_
          rintro e w1 ⟨rfl, r1, f1⟩
          clear r1
          go_wp2_with fail
          refine (fail_any 1 _).mono ?_
          rintro e w2 ⟨rfl, rfl⟩
          go_wp2
          rw [EX.out]
          exact ⟨rfl, .inr ⟨by decide, rfl⟩, HF.out.trans f1⟩
      · have EX := Lib.hid (show code = 8 from HE.out.trans (need_short hlt (by omega)))
        have hz : a + k = s.size := by omega
        have hr := HR.out
        rw [hz] at hr
        have NN := Lib.hid (next_no g s wr hs hr)
        clear hbk hz hr
        go_wp2_with fail
        refine NN.out.mono ?_
        rintro e w1 ⟨rfl, f1⟩
        go_wp2
        rw [EX.out]
        exact ⟨rfl, .inr ⟨by decide, rfl⟩, HF.out.trans f1⟩
    · obtain rfl : k = bs.length := by omega
      have EX := Lib.hid (show code = 0 from by rw [HE.out, List.drop_length]; rfl)
      go_wp2
      go_end0
      rw [EX.out]
      exact ⟨.inl ⟨rfl, rfl, HR.out⟩, HF.out⟩

theorem count_need (sign most : Nat) (l : List UInt8) : (needL [sign] l = 0 ∧ ∃ c r, l = c :: r ∧ countL sign most l = cntL most r 0 0) ∨ (needL [sign] l ≠ 0 ∧ countL sign most l = (0, [], needL [sign] l)) := by
  cases l with
  | nil => exact .inr ⟨by show (8 : Int) ≠ 0; decide, rfl⟩
  | cons c r =>
    by_cases h : c.toNat = sign
    · exact .inl ⟨if_pos h, c, r, rfl, if_pos h⟩
    · have e : needL [sign] (c :: r) = 1 := if_neg h
      exact .inr ⟨by rw [e]; decide, by rw [e]; exact if_neg h⟩
theorem end_need (n : Nat) (l : List UInt8) : (needL [10] l = 0 ∧ ∃ c r, l = c :: r ∧ endL n l = (n, r, 0)) ∨ (needL [10] l ≠ 0 ∧ endL n l = (0, [], needL [10] l)) := by
  cases l with
  | nil => exact .inr ⟨by show (8 : Int) ≠ 0; decide, rfl⟩
  | cons c r =>
    by_cases h : c.toNat = 10
    · exact .inl ⟨if_pos h, c, r, rfl, if_pos h⟩
    · have e : needL [10] (c :: r) = 1 := if_neg h
      exact .inr ⟨by rw [e]; decide, by rw [e]; exact if_neg h⟩
def NumP (r : Nat × List UInt8 × Int) (g : Nat) (s : ByteArray) (w : World) (e : Ending) (w' : World) : Prop :=
  ((r.2.2 = 0 ∧ e = .returned (.int .i64 r.1) ∧ ∃ a, a ≤ s.size ∧ s.data.toList.drop a = r.2.1 ∧ Rd g s a w') ∨ (r.2.2 ≠ 0 ∧ e = .panicked (PanV r.2.2))) ∧ Fr [g] w w'
theorem drop_size {s : ByteArray} {a : Nat} {c : UInt8} {r : List UInt8} (h : s.data.toList.drop a = c :: r) : a < s.size ∧ s.data.toList.drop (a + 1) = r ∧ c.toNat = byteAt s a := by
  have hl : s.data.toList.length = s.size := by simp
  have h1 : a < s.size := by
    rcases Nat.lt_or_ge a s.size with h2 | h2
    · exact h2
    · rw [List.drop_of_length_le (by omega)] at h; cases h
  obtain ⟨x, hx, ex⟩ := drop_byte s a h1
  rw [hx] at h
  cases h
  exact ⟨h1, rfl, ex⟩
theorem digB_no {c : UInt8} {y : Nat} (h : c.toNat = y) : digB c = (decide (48 ≤ y) && decide (y ≤ 57)) := by rw [← h]; rfl

set_option maxHeartbeats 4000000 in
set_option maxRecDepth 100000 in
theorem number_any (sign most : Nat) (g : Nat) (s : ByteArray) (a : Nat) (w : World) (hs : s.size ≤ 4611686018427387904) (ha : a ≤ s.size) (hsg : sign < 256) (hm : most ≤ 100) (h : Rd g s a w) :
    Calls Tryd.prog 42 #[.pointer (some ⟨g, 0, none⟩), .int .u8 sign, .int .i64 most] w (NumP (countL sign most (s.data.toList.drop a)) g s w) := by
  have hg := Whole.lt h
  have HR0 := Lib.hid (Rd.fr h ((Fr.refl [] w).alloc (.cells #[.int .u8 sign] 5)))
  have ND := Lib.hid (need_any [sign] g w.heap.size s a (w.alloc (.cells #[.int .u8 sign] 5)) hs ha (Nat.le_succ 1) (by omega) HR0.out (Whole.new w _ _))
  have CN := count_need sign most (s.data.toList.drop a)
  unfold NeedP at ND
  simp only [List.length_singleton] at ND
  have F0 := Lib.hid (((Fr.refl [] w).alloc (.cells #[.int .u8 sign] 5)).up (T := [g]))
  clear h
  rcases CN with ⟨hn, c, r, hl, hc⟩ | ⟨hn, hc⟩
  rotate_left
  · rw [hc]
    have HN := Lib.hid hn
    generalize needL [sign] (s.data.toList.drop a) = code at *
    clear hn hc
    go_enter Tryd.func42, Tryd.ntmps42
    go_wp2_with fail
    refine ND.out.mono ?_
    rintro e w1 ⟨⟨h0, rfl, -⟩ | ⟨h0, rfl⟩, f1⟩
    · exact absurd h0 HN.out
    · go_wp2
      exact ⟨rfl, .inr ⟨HN.out, rfl⟩, F0.out.trans f1⟩
  · rw [hn] at ND
    obtain ⟨h1, h2, h3⟩ := drop_size hl
    subst h2
    rw [hc]
    have HC0 := Lib.hid (rfl : cntL most (s.data.toList.drop (a + 1)) 0 0 = cntL most (s.data.toList.drop (a + 1)) 0 0)
    have R0 : ∃ R, R = cntL most (s.data.toList.drop (a + 1)) 0 0 := ⟨_, rfl⟩
    obtain ⟨R, hR⟩ := R0
    rw [← hR]
    have E0 := Lib.hid hR
    clear hn hc hl h3 hR HC0
    go_enter Tryd.func42, Tryd.ntmps42
    go_wp2_with fail
    refine ND.out.mono ?_
    rintro e w1 ⟨⟨h0, rfl, r1⟩ | ⟨h0, rfl⟩, f1⟩
    rotate_left
    · exact absurd rfl h0
    have R1 := Lib.hid r1
    have F1 := Lib.hid (F0.out.trans f1)
    clear r1 f1 h0 ND
    go_wp2
    go_loopg [7, 8] (s.size - (a + 1)) (fun x vn vd wr => ∃ (p n d : Nat), x = s.size - p ∧ a + 1 ≤ p ∧ p ≤ s.size ∧ vn = .int .i64 n ∧ vd = .int .i64 d ∧ n ≤ most ∧ d ≤ p ∧ Hid (R = cntL most (s.data.toList.drop p) n d) ∧ Rd g s p wr ∧ Fr [g] w wr)
    case atStart => exact ⟨a + 1, 0, 0, rfl, Nat.le_refl _, by omega, rfl, rfl, Nat.zero_le _, Nat.zero_le _, E0, R1.out, F1.out⟩
    case round =>
      obtain ⟨p, n, d, rfl, hp1, hp, rfl, rfl, hnm, hdp, HE, hR, hf⟩ := hrel
      have HR := Lib.hid hR
      have HF := Lib.hid hf
      clear hR hf E0
      by_cases he : p < s.size
      · have NY := Lib.hid (next_yes g s p wr hs he HR.out)
        obtain ⟨x, hx, ex⟩ := drop_byte s p he
        rw [hx] at HE
        have hdg := digB_no ex
        have hy := byteAt_lt s p
        have HX := Lib.hid ex
        generalize byteAt s p = y at *
        clear ex
        by_cases h13 : y = 13
        · have q13 : ((y : Int) == 13) = true := by simp; omega
          by_cases hd : 0 < d
          · have EX := Lib.hid (show R = endL n (s.data.toList.drop (p + 1)) from by rw [HE.out, cntL, if_pos ⟨by rw [HX.out]; exact h13, hd⟩])
            clear h13 hdg hx
            go_wp2_with fail
            refine NY.out.mono ?_
            rintro e w2 ⟨rfl, r2, f2⟩
            have hg2 := Whole.lt r2
            have NE := Lib.hid (need_any [10] g w2.heap.size s (p + 1) (w2.alloc (.cells #[.int .u8 10] 5)) hs (by omega) (by decide) (by omega) (r2.fr ((Fr.refl [] w2).alloc (.cells #[.int .u8 10] 5))) (Whole.new w2 _ _))
            have F2 := Lib.hid ((HF.out.trans f2).alloc (.cells #[.int .u8 10] 5))
            unfold NeedP at NE
            simp only [List.length_singleton] at NE
            clear r2 f2
            go_wp2_with fail
            rcases end_need n (s.data.toList.drop (p + 1)) with ⟨hn, c2, r2, hl2, hc2⟩ | ⟨hn, hc2⟩
            · rw [hn] at NE
              refine NE.out.mono ?_
              rintro e w3 ⟨⟨h0, rfl, r3⟩ | ⟨h0, rfl⟩, f3⟩
              · obtain ⟨k1, k2, k3⟩ := drop_size hl2
                have EY := Lib.hid (EX.out.trans hc2)
                have KK := Lib.hid k2
                have R3 := Lib.hid r3
                clear hn hl2 hc2 k2 k3 r3
                go_wp2
                go_ret
                rw [EY.out]
                exact ⟨.inl ⟨rfl, rfl, p + 1 + 1, by omega, KK.out, R3.out⟩, F2.out.trans f3⟩
              · exact absurd rfl h0
            · have EY := Lib.hid (EX.out.trans hc2)
              have HN := Lib.hid hn
              generalize needL [10] (s.data.toList.drop (p + 1)) = code at *
              clear hn hc2
              refine NE.out.mono ?_
              rintro e w3 ⟨⟨h0, rfl, r3⟩ | ⟨h0, rfl⟩, f3⟩
              · exact absurd h0 HN.out
              · go_wp2
                rw [EY.out]
                exact ⟨rfl, .inr ⟨HN.out, rfl⟩, F2.out.trans f3⟩
          · obtain rfl : d = 0 := by omega
            have EX := Lib.hid (show R = (0, [], 1) from by
              rw [HE.out, cntL, if_neg (fun h => absurd h.2 (Nat.lt_irrefl 0)), if_pos (.inl (by rw [hdg, h13]; rfl))])
            subst h13
            clear hdg hx
            go_wp2_with fail
            refine NY.out.mono ?_
            rintro e w2 ⟨rfl, r2, f2⟩
            go_wp2_with fail
            refine (fail_any 1 _).mono ?_
            rintro e w3 ⟨rfl, rfl⟩
            go_wp2
            rw [EX.out]
            exact ⟨rfl, .inr ⟨by decide, rfl⟩, HF.out.trans f2⟩
        · have q13 : ((y : Int) == 13) = false := by simp; omega
          have NE13 := Lib.hid (show ¬ (x.toNat = 13 ∧ 0 < d) from fun h => h13 (by rw [← HX.out]; exact h.1))
          by_cases hdig : 48 ≤ y ∧ y ≤ 57
          · have hd1 : digB x = true := by rw [hdg, decide_eq_true hdig.1, decide_eq_true hdig.2]; rfl
            obtain ⟨k, rfl⟩ : ∃ k, y = 48 + k := ⟨y - 48, by omega⟩
            have hk : k ≤ 9 := by omega
            have b1 : ¬ ((48 + k : Nat) : Int) < 48 := by omega
            have b2 : ¬ (57 : Int) < ((48 + k : Nat) : Int) := by omega
            by_cases hz : 0 < d ∧ n = 0
            · have EX := Lib.hid (show R = (0, [], 1) from by rw [HE.out, cntL, if_neg NE13.out, if_pos (.inr hz)])
              obtain ⟨hz1, rfl⟩ := hz
              clear hdg hx hd1 h13
              go_wp2_with fail
              refine NY.out.mono ?_
              rintro e w2 ⟨rfl, r2, f2⟩
              go_wp2_with fail
              refine (fail_any 1 _).mono ?_
              rintro e w3 ⟨rfl, rfl⟩
              go_wp2
              rw [EX.out]
              exact ⟨rfl, .inr ⟨by decide, rfl⟩, HF.out.trans f2⟩
            · obtain ⟨m, hmk⟩ : ∃ m, m = 10 * n + k := ⟨_, rfl⟩
              have EX := Lib.hid (show R = if most < m then (0, [], 2) else cntL most (s.data.toList.drop (p + 1)) m (d + 1) from by
                rw [HE.out, cntL, if_neg NE13.out, if_neg (by rw [hd1]; rintro (h | h); cases h; exact hz h), HX.out, hmk, show 48 + k - 48 = k by omega])
              have hw1 : IntKind.u8.wrap (((48 + k : Nat) : Int) - 48) = (k : Int) := by rw [IntKind.wrap_u8]; omega
              have hw2 : IntKind.i64.wrap (10 * (n : Int) + (k : Int)) = (m : Int) := by rw [IntKind.wrap_i64]; omega
              have hw3 : 10 * (n : Int) + (k : Int) = (m : Int) := by omega
              have hw4 : IntKind.u8.wrap (48 + (k : Int) - 48) = (k : Int) := by rw [IntKind.wrap_u8]; omega
              have hdz : d = 0 ∨ (0 < d ∧ ¬ n = 0) := by omega
              have HM := Lib.hid hmk
              clear hdg hx hd1 h13 hz hmk
              by_cases hbig : most < m
              · rw [if_pos hbig] at EX
                rcases hdz with rfl | ⟨hdp0, hn0⟩
                · go_wp2_with fail
                  refine NY.out.mono ?_
                  rintro e w2 ⟨rfl, r2, f2⟩
                  go_wp2_with fail
                  refine (fail_any 2 _).mono ?_
                  rintro e w3 ⟨rfl, rfl⟩
                  go_wp2
                  rw [EX.out]
                  exact ⟨rfl, .inr ⟨by decide, rfl⟩, HF.out.trans f2⟩
                · have qn : ((n : Int) == 0) = false := by simp; omega
                  go_wp2_with fail
                  refine NY.out.mono ?_
                  rintro e w2 ⟨rfl, r2, f2⟩
                  go_wp2_with fail
                  refine (fail_any 2 _).mono ?_
                  rintro e w3 ⟨rfl, rfl⟩
                  go_wp2
                  rw [EX.out]
                  exact ⟨rfl, .inr ⟨by decide, rfl⟩, HF.out.trans f2⟩
              · rw [if_neg hbig] at EX
                rcases hdz with rfl | ⟨hdp0, hn0⟩
                · go_wp2_with fail
                  refine NY.out.mono ?_
                  rintro e w2 ⟨rfl, r2, f2⟩
                  have R2 := Lib.hid r2
                  clear r2
                  go_wp2
                  go_roundg (s.size - (p + 1))
                  case measure => omega
                  case rel => exact ⟨p + 1, m, 0 + 1, rfl, by omega, by omega, by go_num, by go_num, by omega, by omega, EX, R2.out, HF.out.trans f2⟩
                · have qn : ((n : Int) == 0) = false := by simp; omega
                  go_wp2_with fail
                  refine NY.out.mono ?_
                  rintro e w2 ⟨rfl, r2, f2⟩
                  have R2 := Lib.hid r2
                  clear r2
                  go_wp2
                  go_roundg (s.size - (p + 1))
                  case measure => omega
                  case rel => exact ⟨p + 1, m, d + 1, rfl, by omega, by omega, by go_num, by go_num, by omega, by omega, EX, R2.out, HF.out.trans f2⟩
          · have EX := Lib.hid (show R = (0, [], 1) from by
              rw [HE.out, cntL, if_neg NE13.out, if_pos (.inl (by
                rw [hdg]
                by_cases h48 : 48 ≤ y
                · rw [decide_eq_false (show ¬ y ≤ 57 from fun h => hdig ⟨h48, h⟩), Bool.and_false]
                · rw [decide_eq_false h48, Bool.false_and]))])
            have hor : (y : Int) < 48 ∨ (¬ (y : Int) < 48 ∧ (57 : Int) < (y : Int)) := by omega
            clear hdg hx h13 hdig
            rcases hor with h48 | ⟨h48, h57⟩
            all_goals
              go_wp2_with fail
              refine NY.out.mono ?_
              rintro e w2 ⟨rfl, r2, f2⟩
              go_wp2_with fail
              refine (fail_any 1 _).mono ?_
              rintro e w3 ⟨rfl, rfl⟩
              go_wp2
              rw [EX.out]
              exact ⟨rfl, .inr ⟨by decide, rfl⟩, HF.out.trans f2⟩
      · have hz : p = s.size := by omega
        have hr := HR.out
        rw [hz] at hr
        have NN := Lib.hid (next_no g s wr hs hr)
        have EX := Lib.hid (show R = (0, [], 8) from by
          rw [HE.out, List.drop_of_length_le (by simp; omega)]
          rfl)
        clear hz hr
        go_wp2_with fail
        refine NN.out.mono ?_
        rintro e w2 ⟨rfl, f2⟩
        go_wp2
        rw [EX.out]
        exact ⟨rfl, .inr ⟨by decide, rfl⟩, HF.out.trans f2⟩
end Go.Proofs.YtlmaiiloihabdaaDoor
