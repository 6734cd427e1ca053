/- The walks of the document's commandAt, and of FeedOf. -/
import Derived.Test.YtlmaiiloihabdaaDoorFdE
import Derived.Test.YtlmaiiloihabdaaDoorFdF
set_option linter.unusedVariables false
set_option linter.unusedSimpArgs false
namespace Go.Proofs.YtlmaiiloihabdaaDoor
open Go.RowKit
attribute [local go_sem] byteAt_eq

/-- the end of a word's line, at a place. -/
theorem tail_at {s : ByteArray} {a n : Nat} (h : a + n ≤ s.size) : tailL n (s.data.toList.drop a) = lineL ((s.data.toList.drop a).take n) (s.data.toList.drop (a + n)) := by
  unfold tailL
  rw [List.drop_drop]
theorem tail_short {s : ByteArray} {a n k : Nat} (h : a + k = s.size) (hk : k < n + 2) (h13 : n < k → byteAt s (a + n) = 13) : tailL n (s.data.toList.drop a) = ([], [], 8) := by
  have hl : s.data.toList.length = s.size := by simp
  rcases Nat.lt_or_ge n k with hn | hn
  · rw [tail_at (by omega)]
    obtain ⟨x, hx, ex⟩ := drop_byte s (a + n) (by omega)
    have e2 : s.data.toList.drop (a + n + 1) = [] := List.drop_of_length_le (by omega)
    rw [hx, e2]
    exact if_pos (ex.trans (h13 hn))
  · unfold tailL
    rw [List.drop_of_length_le (l := s.data.toList.drop a) (by rw [List.length_drop]; omega)]
    rfl
theorem tail_13 {s : ByteArray} {a n : Nat} (h : a + n < s.size) (hb : ¬ byteAt s (a + n) = 13) : tailL n (s.data.toList.drop a) = ([], [], 1) := by
  rw [tail_at (by omega)]
  obtain ⟨x, hx, ex⟩ := drop_byte s (a + n) h
  rw [hx]
  have hx13 : ¬ x.toNat = 13 := fun h => hb (ex.symm.trans h)
  cases s.data.toList.drop (a + n + 1) with
  | nil => exact if_neg hx13
  | cons y u => exact if_neg hx13
theorem tail_10 {s : ByteArray} {a n : Nat} (h : a + n + 1 < s.size) (hb : byteAt s (a + n) = 13) (hc : ¬ byteAt s (a + n + 1) = 10) : tailL n (s.data.toList.drop a) = ([], [], 1) := by
  rw [tail_at (by omega)]
  obtain ⟨x, hx, ex⟩ := drop_byte s (a + n) (by omega)
  obtain ⟨y, hy, ey⟩ := drop_byte s (a + n + 1) h
  rw [hx, hy]
  show (if x.toNat = 13 then (if y.toNat = 10 then _ else _) else _) = _
  rw [if_pos (ex.trans hb), if_neg (fun h => hc (ey.symm.trans h))]
theorem tail_ok {s : ByteArray} {a n : Nat} (h : a + n + 2 ≤ s.size) (hb : byteAt s (a + n) = 13) (hc : byteAt s (a + n + 1) = 10) : tailL n (s.data.toList.drop a) = ((s.data.toList.drop a).take n, s.data.toList.drop (a + n + 2), 0) := by
  rw [tail_at (by omega)]
  obtain ⟨x, hx, ex⟩ := drop_byte s (a + n) (by omega)
  obtain ⟨y, hy, ey⟩ := drop_byte s (a + n + 1) (by omega)
  rw [hx, hy]
  show (if x.toNat = 13 then (if y.toNat = 10 then _ else _) else _) = _
  rw [if_pos (ex.trans hb), if_pos (ey.trans hc)]

theorem cmdP_none {c : Int} (hc : c ≠ 0) (s : ByteArray) {w w' : World} (h : Fr [] w w') : CmdP ([], [], c) s w (.returned (.tuple #[.slice none 0 0, .int .i64 0, .int .i64 c])) w' :=
  ⟨_, _, rfl, World.ownsRow_nil _ _ _ _, fun h0 => absurd h0 hc, h⟩

set_option maxHeartbeats 8000000 in
set_option maxRecDepth 100000 in
theorem commandAt_any (s : ByteArray) (w : World) (hs : s.size ≤ 4611686018427387904) :
    Calls Tryd.prog 29 #[.string s] w (CmdP (cmdL s.data.toList) s w) := by
  have NM := Lib.hid (countAt_any s 0 42 12 w hs (Nat.zero_le _) (by decide) (by decide))
  have hmo := countMost 42 12 s.data.toList
  rw [List.drop_zero] at NM
  obtain ⟨R, hR⟩ : ∃ R, R = cmdL s.data.toList := ⟨_, rfl⟩
  rw [← hR]
  unfold cmdL at hR
  unfold CntP at NM
  have CZ := (countG 42 12).no s.data.toList
  generalize countL 42 12 s.data.toList = C at *
  obtain ⟨n, r, code⟩ := C
  simp only at NM hR hmo CZ
  by_cases hc : code = 0
  · subst hc
    rw [if_neg (fun h => h rfl)] at hR
    clear CZ
    by_cases hn : n = 0
    · subst hn
      rw [if_pos rfl] at hR
      have EX := Lib.hid hR
      clear hR
      go_enter Tryd.func29, Tryd.ntmps29
      go_wp2_with fail
      refine NM.out.mono ?_
      rintro e w1 ⟨x, rfl, hx, f1⟩
      clear hx
      go_wp2
      go_loopg [9] 0 (fun x vi wr => x = 0 ∧ vi = .int .i64 0 ∧ wr = w1)
      case atStart => exact ⟨rfl, rfl, rfl⟩
      case round =>
        obtain ⟨rfl, rfl, rfl⟩ := hrel
        go_wp2
        go_ret3
        rw [EX.out]
        exact cmdP_none (by decide) s f1
    · rw [if_neg hn] at hR
      have HR := Lib.hid hR
      obtain ⟨i0, hi, hz0, hz1, hz2⟩ := info_parts stringInfo
      have qn : ((n : Int) == 0) = false := by simp; omega
      clear hR
      go_enter Tryd.func29, Tryd.ntmps29
      go_wp2_with fail
      refine NM.out.mono ?_
      rintro e w1 ⟨x, rfl, hx, f1⟩
      obtain ⟨p, rfl, hp, hd⟩ := hx (by trivial)
      have HD := Lib.hid hd
      have F1 := Lib.hid f1
      clear hx hd f1 NM
      go_wp2
      clear qn
      go_loopg [6, 8, 9] n (fun x va vo vi wr => ∃ (k p : Nat) (acc : List ByteArray), x = n - k ∧ k ≤ n ∧ vi = .int .i64 k ∧ va = .int .i64 p ∧ acc.length = k ∧ p ≤ s.size ∧ Hid (R = wordsA (n - k) (s.data.toList.drop p) acc) ∧ TxO wr w.heap.size vo acc ∧ Fr [] w wr)
      case atStart => exact ⟨0, p, [], rfl, Nat.zero_le _, rfl, rfl, rfl, hp, Lib.hid (by rw [HR.out, HD.out]; rfl), World.ownsRow_nil _ _ _ _, F1.out⟩
      case round =>
        obtain ⟨k, p2, acc, rfl, hk, rfl, rfl, hacc, hp2, HE, hT, hf⟩ := hrel
        have HT := Lib.hid hT
        have HF := Lib.hid hf
        have hsw := hf.size
        obtain ⟨Av, cv, rfl, -⟩ := own_slice hT
        clear hT hf F1 HD hp
        by_cases hlt : k < n
        · have WD := Lib.hid (countAt_any s p2 36 60 wr hs hp2 (by decide) (by decide))
          have hwm := countMost 36 60 (s.data.toList.drop p2)
          have ST := Lib.hid (show R = if (wordL (s.data.toList.drop p2)).2.2 = 0 then wordsA (n - (k + 1)) (wordL (s.data.toList.drop p2)).2.1 (acc ++ [toB (wordL (s.data.toList.drop p2)).1]) else ([], [], (wordL (s.data.toList.drop p2)).2.2) from by
            rw [HE.out, show n - k = (n - (k + 1)) + 1 by omega]
            rfl)
          have WE := Lib.hid (show wordL (s.data.toList.drop p2) = if (countL 36 60 (s.data.toList.drop p2)).2.2 = 0 then tailL (countL 36 60 (s.data.toList.drop p2)).1 (countL 36 60 (s.data.toList.drop p2)).2.1 else ([], [], (countL 36 60 (s.data.toList.drop p2)).2.2) from rfl)
          unfold CntP at WD
          generalize wordL (s.data.toList.drop p2) = T at *
          generalize countL 36 60 (s.data.toList.drop p2) = C2 at *
          obtain ⟨m, r2, c2⟩ := C2
          simp only at WD WE hwm
          by_cases htc : c2 = 0
          · subst htc
            rw [if_pos rfl] at WE
            go_wp2_with fail
            refine WD.out.mono ?_
            rintro e w2 ⟨x, rfl, hx, f2⟩
            obtain ⟨p3, rfl, hp3, hd3⟩ := hx (by trivial)
            have G2 := Lib.hid (HF.out.trans f2)
            have HT2 := Lib.hid (own_fr HT.out f2 (by simp))
            rw [← hd3] at WE
            have hsw2 := f2.size
            clear hx f2 hd3 WD HE
            go_wp2
            go_loopg [13] (m + 2) (fun x vj wy => ∃ (j : Nat), x = m + 2 - j ∧ j ≤ m + 2 ∧ vj = .int .i64 j ∧ p3 + j ≤ s.size ∧ Hid ((m < j → byteAt s (p3 + m) = 13) ∧ (m + 1 < j → byteAt s (p3 + m + 1) = 10)) ∧ wy = w2)
            case atStart => exact ⟨0, rfl, Nat.zero_le _, rfl, hp3, Lib.hid ⟨fun h => absurd h (by omega), fun h => absurd h (by omega)⟩, rfl⟩
            case round =>
              obtain ⟨j, rfl, hj, rfl, hpj, HB, rfl⟩ := hrel
              by_cases hjl : j < m + 2
              · by_cases hend : p3 + j = s.size
                · have EY := Lib.hid (show R = ([], [], 8) from by
                    rw [ST.out, WE.out, tail_short hend hjl HB.out.1]
                    rfl)
                  have q1 : (((p3 + j : Nat) : Int) == (s.size : Int)) = true := by simp; omega
                  have q2 : (((p3 : Int) + (j : Int)) == (s.size : Int)) = true := by simp; omega
                  clear ST WE HB
                  go_wp2
                  go_ret3
                  rw [EY.out]
                  exact cmdP_none (by decide) s G2.out
                · have q1 : (((p3 + j : Nat) : Int) == (s.size : Int)) = false := by simp; omega
                  have q2 : (((p3 : Int) + (j : Int)) == (s.size : Int)) = false := by simp; omega
                  have hpl : p3 + j < s.size := by omega
                  rcases Nat.lt_trichotomy j m with hjm | rfl | hjm
                  · have q3 : ((j : Int) == (m : Int)) = false := by simp; omega
                    have q4 : ((j : Int) == (m : Int) + 1) = false := by simp; omega
                    go_wp2
                    go_roundg (m + 2 - (j + 1))
                    case measure => omega
                    case rel => exact ⟨j + 1, rfl, by omega, by go_num, by omega, Lib.hid ⟨fun h => absurd h (by omega), fun h => absurd h (by omega)⟩, rfl⟩
                  · have q3 : ((j : Int) == (j : Int)) = true := by simp
                    have q4 : ((j : Int) == (j : Int) + 1) = false := beq_eq_false_iff_ne.2 (by omega)
                    by_cases h13 : byteAt s (p3 + j) = 13
                    · have q5 : ((byteAt s (p3 + j) : Int) != 13) = false := by simp; omega
                      have H13 := Lib.hid h13
                      clear h13
                      generalize hyy : byteAt s (p3 + j) = y at *
                      go_wp2
                      go_roundg (j + 2 - (j + 1))
                      case measure => omega
                      case rel => exact ⟨j + 1, rfl, by omega, by go_num, by omega, Lib.hid ⟨fun h => by first | exact H13.out | exact hyy.trans H13.out, fun h => absurd h (by omega)⟩, rfl⟩
                    · have EY := Lib.hid (show R = ([], [], 1) from by
                        rw [ST.out, WE.out, tail_13 hpl h13]
                        rfl)
                      have q5 : ((byteAt s (p3 + j) : Int) != 13) = true := by simp; omega
                      clear ST WE HB h13
                      generalize hyy : byteAt s (p3 + j) = y at *
                      go_wp2
                      go_ret3
                      rw [EY.out]
                      exact cmdP_none (by decide) s G2.out
                  · obtain rfl : j = m + 1 := by omega
                    have q3 : (((m + 1 : Nat) : Int) == (m : Int)) = false := beq_eq_false_iff_ne.2 (by omega)
                    have q4 : (((m : Int) + 1) == (m : Int)) = false := beq_eq_false_iff_ne.2 (by omega)
                    have q6 : (((m + 1 : Nat) : Int) == (m : Int) + 1) = true := by simp
                    have q7 : (((m : Int) + 1) == (m : Int) + 1) = true := by simp
                    have h13 := HB.out.1 (by omega)
                    rw [← Nat.add_assoc] at hpl
                    by_cases h10 : byteAt s (p3 + m + 1) = 10
                    · have q5 : ((byteAt s (p3 + m + 1) : Int) != 10) = false := by simp; omega
                      have H13 := Lib.hid h13
                      have H10 := Lib.hid h10
                      clear h13 h10
                      generalize hyy : byteAt s (p3 + m + 1) = y at *
                      have hyz : byteAt s (p3 + (m + 1)) = y := hyy
                      go_wp2
                      go_roundg (m + 2 - (m + 1 + 1))
                      case measure => omega
                      case rel => exact ⟨m + 1 + 1, rfl, by omega, by go_num, by omega, Lib.hid ⟨fun h => H13.out, fun h => by first | exact H10.out | exact hyy.trans H10.out⟩, rfl⟩
                    · have EY := Lib.hid (show R = ([], [], 1) from by
                        rw [ST.out, WE.out, tail_10 hpl h13 h10]
                        rfl)
                      have q5 : ((byteAt s (p3 + m + 1) : Int) != 10) = true := by simp; omega
                      clear ST WE HB h13 h10
                      generalize hyy : byteAt s (p3 + m + 1) = y at *
                      have hyz : byteAt s (p3 + (m + 1)) = y := hyy
                      go_wp2
                      go_ret3
                      rw [EY.out]
                      exact cmdP_none (by decide) s G2.out
              · obtain rfl : j = m + 2 := by omega
                have ET := extract_toB s p3 m
                have EN := Lib.hid (show R = wordsA (n - (k + 1)) (s.data.toList.drop (p3 + m + 2)) (acc ++ [s.extract p3 (p3 + m)]) from by
                  rw [ST.out, WE.out, tail_ok (by omega) (HB.out.1 (by omega)) (HB.out.2 (by omega)), ET]
                  rfl)
                have hb0 : (0 : Int) ≤ (p3 : Int) := by omega
                have hb1 : (p3 : Int) ≤ ((p3 + m : Nat) : Int) := by omega
                have hb2 : ((p3 + m : Nat) : Int) ≤ (s.size : Int) := by omega
                have hT2 := HT2.out
                unfold TxO at hT2
                rw [hacc] at hT2
                have HO2 := Lib.hid (fun t => hT2.alloc (.cells #[.string t] 9))
                have hO1 := Lib.hid (fun (W : World) t => own_sl (World.ownsRow_lit (base := W.heap.size) (e := 9) (size := 1) W #[.string t] 1 (Nat.le_refl _) (by decide) rfl))
                have h1 : ∀ t, ∀ u ∈ [Value.string t], u.oneCell' = true := fun t u hu => by simp at hu; subst hu; rfl
                have hfz := G2.out.size
                clear ST WE HB ET hT2
                go_wp2_with (at_builtin; refine wpList_append_sl _ rfl _ _ 22 rfl w.heap.size 9 i0 _ 1 16 Tryd.underlying22 hi hz0 hz1 hz2 rfl (by decide) _ _ _ rfl (HO2.out _) _ _ 1 _ rfl (hO1.out _ _) (h1 _) ?c1 ?c2 ?c3 ?_)
                case c1 => unfold maxLen; omega
                case c2 => omega
                case c3 => first | omega | (simp; omega)
                intro v' w5 hown hgrow hat5
                have F5 := Lib.hid ((G2.out.alloc (.cells #[.string (s.extract p3 (p3 + m))] 9)).grown hgrow (fun j hj => .inr ((HO2.out ⟨#[]⟩).lt j hj).1))
                have O5 := Lib.hid (show TxO w5 w.heap.size v' (acc ++ [s.extract p3 (p3 + m)]) from by
                  unfold TxO
                  rw [textsV_append, List.length_append, hacc]
                  exact hown)
                clear hown hgrow hat5
                go_wp2
                go_roundg (n - (k + 1))
                case measure => omega
                case rel => exact ⟨k + 1, p3 + m + 2, _, rfl, by omega, by go_num, by go_num, by rw [List.length_append, hacc]; rfl, by omega, EN, O5.out, F5.out⟩
          · rw [if_neg htc] at WE
            rw [WE.out] at ST
            simp only at ST
            rw [if_neg htc] at ST
            have q2 : (c2 != 0) = true := by simpa using htc
            have HC := Lib.hid htc
            clear htc
            go_wp2_with fail
            refine WD.out.mono ?_
            rintro e w2 ⟨x, rfl, hx, f2⟩
            clear hx
            go_wp2
            go_ret3
            rw [ST.out]
            exact cmdP_none HC.out s (HF.out.trans f2)
        · obtain rfl : k = n := by omega
          have EX := Lib.hid (show R = (acc, s.data.toList.drop p2, 0) from by rw [HE.out, Nat.sub_self]; rfl)
          go_wp2
          go_ret3
          rw [EX.out]
          have hT2 := HT.out
          rw [← hacc]
          exact ⟨_, _, rfl, hT2, fun _ => ⟨p2, rfl, hp2, rfl⟩, HF.out⟩
  · rw [if_pos hc] at hR
    have HR := Lib.hid hR
    have HC := Lib.hid hc
    have hz := CZ hc
    simp only [Prod.mk.injEq] at hz
    obtain ⟨rfl, -, -⟩ := hz
    have q1 : (code == 0) = false := by simpa using hc
    have q2 : (code != 0) = true := by simpa using hc
    clear hR hc CZ
    go_enter Tryd.func29, Tryd.ntmps29
    go_wp2_with fail
    refine NM.out.mono ?_
    rintro e w1 ⟨x, rfl, hx, f1⟩
    clear hx
    go_wp2
    go_loopg [9] 0 (fun x vi wr => x = 0 ∧ vi = .int .i64 0 ∧ wr = w1)
    case atStart => exact ⟨rfl, rfl, rfl⟩
    case round =>
      obtain ⟨rfl, rfl, rfl⟩ := hrel
      go_wp2
      go_ret3
      rw [HR.out]
      exact cmdP_none HC.out s f1

set_option maxHeartbeats 4000000 in
set_option maxRecDepth 100000 in
theorem feedOf_any (all : ByteArray) (w : World) (hsz : all.size ≤ 4611686018427387904) (hk : (feedL all.data.toList).1.length ≤ 5864062014634) :
    Calls Tryd.prog 12 #[.string all] w (FeedP (feedL all.data.toList) w) := by
  obtain ⟨i0, hi, hz0, hz1, hz2⟩ := info_parts rowsInfo
  obtain ⟨R, hR⟩ : ∃ R, R = feedL all.data.toList := ⟨_, rfl⟩
  rw [← hR] at hk ⊢
  have E0 := Lib.hid (show R = feedA all.data.toList [] from hR)
  clear hR
  go_enter Tryd.func12, Tryd.ntmps12
  go_wp2
  go_loopg [0, 5] all.size (fun x va vo wr => ∃ (b : ByteArray) (acc : List (List ByteArray)), x = b.size ∧ b.size ≤ 4611686018427387904 ∧ va = .string b ∧ Hid (R = feedA b.data.toList acc) ∧ RowsO wr w.heap.size vo acc ∧ Fr [] w wr)
  case atStart => exact ⟨all, [], rfl, hsz, rfl, E0, RowsO.nil _ _, Fr.refl _ _⟩
  case round =>
    obtain ⟨b, acc, rfl, hb, rfl, HE, hO, hf⟩ := hrel
    have HO := Lib.hid hO
    have HF := Lib.hid hf
    have hsw := hf.size
    obtain ⟨Ao, co, rfl⟩ := hO.form
    clear hO hf E0
    have CM := Lib.hid (commandAt_any b wr hb)
    have ST := Lib.hid (HE.out.trans (feedA_step b.data.toList acc))
    have LS := Lib.hid (fun h => cmdLess (l := b.data.toList) h)
    unfold CmdP at CM
    generalize cmdL b.data.toList = C at *
    obtain ⟨ws, r, code⟩ := C
    simp only at CM ST LS
    by_cases h8 : code = 8
    · subst h8
      have EX := Lib.hid (show R = (acc, b.data.toList, 0) from ST.out.trans (if_pos rfl))
      clear ST LS
      go_wp2_with fail
      refine CM.out.mono ?_
      rintro e w1 ⟨v, n, rfl, ho, hn, f1⟩
      have F1 := Lib.hid f1
      clear ho hn f1
      go_wp2
      go_ret3
      rw [EX.out]
      exact ⟨_, by rw [toB_of]; rfl, HO.out.fr F1.out, HF.out.trans F1.out⟩
    · rw [if_neg h8] at ST
      by_cases h0 : code = 0
      · subst h0
        rw [if_pos rfl] at ST
        have hls := LS.out rfl
        have hal := feedA_le ST.out
        rw [List.length_append, List.length_singleton] at hal
        clear LS h8
        go_wp2_with fail
        refine CM.out.mono ?_
        rintro e w1 ⟨v, n, rfl, ho, hn, f1⟩
        obtain ⟨a, rfl, ha, hd⟩ := hn (by trivial)
        obtain ⟨Av, cv, rfl, -⟩ := own_slice ho
        have F1 := Lib.hid f1
        have hf1 := f1.size
        have TX := Lib.hid (show TxO (w1.alloc (.cells #[.slice Av ws.length cv] 22)) w.heap.size (.slice Av ws.length cv) ws from own_fr (own_base ho hsw) ((Fr.refl [] w1).alloc _) (by simp))
        have HO1 := (HO.out.fr F1.out).fr ((Fr.refl [] w1).alloc (.cells #[.slice Av ws.length cv] 22))
        obtain ⟨vs, hr, hown0⟩ := HO1
        have HR := Lib.hid hr
        have HO2 := Lib.hid hown0
        have HD := Lib.hid hd
        have hbr : (b.extract a b.size).data.toList = r := by
          rw [← hd, show b.size = a + (b.size - a) by omega, extract_toB, toB_list, List.take_of_length_le (by simp)]
        have hbz : (b.extract a b.size).size = r.length := by rw [← hbr]; simp
        have hbl : b.data.toList.length = b.size := by simp
        have EN := Lib.hid (show R = feedA (b.extract a b.size).data.toList (acc ++ [ws]) from by rw [hbr]; exact ST.out)
        have hO1 := Lib.hid (own_sl (World.ownsRow_lit (base := w1.heap.size) (e := 22) (size := 1) w1 #[.slice Av ws.length cv] 1 (Nat.le_refl _) (by decide) rfl))
        have h1 : ∀ u ∈ [Value.slice Av ws.length cv], u.oneCell' = true := fun u hu => by simp at hu; subst hu; rfl
        clear ho hn f1 hd hr hown0 hbr CM ST HE
        go_wp2_with (at_builtin; refine wpList_append_sl _ rfl _ _ 26 rfl w.heap.size 22 i0 _ 1 24 Tryd.underlying26 hi hz0 hz1 hz2 rfl (by decide) _ _ _ rfl HO2.out _ _ 1 _ rfl hO1.out h1 ?c1 ?c2 ?c3 ?_)
        case c1 => unfold maxLen; omega
        case c2 => omega
        case c3 => first | omega | (simp; omega)
        intro v' w5 hown hgrow hat5
        have F5 := Lib.hid (((HF.out.trans (F1.out.alloc (.cells #[.slice Av ws.length cv] 22))).grown hgrow (fun j hj => .inr (HO2.out.lt j hj).1)))
        have O5 := Lib.hid (RowsO.snoc HR.out TX.out rfl HO2.out hgrow hown)
        have hn0 : (0 : Int) ≤ (a : Int) := by omega
        have hn1 : (a : Int) ≤ (b.size : Int) := by omega
        clear hown hgrow hat5
        go_wp2
        go_roundg (b.extract a b.size).size
        case measure => omega
        case rel => exact ⟨_, acc ++ [ws], rfl, by omega, rfl, EN, O5.out, F5.out⟩
      · rw [if_neg h0] at ST
        have q0 : (code == 0) = false := by simpa using h0
        have q1 : (code != 0) = true := by simpa using h0
        have q8 : (code == 8) = false := by simpa using h8
        have EX := ST
        clear h0 h8 LS
        go_wp2_with fail
        refine CM.out.mono ?_
        rintro e w1 ⟨v, n, rfl, ho, hn, f1⟩
        have F1 := Lib.hid f1
        clear ho hn f1
        go_wp2
        go_ret3
        rw [EX.out]
        exact ⟨_, rfl, HO.out.fr F1.out, HF.out.trans F1.out⟩
end Go.Proofs.YtlmaiiloihabdaaDoor
