/- The walk of the document's replyAt: one that may be no list. -/
import Derived.Test.YtoabjcnacnojbaaDoorReP
import Derived.Test.YtoabjcnacnojbaaDoorReJ
import Derived.Test.YtoabjcnacnojbaaDoorNuI
import Derived.Test.YtoabjcnacnojbaaDoorReK
set_option linter.unusedVariables false
set_option linter.unusedSimpArgs false
namespace Go.Proofs.YtoabjcnacnojbaaDoor
open Go.RowKit
attribute [local go_sem] byteAt_eq

def At1P (s : ByteArray) (a : Nat) (w : World) (e : Ending) (w' : World) : Prop :=
  ∃ (k : Int) (tx : ByteArray) (n : Int) (t : Int) (b : Bool), e = .returned (.tuple #[.agg #[.int .i64 k, .string tx, .int .i64 n, .slice none 0 0], .int .i64 t, .bool b]) ∧
    ((∃ t' : Nat, b = true ∧ t = t' ∧ t' ≤ s.size ∧ dec1 (s.data.toList.drop a) = some (⟨k, tx, n, 0⟩, s.data.toList.drop t')) ∨ (b = false ∧ dec1 (s.data.toList.drop a) = none)) ∧ Fr [] w w'
theorem at1_mk {s : ByteArray} {a : Nat} {w w' : World} {c : UInt8} {k n t : Int} {tx : ByteArray} {b : Bool} (hc : s.data.toList.drop a = c :: s.data.toList.drop (a + 1))
    (h : (∃ t' : Nat, b = true ∧ t = t' ∧ t' ≤ s.size ∧ dec1 (c :: s.data.toList.drop (a + 1)) = some (⟨k, tx, n, 0⟩, s.data.toList.drop t')) ∨ (b = false ∧ dec1 (c :: s.data.toList.drop (a + 1)) = none)) (hf : Fr [] w w') :
    At1P s a w (.returned (.tuple #[.agg #[.int .i64 k, .string tx, .int .i64 n, .slice none 0 0], .int .i64 t, .bool b])) w' :=
  ⟨k, tx, n, t, b, rfl, by rw [hc]; exact h, hf⟩
theorem ne_13 {n : Nat} (h : ¬ n = 13) : ((n : Int) != 13) = true := by simp; omega
theorem is_13 {n : Nat} (h : n = 13) : ((n : Int) != 13) = false := by simp; omega
theorem ne_10 {n : Nat} (h : ¬ n = 10) : ((n : Int) != 10) = true := by simp; omega
theorem is_10 {n : Nat} (h : n = 10) : ((n : Int) != 10) = false := by simp; omega
theorem dec1_cut {c : UInt8} {l : List UInt8} (h : cutC l = none) : dec1 (c :: l) = none := by
  show (cutC l).bind _ = none
  rw [h]; rfl
theorem numC_cut {l a r : List UInt8} (h : cutC l = some (a, r)) : numC l = (intL a).map fun n => (n, r) := by
  unfold numC; rw [h]; rfl
theorem textC_at {s : ByteArray} {t k : Nat} (h : t + k + 2 ≤ s.size) : textC (k : Int) (s.data.toList.drop t) = if byteAt s (t + k) = 13 ∧ byteAt s (t + k + 1) = 10 then some ((s.data.toList.drop t).take k, s.data.toList.drop (t + k + 2)) else none := by
  rw [textC_two (by rw [List.length_drop]; simp; omega), List.drop_drop, List.drop_drop]
  obtain ⟨x, hx, ex⟩ := drop_byte s (t + k) (by omega)
  obtain ⟨y, hy, ey⟩ := drop_byte s (t + k + 1) (by omega)
  rw [hx, hy]
  show (if [x, y] = [13, 10] then _ else _) = _
  by_cases h1 : byteAt s (t + k) = 13 ∧ byteAt s (t + k + 1) = 10
  · rw [if_pos h1, if_pos, Nat.add_assoc]
    rw [show x = 13 from UInt8.toNat_inj.1 (ex.trans h1.1), show y = 10 from UInt8.toNat_inj.1 (ey.trans h1.2)]
  · rw [if_neg h1, if_neg]
    intro e
    injection e with e1 e
    injection e with e2 e
    exact h1 ⟨by rw [← ex, e1]; rfl, by rw [← ey, e2]; rfl⟩

set_option maxHeartbeats 4000000 in
set_option maxRecDepth 100000 in
theorem at1_any (s : ByteArray) (a : Nat) (b : Bool) (w : World) (hs : s.size < 4294967281) (ha : a ≤ s.size) (hb : b = false ∨ ¬ (a < s.size ∧ byteAt s a = 42)) :
    Calls Tryd.prog 17 #[.string s, .int .i64 a, .bool b] w (At1P s a w) := by
  by_cases he : a < s.size
  rotate_left
  · have HN := Lib.hid (show dec1 (s.data.toList.drop a) = none from dec1_nil (by rw [List.length_drop]; simp; omega))
    have F1 := Lib.hid (((Fr.refl [] w).alloc (.cells #[.int .i64 0, .string ⟨#[]⟩, .int .i64 0, .slice none 0 0] 24)).alloc (.cells #[.int .i64 0, .string ⟨#[]⟩, .int .i64 0, .slice none 0 0] 24))
    clear hb
    go_enter Tryd.func17, Tryd.ntmps17
    go_wp2
    refine bodyPost_ret (v := .tuple #[.agg #[.int .i64 0, .string ⟨#[]⟩, .int .i64 0, .slice none 0 0], .int .i64 a, .bool false]) (by simp [results, Tryd.results17, go_sem]) rfl ?_
    exact ⟨_, _, _, _, _, rfl, .inr ⟨rfl, HN.out⟩, F1.out⟩
  obtain ⟨c, hc, ec⟩ := drop_byte s a he
  have LA := Lib.hid (fun W => lineAt_any s (a + 1) W (by omega) (by omega))
  have hw1 : IntKind.i64.wrap ((a : Int) + 1) = ((a + 1 : Nat) : Int) := by rw [IntKind.wrap_i64]; omega
  have EC := Lib.hid ec
  have F0 := Lib.hid (((Fr.refl [] w).alloc (.cells #[.int .i64 0, .string ⟨#[]⟩, .int .i64 0, .slice none 0 0] 24)).alloc (.cells #[.int .i64 0, .string ⟨#[]⟩, .int .i64 0, .slice none 0 0] 24))
  have V0 := Lib.hid (show Whole ((w.alloc (.cells #[.int .i64 0, .string ⟨#[]⟩, .int .i64 0, .slice none 0 0] 24)).alloc (.cells #[.int .i64 0, .string ⟨#[]⟩, .int .i64 0, .slice none 0 0] 24)) w.heap.size 24 zero4 from Whole.alloc (Whole.new w _ _) _)
  have O0 := Lib.hid (show Whole ((w.alloc (.cells #[.int .i64 0, .string ⟨#[]⟩, .int .i64 0, .slice none 0 0] 24)).alloc (.cells #[.int .i64 0, .string ⟨#[]⟩, .int .i64 0, .slice none 0 0] 24)) (w.heap.size + 1) 24 zero4 from by
    have := Whole.new (w.alloc (.cells #[.int .i64 0, .string ⟨#[]⟩, .int .i64 0, .slice none 0 0] 24)) 24 zero4
    rwa [show (w.alloc (.cells #[.int .i64 0, .string ⟨#[]⟩, .int .i64 0, .slice none 0 0] 24)).heap.size = w.heap.size + 1 from by simp] at this)
  have HB := Lib.hid hb
  have HC := Lib.hid hc
  clear ec hb hc
  go_enter Tryd.func17, Tryd.ntmps17
  go_wp2_with fail
  refine (LA.out _).mono ?_
  rintro e w1 ⟨hcut, hw1'⟩
  have F1 := Lib.hid (hw1' ▸ F0.out)
  have V1 := Lib.hid (hw1' ▸ V0.out)
  have O1 := Lib.hid (hw1' ▸ O0.out)
  clear hw1' F0 V0 O0 LA
  rcases hcut with ⟨p, t, rfl, hp, ht, hdt⟩ | ⟨rfl, hp⟩
  rotate_left
  · have HN := Lib.hid (dec1_cut (c := c) hp)
    obtain ⟨a0, a1, a2, a3⟩ := four V1.out
    obtain ⟨b0, b1, b2, b3⟩ := fourF V1.out
    obtain ⟨o0, o1, o2, o3⟩ := four O1.out
    have hh := V1.out.lt
    clear hp
    go_wp2
    refine bodyPost_ret (v := .tuple #[.agg #[.int .i64 0, .string ⟨#[]⟩, .int .i64 0, .slice none 0 0], .int .i64 a, .bool false]) (by simp [results, Tryd.results17, go_sem, a0, a1, a2, a3]) rfl ?_
    exact at1_mk HC.out (.inr ⟨rfl, HN.out⟩) (fr_set4 F1.out (Nat.le_refl _) _ _ _ _)
  have hpl : p.1.length ≤ s.size := by
    have := cut_size (a := p.1) (b := p.2) hp
    rw [List.length_drop] at this
    simp at this
    omega
  obtain ⟨l, r⟩ := p
  simp only at hdt hpl
  subst hdt
  have HP := Lib.hid hp
  have IO := Lib.hid (intOf_any (toB l) w1 (by rw [toB_size]; omega))
  rw [toB_list] at IO
  have NC := Lib.hid (numC_cut hp)
  clear hp hpl
  go_wp2_with fail
  refine IO.out.mono ?_
  rintro e w2 ⟨rfl, f2⟩
  have F2 := Lib.hid (F1.out.trans f2)
  have V2 := Lib.hid (V1.out.fr f2 (by simp))
  have O2 := Lib.hid (O1.out.fr f2 (by simp))
  obtain ⟨a0, a1, a2, a3⟩ := four V2.out
  obtain ⟨b0, b1, b2, b3⟩ := fourF V2.out
  obtain ⟨o0, o1, o2, o3⟩ := four O2.out
  have hh := V2.out.lt
  clear f2 F1 V1 O1 IO
  have HI := Lib.hid (fun n (h : intL l = some n) => int_bound (intL_iff.1 h).1)
  by_cases hy : byteAt s a = 43
  · have e43 : ((byteAt s a : Int) == 43) = true := by rw [hy]; rfl
    have HD := Lib.hid (show dec1 (c :: s.data.toList.drop (a + 1)) = some (⟨1, toB l, 0, 0⟩, s.data.toList.drop t) from by rw [dec1_plus (EC.out.trans hy), HP.out]; rfl)
    clear hy HB
    generalize toB l = tl at *
    go_wp2
    refine bodyPost_ret (v := .tuple #[.agg #[.int .i64 1, .string tl, .int .i64 0, .slice none 0 0], .int .i64 t, .bool true]) (by simp [results, Tryd.results17, go_sem, a0, a1, a2, a3]) rfl ?_
    exact at1_mk HC.out (.inl ⟨_, rfl, rfl, ht, HD.out⟩) (fr_set4 F2.out (Nat.le_refl _) _ _ _ _)
  by_cases h45 : byteAt s a = 45
  · have hy := h45
    have e43 : ((byteAt s a : Int) == 43) = false := beq_eq_false_iff_ne.2 (by omega)
    have e45 : ((byteAt s a : Int) == 45) = true := by rw [hy]; rfl
    rcases hi : intL l with _ | n
    · rw [hi] at NC
      simp only [hi, Option.getD, Option.isSome] at *
      have HD := Lib.hid (show dec1 (c :: s.data.toList.drop (a + 1)) = none from by rw [dec1_minus (EC.out.trans hy), NC.out]; rfl)
      clear hy HB hi NC
      go_wp2
      refine bodyPost_ret (v := .tuple #[.agg #[.int .i64 2, .string ⟨#[]⟩, .int .i64 0, .slice none 0 0], .int .i64 t, .bool false]) (by simp [results, Tryd.results17, go_sem, a0, a1, a2, a3]) rfl ?_
      exact at1_mk HC.out (.inr ⟨rfl, HD.out⟩) (fr_set4 F2.out (Nat.le_refl _) _ _ _ _)
    · rw [hi] at NC
      have hn := HI.out n hi
      simp only [hi, Option.getD, Option.isSome] at *
      have HD := Lib.hid (show dec1 (c :: s.data.toList.drop (a + 1)) = some (⟨2, ⟨#[]⟩, n, 0⟩, s.data.toList.drop t) from by rw [dec1_minus (EC.out.trans hy), NC.out]; rfl)
      clear hy HB hi NC
      go_wp2
      refine bodyPost_ret (v := .tuple #[.agg #[.int .i64 2, .string ⟨#[]⟩, .int .i64 n, .slice none 0 0], .int .i64 t, .bool true]) (by simp [results, Tryd.results17, go_sem, a0, a1, a2, a3]) rfl ?_
      exact at1_mk HC.out (.inl ⟨_, rfl, rfl, ht, HD.out⟩) (fr_set4 F2.out (Nat.le_refl _) _ _ _ _)
  by_cases h58 : byteAt s a = 58
  · have hy := h58
    have e43 : ((byteAt s a : Int) == 43) = false := beq_eq_false_iff_ne.2 (by omega)
    have e45 : ((byteAt s a : Int) == 45) = false := beq_eq_false_iff_ne.2 (by omega)
    have e58 : ((byteAt s a : Int) == 58) = true := by rw [hy]; rfl
    rcases hi : intL l with _ | n
    · rw [hi] at NC
      simp only [hi, Option.getD, Option.isSome] at *
      have HD := Lib.hid (show dec1 (c :: s.data.toList.drop (a + 1)) = none from by rw [dec1_colon (EC.out.trans hy), NC.out]; rfl)
      clear hy HB hi NC
      go_wp2
      refine bodyPost_ret (v := .tuple #[.agg #[.int .i64 3, .string ⟨#[]⟩, .int .i64 0, .slice none 0 0], .int .i64 t, .bool false]) (by simp [results, Tryd.results17, go_sem, a0, a1, a2, a3]) rfl ?_
      exact at1_mk HC.out (.inr ⟨rfl, HD.out⟩) (fr_set4 F2.out (Nat.le_refl _) _ _ _ _)
    · rw [hi] at NC
      have hn := HI.out n hi
      simp only [hi, Option.getD, Option.isSome] at *
      have HD := Lib.hid (show dec1 (c :: s.data.toList.drop (a + 1)) = some (⟨3, ⟨#[]⟩, n, 0⟩, s.data.toList.drop t) from by rw [dec1_colon (EC.out.trans hy), NC.out]; rfl)
      clear hy HB hi NC
      go_wp2
      refine bodyPost_ret (v := .tuple #[.agg #[.int .i64 3, .string ⟨#[]⟩, .int .i64 n, .slice none 0 0], .int .i64 t, .bool true]) (by simp [results, Tryd.results17, go_sem, a0, a1, a2, a3]) rfl ?_
      exact at1_mk HC.out (.inl ⟨_, rfl, rfl, ht, HD.out⟩) (fr_set4 F2.out (Nat.le_refl _) _ _ _ _)
  by_cases h36 : byteAt s a = 36
  · have hy := h36
    have e43 : ((byteAt s a : Int) == 43) = false := beq_eq_false_iff_ne.2 (by omega)
    have e45 : ((byteAt s a : Int) == 45) = false := beq_eq_false_iff_ne.2 (by omega)
    have e58 : ((byteAt s a : Int) == 58) = false := beq_eq_false_iff_ne.2 (by omega)
    have e36 : ((byteAt s a : Int) == 36) = true := by rw [hy]; rfl
    have DD := Lib.hid (dec1_dollar (l := s.data.toList.drop (a + 1)) (EC.out.trans hy))
    rcases hi : intL l with _ | n
    · rw [hi] at NC
      simp only [hi, Option.getD, Option.isSome] at *
      have HD := Lib.hid (show dec1 (c :: s.data.toList.drop (a + 1)) = none from by rw [DD.out, NC.out]; rfl)
      clear hy HB hi NC
      go_wp2
      refine bodyPost_ret (v := .tuple #[.agg #[.int .i64 0, .string ⟨#[]⟩, .int .i64 0, .slice none 0 0], .int .i64 a, .bool false]) (by simp [results, Tryd.results17, go_sem, a0, a1, a2, a3]) rfl ?_
      exact at1_mk HC.out (.inr ⟨rfl, HD.out⟩) (fr_set4 F2.out (Nat.le_refl _) _ _ _ _)
    · rw [hi] at NC
      have hn := HI.out n hi
      simp only [hi, Option.getD, Option.isSome] at *
      rw [NC.out] at DD
      clear hy HB hi NC
      by_cases h1 : n = -1
      · subst h1
        have HD := Lib.hid (show dec1 (c :: s.data.toList.drop (a + 1)) = some (⟨5, ⟨#[]⟩, 0, 0⟩, s.data.toList.drop t) from DD.out)
        go_wp2
        refine bodyPost_ret (v := .tuple #[.agg #[.int .i64 5, .string ⟨#[]⟩, .int .i64 0, .slice none 0 0], .int .i64 t, .bool true]) (by simp [results, Tryd.results17, go_sem, a0, a1, a2, a3]) rfl ?_
        exact at1_mk HC.out (.inl ⟨_, rfl, rfl, ht, HD.out⟩) (fr_set4 F2.out (Nat.le_refl _) _ _ _ _)
      have qn : (n == -1) = false := beq_eq_false_iff_ne.2 h1
      have DE := Lib.hid (show dec1 (c :: s.data.toList.drop (a + 1)) = (textC n (s.data.toList.drop t)).map (fun p => (⟨4, toB p.1, 0, 0⟩, p.2)) from DD.out.trans (if_neg h1))
      clear DD h1
      by_cases h0 : n < 0
      · have HD := Lib.hid (show dec1 (c :: s.data.toList.drop (a + 1)) = none from by rw [DE.out, textC_neg h0]; rfl)
        go_wp2
        refine bodyPost_ret (v := .tuple #[.agg #[.int .i64 0, .string ⟨#[]⟩, .int .i64 0, .slice none 0 0], .int .i64 a, .bool false]) (by simp [results, Tryd.results17, go_sem, a0, a1, a2, a3]) rfl ?_
        exact at1_mk HC.out (.inr ⟨rfl, HD.out⟩) (fr_set4 F2.out (Nat.le_refl _) _ _ _ _)
      obtain ⟨k, rfl⟩ : ∃ k : Nat, n = k := ⟨n.toNat, by omega⟩
      by_cases hk : t + k + 2 ≤ s.size
      rotate_left
      · have HD := Lib.hid (show dec1 (c :: s.data.toList.drop (a + 1)) = none from by rw [DE.out, textC_short (by rw [List.length_drop]; simp; omega)]; rfl)
        have q1 : (k : Int) > (s.size : Int) - t - 2 := by omega
        go_wp2
        refine bodyPost_ret (v := .tuple #[.agg #[.int .i64 0, .string ⟨#[]⟩, .int .i64 0, .slice none 0 0], .int .i64 a, .bool false]) (by simp [results, Tryd.results17, go_sem, a0, a1, a2, a3]) rfl ?_
        exact at1_mk HC.out (.inr ⟨rfl, HD.out⟩) (fr_set4 F2.out (Nat.le_refl _) _ _ _ _)
      have q1 : ¬ (k : Int) > (s.size : Int) - t - 2 := by omega
      have DE := Lib.hid (DE.out.trans (congrArg (Option.map (fun p : List UInt8 × List UInt8 => ((⟨4, toB p.1, 0, 0⟩ : Rp1), p.2))) (textC_at hk)))
      by_cases h13 : byteAt s (t + k) = 13
      rotate_left
      · have HD := Lib.hid (show dec1 (c :: s.data.toList.drop (a + 1)) = none from by rw [DE.out, if_neg (fun h => h13 h.1)]; rfl)
        have q2 : ((byteAt s (t + k) : Int) != 13) = true := ne_13 h13
        clear DE h13
        go_wp2
        refine bodyPost_ret (v := .tuple #[.agg #[.int .i64 0, .string ⟨#[]⟩, .int .i64 0, .slice none 0 0], .int .i64 a, .bool false]) (by simp [results, Tryd.results17, go_sem, a0, a1, a2, a3]) rfl ?_
        exact at1_mk HC.out (.inr ⟨rfl, HD.out⟩) (fr_set4 F2.out (Nat.le_refl _) _ _ _ _)
      have q2 : ((byteAt s (t + k) : Int) != 13) = false := is_13 h13
      by_cases h10 : byteAt s (t + k + 1) = 10
      rotate_left
      · have HD := Lib.hid (show dec1 (c :: s.data.toList.drop (a + 1)) = none from by rw [DE.out, if_neg (fun h => h10 h.2)]; rfl)
        have q3 : ((byteAt s (t + k + 1) : Int) != 10) = true := ne_10 h10
        clear DE h13 h10
        go_wp2
        refine bodyPost_ret (v := .tuple #[.agg #[.int .i64 0, .string ⟨#[]⟩, .int .i64 0, .slice none 0 0], .int .i64 a, .bool false]) (by simp [results, Tryd.results17, go_sem, a0, a1, a2, a3]) rfl ?_
        exact at1_mk HC.out (.inr ⟨rfl, HD.out⟩) (fr_set4 F2.out (Nat.le_refl _) _ _ _ _)
      have q3 : ((byteAt s (t + k + 1) : Int) != 10) = false := is_10 h10
      have EX := extract_toB s t k
      have HD := Lib.hid (show dec1 (c :: s.data.toList.drop (a + 1)) = some (⟨4, s.extract t (t + k), 0, 0⟩, s.data.toList.drop (t + k + 2)) from by rw [DE.out, if_pos ⟨h13, h10⟩, EX]; rfl)
      clear DE h13 h10 EX
      go_wp2
      refine bodyPost_ret (v := .tuple #[.agg #[.int .i64 4, .string (s.extract t (t + k)), .int .i64 0, .slice none 0 0], .int .i64 ((t + k + 2 : Nat) : Int), .bool true]) (by simp [results, Tryd.results17, go_sem, a0, a1, a2, a3]) rfl ?_
      exact at1_mk HC.out (.inl ⟨_, rfl, rfl, hk, HD.out⟩) (fr_set4 F2.out (Nat.le_refl _) _ _ _ _)
  have HD := Lib.hid (show dec1 (c :: s.data.toList.drop (a + 1)) = none from dec1_else (by rw [EC.out]; exact hy) (by rw [EC.out]; exact h45) (by rw [EC.out]; exact h58) (by rw [EC.out]; exact h36))
  have e43 : ((byteAt s a : Int) == 43) = false := beq_eq_false_iff_ne.2 (by omega)
  have e45 : ((byteAt s a : Int) == 45) = false := beq_eq_false_iff_ne.2 (by omega)
  have e58 : ((byteAt s a : Int) == 58) = false := beq_eq_false_iff_ne.2 (by omega)
  have e36 : ((byteAt s a : Int) == 36) = false := beq_eq_false_iff_ne.2 (by omega)
  by_cases h42 : byteAt s a = 42
  rotate_left
  · have e42 : ((byteAt s a : Int) == 42) = false := beq_eq_false_iff_ne.2 (by omega)
    clear hy h45 h58 h36 h42 NC
    generalize (intL l).getD 0 = n0 at *
    generalize (intL l).isSome = n1 at *
    go_wp2
    refine bodyPost_ret (v := .tuple #[.agg #[.int .i64 0, .string ⟨#[]⟩, .int .i64 0, .slice none 0 0], .int .i64 a, .bool false]) (by simp [results, Tryd.results17, go_sem, a0, a1, a2, a3]) rfl ?_
    exact at1_mk HC.out (.inr ⟨rfl, HD.out⟩) (fr_set4 F2.out (Nat.le_refl _) _ _ _ _)
  obtain rfl : b = false := by
    obtain h | h := HB.out
    · exact h
    · exact absurd ⟨he, h42⟩ h
  have e42 : ((byteAt s a : Int) == 42) = true := by rw [h42]; rfl
  clear hy h45 h58 h36 h42 HB
  rcases hi : intL l with _ | n
  · rw [hi] at NC
    simp only [hi, Option.getD, Option.isSome] at *
    clear hi NC
    go_wp2
    refine bodyPost_ret (v := .tuple #[.agg #[.int .i64 0, .string ⟨#[]⟩, .int .i64 0, .slice none 0 0], .int .i64 a, .bool false]) (by simp [results, Tryd.results17, go_sem, a0, a1, a2, a3]) rfl ?_
    exact at1_mk HC.out (.inr ⟨rfl, HD.out⟩) (fr_set4 F2.out (Nat.le_refl _) _ _ _ _)
  · rw [hi] at NC
    have hn := HI.out n hi
    simp only [hi, Option.getD, Option.isSome] at *
    clear hi NC
    by_cases h0 : n < 0
    · skip
      go_wp2
      refine bodyPost_ret (v := .tuple #[.agg #[.int .i64 0, .string ⟨#[]⟩, .int .i64 0, .slice none 0 0], .int .i64 a, .bool false]) (by simp [results, Tryd.results17, go_sem, a0, a1, a2, a3]) rfl ?_
      exact at1_mk HC.out (.inr ⟨rfl, HD.out⟩) (fr_set4 F2.out (Nat.le_refl _) _ _ _ _)
    go_wp2
    refine bodyPost_ret (v := .tuple #[.agg #[.int .i64 0, .string ⟨#[]⟩, .int .i64 0, .slice none 0 0], .int .i64 a, .bool false]) (by simp [results, Tryd.results17, go_sem, a0, a1, a2, a3]) rfl ?_
    exact at1_mk HC.out (.inr ⟨rfl, HD.out⟩) (fr_set4 F2.out (Nat.le_refl _) _ _ _ _)
end Go.Proofs.YtoabjcnacnojbaaDoor
