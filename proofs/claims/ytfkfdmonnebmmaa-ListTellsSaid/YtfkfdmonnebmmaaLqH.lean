/- The walk of the law ListTells. (Printed by lists3.py.) -/
import Derived.Test.YtfkfdmonnebmmaaLqG
import Derived.Test.YtfkfdmonnebmmaaLqC
import Derived.Test.YtfkfdmonnebmmaaLqD
import Derived.Test.YtfkfdmonnebmmaaLqE
set_option linter.unusedVariables false
set_option linter.unusedSimpArgs false
namespace Go.Proofs.Ytfkfdmonnebmmaa
open Go.RowKit

theorem ofL_small {l : List ByteArray} (hl : l.length ≤ 1000000) (ht : ∀ s ∈ l, s.size ≤ 281474976710656) : (ofL l).Small := by
  unfold ofL
  split
  · exact newI_small 0 (by decide)
  · exact listI_small hl ht
theorem pushY_small (x : Itm) (left : Bool) (l : List ByteArray) : (pushY x left l).Small := by
  unfold pushY
  by_cases hc : pushCode x l = 0
  · rw [if_pos hc]
    unfold pushCode at hc
    by_cases ha : asCode 2 x = 0
    · rw [if_neg (by simpa using ha)] at hc
      by_cases hb : someCode l = 0
      · rw [if_neg (by simpa using hb)] at hc
        have hok := asOk_of ha
        have hos := some_texts hb
        have hm : ¬ 24 < x.list.length + l.length := fun h => by rw [if_pos h] at hc; cases hc
        refine ofL_small (by rw [push_length]; omega) (fun s hs => ?_)
        rcases push_mem hs with h | h
        · have := hok.texts s h; omega
        · have := hos s h; omega
      · rw [if_pos hb] at hc; exact absurd hc hb
    · rw [if_pos ha] at hc; exact absurd hc ha
  · rw [if_neg hc]; exact newI_small 0 (by decide)
theorem popCode_as {x : Itm} (h : popCode x = 0) : asCode 2 x = 0 := by
  unfold popCode at h
  by_cases ha : asCode 2 x = 0
  · exact ha
  · rw [if_pos ha] at h; exact absurd h ha
theorem pop_mem {x : Itm} {left : Bool} {s : ByteArray} (h : s ∈ popL x left) : s ∈ x.list := by
  unfold popL at h
  cases left
  · exact List.mem_of_mem_take h
  · exact List.mem_of_mem_drop h
theorem pop_le (x : Itm) (left : Bool) : (popL x left).length ≤ x.list.length := by
  unfold popL
  cases left <;> simp
theorem popY_small (x : Itm) (left : Bool) : (popY x left).Small := by
  unfold popY
  by_cases hc : popCode x = 0
  · rw [if_pos hc]
    have hok := asOk_of (popCode_as hc)
    have := hok.le24
    unfold many at this
    refine ofL_small (by have := pop_le x left; omega) (fun s hs => by have := hok.texts s (pop_mem hs); omega)
  · rw [if_neg hc]; exact newI_small 0 (by decide)
theorem remY_small (x : Itm) (s : ByteArray) : (remY x s).Small := by
  unfold remY
  by_cases hc : asCode 2 x = 0
  · rw [if_pos hc]
    have hok := asOk_of hc
    have := hok.le24
    unfold many at this
    refine ofL_small (by have : (remL x s).length ≤ x.list.length := List.length_filter_le _ _; omega) (fun y hy => by have := hok.texts y (List.mem_filter.1 hy).1; omega)
  · rw [if_neg hc]; exact newI_small 0 (by decide)
theorem rangeA_ok (x : Itm) (f t : Int) : (rangeA x f t).length ≤ 24 ∧ ∀ s ∈ rangeA x f t, s.size ≤ 281474976710656 := by
  unfold rangeA
  by_cases ha : asCode 2 x = 0
  · rw [if_pos ha]
    have hok := asOk_of ha
    refine ⟨?_, fun s hs => by have := hok.texts s (rangeOf_mem hs); omega⟩
    rw [rangeOf_length]
    have := span_le x.list.length f t
    have := hok.le24
    unfold many at this
    omega
  · rw [if_neg ha]
    exact ⟨by simp, by simp⟩
theorem less_one (x : Itm) (s : ByteArray) : lessL x.list [s] = remL x s := by
  unfold lessL remL
  congr 1
  funext y
  congr 1
  unfold hasT
  simp only [List.any_cons, List.any_nil, Bool.or_false]
  by_cases h : y = s
  · rw [h]
  · rw [decide_eq_false h, decide_eq_false (fun e => h e.symm)]
theorem remOf_one (x : Itm) (s : ByteArray) : remOfY 2 x [s] = remY x s ∧ remOfK 2 x [s] = remK x s := by
  unfold remOfY remY remOfK remK
  rw [less_one, ofK_two]
  exact ⟨rfl, rfl⟩

set_option maxHeartbeats 4000000 in
set_option maxRecDepth 100000 in
theorem listTells_any (x : Itm) (v : Value) (left : Bool) (l : List ByteArray) (Al : Option Addr) (cl : Nat) (f t : Int) (s : ByteArray) (w : World) (B : Nat) (hs : x.Small) (hB : B ≤ w.heap.size) (h : ItemV w B v x) (hl : l.length ≤ 281474976710656) (hL : Sl w B 1 (.slice Al l.length cl) l.length (textsV l))
    (hf : -9223372036854775808 ≤ f ∧ f ≤ 9223372036854775807) (ht : -9223372036854775808 ≤ t ∧ t ≤ 9223372036854775807) :
    Calls Try.prog 8 #[v, .bool left, .slice Al l.length cl, .int .i64 f, .int .i64 t, .string s] w fun e w' => e = .returned (.bool true) ∧ Fr [] w w' := by
  have PU := Lib.hid (fun (W : World) u A c (h : ItemV W W.heap.size u x) k => listPush_any x u left l A c W W.heap.size hs (Nat.le_refl _) h hl k)
  have PV := Lib.hid (fun (W : World) u A c (h : ItemV W W.heap.size u x) k => pushOf_any x u left l A c W W.heap.size hs (Nat.le_refl _) h hl k)
  have QU := Lib.hid (fun (W : World) u (h : ItemV W W.heap.size u x) => listPop_any x u left W W.heap.size hs (Nat.le_refl _) h)
  have QV := Lib.hid (fun (W : World) u (h : ItemV W W.heap.size u x) => popOf_any x u left W W.heap.size hs (Nat.le_refl _) h)
  have RU := Lib.hid (fun (W : World) u (h : ItemV W W.heap.size u x) => listRange_any x u f t W W.heap.size hs (Nat.le_refl _) h hf ht)
  have TU := Lib.hid (fun (W : World) u (h : ItemV W W.heap.size u x) => listTrim_any x u f t W W.heap.size hs (Nat.le_refl _) h hf ht)
  have MU := Lib.hid (fun (W : World) u (h : ItemV W W.heap.size u x) => listRemove_any x u s W W.heap.size hs (Nat.le_refl _) h)
  have MV := Lib.hid (fun (W : World) u g c (h : ItemV W W.heap.size u x) (k : Sl W W.heap.size 1 (.slice g 1 c) 1 (textsV [s])) => (show Calls Try.prog 32 #[u, .int .i64 2, .slice g 1 c] W (INPost (remK x s) (asCode 2 x) (remY x s) W) from by
    have := removeOf_any x u 2 [s] g c W W.heap.size hs (Nat.le_refl _) h (by decide) (by simp) k
    rw [(remOf_one x s).1, (remOf_one x s).2] at this
    exact this))
  have CA := Lib.hid (fun (W : World) u (h : ItemV W W.heap.size u x) => checkAs_any x 2 u W W.heap.size hs (Nat.le_refl _) h)
  unfold RangePost at RU
  have N1 := Lib.hid (fun (hc : pushCode x l ≠ 0) => (show pushY x left l = newI 0 ∧ pushK x left l = 0 from ⟨if_neg hc, if_neg hc⟩))
  have N2 := Lib.hid (fun (hc : popCode x ≠ 0) => (show popY x left = newI 0 from if_neg hc))
  have N3 := Lib.hid (fun (hc : asCode 2 x ≠ 0) => (show remY x s = newI 0 ∧ remK x s = 0 from ⟨if_neg hc, if_neg hc⟩))
  have N4 := Lib.hid (fun (hc : asCode 2 x ≠ 0) => (show rangeA x f t = [] from if_neg hc))
  have S1 := Lib.hid (pushY_small x left l)
  have S2 := Lib.hid (popY_small x left)
  have S3 := Lib.hid (remY_small x s)
  have hra := rangeA_ok x f t
  have S4 := Lib.hid (ofL_small (l := rangeA x f t) (by omega) hra.2)
  obtain ⟨hr24, hrs⟩ := hra
  have HRS := Lib.hid hrs
  have RL := Lib.hid (fun (ha : asCode 2 x = 0) (W : World) A c (k : Sl W W.heap.size 1 (.slice A x.list.length c) x.list.length (textsV x.list)) => (show Calls Try.prog 34 #[.slice A x.list.length c, .int .i64 (clampI f), .int .i64 (clampI t)] W (RowPost 9 1 (rangeA x f t).length (textsV (rangeA x f t)) W) from by
    have h24 : x.list.length ≤ 24 := by have := (asOk_of ha).le24; unfold many at this; omega
    have := rangeList_any x.list (clampI f) (clampI t) A c W W.heap.size (by omega) (Nat.le_refl _) k (clampI_le f) (clampI_le t)
    rw [takeR_range x.list f t (by omega)] at this
    rw [show rangeA x f t = rangeOf x.list f t from if_pos ha]
    exact this))
  have qT := (eqqB (popT x left)).1
  have hsm := hs.list
  clear hrs
  generalize pushY x left l = y1 at *
  generalize pushK x left l = n1 at *
  generalize pushCode x l = e1 at *
  generalize popY x left = y2 at *
  generalize popT x left = pt at *
  generalize popCode x = e2 at *
  generalize remY x s = y3 at *
  generalize remK x s = n3 at *
  generalize rangeA x f t = r at *
  have CF := Lib.hid hf
  have CT := Lib.hid ht
  clear hf ht
  have E0 := Lib.hid (Env.start w)
  have E1 := Lib.hid (E0.out.item (h.more hB))
  have E2 := Lib.hid (E1.out.row (hL.more hB))
  have HX := Lib.hid h
  obtain ⟨A1, c1, A2, c2, A3, c3, rfl⟩ := h.form
  clear h hL hs
  have E3 := Lib.hid (E2.out.box (.int .i64 x.kind) (.string x.text) (.slice A1 x.list.length c1) (.slice A2 x.pairs.length c2) (.slice A3 x.scores.length c3))
  generalize hya : asCode 2 x = a at *
  clear hya
  have S1x : True := trivial
  go_enter Try.func8, Try.ntmps8
  obtain ⟨d0, d1, d2, d3, d4⟩ := five (E3.out.bl _ (.head _))
  go_wp2_with fail
  refine (PU.out _ _ _ _ (E3.out.its _ (.head _)) (E3.out.rs _ (.head _))).mono ?_
  rintro e w1 ⟨v1, rfl, i1, f1⟩
  have E4 := Lib.hid (E3.out.go f1)
  have E5 := Lib.hid (E4.out.item i1.item)
  obtain ⟨P1, p1, P2, p2, P3, p3, rfl⟩ := i1.form
  clear i1
  have E6 := Lib.hid (E5.out.box (.int .i64 y1.kind) (.string y1.text) (.slice P1 y1.list.length p1) (.slice P2 y1.pairs.length p2) (.slice P3 y1.scores.length p3))
  clear d0 d1 d2 d3 d4
  obtain ⟨d0, d1, d2, d3, d4⟩ := five (E6.out.bl _ (.tail _ (.head _)))
  go_wp2_with fail
  refine (QU.out _ _ (E6.out.its _ (.tail _ (.head _)))).mono ?_
  rintro e w2 ⟨v2, rfl, i2, f2⟩
  have E7 := Lib.hid (E6.out.go f2)
  have E8 := Lib.hid (E7.out.item i2.item)
  obtain ⟨Q1, q1, Q2, q2, Q3, q3, rfl⟩ := i2.form
  clear i2
  have E9 := Lib.hid (E8.out.box (.int .i64 y2.kind) (.string y2.text) (.slice Q1 y2.list.length q1) (.slice Q2 y2.pairs.length q2) (.slice Q3 y2.scores.length q3))
  clear d0 d1 d2 d3 d4
  obtain ⟨d0, d1, d2, d3, d4⟩ := five (E9.out.bl _ (.tail _ (.tail _ (.head _))))
  go_wp2_with fail
  refine (RU.out _ _ (E9.out.its _ (.tail _ (.tail _ (.head _))))).mono ?_
  rintro e w3 ⟨v3, rfl, i3, f3⟩
  have E10 := Lib.hid (E9.out.go f3)
  have E11 := Lib.hid (E10.out.row (own_sl i3))
  obtain ⟨Rl, rc, rfl, -⟩ := own_slice i3
  clear i3
  clear d0 d1 d2 d3 d4
  obtain ⟨d0, d1, d2, d3, d4⟩ := five (E11.out.bl _ (.tail _ (.tail _ (.head _))))
  go_wp2_with fail
  refine (TU.out _ _ (E11.out.its _ (.tail _ (.tail _ (.head _))))).mono ?_
  rintro e w4 ⟨v4, rfl, i4, f4⟩
  have E12 := Lib.hid (E11.out.go f4)
  generalize hyr : ofL r = yr at *
  have HYR := Lib.hid hyr
  clear hyr
  have E13 := Lib.hid (E12.out.item i4.item)
  obtain ⟨T1, t1, T2, t2, T3, t3, rfl⟩ := i4.form
  clear i4
  have E14 := Lib.hid (E13.out.box (.int .i64 yr.kind) (.string yr.text) (.slice T1 yr.list.length t1) (.slice T2 yr.pairs.length t2) (.slice T3 yr.scores.length t3))
  clear d0 d1 d2 d3 d4
  obtain ⟨d0, d1, d2, d3, d4⟩ := five (E14.out.bl _ (.tail _ (.tail _ (.tail _ (.head _)))))
  go_wp2_with fail
  refine (MU.out _ _ (E14.out.its _ (.tail _ (.tail _ (.tail _ (.head _)))))).mono ?_
  rintro e w5 ⟨v5, rfl, i5, f5⟩
  have E15 := Lib.hid (E14.out.go f5)
  have E16 := Lib.hid (E15.out.item i5.item)
  obtain ⟨U1, u1, U2, u2, U3, u3, rfl⟩ := i5.form
  clear i5
  have E17 := Lib.hid (E16.out.box (.int .i64 y3.kind) (.string y3.text) (.slice U1 y3.list.length u1) (.slice U2 y3.pairs.length u2) (.slice U3 y3.scores.length u3))
  clear d0 d1 d2 d3 d4
  obtain ⟨d0, d1, d2, d3, d4⟩ := five (E17.out.bl _ (.tail _ (.tail _ (.tail _ (.tail _ (.head _))))))
  go_wp2_with fail
  refine (PV.out _ _ _ _ (E17.out.its _ (.tail _ (.tail _ (.tail _ (.tail _ (.head _)))))) (E17.out.rs _ (.tail _ (.head _)))).mono ?_
  rintro e w6 ⟨v6, rfl, i6, f6⟩
  have E18 := Lib.hid (E17.out.go f6)
  have E19 := Lib.hid (E18.out.item i6.item)
  obtain ⟨B1, b1, B2, b2, B3, b3, rfl⟩ := i6.form
  clear i6
  have E20 := Lib.hid (E19.out.box (.int .i64 y1.kind) (.string y1.text) (.slice B1 y1.list.length b1) (.slice B2 y1.pairs.length b2) (.slice B3 y1.scores.length b3))
  clear d0 d1 d2 d3 d4
  obtain ⟨d0, d1, d2, d3, d4⟩ := five (E20.out.bl _ (.tail _ (.tail _ (.tail _ (.tail _ (.tail _ (.head _)))))))
  go_wp2_with fail
  refine (QV.out _ _ (E20.out.its _ (.tail _ (.tail _ (.tail _ (.tail _ (.tail _ (.head _)))))))).mono ?_
  rintro e w7 ⟨v7, rfl, i7, f7⟩
  have E21 := Lib.hid (E20.out.go f7)
  have E22 := Lib.hid (E21.out.item i7)
  obtain ⟨O1, o1, O2, o2, O3, o3, rfl⟩ := i7.form
  clear i7
  have E23 := Lib.hid (E22.out.box (.int .i64 y2.kind) (.string y2.text) (.slice O1 y2.list.length o1) (.slice O2 y2.pairs.length o2) (.slice O3 y2.scores.length o3))
  clear d0 d1 d2 d3 d4
  obtain ⟨d0, d1, d2, d3, d4⟩ := five (E23.out.bl _ (.tail _ (.tail _ (.tail _ (.tail _ (.tail _ (.tail _ (.head _))))))))
  have E24 := Lib.hid (E23.out.alloc (.cells #[.string s] 9))
  have E25 := Lib.hid (E24.out.row (sl_lit1b w7 (.cells #[.int .i64 y2.kind, .string y2.text, .slice O1 y2.list.length o1, .slice O2 y2.pairs.length o2, .slice O3 y2.scores.length o3] 33) s))
  go_wp2_with fail
  refine (MV.out _ _ _ _ (E25.out.its _ (.tail _ (.tail _ (.tail _ (.tail _ (.tail _ (.tail _ (.head _)))))))) (E25.out.rs _ (.head _))).mono ?_
  rintro e w8 ⟨v8, rfl, i8, f8⟩
  have E26 := Lib.hid (E25.out.go f8)
  have E27 := Lib.hid (E26.out.item i8.item)
  obtain ⟨Z1, z1, Z2, z2, Z3, z3, rfl⟩ := i8.form
  clear i8
  have E28 := Lib.hid (E27.out.box (.int .i64 y3.kind) (.string y3.text) (.slice Z1 y3.list.length z1) (.slice Z2 y3.pairs.length z2) (.slice Z3 y3.scores.length z3))
  clear d0 d1 d2 d3 d4
  obtain ⟨d0, d1, d2, d3, d4⟩ := five (E28.out.bl _ (.tail _ (.tail _ (.tail _ (.tail _ (.tail _ (.tail _ (.tail _ (.head _)))))))))
  go_wp2_with fail
  refine (CA.out _ _ (E28.out.its _ (.tail _ (.tail _ (.tail _ (.tail _ (.tail _ (.tail _ (.tail _ (.head _)))))))))).mono ?_
  rintro e w9 ⟨rfl, f9⟩
  have E29 := Lib.hid (E28.out.go f9)
  clear d0 d1 d2 d3 d4
  obtain ⟨d0, d1, d2, d3, d4⟩ := five (E29.out.bl _ (.tail _ (.tail _ (.tail _ (.tail _ (.tail _ (.tail _ (.tail _ (.head _)))))))))
  have SR := Lib.hid (fun (W : World) (A B : Option Addr) c d (h : Sl W W.heap.size 1 (.slice A r.length c) r.length (textsV r)) (k : Sl W W.heap.size 1 (.slice B r.length d) r.length (textsV r)) => (show Calls Try.prog 38 #[.slice A r.length c, .slice B r.length d] W fun e w' => e = .returned (.bool true) ∧ Fr [] W w' from by
    have := sameTexts_any r r A B c d W.heap.size W (by omega) (by omega) (Nat.le_refl _) h k
    rw [show sameT r r = true from decide_eq_true rfl] at this
    exact this))
  have N5 := Lib.hid (fun (hc : a ≠ 0) => (show yr = newI 0 from by rw [← HYR.out, N4.out hc]; rfl))
  have EZ := Lib.hid (fun (h0 : r.length = 0) => (show yr = newI 0 from by rw [← HYR.out]; exact if_pos h0))
  have EN := Lib.hid (fun (h0 : ¬ r.length = 0) => (show yr = listI r from by rw [← HYR.out]; exact if_neg h0))
  by_cases ha : a = 0
  · subst ha
    have RLL := Lib.hid (RL.out rfl)
    clear RL
    have CLF := Lib.hid (fun W => clamped_any f W CF.out)
    have CLT := Lib.hid (fun W => clamped_any t W CT.out)
    clear N4
    by_cases hr : r.length = 0
    · have q : ¬ ((r.length : Int) > 0) := by omega
      have hyr := EZ.out hr
      have HY2 := Lib.hid hyr
      clear hyr hr
      have E30 := Lib.hid (E29.out.box (.int .i64 0) (.string ⟨#[]⟩) (.slice none 0 0) (.slice none 0 0) (.slice none 0 0))
      clear d0 d1 d2 d3 d4
      obtain ⟨d0, d1, d2, d3, d4⟩ := five (E30.out.bl _ (.tail _ (.tail _ (.tail _ (.tail _ (.tail _ (.tail _ (.tail _ (.tail _ (.head _))))))))))
      have hne : ¬ w.heap.size = w9.heap.size := by have := E30.out.f.size; have := (E29.out.bl _ (.tail _ (.tail _ (.tail _ (.tail _ (.tail _ (.tail _ (.tail _ (.head _))))))))).lt; omega
      go_wp2
      have SLX := Lib.hid (fun (W : World) (hW : Fr [] w W) => (show Sl W W.heap.size 1 (.slice A1 x.list.length c1) x.list.length (textsV x.list) from by obtain ⟨_, _, _, _, _, _, he, k1, _, _⟩ := (HX.out.fr hW hB (by simp)).more (Nat.le_trans hB hW.size); cases he; exact k1))
      go_region_held3 (fun wx => wx.cell? ⟨w.heap.size, 2, none⟩ = some (.slice A1 x.list.length c1)) (go_keep) (first | (go_at_call 35; (first | (with_reducible refine (CLF.out _).mono ?_) | (with_reducible refine (CLT.out _).mono ?_)); rintro e wq ⟨rfl, rfl⟩) | (go_at_call 34; (refine (RLL.out _ _ _ (SLX.out _ E30.out.f.drew)).mono ?_); rintro e w10 ⟨u, rfl, ho, f10⟩; have E31 := Lib.hid (E30.out.go (fr_predrew f10)); have G10 := Lib.hid (((Fr.refl [] w9).alloc (.cells #[.int .i64 0, .string ⟨#[]⟩, .slice none 0 0, .slice none 0 0, .slice none 0 0] 33)).trans (fr_predrew f10)); clear d0 d1 d2 d3 d4 f10; obtain ⟨d0, d1, d2, d3, d4⟩ := five (E31.out.bl _ (.tail _ (.tail _ (.tail _ (.tail _ (.tail _ (.tail _ (.tail _ (.tail _ (.head _)))))))))); have HO := Lib.hid ho; obtain ⟨Sr, sc, rfl, -⟩ := own_slice ho; clear ho))
      have E32 := Lib.hid (E31.out.row (own_sl HO.out))
      have E33 := Lib.hid (E32.out.item (show ItemV w10 w10.heap.size (.agg #[.int .i64 0, .string ⟨#[]⟩, .slice none 0 0, .slice none 0 0, .slice none 0 0]) yr from by rw [HY2.out]; exact newI_item _ _))
      have qa : ((0 : Int) == 0) = true := rfl
      go_wp2_with fail
      refine (listBegun_any _).mono ?_
      rintro e w11 ⟨rfl, f11⟩
      have E34 := Lib.hid (E33.out.go f11)
      clear d0 d1 d2 d3 d4
      obtain ⟨d0, d1, d2, d3, d4⟩ := five (E34.out.bl _ (.tail _ (.tail _ (.tail _ (.tail _ (.tail _ (.tail _ (.tail _ (.head _)))))))))
      obtain ⟨g0, g1, g2, g3, g4⟩ := five (E34.out.bl _ (.tail _ (.tail _ (.tail _ (.head _)))))
      go_wp2_with fail
      refine (itemIs_any y1 e1 n1 _ _ _ _ S1.out (Nat.le_refl _) (E34.out.its _ (.tail _ (.tail _ (.tail _ (.tail _ (.tail _ (.tail _ (.tail _ (.head _))))))))) (E34.out.its _ (.tail _ (.tail _ (.tail _ (.head _))))) N1.out).mono ?_
      rintro e w12 ⟨rfl, f12⟩
      have E35 := Lib.hid (E34.out.go f12)
      clear d0 d1 d2 d3 d4 g0 g1 g2 g3 g4
      obtain ⟨d0, d1, d2, d3, d4⟩ := five (E35.out.bl _ (.tail _ (.tail _ (.tail _ (.tail _ (.tail _ (.tail _ (.head _))))))))
      obtain ⟨g0, g1, g2, g3, g4⟩ := five (E35.out.bl _ (.tail _ (.tail _ (.head _))))
      go_wp2_with fail
      refine (itemIs0_any y2 e2 _ _ _ _ S2.out (Nat.le_refl _) (E35.out.its _ (.tail _ (.tail _ (.tail _ (.tail _ (.tail _ (.tail _ (.head _)))))))) (E35.out.its _ (.tail _ (.tail _ (.head _)))) N2.out).mono ?_
      rintro e w13 ⟨rfl, f13⟩
      have E36 := Lib.hid (E35.out.go f13)
      clear d0 d1 d2 d3 d4 g0 g1 g2 g3 g4
      go_wp2_with fail
      refine (SR.out _ _ _ _ _ (E36.out.rs _ (.tail _ (.tail _ (.head _)))) (E36.out.rs _ (.head _))).mono ?_
      rintro e w14 ⟨rfl, f14⟩
      have E37 := Lib.hid (E36.out.go f14)
      obtain ⟨d0, d1, d2, d3, d4⟩ := five (E37.out.bl _ (.tail _ (.tail _ (.tail _ (.tail _ (.tail _ (.head _)))))))
      obtain ⟨g0, g1, g2, g3, g4⟩ := five (E37.out.bl _ (.head _))
      go_wp2_with fail
      refine (itemIs_ok yr _ _ 0 _ _ S4.out (Nat.le_refl _) (E37.out.its _ (.tail _ (.tail _ (.tail _ (.tail _ (.tail _ (.head _))))))) (E37.out.its _ (.head _))).mono ?_
      rintro e w15 ⟨rfl, f15⟩
      have E38 := Lib.hid (E37.out.go f15)
      clear d0 d1 d2 d3 d4 g0 g1 g2 g3 g4
      obtain ⟨d0, d1, d2, d3, d4⟩ := five (E38.out.bl _ (.tail _ (.tail _ (.tail _ (.tail _ (.head _))))))
      obtain ⟨g0, g1, g2, g3, g4⟩ := five (E38.out.bl _ (.tail _ (.head _)))
      go_wp2_with fail
      refine (itemIs_ok y3 _ _ n3 _ _ S3.out (Nat.le_refl _) (E38.out.its _ (.tail _ (.tail _ (.tail _ (.tail _ (.head _)))))) (E38.out.its _ (.tail _ (.head _)))).mono ?_
      rintro e w16 ⟨rfl, f16⟩
      have E39 := Lib.hid (E38.out.go f16)
      go_wp2
      go_ret
      exact ⟨rfl, E39.out.f⟩
    · have q : (r.length : Int) > 0 := by omega
      have hyr := EN.out hr
      have HY2 := Lib.hid hyr
      clear hyr hr
      have E30 := Lib.hid (E29.out.box (.int .i64 0) (.string ⟨#[]⟩) (.slice none 0 0) (.slice none 0 0) (.slice none 0 0))
      clear d0 d1 d2 d3 d4
      obtain ⟨d0, d1, d2, d3, d4⟩ := five (E30.out.bl _ (.tail _ (.tail _ (.tail _ (.tail _ (.tail _ (.tail _ (.tail _ (.tail _ (.head _))))))))))
      have hne : ¬ w.heap.size = w9.heap.size := by have := E30.out.f.size; have := (E29.out.bl _ (.tail _ (.tail _ (.tail _ (.tail _ (.tail _ (.tail _ (.tail _ (.head _))))))))).lt; omega
      go_wp2
      have SLX := Lib.hid (fun (W : World) (hW : Fr [] w W) => (show Sl W W.heap.size 1 (.slice A1 x.list.length c1) x.list.length (textsV x.list) from by obtain ⟨_, _, _, _, _, _, he, k1, _, _⟩ := (HX.out.fr hW hB (by simp)).more (Nat.le_trans hB hW.size); cases he; exact k1))
      go_region_held3 (fun wx => wx.cell? ⟨w.heap.size, 2, none⟩ = some (.slice A1 x.list.length c1)) (go_keep) (first | (go_at_call 35; (first | (with_reducible refine (CLF.out _).mono ?_) | (with_reducible refine (CLT.out _).mono ?_)); rintro e wq ⟨rfl, rfl⟩) | (go_at_call 34; (refine (RLL.out _ _ _ (SLX.out _ E30.out.f.drew)).mono ?_); rintro e w10 ⟨u, rfl, ho, f10⟩; have E31 := Lib.hid (E30.out.go (fr_predrew f10)); have G10 := Lib.hid (((Fr.refl [] w9).alloc (.cells #[.int .i64 0, .string ⟨#[]⟩, .slice none 0 0, .slice none 0 0, .slice none 0 0] 33)).trans (fr_predrew f10)); clear d0 d1 d2 d3 d4 f10; obtain ⟨d0, d1, d2, d3, d4⟩ := five (E31.out.bl _ (.tail _ (.tail _ (.tail _ (.tail _ (.tail _ (.tail _ (.tail _ (.tail _ (.head _)))))))))); have HO := Lib.hid ho; obtain ⟨Sr, sc, rfl, -⟩ := own_slice ho; clear ho))
      clear d0 d1 d2 d3 d4
      obtain ⟨d0, d1, d2, d3, d4⟩ := five (E31.out.bl _ (.head _))
      obtain ⟨z0, z1, z2, z3, z4⟩ := fiveF (E31.out.bl _ (.head _))
      have E32 := Lib.hid (E29.out.go (fr_set5 G10.out (Nat.le_refl _) (.int .i64 2) (.string ⟨#[]⟩) (.slice Sr r.length sc) (.slice none 0 0) (.slice none 0 0)))
      have HO5 := Lib.hid (own_later5 HO.out (o := w9.heap.size) (by simp) (.int .i64 2) (.string ⟨#[]⟩) (.slice Sr r.length sc) (.slice none 0 0) (.slice none 0 0))
      have TR5 := Lib.hid (whole_set5 (a' := .int .i64 2) (b' := .string ⟨#[]⟩) (c' := .slice Sr r.length sc) (d' := .slice none 0 0) (e' := .slice none 0 0) (E31.out.bl _ (.head _)))
      have E33 := Lib.hid (E32.out.put TR5.out)
      have E34 := Lib.hid (E33.out.row (own_sl HO5.out))
      have E35 := Lib.hid (E34.out.item (show ItemV _ _ (.agg #[.int .i64 2, .string ⟨#[]⟩, .slice Sr r.length sc, .slice none 0 0, .slice none 0 0]) yr from by rw [HY2.out]; exact ⟨Sr, sc, none, 0, none, 0, rfl, own_sl HO5.out, Sl.nil _ _ _, Sl.nil _ _ _⟩))
      unfold set5 at E35
      go_wp2_with fail
      clear z0 z1 z2 z3 z4
      clear d0 d1 d2 d3 d4
      have qa : ((0 : Int) == 0) = true := rfl
      go_wp2_with fail
      refine (listBegun_any _).mono ?_
      rintro e w11 ⟨rfl, f11⟩
      have E36 := Lib.hid (E35.out.go f11)
      obtain ⟨d0, d1, d2, d3, d4⟩ := five (E36.out.bl _ (.tail _ (.tail _ (.tail _ (.tail _ (.tail _ (.tail _ (.tail _ (.head _)))))))))
      obtain ⟨g0, g1, g2, g3, g4⟩ := five (E36.out.bl _ (.tail _ (.tail _ (.tail _ (.head _)))))
      go_wp2_with fail
      refine (itemIs_any y1 e1 n1 _ _ _ _ S1.out (Nat.le_refl _) (E36.out.its _ (.tail _ (.tail _ (.tail _ (.tail _ (.tail _ (.tail _ (.tail _ (.head _))))))))) (E36.out.its _ (.tail _ (.tail _ (.tail _ (.head _))))) N1.out).mono ?_
      rintro e w12 ⟨rfl, f12⟩
      have E37 := Lib.hid (E36.out.go f12)
      clear d0 d1 d2 d3 d4 g0 g1 g2 g3 g4
      obtain ⟨d0, d1, d2, d3, d4⟩ := five (E37.out.bl _ (.tail _ (.tail _ (.tail _ (.tail _ (.tail _ (.tail _ (.head _))))))))
      obtain ⟨g0, g1, g2, g3, g4⟩ := five (E37.out.bl _ (.tail _ (.tail _ (.head _))))
      go_wp2_with fail
      refine (itemIs0_any y2 e2 _ _ _ _ S2.out (Nat.le_refl _) (E37.out.its _ (.tail _ (.tail _ (.tail _ (.tail _ (.tail _ (.tail _ (.head _)))))))) (E37.out.its _ (.tail _ (.tail _ (.head _)))) N2.out).mono ?_
      rintro e w13 ⟨rfl, f13⟩
      have E38 := Lib.hid (E37.out.go f13)
      clear d0 d1 d2 d3 d4 g0 g1 g2 g3 g4
      go_wp2_with fail
      refine (SR.out _ _ _ _ _ (E38.out.rs _ (.tail _ (.tail _ (.head _)))) (E38.out.rs _ (.head _))).mono ?_
      rintro e w14 ⟨rfl, f14⟩
      have E39 := Lib.hid (E38.out.go f14)
      obtain ⟨d0, d1, d2, d3, d4⟩ := five (E39.out.bl _ (.tail _ (.tail _ (.tail _ (.tail _ (.tail _ (.head _)))))))
      obtain ⟨g0, g1, g2, g3, g4⟩ := five (E39.out.bl _ (.head _))
      go_wp2_with fail
      refine (itemIs_ok yr _ _ 0 _ _ S4.out (Nat.le_refl _) (E39.out.its _ (.tail _ (.tail _ (.tail _ (.tail _ (.tail _ (.head _))))))) (E39.out.its _ (.head _))).mono ?_
      rintro e w15 ⟨rfl, f15⟩
      have E40 := Lib.hid (E39.out.go f15)
      clear d0 d1 d2 d3 d4 g0 g1 g2 g3 g4
      obtain ⟨d0, d1, d2, d3, d4⟩ := five (E40.out.bl _ (.tail _ (.tail _ (.tail _ (.tail _ (.head _))))))
      obtain ⟨g0, g1, g2, g3, g4⟩ := five (E40.out.bl _ (.tail _ (.head _)))
      go_wp2_with fail
      refine (itemIs_ok y3 _ _ n3 _ _ S3.out (Nat.le_refl _) (E40.out.its _ (.tail _ (.tail _ (.tail _ (.tail _ (.head _)))))) (E40.out.its _ (.tail _ (.head _)))).mono ?_
      rintro e w16 ⟨rfl, f16⟩
      have E41 := Lib.hid (E40.out.go f16)
      go_wp2
      go_ret
      exact ⟨rfl, E41.out.f⟩
  · have q : (a == 0) = false := by simpa using ha
    have hrn := N4.out ha
    subst hrn
    clear ha N4
    have E30 := Lib.hid (E29.out.box (.int .i64 0) (.string ⟨#[]⟩) (.slice none 0 0) (.slice none 0 0) (.slice none 0 0))
    have E31 := Lib.hid (E30.out.row (Sl.nil _ _ 1))
    have E32 := Lib.hid (E31.out.item (show ItemV _ _ (.agg #[.int .i64 0, .string ⟨#[]⟩, .slice none 0 0, .slice none 0 0, .slice none 0 0]) yr from by rw [← HYR.out]; exact newI_item _ _))
    have qa : (a == a) = true := by simp
    go_wp2_with fail
    refine (listBegun_any _).mono ?_
    rintro e w10 ⟨rfl, f10⟩
    have E33 := Lib.hid (E32.out.go f10)
    clear d0 d1 d2 d3 d4
    obtain ⟨d0, d1, d2, d3, d4⟩ := five (E33.out.bl _ (.tail _ (.tail _ (.tail _ (.tail _ (.tail _ (.tail _ (.tail _ (.head _)))))))))
    obtain ⟨g0, g1, g2, g3, g4⟩ := five (E33.out.bl _ (.tail _ (.tail _ (.tail _ (.head _)))))
    go_wp2_with fail
    refine (itemIs_any y1 e1 n1 _ _ _ _ S1.out (Nat.le_refl _) (E33.out.its _ (.tail _ (.tail _ (.tail _ (.tail _ (.tail _ (.tail _ (.tail _ (.head _))))))))) (E33.out.its _ (.tail _ (.tail _ (.tail _ (.head _))))) N1.out).mono ?_
    rintro e w11 ⟨rfl, f11⟩
    have E34 := Lib.hid (E33.out.go f11)
    clear d0 d1 d2 d3 d4 g0 g1 g2 g3 g4
    obtain ⟨d0, d1, d2, d3, d4⟩ := five (E34.out.bl _ (.tail _ (.tail _ (.tail _ (.tail _ (.tail _ (.tail _ (.head _))))))))
    obtain ⟨g0, g1, g2, g3, g4⟩ := five (E34.out.bl _ (.tail _ (.tail _ (.head _))))
    go_wp2_with fail
    refine (itemIs0_any y2 e2 _ _ _ _ S2.out (Nat.le_refl _) (E34.out.its _ (.tail _ (.tail _ (.tail _ (.tail _ (.tail _ (.tail _ (.head _)))))))) (E34.out.its _ (.tail _ (.tail _ (.head _)))) N2.out).mono ?_
    rintro e w12 ⟨rfl, f12⟩
    have E35 := Lib.hid (E34.out.go f12)
    clear d0 d1 d2 d3 d4 g0 g1 g2 g3 g4
    go_wp2_with fail
    refine (SR.out _ _ _ _ _ (E35.out.rs _ (.tail _ (.tail _ (.head _)))) (E35.out.rs _ (.head _))).mono ?_
    rintro e w13 ⟨rfl, f13⟩
    have E36 := Lib.hid (E35.out.go f13)
    obtain ⟨d0, d1, d2, d3, d4⟩ := five (E36.out.bl _ (.tail _ (.tail _ (.tail _ (.tail _ (.tail _ (.head _)))))))
    obtain ⟨g0, g1, g2, g3, g4⟩ := five (E36.out.bl _ (.head _))
    go_wp2_with fail
    refine (itemIs0_any yr a _ _ _ _ S4.out (Nat.le_refl _) (E36.out.its _ (.tail _ (.tail _ (.tail _ (.tail _ (.tail _ (.head _))))))) (E36.out.its _ (.head _)) N5.out).mono ?_
    rintro e w14 ⟨rfl, f14⟩
    have E37 := Lib.hid (E36.out.go f14)
    clear d0 d1 d2 d3 d4 g0 g1 g2 g3 g4
    obtain ⟨d0, d1, d2, d3, d4⟩ := five (E37.out.bl _ (.tail _ (.tail _ (.tail _ (.tail _ (.head _))))))
    obtain ⟨g0, g1, g2, g3, g4⟩ := five (E37.out.bl _ (.tail _ (.head _)))
    go_wp2_with fail
    refine (itemIs_any y3 a n3 _ _ _ _ S3.out (Nat.le_refl _) (E37.out.its _ (.tail _ (.tail _ (.tail _ (.tail _ (.head _)))))) (E37.out.its _ (.tail _ (.head _))) N3.out).mono ?_
    rintro e w15 ⟨rfl, f15⟩
    have E38 := Lib.hid (E37.out.go f15)
    go_wp2
    go_ret
    exact ⟨rfl, E38.out.f⟩
end Go.Proofs.Ytfkfdmonnebmmaa
