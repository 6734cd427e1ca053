/- The walks of the laws FeedPieces and FeedMany. -/
import Derived.Test.YtlmaiiloihabdaaDoorFdK
set_option linter.unusedVariables false
set_option linter.unusedSimpArgs false
namespace Go.Proofs.YtlmaiiloihabdaaDoor
open Go.RowKit

section
variable {P : Program} (w : World)
/-- append under a guard that says so. -/
theorem wpListG_append_sl {ops : Array Oper} {rest : List Oper} {o : Oper} {a : Act} {Q : Exit → Act → World → Prop} (hgd : Region.wanted o (yielded ops a.tmps) = true) (s x : Operand) (t : TypeId)
    (ho : o.op = .call { callee := .builtin .append, args := #[s, x], argTypes := #[t, t] })
    (base : Nat) (e : TypeId) (i : TypeInfo) (z : Value) (size bytes : Nat) (ht : P.underlying t = some (.slice e)) (hi : P.info? e = some i) (hz : i.zero = some z)
    (hsize : i.size = size) (hby : i.bytes = bytes) (hzs : z.cells.size = size) (hsz : 0 < size)
    (v : Value) (n : Nat) (xs : List Value) (hs : a.eval s = v) (hown : w.ownsRow base e size v n xs)
    (B : Nat) (vx : Value) (m : Nat) (news : List Value) (hx : a.eval x = vx) (hr : Sl w B size vx m news) (h1 : ∀ u ∈ news, u.oneCell' = true)
    (h63 : n + m ≤ maxLen) (hbytes : (n + m) * bytes ≤ 140737488355328) (hbase : base ≤ w.heap.size)
    (h : ∀ v' w', w'.ownsRow base e size v' (n + m) (xs ++ news) → w.grownBy w' v.ownBlock → (v'.ownBlock = v.ownBlock ∨ v'.ownBlock = some w.heap.size) → wpList P ops Q rest (a.put o.dst v') w') : wpList P ops Q (o :: rest) a w :=
  wpList_step fun K hK => by
    rw [if_pos hgd]
    exact wp_append_sl w s x t ho base e i z size bytes ht hi hz hsize hby hzs hsz v n xs hs hown B vx m news hx hr h1 h63 hbytes hbase fun v' w' h2 h3 h4 => hK _ _ (h v' w' h2 h3 h4)
end
/-- a row that reads behind a row of one's own. -/
theorem RowsR.cat {w w' : World} {base B n m : Nat} {v v' : Value} {ls ks : List (List ByteArray)} {vs us : List Value} (hr : RelV (TxV w B) vs ls) (kr : RelV (TxV w B) us ks) (hn : ls.length = n) (hm : ks.length = m) (hB : B ≤ w.heap.size) (hb : B ≤ base) (ho : w.ownsRow base 22 1 v n vs) (hg : w.grownBy w' v.ownBlock) (ho' : w'.ownsRow base 22 1 v' (n + m) (vs ++ us)) : RowsR w' base B v' (ls ++ ks) :=
  ⟨vs ++ us, (hr.append kr).imp (fun _ _ h => h.fr (fr_ownL hg) hB (fun k hk => Nat.le_trans hb (ownL_base ho hk))), by rw [List.length_append, hn, hm]; exact ho'⟩
theorem rowsV_cat {w w' : World} {base base2 B n m : Nat} {v v' : Value} {ls ks : List (List ByteArray)} {vs us : List Value} (hr : RelV (TxV w B) vs ls) (kr : RelV (TxO w base2) us ks) (hn : ls.length = n) (hm : ks.length = m) (hB : B ≤ w.heap.size) (hb : B ≤ base) (ho : w.ownsRow base 22 1 v n vs) (hg : w.grownBy w' v.ownBlock) (ho' : w'.ownsRow base 22 1 v' (n + m) (vs ++ us)) : RowsV w' w'.heap.size v' (ls ++ ks) := by
  obtain ⟨A, c, rfl, -⟩ := own_slice ho'
  have hl : (ls ++ ks).length = n + m := by rw [List.length_append, hn, hm]
  refine ⟨A, c, vs ++ us, by rw [hl], (hr.imp (fun _ _ h => (h.fr (fr_ownL hg) hB (fun k hk => Nat.le_trans hb (ownL_base ho hk))).more (Nat.le_trans hB hg.size))).append (kr.imp (fun _ _ h => (h.grown ho hg).v)), ?_⟩
  rw [hl]
  exact own_sl ho'
theorem rel_one {w : World} {B : Nat} {vs : List Value} {ls : List (List ByteArray)} (h : RelV (TxV w B) vs ls) : ∀ u ∈ vs, u.oneCell' = true := fun u hu => by
  obtain ⟨x, _, hx⟩ := h.mem hu
  exact hx.one
/-- pieces, plain. -/
theorem pieces_three (p q t : List UInt8) :
    ((feedL p).2.2 ≠ 0 → feedL (p ++ (q ++ t)) = feedL p) ∧
    ((feedL p).2.2 = 0 → (feedL ((feedL p).2.1 ++ q)).2.2 ≠ 0 → feedL (p ++ (q ++ t)) = ((feedL p).1 ++ (feedL ((feedL p).2.1 ++ q)).1, (feedL ((feedL p).2.1 ++ q)).2.1, (feedL ((feedL p).2.1 ++ q)).2.2)) ∧
    ((feedL p).2.2 = 0 → (feedL ((feedL p).2.1 ++ q)).2.2 = 0 → feedL (p ++ (q ++ t)) = ((feedL p).1 ++ (feedL ((feedL p).2.1 ++ q)).1 ++ (feedL ((feedL ((feedL p).2.1 ++ q)).2.1 ++ t)).1, (feedL ((feedL ((feedL p).2.1 ++ q)).2.1 ++ t)).2.1, (feedL ((feedL ((feedL p).2.1 ++ q)).2.1 ++ t)).2.2)) := by
  obtain ⟨a1, a2⟩ := feed_pieces _ p (q ++ t) (Nat.le_refl _)
  obtain ⟨b1, b2⟩ := feed_pieces _ ((feedL p).2.1 ++ q) t (Nat.le_refl _)
  refine ⟨a2, fun h0 h1 => ?_, fun h0 h1 => ?_⟩
  · rw [a1 h0, ← List.append_assoc, b2 h1]
  · rw [a1 h0, ← List.append_assoc, b1 h1, List.append_assoc]

theorem feed_max {p : List UInt8} {n : Nat} (h : p.length ≤ n) (hn : n ≤ 100000000) : (feedL p).1.length ≤ 5864062014634 ∧ (feedL p).1.length ≤ n ∧ (feedL p).2.1.length ≤ n := by
  have := feed_less _ p (Nat.le_refl _)
  omega

set_option maxHeartbeats 8000000 in
set_option maxRecDepth 100000 in
theorem feedPieces_any (s : ByteArray) (cut more : Int) (w : World) (h1 : s.size ≤ 1048576) (hc : -9223372036854775808 ≤ cut ∧ cut ≤ 9223372036854775807) (hm : -9223372036854775808 ≤ more ∧ more ≤ 9223372036854775807) (hv : Tab w) :
    Calls Tryd.prog 4 #[.string s, .int .i64 cut, .int .i64 more] w fun e w' => e = .returned (.bool true) ∧ Fr [] w w' := by
  have sl : s.data.toList.length = s.size := by simp
  have e0 : ∀ x : ByteArray, (⟨#[]⟩ ++ x : ByteArray) = x := fun x => by apply ByteArray.ext; simp
  have F0 := Lib.hid (fun W => (show Calls Tryd.prog 9 #[.string ⟨#[]⟩, .string s] W (FeedP (feedL s.data.toList) W) from by
    have := feed_any ⟨#[]⟩ s W (by show 0 + _ ≤ _; omega) (by rw [e0]; exact (feed_max (n := 1048576) (by omega) (by decide)).1)
    rw [e0] at this
    exact this))
  have BG := Lib.hid (fun W (hW : Fr [] w W) => feedBegun_any W (hv.fr hW))
  clear hv
  by_cases hin : 0 ≤ cut ∧ 0 ≤ more ∧ cut ≤ s.size ∧ more ≤ s.size - cut
  · obtain ⟨p, rfl⟩ : ∃ p : Nat, cut = p := ⟨cut.toNat, by omega⟩
    obtain ⟨q, rfl⟩ : ∃ q : Nat, more = q := ⟨more.toNat, by omega⟩
    have hp : p + q ≤ s.size := by omega
    have b1 : ¬ (p : Int) < 0 := by omega
    have b2 : ¬ (q : Int) < 0 := by omega
    have b3 : ¬ (s.size : Int) < (p : Int) := by omega
    have b4 : ¬ (s.size : Int) - (p : Int) < (q : Int) := by omega
    have x1 : s.extract 0 p = toB (s.data.toList.take p) := by
      have := extract_toB s 0 p
      rw [Nat.zero_add, List.drop_zero] at this
      exact this
    have x2 : s.extract p (p + q) = toB ((s.data.toList.drop p).take q) := extract_toB s p q
    have x3 : s.extract (p + q) s.size = toB (s.data.toList.drop (p + q)) := by
      have := extract_toB s (p + q) (s.size - (p + q))
      rw [show p + q + (s.size - (p + q)) = s.size by omega] at this
      rw [this, List.take_of_length_le (by rw [List.length_drop]; omega)]
    have hsp : s.data.toList = s.data.toList.take p ++ ((s.data.toList.drop p).take q ++ s.data.toList.drop (p + q)) := by
      rw [← List.drop_drop, List.take_append_drop, List.take_append_drop]
    have PT := pieces_three (s.data.toList.take p) ((s.data.toList.drop p).take q) (s.data.toList.drop (p + q))
    rw [← hsp] at PT
    have PT := Lib.hid PT
    have lP : (s.data.toList.take p).length ≤ 1048576 := by rw [List.length_take]; omega
    have lQ : ((s.data.toList.drop p).take q).length ≤ 1048576 := by rw [List.length_take, List.length_drop]; omega
    have lT : (s.data.toList.drop (p + q)).length ≤ 1048576 := by rw [List.length_drop]; omega
    have lS : s.data.toList.length ≤ 1048576 := by omega
    clear hin hsp sl
    generalize hS : s.data.toList = S at *
    generalize S.take p = P at *
    generalize (S.drop p).take q = Q at *
    generalize S.drop (p + q) = T at *
    have F1 := Lib.hid (fun W => (show Calls Tryd.prog 9 #[.string ⟨#[]⟩, .string (toB P)] W (FeedP (feedL P) W) from by
      have := feed_any ⟨#[]⟩ (toB P) W (by rw [toB_size]; show 0 + _ ≤ _; omega) (by rw [e0, toB_list]; exact (feed_max lP (by decide)).1)
      rw [e0, toB_list] at this
      exact this))
    have MP := feed_max lP (by decide)
    have MS := feed_max lS (by decide)
    have F2 := Lib.hid (fun W => (show Calls Tryd.prog 9 #[.string (toB (feedL P).2.1), .string (toB Q)] W (FeedP (feedL ((feedL P).2.1 ++ Q)) W) from by
      have := feed_any (toB (feedL P).2.1) (toB Q) W (by rw [toB_size, toB_size]; omega) (by
        simp only [ByteArray.data_append, Array.toList_append, toB_list]
        exact (feed_max (n := 4000000) (by rw [List.length_append]; omega) (by decide)).1)
      simp only [ByteArray.data_append, Array.toList_append, toB_list] at this
      exact this))
    have M2 := feed_max (p := (feedL P).2.1 ++ Q) (n := 4000000) (by rw [List.length_append]; omega) (by decide)
    have F3 := Lib.hid (fun W => (show Calls Tryd.prog 9 #[.string (toB (feedL ((feedL P).2.1 ++ Q)).2.1), .string (toB T)] W (FeedP (feedL ((feedL ((feedL P).2.1 ++ Q)).2.1 ++ T)) W) from by
      have := feed_any (toB (feedL ((feedL P).2.1 ++ Q)).2.1) (toB T) W (by rw [toB_size, toB_size]; omega) (by
        simp only [ByteArray.data_append, Array.toList_append, toB_list]
        exact (feed_max (n := 8000000) (by rw [List.length_append]; omega) (by decide)).1)
      simp only [ByteArray.data_append, Array.toList_append, toB_list] at this
      exact this))
    have M3 := feed_max (p := (feedL ((feedL P).2.1 ++ Q)).2.1 ++ T) (n := 8000000) (by rw [List.length_append]; omega) (by decide)
    have RR := Lib.hid (fun (n : Nat) => rows_len (n := n) (p := S))
    unfold FeedP at F0 F1 F2 F3
    generalize feedL ((feedL ((feedL P).2.1 ++ Q)).2.1 ++ T) = R3 at *
    generalize feedL ((feedL P).2.1 ++ Q) = R2 at *
    generalize feedL P = R1 at *
    generalize feedL S = R0 at *
    obtain ⟨A0, B0, C0⟩ := R0
    obtain ⟨A1, B1, C1⟩ := R1
    obtain ⟨A2, B2, C2⟩ := R2
    obtain ⟨A3, B3, C3⟩ := R3
    simp only at F0 F1 F2 F3 PT MP MS M2 M3 RR
    obtain ⟨i0, hi, hz0, hz1, hz2⟩ := info_parts rowsInfo
    go_enter Tryd.func4, Tryd.ntmps4
    go_wp2_with fail
    refine (F0.out _).mono ?_
    rintro e w1 ⟨v1, rfl, o1, f1⟩
    obtain ⟨X0, d0, rfl⟩ := o1.form
    have O1 := Lib.hid o1.v
    have G1 := Lib.hid f1
    clear o1 f1 F0
    go_wp2_with fail
    refine (BG.out _ G1.out).mono ?_
    rintro e w2 ⟨rfl, f2⟩
    have O2 := Lib.hid (O1.out.go f2)
    have G2 := Lib.hid (G1.out.trans f2)
    clear f2 BG O1
    go_wp2_with fail
    refine (F1.out _).mono ?_
    rintro e w3 ⟨v3, rfl, o3, f3⟩
    obtain ⟨X1, d1, rfl⟩ := o3.form
    have O3 := Lib.hid (O2.out.go f3)
    have P3 := Lib.hid o3.v
    have G3 := Lib.hid (G2.out.trans f3)
    clear o3 f3 O2 F1
    by_cases hc1 : C1 = 0
    rotate_left
    · have HP := PT.out.1 hc1
      simp only [Prod.mk.injEq] at HP
      obtain ⟨rfl, rfl, rfl⟩ := HP
      have q1 : (C0 != 0) = true := by simpa using hc1
      have q2 : (C0 == C0) = true := by simp
      have SC := Lib.hid (sameCommands_any A0 _ _ w3 _ (RR.out 0) (by omega) (Nat.le_refl _) P3.out O3.out)
      clear PT hc1
      go_wp2_with fail
      refine SC.out.mono ?_
      rintro e w4 ⟨rfl, f4⟩
      go_wp2
      go_ret
      exact ⟨rfl, G3.out.trans f4⟩
    have PT2 := Lib.hid (PT.out.2)
    subst hc1
    clear PT
    go_wp2_with fail
    refine (F2.out _).mono ?_
    rintro e w4 ⟨v4, rfl, o4, f4⟩
    obtain ⟨X2, d2, rfl⟩ := o4.form
    have O4 := Lib.hid (O3.out.go f4)
    have P4 := Lib.hid ((P3.out.go f4).fr ((Fr.refl [] w4).alloc (.cells #[] 22)) (Nat.le_refl _) (by simp))
    have Q4 := Lib.hid (o4.v.fr ((Fr.refl [] w4).alloc (.cells #[] 22)) (Nat.le_refl _) (by simp))
    have G4 := Lib.hid (G3.out.trans f4)
    have hz4 := G4.out.size
    clear o4 f4 O3 P3 F2
    obtain ⟨X1', d1', vs1, hv1, hr1, hs1⟩ := P4.out
    cases hv1
    have E0 := Lib.hid (World.ownsRow_lit (base := w4.heap.size) (e := 22) (size := 1) w4 #[] 0 (Nat.le_refl _) (by decide) rfl)
    have R1' := Lib.hid hr1
    have S1' := Lib.hid hs1
    have one1 := rel_one hr1
    clear hr1 hs1
    go_wp2_with (at_builtin; refine wpList_append_sl _ rfl _ _ 26 rfl w4.heap.size 22 i0 _ 1 24 Tryd.underlying26 hi hz0 hz1 hz2 rfl (by decide) _ _ _ rfl E0.out _ _ A1.length _ rfl S1'.out one1 ?c1 ?c2 ?c3 ?_)
    case c1 => unfold maxLen; omega
    case c2 => omega
    case c3 => first | omega | (simp; done) | (simp; omega)
    intro v5 w5 hown5 hgrow5 hat5
    have hr5 := RowsR.cat (B := w4.heap.size) RelV.nil R1'.out rfl rfl (by simp) (Nat.le_refl _) E0.out hgrow5 (by simpa using hown5)
    rw [List.nil_append] at hr5
    have Q5 := Lib.hid (Q4.out.fr (fr_ownL hgrow5) (by simp) (fun k hk => ownL_base E0.out hk))
    have O5 := Lib.hid ((O4.out.fr ((Fr.refl [] w4).alloc (.cells #[] 22)) (Nat.le_refl _) (by simp)).fr (fr_ownL hgrow5) (by simp) (fun k hk => ownL_base E0.out hk))
    have G5 := Lib.hid ((G4.out.alloc (.cells #[] 22)).grown hgrow5 (fun k hk => .inr (Nat.le_trans hz4 (E0.out.lt k hk).1)))
    have hsz5 : w4.heap.size ≤ w5.heap.size := by have := hgrow5.size; simp at this; omega
    obtain ⟨vs5, hrr5, ho5⟩ := hr5
    have R5 := Lib.hid hrr5
    have OW5 := Lib.hid ho5
    obtain ⟨X2', d2', vs2, hv2, hr2, hs2⟩ := Q5.out
    cases hv2
    have R2' := Lib.hid hr2
    have S2' := Lib.hid hs2
    have one2 := rel_one hr2
    clear hr2 hs2 hown5 hgrow5 hat5 hrr5 ho5 one1 E0 P4 Q4 O4
    go_wp2_with (at_builtin; refine wpList_append_sl _ rfl _ _ 26 rfl w4.heap.size 22 i0 _ 1 24 Tryd.underlying26 hi hz0 hz1 hz2 rfl (by decide) _ _ _ rfl OW5.out _ _ A2.length _ rfl S2'.out one2 ?c1 ?c2 ?c3 ?_)
    case c1 => unfold maxLen; omega
    case c2 => omega
    case c3 => first | omega | (simp; done) | (simp; omega)
    intro v6 w6 hown6 hgrow6 hat6
    have hr6 := RowsR.cat (B := w4.heap.size) R5.out R2'.out rfl rfl hsz5 (Nat.le_refl _) OW5.out hgrow6 hown6
    have O6 := Lib.hid (O5.out.fr (fr_ownL hgrow6) hsz5 (fun k hk => ownL_base OW5.out hk))
    have G6 := Lib.hid (G5.out.grown hgrow6 (fun k hk => .inr (Nat.le_trans hz4 (OW5.out.lt k hk).1)))
    have hsz6 : w4.heap.size ≤ w6.heap.size := Nat.le_trans hsz5 hgrow6.size
    have R6 := Lib.hid hr6
    clear hown6 hgrow6 hat6 hr6 one2
    by_cases hc2 : C2 = 0
    rotate_left
    · have HP := PT2.out.1 (by trivial) hc2
      simp only [Prod.mk.injEq] at HP
      obtain ⟨hA, hB, hC⟩ := HP
      rw [← hA] at R6
      subst hB
      subst hC
      clear hA
      have q1 : (C0 != 0) = true := by simpa using hc2
      have q2 : (C0 == C0) = true := by simp
      have SC := Lib.hid (sameCommands_any _ _ _ w6 _ (RR.out 0) (by omega) (Nat.le_refl _) (R6.out.v hsz6) (O6.out.more hsz6))
      clear PT2 hc2
      go_wp2_with fail
      refine SC.out.mono ?_
      rintro e w7 ⟨rfl, f7⟩
      go_wp2
      go_ret
      exact ⟨rfl, G6.out.trans f7⟩
    subst hc2
    have HP := PT2.out.2 (by trivial) (by trivial)
    simp only [Prod.mk.injEq] at HP
    obtain ⟨hA, hB, hC⟩ := HP
    have HA := Lib.hid hA
    have hl0 : A0.length = A1.length + A2.length + A3.length := by rw [hA, List.length_append, List.length_append]
    have HL0 := Lib.hid hl0
    subst hB
    subst hC
    clear PT2 hA hl0
    go_wp2_with fail
    refine (F3.out _).mono ?_
    rintro e w7 ⟨v7, rfl, o7, f7⟩
    obtain ⟨X3, d3, rfl⟩ := o7.form
    have O7 := Lib.hid ((O6.out.fr f7 hsz6 (by simp)))
    have R7 := R6.out.fr f7 hsz6
    have P7 := Lib.hid o7
    have G7 := Lib.hid (G6.out.trans f7)
    have hsz7 : w4.heap.size ≤ w7.heap.size := Nat.le_trans hsz6 f7.size
    obtain ⟨vs7, hrr7, ho7⟩ := R7
    have RR7 := Lib.hid hrr7
    have OW7 := Lib.hid ho7
    have q2 : (C0 == C0) = true := by simp
    have q3 := (eqqB (toB B0)).1
    generalize toB B0 = b0 at *
    clear hrr7 ho7 o7 f7 F3 O6 R6
    obtain ⟨vs3, hr3, ho3⟩ := P7.out
    obtain ⟨Av6, cv6, rfl, -⟩ := own_slice OW7.out
    have R3' := Lib.hid hr3
    have S3' := Lib.hid (own_sl ho3)
    have one3 : ∀ u ∈ vs3, u.oneCell' = true := fun u hu => by
      obtain ⟨x, _, hx⟩ := hr3.mem hu
      exact hx.one
    have O8 := Lib.hid (O7.out.more hsz7)
    have hlen12 : (A1 ++ A2).length = A1.length + A2.length := List.length_append
    clear hr3 ho3
    rw [hlen12] at OW7
    go_wp2_with (at_builtin; refine wpListG_append_sl _ (by rfl) _ _ 26 rfl w4.heap.size 22 i0 _ 1 24 Tryd.underlying26 hi hz0 hz1 hz2 rfl (by decide) _ _ _ rfl OW7.out _ _ A3.length _ rfl S3'.out one3 ?c1 ?c2 ?c3 ?_)
    case c1 => unfold maxLen; omega
    case c2 => omega
    case c3 => first | omega | (simp; done) | (simp; omega)
    intro v8 w8 hown8 hgrow8 hat8
    have C8 := rowsV_cat RR7.out R3'.out hlen12 rfl hsz7 (Nat.le_refl _) OW7.out hgrow8 hown8
    rw [← HA.out] at C8
    have K8 := Lib.hid C8
    have O9 := Lib.hid ((O7.out.fr (fr_ownL hgrow8) hsz7 (fun k hk => ownL_base OW7.out hk)).more (Nat.le_trans hsz7 hgrow8.size))
    have G8 := Lib.hid (G7.out.grown hgrow8 (fun k hk => .inr (Nat.le_trans hz4 (OW7.out.lt k hk).1)))
    have SC := Lib.hid (sameCommands_any _ _ _ w8 _ (RR.out 0) (by omega) (Nat.le_refl _) K8.out O9.out)
    clear C8 hown8 hgrow8 hat8
    go_wp2_with fail
    refine SC.out.mono ?_
    rintro e w9 ⟨rfl, f9⟩
    go_wp2
    go_ret
    exact ⟨rfl, G8.out.trans f9⟩
  · have hout : cut < 0 ∨ (¬ cut < 0 ∧ more < 0) ∨ (¬ cut < 0 ∧ ¬ more < 0 ∧ (s.size : Int) < cut) ∨ (¬ cut < 0 ∧ ¬ more < 0 ∧ ¬ (s.size : Int) < cut ∧ (s.size : Int) - cut < more) := by omega
    clear hin
    unfold FeedP at F0
    generalize feedL s.data.toList = R0 at *
    go_enter Tryd.func4, Tryd.ntmps4
    go_wp2_with fail
    refine (F0.out _).mono ?_
    rintro e w1 ⟨v1, rfl, o1, f1⟩
    have G1 := Lib.hid f1
    clear o1 f1 F0
    go_wp2_with fail
    refine (BG.out _ G1.out).mono ?_
    rintro e w2 ⟨rfl, f2⟩
    have G2 := Lib.hid (G1.out.trans f2)
    clear f2 BG G1
    rcases hout with h | ⟨h, h2⟩ | ⟨h, h2, h3⟩ | ⟨h, h2, h3, h4⟩
    all_goals
      go_wp2
      go_ret
      exact ⟨rfl, G2.out⟩
end Go.Proofs.YtlmaiiloihabdaaDoor
