/- The walk of the law TextBehind. (Printed by numbers2.py.) -/
import Derived.Test.YtmlmiboihjibiaaDoorNuT
import Derived.WalkLawsBesides
set_option linter.unusedVariables false
set_option linter.unusedSimpArgs false
namespace Go.Proofs.YtmlmiboihjibiaaDoor
open Go.RowKit

theorem ba_append (a b : ByteArray) : (a ++ b).data.toList = a.data.toList ++ b.data.toList := by rw [ByteArray.data_append, Array.toList_append]
theorem size_len (a : ByteArray) : a.data.toList.length = a.size := by simp
set_option maxHeartbeats 4000000 in
set_option maxRecDepth 100000 in
theorem textBehind_any (x : Itm) (v : Value) (s : ByteArray) (c : Int) (w : World) (B : Nat) (hs : x.Small) (hB : B ≤ w.heap.size) (h : ItemV w B v x) (bs : s.size ≤ 281474976710656) (bc : -9223372036854775808 ≤ c ∧ c ≤ 9223372036854775807) (hv : Vars w) :
    Calls Tryd.prog 5 #[v, .string s, .int .i64 c] w fun e w' => e = .returned (.bool true) ∧ Fr [] w w' := by
  have AP := Lib.hid (fun (W : World) u (h : ItemV W W.heap.size u x) => tappend_any x u s W W.heap.size hs (Nat.le_refl _) h bs)
  have N1 := Lib.hid (fun (h : apCode x s ≠ 0) => ap_no h)
  have V := Lib.hid hv
  have HX := Lib.hid h
  have HS := Lib.hid hs
  clear hv
  have E0 := Lib.hid (Env.start w)
  have E1 := Lib.hid (E0.out.item (h.more hB))
  obtain ⟨A1, c1, A2, c2, A3, c3, rfl⟩ := h.form
  clear h hs
  have E2 := Lib.hid (E1.out.box (.int .i64 x.kind) (.string x.text) (.slice A1 x.list.length c1) (.slice A2 x.pairs.length c2) (.slice A3 x.scores.length c3))
  by_cases he : apCode x s = 0
  · obtain ⟨hA, h60, hy, hn⟩ := ap_ok he
    have hsz : (x.text ++ s).size = x.text.size + s.size := by simp
    have RX := Lib.hid (fun (W : World) u (h : ItemV W W.heap.size u x) => (show Calls Tryd.prog 8 #[u, .int .i64 0, .int .i64 (-1)] W (SEPost x.text 0 W) from by
      have := trange_any x u 0 (-1) W W.heap.size HS.out (Nat.le_refl _) h (by decide) (by decide)
      rw [rg_all hA, hA] at this
      exact this))
    have LN := Lib.hid (fun (W : World) u (h : ItemV W W.heap.size u x) => (show Calls Tryd.prog 11 #[u] W (LNPost x.text.size 0 W) from by
      have := tlen_any x u W W.heap.size HS.out (Nat.le_refl _) h
      unfold lnN at this
      rw [if_pos hA, hA] at this
      exact this))
    have RA := Lib.hid (fun (W : World) u (f t : Int) (h : ItemV W W.heap.size u (textI (x.text ++ s))) (hf : -9223372036854775808 ≤ f ∧ f ≤ 9223372036854775807) (ht : -9223372036854775808 ≤ t ∧ t ≤ 9223372036854775807) => (show Calls Tryd.prog 8 #[u, .int .i64 f, .int .i64 t] W (SEPost (rgS (textI (x.text ++ s)) f t) 0 W) from by
      have := trange_any (textI (x.text ++ s)) u f t W W.heap.size (textI_small (by omega)) (Nat.le_refl _) h hf ht
      rw [as_text (by omega)] at this
      exact this))
    have RR := Lib.hid (fun f t => rg_of (x := textI (x.text ++ s)) f t (as_text (by omega)))
    have RW := Lib.hid (rg_all_text (s := x.text ++ s) (by omega))
    have AS := addS x.text s (by omega)
    rw [he, hy, hn, Int.natCast_add] at AP
    clear he hy hn hA N1 HX HS
    have q1 : ((x.text ++ s).toList == (x.text ++ s).toList) = true := by simp
    generalize hT : x.text ++ s = T at *
    have HT := Lib.hid hT
    clear hT
    have RL := Lib.hid (fun W u h => (show Calls Tryd.prog 8 #[u, .int .i64 0, .int .i64 (-1)] W (SEPost T 0 W) from by
      have := RA.out W u 0 (-1) h (by decide) (by decide)
      rw [RW.out] at this
      exact this))
    have hT60 : T.size ≤ 60 := by omega
    have hx60 : x.text.size ≤ 60 := by omega
    have hs60 : s.size ≤ 60 := by omega
    clear RW hsz h60
    by_cases h0 : c < 0
    · clear RA RR
      go_enter Tryd.func5, Tryd.ntmps5
      go_wp2_with fail
      refine (textBegun_any _ (V.out.fr E2.out.f)).mono ?_
      rintro e w1 ⟨rfl, f1⟩
      have E3 := Lib.hid (E2.out.go f1)
      obtain ⟨d0, d1, d2, d3, d4⟩ := five (E3.out.bl _ (.head _))
      go_wp2_with fail
      refine (AP.out _ _ (E3.out.its _ (.head _))).mono ?_
      rintro e w2 ⟨v1, rfl, i1, f2⟩
      have E4 := Lib.hid (E3.out.go f2)
      clear d0 d1 d2 d3 d4
      have E5 := Lib.hid (E4.out.item i1.item)
      obtain ⟨P1, p1, P2, p2, P3, p3, rfl⟩ := i1.form
      clear i1
      have E6 := Lib.hid (E5.out.box (.int .i64 (textI T).kind) (.string (textI T).text) (.slice P1 (textI T).list.length p1) (.slice P2 (textI T).pairs.length p2) (.slice P3 (textI T).scores.length p3))
      obtain ⟨d0, d1, d2, d3, d4⟩ := five (E6.out.bl _ (.tail _ (.head _)))
      go_wp2_with fail
      refine (LN.out _ _ (E6.out.its _ (.tail _ (.head _)))).mono ?_
      rintro e w3 ⟨rfl, f3⟩
      have E7 := Lib.hid (E6.out.go f3)
      clear d0 d1 d2 d3 d4
      obtain ⟨d0, d1, d2, d3, d4⟩ := five (E7.out.bl _ (.tail _ (.head _)))
      go_wp2_with fail
      refine (RX.out _ _ (E7.out.its _ (.tail _ (.head _)))).mono ?_
      rintro e w4 ⟨rfl, f4⟩
      have E8 := Lib.hid (E7.out.go f4)
      clear d0 d1 d2 d3 d4
      obtain ⟨d0, d1, d2, d3, d4⟩ := five (E8.out.bl _ (.head _))
      go_wp2_with fail
      refine (RL.out _ _ (E8.out.its _ (.head _))).mono ?_
      rintro e w5 ⟨rfl, f5⟩
      have E9 := Lib.hid (E8.out.go f5)
      go_wp2
      go_ret
      exact ⟨rfl, E9.out.f⟩
    · by_cases h1 : (T.size : Int) ≤ c
      · have h1' : c ≥ (T.size : Int) := h1
        clear RA RR
        go_enter Tryd.func5, Tryd.ntmps5
        go_wp2_with fail
        refine (textBegun_any _ (V.out.fr E2.out.f)).mono ?_
        rintro e w1 ⟨rfl, f1⟩
        have E3 := Lib.hid (E2.out.go f1)
        obtain ⟨d0, d1, d2, d3, d4⟩ := five (E3.out.bl _ (.head _))
        go_wp2_with fail
        refine (AP.out _ _ (E3.out.its _ (.head _))).mono ?_
        rintro e w2 ⟨v1, rfl, i1, f2⟩
        have E4 := Lib.hid (E3.out.go f2)
        clear d0 d1 d2 d3 d4
        have E5 := Lib.hid (E4.out.item i1.item)
        obtain ⟨P1, p1, P2, p2, P3, p3, rfl⟩ := i1.form
        clear i1
        have E6 := Lib.hid (E5.out.box (.int .i64 (textI T).kind) (.string (textI T).text) (.slice P1 (textI T).list.length p1) (.slice P2 (textI T).pairs.length p2) (.slice P3 (textI T).scores.length p3))
        obtain ⟨d0, d1, d2, d3, d4⟩ := five (E6.out.bl _ (.tail _ (.head _)))
        go_wp2_with fail
        refine (LN.out _ _ (E6.out.its _ (.tail _ (.head _)))).mono ?_
        rintro e w3 ⟨rfl, f3⟩
        have E7 := Lib.hid (E6.out.go f3)
        clear d0 d1 d2 d3 d4
        obtain ⟨d0, d1, d2, d3, d4⟩ := five (E7.out.bl _ (.tail _ (.head _)))
        go_wp2_with fail
        refine (RX.out _ _ (E7.out.its _ (.tail _ (.head _)))).mono ?_
        rintro e w4 ⟨rfl, f4⟩
        have E8 := Lib.hid (E7.out.go f4)
        clear d0 d1 d2 d3 d4
        obtain ⟨d0, d1, d2, d3, d4⟩ := five (E8.out.bl _ (.head _))
        go_wp2_with fail
        refine (RL.out _ _ (E8.out.its _ (.head _))).mono ?_
        rintro e w5 ⟨rfl, f5⟩
        have E9 := Lib.hid (E8.out.go f5)
        go_wp2
        go_ret
        exact ⟨rfl, E9.out.f⟩
      · obtain ⟨k, rfl⟩ : ∃ k : Nat, c = k := ⟨c.toNat, by omega⟩
        have hk : k < T.size := by omega
        have hl : T.data.toList.length = T.size := size_len T
        have eb := RR.out 0 k
        have ed := RR.out 0 ((k : Int) - T.size)
        have ec := RR.out ((k : Int) + 1) (-1)
        rw [show (textI T).text = T from rfl] at eb ed ec
        rw [rangeOf_to _ _ (by omega)] at eb
        rw [← hl, rangeOf_neg _ _ (by omega)] at ed
        rw [hl] at ed
        have hbd : rgS (textI T) 0 ((k : Int) - T.size) = rgS (textI T) 0 k := ba_eq (by rw [ed, eb])
        have RB := Lib.hid (fun W u h => RA.out W u 0 k h (by decide) (by omega))
        have RD := Lib.hid (fun W u h => RA.out W u 0 ((k : Int) - T.size) h (by decide) (by omega))
        have RC := Lib.hid (fun W u h => RA.out W u ((k : Int) + 1) (-1) h (by omega) (by decide))
        rw [hbd] at RD
        have hbs : (rgS (textI T) 0 k).size ≤ 60 := by rw [← size_len, eb, List.length_take]; omega
        have hcs : (rgS (textI T) ((k : Int) + 1) (-1)).size ≤ 60 := by
          have := span_le T.data.toList.length ((k : Int) + 1) (-1)
          rw [← size_len, ec, rangeOf_length]; omega
        have hbc : (k : Int) ≠ (T.size : Int) - 1 → rgS (textI T) 0 k ++ rgS (textI T) ((k : Int) + 1) (-1) = T := fun hne => ba_eq (by
          rw [rangeOf_from _ _ (by omega)] at ec
          rw [ba_append, eb, ec, List.take_append_drop])
        have HBC := Lib.hid hbc
        clear RR RA eb ec ed hbd hbc h0
        generalize rgS (textI T) 0 k = b at *
        generalize rgS (textI T) ((k : Int) + 1) (-1) = d at *
        have q2 : (b.toList == b.toList) = true := by simp
        by_cases hlast : (k : Int) = (T.size : Int) - 1
        · have hla : (k : Int) ≤ (T.size : Int) - 1 := by omega
          have hlb : (T.size : Int) - 1 ≤ (k : Int) := by omega
          clear HBC hlast
          go_enter Tryd.func5, Tryd.ntmps5
          go_wp2_with fail
          refine (textBegun_any _ (V.out.fr E2.out.f)).mono ?_
          rintro e w1 ⟨rfl, f1⟩
          have E3 := Lib.hid (E2.out.go f1)
          obtain ⟨d0, d1, d2, d3, d4⟩ := five (E3.out.bl _ (.head _))
          go_wp2_with fail
          refine (AP.out _ _ (E3.out.its _ (.head _))).mono ?_
          rintro e w2 ⟨v1, rfl, i1, f2⟩
          have E4 := Lib.hid (E3.out.go f2)
          clear d0 d1 d2 d3 d4
          have E5 := Lib.hid (E4.out.item i1.item)
          obtain ⟨P1, p1, P2, p2, P3, p3, rfl⟩ := i1.form
          clear i1
          have E6 := Lib.hid (E5.out.box (.int .i64 (textI T).kind) (.string (textI T).text) (.slice P1 (textI T).list.length p1) (.slice P2 (textI T).pairs.length p2) (.slice P3 (textI T).scores.length p3))
          obtain ⟨d0, d1, d2, d3, d4⟩ := five (E6.out.bl _ (.tail _ (.head _)))
          go_wp2_with fail
          refine (LN.out _ _ (E6.out.its _ (.tail _ (.head _)))).mono ?_
          rintro e w3 ⟨rfl, f3⟩
          have E7 := Lib.hid (E6.out.go f3)
          clear d0 d1 d2 d3 d4
          obtain ⟨d0, d1, d2, d3, d4⟩ := five (E7.out.bl _ (.tail _ (.head _)))
          go_wp2_with fail
          refine (RX.out _ _ (E7.out.its _ (.tail _ (.head _)))).mono ?_
          rintro e w4 ⟨rfl, f4⟩
          have E8 := Lib.hid (E7.out.go f4)
          clear d0 d1 d2 d3 d4
          obtain ⟨d0, d1, d2, d3, d4⟩ := five (E8.out.bl _ (.head _))
          go_wp2_with fail
          refine (RL.out _ _ (E8.out.its _ (.head _))).mono ?_
          rintro e w5 ⟨rfl, f5⟩
          have E9 := Lib.hid (E8.out.go f5)
          clear d0 d1 d2 d3 d4
          obtain ⟨d0, d1, d2, d3, d4⟩ := five (E9.out.bl _ (.head _))
          go_wp2_with fail
          refine (RB.out _ _ (E9.out.its _ (.head _))).mono ?_
          rintro e w6 ⟨rfl, f6⟩
          have E10 := Lib.hid (E9.out.go f6)
          clear d0 d1 d2 d3 d4
          obtain ⟨d0, d1, d2, d3, d4⟩ := five (E10.out.bl _ (.head _))
          go_wp2_with fail
          refine (RC.out _ _ (E10.out.its _ (.head _))).mono ?_
          rintro e w7 ⟨rfl, f7⟩
          have E11 := Lib.hid (E10.out.go f7)
          clear d0 d1 d2 d3 d4
          obtain ⟨d0, d1, d2, d3, d4⟩ := five (E11.out.bl _ (.head _))
          go_wp2_with fail
          refine (RD.out _ _ (E11.out.its _ (.head _))).mono ?_
          rintro e w8 ⟨rfl, f8⟩
          have E12 := Lib.hid (E11.out.go f8)
          go_wp2
          go_ret
          exact ⟨rfl, E12.out.f⟩
        · have e := HBC.out hlast
          have AS2 := addS b d (by omega)
          rw [e] at AS2
          clear e HBC
          go_enter Tryd.func5, Tryd.ntmps5
          go_wp2_with fail
          refine (textBegun_any _ (V.out.fr E2.out.f)).mono ?_
          rintro e w1 ⟨rfl, f1⟩
          have E3 := Lib.hid (E2.out.go f1)
          obtain ⟨d0, d1, d2, d3, d4⟩ := five (E3.out.bl _ (.head _))
          go_wp2_with fail
          refine (AP.out _ _ (E3.out.its _ (.head _))).mono ?_
          rintro e w2 ⟨v1, rfl, i1, f2⟩
          have E4 := Lib.hid (E3.out.go f2)
          clear d0 d1 d2 d3 d4
          have E5 := Lib.hid (E4.out.item i1.item)
          obtain ⟨P1, p1, P2, p2, P3, p3, rfl⟩ := i1.form
          clear i1
          have E6 := Lib.hid (E5.out.box (.int .i64 (textI T).kind) (.string (textI T).text) (.slice P1 (textI T).list.length p1) (.slice P2 (textI T).pairs.length p2) (.slice P3 (textI T).scores.length p3))
          obtain ⟨d0, d1, d2, d3, d4⟩ := five (E6.out.bl _ (.tail _ (.head _)))
          go_wp2_with fail
          refine (LN.out _ _ (E6.out.its _ (.tail _ (.head _)))).mono ?_
          rintro e w3 ⟨rfl, f3⟩
          have E7 := Lib.hid (E6.out.go f3)
          clear d0 d1 d2 d3 d4
          obtain ⟨d0, d1, d2, d3, d4⟩ := five (E7.out.bl _ (.tail _ (.head _)))
          go_wp2_with fail
          refine (RX.out _ _ (E7.out.its _ (.tail _ (.head _)))).mono ?_
          rintro e w4 ⟨rfl, f4⟩
          have E8 := Lib.hid (E7.out.go f4)
          clear d0 d1 d2 d3 d4
          obtain ⟨d0, d1, d2, d3, d4⟩ := five (E8.out.bl _ (.head _))
          go_wp2_with fail
          refine (RL.out _ _ (E8.out.its _ (.head _))).mono ?_
          rintro e w5 ⟨rfl, f5⟩
          have E9 := Lib.hid (E8.out.go f5)
          clear d0 d1 d2 d3 d4
          obtain ⟨d0, d1, d2, d3, d4⟩ := five (E9.out.bl _ (.head _))
          go_wp2_with fail
          refine (RB.out _ _ (E9.out.its _ (.head _))).mono ?_
          rintro e w6 ⟨rfl, f6⟩
          have E10 := Lib.hid (E9.out.go f6)
          clear d0 d1 d2 d3 d4
          obtain ⟨d0, d1, d2, d3, d4⟩ := five (E10.out.bl _ (.head _))
          go_wp2_with fail
          refine (RC.out _ _ (E10.out.its _ (.head _))).mono ?_
          rintro e w7 ⟨rfl, f7⟩
          have E11 := Lib.hid (E10.out.go f7)
          clear d0 d1 d2 d3 d4
          obtain ⟨d0, d1, d2, d3, d4⟩ := five (E11.out.bl _ (.head _))
          go_wp2_with fail
          refine (RD.out _ _ (E11.out.its _ (.head _))).mono ?_
          rintro e w8 ⟨rfl, f8⟩
          have E12 := Lib.hid (E11.out.go f8)
          go_wp2
          go_ret
          exact ⟨rfl, E12.out.f⟩
  · obtain ⟨r1, r2⟩ := N1.out he
    rw [r1, r2] at AP
    have q : (apCode x s != 0) = true := by simpa using he
    have NT := Lib.hid (fun (W : World) u (h : ItemV W W.heap.size u (newI 0)) => (show Calls Tryd.prog 18 #[u] W fun e w' => e = .returned (.bool true) ∧ Fr [] W w' from by
      have := isNothing_any (newI 0) u W W.heap.size (newI_small 0 (by decide)) (Nat.le_refl _) h
      rw [show nothingI (newI 0) = true from by unfold nothingI bareB newI; simp] at this
      exact this))
    clear r1 r2 he N1 HX HS
    generalize apCode x s = k at *
    go_enter Tryd.func5, Tryd.ntmps5
    go_wp2_with fail
    refine (textBegun_any _ (V.out.fr E2.out.f)).mono ?_
    rintro e w1 ⟨rfl, f1⟩
    have E3 := Lib.hid (E2.out.go f1)
    obtain ⟨d0, d1, d2, d3, d4⟩ := five (E3.out.bl _ (.head _))
    go_wp2_with fail
    refine (AP.out _ _ (E3.out.its _ (.head _))).mono ?_
    rintro e w2 ⟨v1, rfl, i1, f2⟩
    have E4 := Lib.hid (E3.out.go f2)
    clear d0 d1 d2 d3 d4
    have E5 := Lib.hid (E4.out.item i1.item)
    obtain ⟨P1, p1, P2, p2, P3, p3, rfl⟩ := i1.form
    clear i1
    have E6 := Lib.hid (E5.out.box (.int .i64 (newI 0).kind) (.string (newI 0).text) (.slice P1 (newI 0).list.length p1) (.slice P2 (newI 0).pairs.length p2) (.slice P3 (newI 0).scores.length p3))
    obtain ⟨d0, d1, d2, d3, d4⟩ := five (E6.out.bl _ (.head _))
    go_wp2_with fail
    refine (NT.out _ _ (E6.out.its _ (.head _))).mono ?_
    rintro e w3 ⟨rfl, f3⟩
    have E7 := Lib.hid (E6.out.go f3)
    go_wp2
    go_ret
    exact ⟨rfl, E7.out.f⟩
end Go.Proofs.YtmlmiboihjibiaaDoor
