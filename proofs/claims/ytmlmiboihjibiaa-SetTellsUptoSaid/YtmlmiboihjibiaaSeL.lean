/- The walk of the law SetTells. (Printed by sets3.py.) -/
import Derived.Test.YtmlmiboihjibiaaSeK
import Derived.Test.YtmlmiboihjibiaaSeF
import Derived.Test.YtmlmiboihjibiaaSeJ
import Derived.Test.YtmlmiboihjibiaaLqF
import Derived.Test.YtmlmiboihjibiaaLqC
set_option linter.unusedVariables false
set_option linter.unusedSimpArgs false
namespace Go.Proofs.Ytmlmiboihjibiaa
open Go.RowKit

theorem add3Y_small (x : Itm) (l : List ByteArray) : (add3Y x l).Small := by
  unfold add3Y
  split
  · rename_i h
    obtain ⟨h1, h2⟩ := add3_ok h
    unfold ofK
    split
    · exact newI_small 0 (by decide)
    · exact kindI_small (by decide) (by omega) (fun s hs => by have := addL3_texts h1 s hs; omega)
  · exact newI_small 0 (by decide)
theorem remOfY_small (x : Itm) (l : List ByteArray) : (remOfY 3 x l).Small := by
  unfold remOfY
  split
  · rename_i h
    have h1 := (setOk h).2
    have h2 : (lessL x.list l).length ≤ x.list.length := List.length_filter_le _ _
    unfold ofK
    split
    · exact newI_small 0 (by decide)
    · exact kindI_small (by decide) (by omega) (fun s hs => by have := (asOk_of h).texts s (List.mem_filter.1 hs).1; omega)
  · exact newI_small 0 (by decide)
theorem setsR_len {p : Nat → Bool → Bool} {l : List Itm} (hl : l.length ≤ 1048576) : (setsR p l).length ≤ 281474976710656 := by
  unfold setsR
  split
  · rename_i h
    unfold setsCode at h
    by_cases h0 : l.length = 0
    · rw [if_pos h0] at h; cases h
    · rw [if_neg h0] at h
      have h1 := allT_len (firstCode_ok h)
      have h2 := setU_len ((allT l).filter (pick p l))
      have h3 := List.length_filter_le (pick p l) (allT l)
      omega
  · simp
theorem hasT_step {l : List ByteArray} {k : Nat} {t : ByteArray} (s : ByteArray) (h : l[k]? = some t) : hasT (l.take (k + 1)) s = (hasT (l.take k) s || decide (t = s)) := by
  rw [List.take_add_one, h, Option.toList_some, hasT_append]
  congr 1
  unfold hasT
  simp

set_option maxHeartbeats 8000000 in
set_option maxRecDepth 100000 in
theorem setTells_any (x : Itm) (v : Value) (l : List ByteArray) (Al : Option Addr) (cl : Nat) (s : ByteArray) (al : List Itm) (Aa : Option Addr) (ca : Nat) (w : World) (B : Nat) (hs : x.Small) (hB : B ≤ w.heap.size) (h : ItemV w B v x) (hl : l.length ≤ 1048576) (hL : Sl w B 1 (.slice Al l.length cl) l.length (textsV l)) (hsa : ∀ y ∈ al, y.Small) (hla : al.length ≤ 1048576) (hA : ItemsV w B (.slice Aa al.length ca) al) :
    Calls Try.prog 8 #[v, .slice Al l.length cl, .string s, .slice Aa al.length ca] w fun e w' => e = .returned (.bool true) ∧ Fr [] w w' := by
  have AD := Lib.hid (fun (W : World) u A c (h : ItemV W W.heap.size u x) k => setAdd_any x u l A c W W.heap.size hs (Nat.le_refl _) h (by omega) k)
  have RM := Lib.hid (fun (W : World) u A c (h : ItemV W W.heap.size u x) k => setRemove_any x u l A c W W.heap.size hs (Nat.le_refl _) h (by omega) k)
  have HH := Lib.hid (fun (W : World) u (h : ItemV W W.heap.size u x) => setHasOp_any x u s W W.heap.size hs (Nat.le_refl _) h)
  have AV := Lib.hid (fun (W : World) u A c (h : ItemV W W.heap.size u x) k => addSet_any x u l A c W W.heap.size hs (Nat.le_refl _) h hl k)
  have RV := Lib.hid (fun (W : World) u A c (h : ItemV W W.heap.size u x) k => removeOf_any x u 3 l A c W W.heap.size hs (Nat.le_refl _) h (by decide) (by omega) k)
  have CA := Lib.hid (fun (W : World) u (h : ItemV W W.heap.size u x) => checkAs_any x 3 u W W.heap.size hs (Nat.le_refl _) h)
  have ME := Lib.hid (fun (W : World) (hW : Fr [] w W) => setMeet_any al _ W B hsa hla (Nat.le_trans hB hW.size) (hA.fr hW hB (by simp)))
  have JO := Lib.hid (fun (W : World) (hW : Fr [] w W) => setJoin_any al _ W B hsa hla (Nat.le_trans hB hW.size) (hA.fr hW hB (by simp)))
  have LE := Lib.hid (fun (W : World) (hW : Fr [] w W) => setLess_any al _ W B hsa hla (Nat.le_trans hB hW.size) (hA.fr hW hB (by simp)))
  have O1 := Lib.hid (fun (W : World) (hW : Fr [] w W) => setsOf1_any al _ W B hsa hla (Nat.le_trans hB hW.size) (hA.fr hW hB (by simp)))
  have O2 := Lib.hid (fun (W : World) (hW : Fr [] w W) => setsOf2_any al _ W B hsa hla (Nat.le_trans hB hW.size) (hA.fr hW hB (by simp)))
  have O3 := Lib.hid (fun (W : World) (hW : Fr [] w W) => setsOf3_any al _ W B hsa hla (Nat.le_trans hB hW.size) (hA.fr hW hB (by simp)))
  have S1 := Lib.hid (add3Y_small x l)
  have S2 := Lib.hid (remOfY_small x l)
  have N1 := Lib.hid (fun (hc : add3 x l ≠ 0) => (show add3Y x l = newI 0 ∧ add3N x l = 0 from ⟨if_neg hc, if_neg hc⟩))
  have N2 := Lib.hid (fun (hc : asCode 3 x ≠ 0) => (show remOfY 3 x l = newI 0 ∧ remOfK 3 x l = 0 from ⟨if_neg hc, if_neg hc⟩))
  have SM := Lib.hid (fun (W : World) (a : List ByteArray) A1 A2 c1 c2 (ha : a.length ≤ 281474976710656) (h : Sl W W.heap.size 1 (.slice A1 a.length c1) a.length (textsV a)) (k : Sl W W.heap.size 1 (.slice A2 a.length c2) a.length (textsV a)) => (show Calls Try.prog 25 #[.slice A1 a.length c1, .slice A2 a.length c2] W (fun e w' => e = .returned (.bool true) ∧ Fr [] W w') from by
    have := sameTexts_any a a A1 A2 c1 c2 W.heap.size W ha ha (Nat.le_refl _) h k
    rw [show sameT a a = true from by simp [sameT]] at this
    exact this))
  have LM := Lib.hid (setsR_len (p := meetP al.length) hla)
  have LJ := Lib.hid (setsR_len (p := joinP) hla)
  have LL := Lib.hid (setsR_len (p := lessP) hla)
  have q4 : (asCode 3 x == asCode 3 x) = true := by simp
  have q5 : (setsCode al == setsCode al) = true := by simp
  have q6 : ∀ b : Bool, (b == b) = true := fun b => by simp
  have Q6 := Lib.hid q6
  clear q6
  have E0 := Lib.hid (Env.start w)
  have E1 := Lib.hid (E0.out.item (h.more hB))
  have E2 := Lib.hid (E1.out.row (hL.more hB))
  obtain ⟨A1, c1, A2, c2, A3, c3, rfl⟩ := h.form
  have H1 := Lib.hid (show Sl w B 1 (.slice A1 x.list.length c1) x.list.length (textsV x.list) from by obtain ⟨_, _, _, _, _, _, he, k1, _, _⟩ := h; cases he; exact k1)
  have hsl := hs.list
  clear h hL hs hA hsa
  have E3 := Lib.hid (E2.out.box (.int .i64 x.kind) (.string x.text) (.slice A1 x.list.length c1) (.slice A2 x.pairs.length c2) (.slice A3 x.scores.length c3))
  generalize add3Y x l = y1 at *
  generalize add3N x l = n1 at *
  generalize add3 x l = e1 at *
  generalize remOfY 3 x l = y2 at *
  generalize remOfK 3 x l = n2 at *
  generalize setsR (meetP al.length) al = rm at *
  generalize setsR joinP al = rj at *
  generalize setsR lessP al = rl at *
  generalize setsCode al = ac at *
  by_cases ha : asCode 3 x = 0
  · rw [decide_eq_true ha, Bool.true_and] at HH
    have h24 := (setOk ha).2
    rw [ha] at HH RM RV CA N2 q4
    clear ha
    generalize hb0 : hasT x.list s = hb at *
    have HB := Lib.hid hb0
    clear hb0
    go_enter Try.func8, Try.ntmps8
    obtain ⟨d0, d1, d2, d3, d4⟩ := five (E3.out.bl _ (.head _))
    go_wp2_with fail
    refine (AD.out _ _ _ _ (E3.out.its _ (.head _)) (E3.out.rs _ (.head _))).mono ?_
    rintro e w1 ⟨v1, rfl, i1, f1⟩
    have E4 := Lib.hid (E3.out.go f1)
    clear d0 d1 d2 d3 d4
    have E5 := Lib.hid (E4.out.item i1.item)
    obtain ⟨P1, p1, P2, p2, P3, p3, rfl⟩ := i1.form
    clear i1
    have E6 := Lib.hid (E5.out.box (.int .i64 y1.kind) (.string y1.text) (.slice P1 y1.list.length p1) (.slice P2 y1.pairs.length p2) (.slice P3 y1.scores.length p3))
    obtain ⟨d0, d1, d2, d3, d4⟩ := five (E6.out.bl _ (.tail _ (.head _)))
    go_wp2_with fail
    refine (RM.out _ _ _ _ (E6.out.its _ (.tail _ (.head _))) (E6.out.rs _ (.head _))).mono ?_
    rintro e w2 ⟨v2, rfl, i2, f2⟩
    have E7 := Lib.hid (E6.out.go f2)
    clear d0 d1 d2 d3 d4
    have E8 := Lib.hid (E7.out.item i2.item)
    obtain ⟨Q1, q1, Q2, q2, Q3, q3, rfl⟩ := i2.form
    clear i2
    have E9 := Lib.hid (E8.out.box (.int .i64 y2.kind) (.string y2.text) (.slice Q1 y2.list.length q1) (.slice Q2 y2.pairs.length q2) (.slice Q3 y2.scores.length q3))
    obtain ⟨d0, d1, d2, d3, d4⟩ := five (E9.out.bl _ (.tail _ (.tail _ (.head _))))
    go_wp2_with fail
    refine (HH.out _ _ (E9.out.its _ (.tail _ (.tail _ (.head _))))).mono ?_
    rintro e w3 ⟨rfl, f3⟩
    have E10 := Lib.hid (E9.out.go f3)
    clear d0 d1 d2 d3 d4
    go_wp2_with fail
    refine (ME.out _ E10.out.f).mono ?_
    rintro e w4 ⟨um, rfl, om, f4⟩
    have E11 := Lib.hid (E10.out.go f4)
    have E12 := Lib.hid (E11.out.row (own_sl om))
    obtain ⟨Am, cm, rfl, -⟩ := own_slice om
    clear om
    go_wp2_with fail
    refine (JO.out _ E12.out.f).mono ?_
    rintro e w5 ⟨uj, rfl, oj, f5⟩
    have E13 := Lib.hid (E12.out.go f5)
    have E14 := Lib.hid (E13.out.row (own_sl oj))
    obtain ⟨Aj, cj, rfl, -⟩ := own_slice oj
    clear oj
    go_wp2_with fail
    refine (LE.out _ E14.out.f).mono ?_
    rintro e w6 ⟨uk, rfl, ok, f6⟩
    have E15 := Lib.hid (E14.out.go f6)
    have E16 := Lib.hid (E15.out.row (own_sl ok))
    obtain ⟨Ak, ck, rfl, -⟩ := own_slice ok
    clear ok
    obtain ⟨d0, d1, d2, d3, d4⟩ := five (E16.out.bl _ (.tail _ (.tail _ (.head _))))
    go_wp2_with fail
    refine (AV.out _ _ _ _ (E16.out.its _ (.tail _ (.tail _ (.head _)))) (E16.out.rs _ (.tail _ (.tail _ (.tail _ (.head _)))))).mono ?_
    rintro e w7 ⟨v4, rfl, i4, f7⟩
    have E17 := Lib.hid (E16.out.go f7)
    clear d0 d1 d2 d3 d4
    have E18 := Lib.hid (E17.out.item i4.item)
    obtain ⟨T1, t1, T2, t2, T3, t3, rfl⟩ := i4.form
    clear i4
    have E19 := Lib.hid (E18.out.box (.int .i64 y1.kind) (.string y1.text) (.slice T1 y1.list.length t1) (.slice T2 y1.pairs.length t2) (.slice T3 y1.scores.length t3))
    obtain ⟨d0, d1, d2, d3, d4⟩ := five (E19.out.bl _ (.tail _ (.tail _ (.tail _ (.head _)))))
    go_wp2_with fail
    refine (RV.out _ _ _ _ (E19.out.its _ (.tail _ (.tail _ (.tail _ (.head _))))) (E19.out.rs _ (.tail _ (.tail _ (.tail _ (.head _)))))).mono ?_
    rintro e w8 ⟨v6, rfl, i6, f8⟩
    have E20 := Lib.hid (E19.out.go f8)
    clear d0 d1 d2 d3 d4
    have E21 := Lib.hid (E20.out.item i6.item)
    obtain ⟨U1, u1, U2, u2, U3, u3, rfl⟩ := i6.form
    clear i6
    have E22 := Lib.hid (E21.out.box (.int .i64 y2.kind) (.string y2.text) (.slice U1 y2.list.length u1) (.slice U2 y2.pairs.length u2) (.slice U3 y2.scores.length u3))
    obtain ⟨d0, d1, d2, d3, d4⟩ := five (E22.out.bl _ (.tail _ (.tail _ (.tail _ (.tail _ (.head _))))))
    go_wp2_with fail
    refine (CA.out _ _ (E22.out.its _ (.tail _ (.tail _ (.tail _ (.tail _ (.head _))))))).mono ?_
    rintro e w9 ⟨rfl, f9⟩
    have E23 := Lib.hid (E22.out.go f9)
    clear d0 d1 d2 d3 d4
    obtain ⟨d0, d1, d2, d3, d4⟩ := five (E23.out.bl _ (.tail _ (.tail _ (.tail _ (.tail _ (.head _))))))
    go_wp2
    go_loopg [30, 31] x.list.length (fun g d i wr => ∃ (k : Nat) (b : Bool), g = x.list.length - k ∧ k ≤ x.list.length ∧ i = .int .i64 k ∧ d = .bool b ∧ Hid (b = hasT (x.list.take k) s) ∧ Fr [] w9 wr)
    case atStart => exact ⟨0, false, rfl, Nat.zero_le _, rfl, rfl, Lib.hid rfl, Fr.refl _ _⟩
    case round =>
      obtain ⟨k, b, rfl, hk, rfl, rfl, HD, hf⟩ := hrel
      have E24 := Lib.hid (E23.out.go hf)
      have HFR := Lib.hid hf
      clear d0 d1 d2 d3 d4 hf
      obtain ⟨d0, d1, d2, d3, d4⟩ := five (E24.out.bl _ (.tail _ (.tail _ (.tail _ (.tail _ (.head _))))))
      by_cases hlt : k < x.list.length
      · obtain ⟨b1, o1, rfl, hb1, hc1, hm1, hcell⟩ := H1.out.at_ (by omega)
        obtain ⟨t, ht⟩ : ∃ t, x.list[k]? = some t := ⟨_, List.getElem?_eq_getElem hlt⟩
        have cc := E24.out.f.cell (show w.cell? ⟨b1, o1 + k, none⟩ = some (.string t) from hcell k _ (textsV_get _ k t ht)) (by simp)
        have ST := Lib.hid (hasT_step s ht)
        have ix0 : (0 : Int) ≤ (k : Int) := by omega
        have ix1 : (k : Int) < (x.list.length : Int) := by omega
        clear hcell ht
        cases b with
        | true =>
          have NX := Lib.hid (show true = hasT (x.list.take (k + 1)) s from by rw [ST.out, ← HD.out]; rfl)
          clear ST HD
          go_wp2
          go_roundg (x.list.length - (k + 1))
          case measure => omega
          case rel => exact ⟨k + 1, true, rfl, by omega, by go_num, rfl, NX, HFR.out⟩
        | false =>
          by_cases hts : t = s
          · have NX := Lib.hid (show true = hasT (x.list.take (k + 1)) s from by rw [ST.out, decide_eq_true hts]; simp)
            have q1 : (t.toList == s.toList) = true := by rw [hts]; exact (eqqB s).1
            clear ST HD hts
            go_wp2
            go_roundg (x.list.length - (k + 1))
            case measure => omega
            case rel => exact ⟨k + 1, true, rfl, by omega, by go_num, rfl, NX, HFR.out⟩
          · have NX := Lib.hid (show false = hasT (x.list.take (k + 1)) s from by rw [ST.out, decide_eq_false hts, ← HD.out]; rfl)
            have q1 : (t.toList == s.toList) = false := (neqB hts).1
            clear ST HD hts
            go_wp2
            go_roundg (x.list.length - (k + 1))
            case measure => omega
            case rel => exact ⟨k + 1, false, rfl, by omega, by go_num, rfl, NX, HFR.out⟩
      · obtain rfl : k = x.list.length := by omega
        obtain rfl : b = hb := by rw [HD.out, List.take_length, HB.out]
        clear HD HB
        go_wp2_with fail
        clear d0 d1 d2 d3 d4
        refine (O1.out _ E24.out.f).mono ?_
        rintro e w10 ⟨up, rfl, op, f10⟩
        have E25 := Lib.hid (E24.out.go f10)
        have E26 := Lib.hid (E25.out.row (own_sl op))
        obtain ⟨Ap, cp, rfl, -⟩ := own_slice op
        clear op
        go_wp2_with fail
        refine (O2.out _ E26.out.f).mono ?_
        rintro e w11 ⟨uq, rfl, oq, f11⟩
        have E27 := Lib.hid (E26.out.go f11)
        have E28 := Lib.hid (E27.out.row (own_sl oq))
        obtain ⟨Aq, cq, rfl, -⟩ := own_slice oq
        clear oq
        go_wp2_with fail
        refine (O3.out _ E28.out.f).mono ?_
        rintro e w12 ⟨ur, rfl, or, f12⟩
        have E29 := Lib.hid (E28.out.go f12)
        have E30 := Lib.hid (E29.out.row (own_sl or))
        obtain ⟨Ar, cr, rfl, -⟩ := own_slice or
        clear or
        go_wp2_with fail
        refine (setBegun_any _).mono ?_
        rintro e w13 ⟨rfl, f13⟩
        have E31 := Lib.hid (E30.out.go f13)
        obtain ⟨d0, d1, d2, d3, d4⟩ := five (E31.out.bl _ (.tail _ (.tail _ (.tail _ (.head _)))))
        obtain ⟨g0, g1, g2, g3, g4⟩ := five (E31.out.bl _ (.tail _ (.head _)))
        go_wp2_with fail
        refine (itemIs_any y1 e1 n1 _ _ _ _ S1.out (Nat.le_refl _) (E31.out.its _ (.tail _ (.tail _ (.tail _ (.head _))))) (E31.out.its _ (.tail _ (.head _))) N1.out).mono ?_
        rintro e w14 ⟨rfl, f14⟩
        have E32 := Lib.hid (E31.out.go f14)
        clear d0 d1 d2 d3 d4 g0 g1 g2 g3 g4
        obtain ⟨d0, d1, d2, d3, d4⟩ := five (E32.out.bl _ (.tail _ (.tail _ (.head _))))
        obtain ⟨g0, g1, g2, g3, g4⟩ := five (E32.out.bl _ (.head _))
        go_wp2_with fail
        refine (itemIs_any y2 0 n2 _ _ _ _ S2.out (Nat.le_refl _) (E32.out.its _ (.tail _ (.tail _ (.head _)))) (E32.out.its _ (.head _)) N2.out).mono ?_
        rintro e w15 ⟨rfl, f15⟩
        have E33 := Lib.hid (E32.out.go f15)
        clear d0 d1 d2 d3 d4 g0 g1 g2 g3 g4
        have q7 : (b == b) = true := Q6.out _
        go_wp2_with fail
        refine (SM.out _ _ _ _ _ _ LM.out (E33.out.rs _ (.tail _ (.tail _ (.tail _ (.tail _ (.tail _ (.head _))))))) (E33.out.rs _ (.tail _ (.tail _ (.head _))))).mono ?_
        rintro e w16 ⟨rfl, f16⟩
        have E34 := Lib.hid (E33.out.go f16)
        go_wp2_with fail
        refine (SM.out _ _ _ _ _ _ LJ.out (E34.out.rs _ (.tail _ (.tail _ (.tail _ (.tail _ (.head _)))))) (E34.out.rs _ (.tail _ (.head _)))).mono ?_
        rintro e w17 ⟨rfl, f17⟩
        have E35 := Lib.hid (E34.out.go f17)
        go_wp2_with fail
        refine (SM.out _ _ _ _ _ _ LL.out (E35.out.rs _ (.tail _ (.tail _ (.tail _ (.head _))))) (E35.out.rs _ (.head _))).mono ?_
        rintro e w18 ⟨rfl, f18⟩
        have E36 := Lib.hid (E35.out.go f18)
        go_wp2
        go_ret
        exact ⟨rfl, E36.out.f⟩
  · rw [decide_eq_false ha, Bool.false_and] at HH
    have qn : (asCode 3 x == 0) = false := by simpa using ha
    clear ha
    generalize asCode 3 x = e2 at *
    by_cases hlt : 0 < x.list.length
    · have qlt : (0 : Int) < (x.list.length : Int) := by omega
      clear hlt
      go_enter Try.func8, Try.ntmps8
      obtain ⟨d0, d1, d2, d3, d4⟩ := five (E3.out.bl _ (.head _))
      go_wp2_with fail
      refine (AD.out _ _ _ _ (E3.out.its _ (.head _)) (E3.out.rs _ (.head _))).mono ?_
      rintro e w1 ⟨v1, rfl, i1, f1⟩
      have E4 := Lib.hid (E3.out.go f1)
      clear d0 d1 d2 d3 d4
      have E5 := Lib.hid (E4.out.item i1.item)
      obtain ⟨P1, p1, P2, p2, P3, p3, rfl⟩ := i1.form
      clear i1
      have E6 := Lib.hid (E5.out.box (.int .i64 y1.kind) (.string y1.text) (.slice P1 y1.list.length p1) (.slice P2 y1.pairs.length p2) (.slice P3 y1.scores.length p3))
      obtain ⟨d0, d1, d2, d3, d4⟩ := five (E6.out.bl _ (.tail _ (.head _)))
      go_wp2_with fail
      refine (RM.out _ _ _ _ (E6.out.its _ (.tail _ (.head _))) (E6.out.rs _ (.head _))).mono ?_
      rintro e w2 ⟨v2, rfl, i2, f2⟩
      have E7 := Lib.hid (E6.out.go f2)
      clear d0 d1 d2 d3 d4
      have E8 := Lib.hid (E7.out.item i2.item)
      obtain ⟨Q1, q1, Q2, q2, Q3, q3, rfl⟩ := i2.form
      clear i2
      have E9 := Lib.hid (E8.out.box (.int .i64 y2.kind) (.string y2.text) (.slice Q1 y2.list.length q1) (.slice Q2 y2.pairs.length q2) (.slice Q3 y2.scores.length q3))
      obtain ⟨d0, d1, d2, d3, d4⟩ := five (E9.out.bl _ (.tail _ (.tail _ (.head _))))
      go_wp2_with fail
      refine (HH.out _ _ (E9.out.its _ (.tail _ (.tail _ (.head _))))).mono ?_
      rintro e w3 ⟨rfl, f3⟩
      have E10 := Lib.hid (E9.out.go f3)
      clear d0 d1 d2 d3 d4
      go_wp2_with fail
      refine (ME.out _ E10.out.f).mono ?_
      rintro e w4 ⟨um, rfl, om, f4⟩
      have E11 := Lib.hid (E10.out.go f4)
      have E12 := Lib.hid (E11.out.row (own_sl om))
      obtain ⟨Am, cm, rfl, -⟩ := own_slice om
      clear om
      go_wp2_with fail
      refine (JO.out _ E12.out.f).mono ?_
      rintro e w5 ⟨uj, rfl, oj, f5⟩
      have E13 := Lib.hid (E12.out.go f5)
      have E14 := Lib.hid (E13.out.row (own_sl oj))
      obtain ⟨Aj, cj, rfl, -⟩ := own_slice oj
      clear oj
      go_wp2_with fail
      refine (LE.out _ E14.out.f).mono ?_
      rintro e w6 ⟨uk, rfl, ok, f6⟩
      have E15 := Lib.hid (E14.out.go f6)
      have E16 := Lib.hid (E15.out.row (own_sl ok))
      obtain ⟨Ak, ck, rfl, -⟩ := own_slice ok
      clear ok
      obtain ⟨d0, d1, d2, d3, d4⟩ := five (E16.out.bl _ (.tail _ (.tail _ (.head _))))
      go_wp2_with fail
      refine (AV.out _ _ _ _ (E16.out.its _ (.tail _ (.tail _ (.head _)))) (E16.out.rs _ (.tail _ (.tail _ (.tail _ (.head _)))))).mono ?_
      rintro e w7 ⟨v4, rfl, i4, f7⟩
      have E17 := Lib.hid (E16.out.go f7)
      clear d0 d1 d2 d3 d4
      have E18 := Lib.hid (E17.out.item i4.item)
      obtain ⟨T1, t1, T2, t2, T3, t3, rfl⟩ := i4.form
      clear i4
      have E19 := Lib.hid (E18.out.box (.int .i64 y1.kind) (.string y1.text) (.slice T1 y1.list.length t1) (.slice T2 y1.pairs.length t2) (.slice T3 y1.scores.length t3))
      obtain ⟨d0, d1, d2, d3, d4⟩ := five (E19.out.bl _ (.tail _ (.tail _ (.tail _ (.head _)))))
      go_wp2_with fail
      refine (RV.out _ _ _ _ (E19.out.its _ (.tail _ (.tail _ (.tail _ (.head _))))) (E19.out.rs _ (.tail _ (.tail _ (.tail _ (.head _)))))).mono ?_
      rintro e w8 ⟨v6, rfl, i6, f8⟩
      have E20 := Lib.hid (E19.out.go f8)
      clear d0 d1 d2 d3 d4
      have E21 := Lib.hid (E20.out.item i6.item)
      obtain ⟨U1, u1, U2, u2, U3, u3, rfl⟩ := i6.form
      clear i6
      have E22 := Lib.hid (E21.out.box (.int .i64 y2.kind) (.string y2.text) (.slice U1 y2.list.length u1) (.slice U2 y2.pairs.length u2) (.slice U3 y2.scores.length u3))
      obtain ⟨d0, d1, d2, d3, d4⟩ := five (E22.out.bl _ (.tail _ (.tail _ (.tail _ (.tail _ (.head _))))))
      go_wp2_with fail
      refine (CA.out _ _ (E22.out.its _ (.tail _ (.tail _ (.tail _ (.tail _ (.head _))))))).mono ?_
      rintro e w9 ⟨rfl, f9⟩
      have E23 := Lib.hid (E22.out.go f9)
      clear d0 d1 d2 d3 d4
      obtain ⟨d0, d1, d2, d3, d4⟩ := five (E23.out.bl _ (.tail _ (.tail _ (.tail _ (.tail _ (.head _))))))
      go_wp2
      go_loopg [30, 31] 0 (fun g d i wr => g = 0 ∧ i = .int .i64 0 ∧ d = .bool false ∧ w9 = wr)
      case atStart => exact ⟨rfl, rfl, rfl, rfl⟩
      case round =>
        obtain ⟨rfl, rfl, rfl, rfl⟩ := hrel
        go_wp2_with fail
        clear d0 d1 d2 d3 d4
        refine (O1.out _ E23.out.f).mono ?_
        rintro e w10 ⟨up, rfl, op, f10⟩
        have E24 := Lib.hid (E23.out.go f10)
        have E25 := Lib.hid (E24.out.row (own_sl op))
        obtain ⟨Ap, cp, rfl, -⟩ := own_slice op
        clear op
        go_wp2_with fail
        refine (O2.out _ E25.out.f).mono ?_
        rintro e w11 ⟨uq, rfl, oq, f11⟩
        have E26 := Lib.hid (E25.out.go f11)
        have E27 := Lib.hid (E26.out.row (own_sl oq))
        obtain ⟨Aq, cq, rfl, -⟩ := own_slice oq
        clear oq
        go_wp2_with fail
        refine (O3.out _ E27.out.f).mono ?_
        rintro e w12 ⟨ur, rfl, or, f12⟩
        have E28 := Lib.hid (E27.out.go f12)
        have E29 := Lib.hid (E28.out.row (own_sl or))
        obtain ⟨Ar, cr, rfl, -⟩ := own_slice or
        clear or
        go_wp2_with fail
        refine (setBegun_any _).mono ?_
        rintro e w13 ⟨rfl, f13⟩
        have E30 := Lib.hid (E29.out.go f13)
        obtain ⟨d0, d1, d2, d3, d4⟩ := five (E30.out.bl _ (.tail _ (.tail _ (.tail _ (.head _)))))
        obtain ⟨g0, g1, g2, g3, g4⟩ := five (E30.out.bl _ (.tail _ (.head _)))
        go_wp2_with fail
        refine (itemIs_any y1 e1 n1 _ _ _ _ S1.out (Nat.le_refl _) (E30.out.its _ (.tail _ (.tail _ (.tail _ (.head _))))) (E30.out.its _ (.tail _ (.head _))) N1.out).mono ?_
        rintro e w14 ⟨rfl, f14⟩
        have E31 := Lib.hid (E30.out.go f14)
        clear d0 d1 d2 d3 d4 g0 g1 g2 g3 g4
        obtain ⟨d0, d1, d2, d3, d4⟩ := five (E31.out.bl _ (.tail _ (.tail _ (.head _))))
        obtain ⟨g0, g1, g2, g3, g4⟩ := five (E31.out.bl _ (.head _))
        go_wp2_with fail
        refine (itemIs_any y2 e2 n2 _ _ _ _ S2.out (Nat.le_refl _) (E31.out.its _ (.tail _ (.tail _ (.head _)))) (E31.out.its _ (.head _)) N2.out).mono ?_
        rintro e w15 ⟨rfl, f15⟩
        have E32 := Lib.hid (E31.out.go f15)
        clear d0 d1 d2 d3 d4 g0 g1 g2 g3 g4
        have q7 : (false == false) = true := Q6.out _
        go_wp2_with fail
        refine (SM.out _ _ _ _ _ _ LM.out (E32.out.rs _ (.tail _ (.tail _ (.tail _ (.tail _ (.tail _ (.head _))))))) (E32.out.rs _ (.tail _ (.tail _ (.head _))))).mono ?_
        rintro e w16 ⟨rfl, f16⟩
        have E33 := Lib.hid (E32.out.go f16)
        go_wp2_with fail
        refine (SM.out _ _ _ _ _ _ LJ.out (E33.out.rs _ (.tail _ (.tail _ (.tail _ (.tail _ (.head _)))))) (E33.out.rs _ (.tail _ (.head _)))).mono ?_
        rintro e w17 ⟨rfl, f17⟩
        have E34 := Lib.hid (E33.out.go f17)
        go_wp2_with fail
        refine (SM.out _ _ _ _ _ _ LL.out (E34.out.rs _ (.tail _ (.tail _ (.tail _ (.head _))))) (E34.out.rs _ (.head _))).mono ?_
        rintro e w18 ⟨rfl, f18⟩
        have E35 := Lib.hid (E34.out.go f18)
        go_wp2
        go_ret
        exact ⟨rfl, E35.out.f⟩
    · have qlt : ¬ (0 : Int) < (x.list.length : Int) := by omega
      clear hlt
      go_enter Try.func8, Try.ntmps8
      obtain ⟨d0, d1, d2, d3, d4⟩ := five (E3.out.bl _ (.head _))
      go_wp2_with fail
      refine (AD.out _ _ _ _ (E3.out.its _ (.head _)) (E3.out.rs _ (.head _))).mono ?_
      rintro e w1 ⟨v1, rfl, i1, f1⟩
      have E4 := Lib.hid (E3.out.go f1)
      clear d0 d1 d2 d3 d4
      have E5 := Lib.hid (E4.out.item i1.item)
      obtain ⟨P1, p1, P2, p2, P3, p3, rfl⟩ := i1.form
      clear i1
      have E6 := Lib.hid (E5.out.box (.int .i64 y1.kind) (.string y1.text) (.slice P1 y1.list.length p1) (.slice P2 y1.pairs.length p2) (.slice P3 y1.scores.length p3))
      obtain ⟨d0, d1, d2, d3, d4⟩ := five (E6.out.bl _ (.tail _ (.head _)))
      go_wp2_with fail
      refine (RM.out _ _ _ _ (E6.out.its _ (.tail _ (.head _))) (E6.out.rs _ (.head _))).mono ?_
      rintro e w2 ⟨v2, rfl, i2, f2⟩
      have E7 := Lib.hid (E6.out.go f2)
      clear d0 d1 d2 d3 d4
      have E8 := Lib.hid (E7.out.item i2.item)
      obtain ⟨Q1, q1, Q2, q2, Q3, q3, rfl⟩ := i2.form
      clear i2
      have E9 := Lib.hid (E8.out.box (.int .i64 y2.kind) (.string y2.text) (.slice Q1 y2.list.length q1) (.slice Q2 y2.pairs.length q2) (.slice Q3 y2.scores.length q3))
      obtain ⟨d0, d1, d2, d3, d4⟩ := five (E9.out.bl _ (.tail _ (.tail _ (.head _))))
      go_wp2_with fail
      refine (HH.out _ _ (E9.out.its _ (.tail _ (.tail _ (.head _))))).mono ?_
      rintro e w3 ⟨rfl, f3⟩
      have E10 := Lib.hid (E9.out.go f3)
      clear d0 d1 d2 d3 d4
      go_wp2_with fail
      refine (ME.out _ E10.out.f).mono ?_
      rintro e w4 ⟨um, rfl, om, f4⟩
      have E11 := Lib.hid (E10.out.go f4)
      have E12 := Lib.hid (E11.out.row (own_sl om))
      obtain ⟨Am, cm, rfl, -⟩ := own_slice om
      clear om
      go_wp2_with fail
      refine (JO.out _ E12.out.f).mono ?_
      rintro e w5 ⟨uj, rfl, oj, f5⟩
      have E13 := Lib.hid (E12.out.go f5)
      have E14 := Lib.hid (E13.out.row (own_sl oj))
      obtain ⟨Aj, cj, rfl, -⟩ := own_slice oj
      clear oj
      go_wp2_with fail
      refine (LE.out _ E14.out.f).mono ?_
      rintro e w6 ⟨uk, rfl, ok, f6⟩
      have E15 := Lib.hid (E14.out.go f6)
      have E16 := Lib.hid (E15.out.row (own_sl ok))
      obtain ⟨Ak, ck, rfl, -⟩ := own_slice ok
      clear ok
      obtain ⟨d0, d1, d2, d3, d4⟩ := five (E16.out.bl _ (.tail _ (.tail _ (.head _))))
      go_wp2_with fail
      refine (AV.out _ _ _ _ (E16.out.its _ (.tail _ (.tail _ (.head _)))) (E16.out.rs _ (.tail _ (.tail _ (.tail _ (.head _)))))).mono ?_
      rintro e w7 ⟨v4, rfl, i4, f7⟩
      have E17 := Lib.hid (E16.out.go f7)
      clear d0 d1 d2 d3 d4
      have E18 := Lib.hid (E17.out.item i4.item)
      obtain ⟨T1, t1, T2, t2, T3, t3, rfl⟩ := i4.form
      clear i4
      have E19 := Lib.hid (E18.out.box (.int .i64 y1.kind) (.string y1.text) (.slice T1 y1.list.length t1) (.slice T2 y1.pairs.length t2) (.slice T3 y1.scores.length t3))
      obtain ⟨d0, d1, d2, d3, d4⟩ := five (E19.out.bl _ (.tail _ (.tail _ (.tail _ (.head _)))))
      go_wp2_with fail
      refine (RV.out _ _ _ _ (E19.out.its _ (.tail _ (.tail _ (.tail _ (.head _))))) (E19.out.rs _ (.tail _ (.tail _ (.tail _ (.head _)))))).mono ?_
      rintro e w8 ⟨v6, rfl, i6, f8⟩
      have E20 := Lib.hid (E19.out.go f8)
      clear d0 d1 d2 d3 d4
      have E21 := Lib.hid (E20.out.item i6.item)
      obtain ⟨U1, u1, U2, u2, U3, u3, rfl⟩ := i6.form
      clear i6
      have E22 := Lib.hid (E21.out.box (.int .i64 y2.kind) (.string y2.text) (.slice U1 y2.list.length u1) (.slice U2 y2.pairs.length u2) (.slice U3 y2.scores.length u3))
      obtain ⟨d0, d1, d2, d3, d4⟩ := five (E22.out.bl _ (.tail _ (.tail _ (.tail _ (.tail _ (.head _))))))
      go_wp2_with fail
      refine (CA.out _ _ (E22.out.its _ (.tail _ (.tail _ (.tail _ (.tail _ (.head _))))))).mono ?_
      rintro e w9 ⟨rfl, f9⟩
      have E23 := Lib.hid (E22.out.go f9)
      clear d0 d1 d2 d3 d4
      obtain ⟨d0, d1, d2, d3, d4⟩ := five (E23.out.bl _ (.tail _ (.tail _ (.tail _ (.tail _ (.head _))))))
      go_wp2
      go_loopg [30, 31] 0 (fun g d i wr => g = 0 ∧ i = .int .i64 0 ∧ d = .bool false ∧ w9 = wr)
      case atStart => exact ⟨rfl, rfl, rfl, rfl⟩
      case round =>
        obtain ⟨rfl, rfl, rfl, rfl⟩ := hrel
        go_wp2_with fail
        clear d0 d1 d2 d3 d4
        refine (O1.out _ E23.out.f).mono ?_
        rintro e w10 ⟨up, rfl, op, f10⟩
        have E24 := Lib.hid (E23.out.go f10)
        have E25 := Lib.hid (E24.out.row (own_sl op))
        obtain ⟨Ap, cp, rfl, -⟩ := own_slice op
        clear op
        go_wp2_with fail
        refine (O2.out _ E25.out.f).mono ?_
        rintro e w11 ⟨uq, rfl, oq, f11⟩
        have E26 := Lib.hid (E25.out.go f11)
        have E27 := Lib.hid (E26.out.row (own_sl oq))
        obtain ⟨Aq, cq, rfl, -⟩ := own_slice oq
        clear oq
        go_wp2_with fail
        refine (O3.out _ E27.out.f).mono ?_
        rintro e w12 ⟨ur, rfl, or, f12⟩
        have E28 := Lib.hid (E27.out.go f12)
        have E29 := Lib.hid (E28.out.row (own_sl or))
        obtain ⟨Ar, cr, rfl, -⟩ := own_slice or
        clear or
        go_wp2_with fail
        refine (setBegun_any _).mono ?_
        rintro e w13 ⟨rfl, f13⟩
        have E30 := Lib.hid (E29.out.go f13)
        obtain ⟨d0, d1, d2, d3, d4⟩ := five (E30.out.bl _ (.tail _ (.tail _ (.tail _ (.head _)))))
        obtain ⟨g0, g1, g2, g3, g4⟩ := five (E30.out.bl _ (.tail _ (.head _)))
        go_wp2_with fail
        refine (itemIs_any y1 e1 n1 _ _ _ _ S1.out (Nat.le_refl _) (E30.out.its _ (.tail _ (.tail _ (.tail _ (.head _))))) (E30.out.its _ (.tail _ (.head _))) N1.out).mono ?_
        rintro e w14 ⟨rfl, f14⟩
        have E31 := Lib.hid (E30.out.go f14)
        clear d0 d1 d2 d3 d4 g0 g1 g2 g3 g4
        obtain ⟨d0, d1, d2, d3, d4⟩ := five (E31.out.bl _ (.tail _ (.tail _ (.head _))))
        obtain ⟨g0, g1, g2, g3, g4⟩ := five (E31.out.bl _ (.head _))
        go_wp2_with fail
        refine (itemIs_any y2 e2 n2 _ _ _ _ S2.out (Nat.le_refl _) (E31.out.its _ (.tail _ (.tail _ (.head _)))) (E31.out.its _ (.head _)) N2.out).mono ?_
        rintro e w15 ⟨rfl, f15⟩
        have E32 := Lib.hid (E31.out.go f15)
        clear d0 d1 d2 d3 d4 g0 g1 g2 g3 g4
        have q7 : (false == false) = true := Q6.out _
        go_wp2_with fail
        refine (SM.out _ _ _ _ _ _ LM.out (E32.out.rs _ (.tail _ (.tail _ (.tail _ (.tail _ (.tail _ (.head _))))))) (E32.out.rs _ (.tail _ (.tail _ (.head _))))).mono ?_
        rintro e w16 ⟨rfl, f16⟩
        have E33 := Lib.hid (E32.out.go f16)
        go_wp2_with fail
        refine (SM.out _ _ _ _ _ _ LJ.out (E33.out.rs _ (.tail _ (.tail _ (.tail _ (.tail _ (.head _)))))) (E33.out.rs _ (.tail _ (.head _)))).mono ?_
        rintro e w17 ⟨rfl, f17⟩
        have E34 := Lib.hid (E33.out.go f17)
        go_wp2_with fail
        refine (SM.out _ _ _ _ _ _ LL.out (E34.out.rs _ (.tail _ (.tail _ (.tail _ (.head _))))) (E34.out.rs _ (.head _))).mono ?_
        rintro e w18 ⟨rfl, f18⟩
        have E35 := Lib.hid (E34.out.go f18)
        go_wp2
        go_ret
        exact ⟨rfl, E35.out.f⟩
end Go.Proofs.Ytmlmiboihjibiaa
