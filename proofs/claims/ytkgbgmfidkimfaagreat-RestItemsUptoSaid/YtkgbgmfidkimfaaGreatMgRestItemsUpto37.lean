/- The walk of the law RestItems. (Printed by restitems.py.) -/
import Derived.Test.YtkgbgmfidkimfaaGreatMgRestItemsUpto8
import Derived.Test.YtkgbgmfidkimfaaGreatMgRestItemsUpto24
import Derived.Test.YtkgbgmfidkimfaaGreatMgRestItemsUpto13
import Derived.Test.YtkgbgmfidkimfaaGreatMgRestItemsUpto14
import Derived.Test.YtkgbgmfidkimfaaGreatMgRestItemsUpto30
import Derived.Test.YtkgbgmfidkimfaaGreatMgRestItemsUpto27
import Derived.Test.YtkgbgmfidkimfaaGreatMgRestItemsUpto29
import Derived.Test.YtkgbgmfidkimfaaGreatMgRestItemsUpto20
import Derived.Test.YtkgbgmfidkimfaaGreatMgRestItemsUpto15
import Derived.Test.YtkgbgmfidkimfaaGreatMgRestItemsUpto32
import Derived.Test.YtkgbgmfidkimfaaGreatMgRestItemsUpto36
import Derived.Test.YtkgbgmfidkimfaaGreatMgRestItemsUpto35
import Derived.Deep.Cut
set_option linter.unusedVariables false
set_option linter.unusedSimpArgs false
namespace Go.Proofs.YtkgbgmfidkimfaaGreat
open Go.RowKit

set_option maxHeartbeats 16000000 in
set_option maxRecDepth 100000 in
theorem restItems_any (x : Itm) (v : Value) (l : List ByteArray) (Al : Option Addr) (cl : Nat) (p : List (ByteArray × ByteArray)) (Ap : Option Addr) (cp : Nat) (q : List (Int × ByteArray)) (Aq : Option Addr) (cq : Nat) (w : World) (B : Nat) (hs : x.Small) (hB : B ≤ w.heap.size) (h : ItemV w B v x)
    (k1 : x.list.length ≤ 1048576) (k2 : x.pairs.length ≤ 1048576) (k3 : x.scores.length ≤ 1048576) (hl : l.length ≤ 1048576) (hL : Sl w B 1 (.slice Al l.length cl) l.length (textsV l))
    (hp : p.length ≤ 1048576) (hP : Sl w B 2 (.slice Ap p.length cp) p.length (pairsV p)) (hsp : ∀ s ∈ p, s.1.size ≤ 281474976710656 ∧ s.2.size ≤ 281474976710656)
    (hq : q.length ≤ 1048576) (hQ : Sl w B 2 (.slice Aq q.length cq) q.length (scoresV q)) (hsq : ∀ s ∈ q, (-9223372036854775808 ≤ s.1 ∧ s.1 ≤ 9223372036854775807) ∧ s.2.size ≤ 281474976710656) :
    Calls Tryz.prog 3 #[v, .slice Al l.length cl, .slice Ap p.length cp, .slice Aq q.length cq] w fun e w' => e = .returned (.bool true) ∧ Fr [] w w' := by
  obtain ⟨i1, hi1, hz1, hs1, hb1⟩ := info_parts stringInfo
  obtain ⟨i2, hi2, hz2, hs2, hb2⟩ := info_parts pairInfo
  obtain ⟨i3, hi3, hz3, hs3, hb3⟩ := info_parts scoreInfo
  have HS := Lib.hid hs
  have sa : Hid (pushY x true l).Small := Lib.hid (pushY_small x true l)
  have sb : Hid (popY x false).Small := Lib.hid (popY_small x false)
  have sc : Hid (ofL (rangeA x 0 (-1))).Small := Lib.hid (ofL_small (by have := (rangeA_ok x 0 (-1)).1; omega) (rangeA_ok x 0 (-1)).2)
  have sd : Hid (remY x ⟨#[97]⟩).Small := Lib.hid (remY_small x _)
  have sf : Hid (add3Y x l).Small := Lib.hid (add3Y_small x l)
  have sg : Hid (remOfY 3 x l).Small := Lib.hid (remOfY_small x l)
  have sh : Hid (putY x p).Small := Lib.hid (putY_small x p)
  have sk : Hid (dropY x l).Small := Lib.hid (dropY_small x l)
  have sn : Hid (put5Y x q).Small := Lib.hid (put5Y_small x q)
  have so : Hid (drop5Y x l).Small := Lib.hid (drop5Y_small x l)
  have su : Hid (decAns (encAns x)).Small := Lib.hid (dec_small _)
  have lr : (rangeA x 0 (-1)).length ≤ 281474976710656 := by have := (rangeA_ok x 0 (-1)).1; omega
  have lm : (setsR (meetP [x, x].length) [x, x]).length ≤ 281474976710656 := setsR_len (by simp)
  have lj : (setsR joinP [x]).length ≤ 281474976710656 := setsR_len (by simp)
  have lt : (range5 x 0 (-1)).length ≤ 281474976710656 := range5_len x _ _
  have es := enc_small x
  have hx2 : ∀ y ∈ [x, x], y.Small := fun y hy => by
    simp at hy
    subst hy
    exact hs
  have hx1 : ∀ y ∈ [x], y.Small := fun y hy => by
    simp at hy
    subst hy
    exact hs
  have hl' : l.length ≤ 281474976710656 := by omega
  have CI := Lib.hid (fun (W : World) u (h : ItemV W W.heap.size u x) => copiedItem_any x u W W.heap.size k1 k2 k3 (Nat.le_refl _) h)
  have PO := Lib.hid (fun (W : World) u A c (h : ItemV W W.heap.size u x) k => pushOf_any x u true l A c W W.heap.size hs (Nat.le_refl _) h hl' k)
  have PU := Lib.hid (fun (W : World) u A c (h : ItemV W W.heap.size u x) k => listPush_any x u true l A c W W.heap.size hs (Nat.le_refl _) h hl' k)
  have PP := Lib.hid (fun (W : World) u (h : ItemV W W.heap.size u x) => listPop_any x u false W W.heap.size hs (Nat.le_refl _) h)
  have TR := Lib.hid (fun (W : World) u (h : ItemV W W.heap.size u x) => listTrim_any x u 0 (-1) W W.heap.size hs (Nat.le_refl _) h (by decide) (by decide))
  have RM := Lib.hid (fun (W : World) u (h : ItemV W W.heap.size u x) => listRemove_any x u ⟨#[97]⟩ W W.heap.size hs (Nat.le_refl _) h)
  have RG := Lib.hid (fun (W : World) u (h : ItemV W W.heap.size u x) => (show Calls Tryz.prog 16 #[u, .int .i64 0, .int .i64 (-1)] W (TEPost (rangeA x 0 (-1)) (asCode 2 x) W) from listRange_any x u 0 (-1) W W.heap.size hs (Nat.le_refl _) h (by decide) (by decide)))
  have AD := Lib.hid (fun (W : World) u A c (h : ItemV W W.heap.size u x) k => setAdd_any x u l A c W W.heap.size hs (Nat.le_refl _) h (by omega) k)
  have SR := Lib.hid (fun (W : World) u A c (h : ItemV W W.heap.size u x) k => setRemove_any x u l A c W W.heap.size hs (Nat.le_refl _) h hl' k)
  have ME := Lib.hid (fun (W : World) u (h : ItemsV W W.heap.size u [x, x]) => (show Calls Tryz.prog 19 #[u] W (TEPost (setsR (meetP [x, x].length) [x, x]) (setsCode [x, x]) W) from setMeet_any [x, x] u W W.heap.size hx2 (by simp) (Nat.le_refl _) h))
  have JO := Lib.hid (fun (W : World) u (h : ItemsV W W.heap.size u [x]) => (show Calls Tryz.prog 20 #[u] W (TEPost (setsR joinP [x]) (setsCode [x]) W) from setJoin_any [x] u W W.heap.size hx1 (by simp) (Nat.le_refl _) h))
  have HP := Lib.hid (fun (W : World) u A c (h : ItemV W W.heap.size u x) k => hashPut_any x u p A c W W.heap.size hs (Nat.le_refl _) h (by omega) k)
  have HD := Lib.hid (fun (W : World) u A c (h : ItemV W W.heap.size u x) k => hashDrop_any x u l A c W W.heap.size hs (Nat.le_refl _) h hl' k)
  have SP := Lib.hid (fun (W : World) u A c (h : ItemV W W.heap.size u x) k => scorePut_any x u q A c W W.heap.size hs (Nat.le_refl _) h (by omega) k)
  have SD := Lib.hid (fun (W : World) u A c (h : ItemV W W.heap.size u x) k => scoreDrop_any x u l A c W W.heap.size hs (Nat.le_refl _) h hl' k)
  have SG := Lib.hid (fun (W : World) u (h : ItemV W W.heap.size u x) => scoreRange_any x u 0 (-1) W W.heap.size hs (Nat.le_refl _) h (by decide) (by decide))
  have EN := Lib.hid (fun (W : World) u (h : ItemV W W.heap.size u x) => encode_any x u W W.heap.size hs (Nat.le_refl _) h)
  have DE := Lib.hid (fun (W : World) => (show Calls Tryz.prog 27 #[.string (encAns x)] W (IEPost (decCode (encAns x)) (decAns (encAns x)) W) from decode_any (encAns x) W es))
  have SX := Lib.hid (fun (W : World) u u' (h : ItemV W W.heap.size u x) (k : ItemV W W.heap.size u' x) => (show Calls Tryz.prog 12 #[u, u'] W fun e w' => e = .returned (.bool true) ∧ Fr [] W w' from by
    have := sameItem_any x x u u' W W.heap.size HS.out HS.out (Nat.le_refl _) h k
    rw [sameI_refl] at this
    exact this))
  have SA := Lib.hid (fun (W : World) u u' (h : ItemV W W.heap.size u (pushY x true l)) (k : ItemV W W.heap.size u' (pushY x true l)) => (show Calls Tryz.prog 12 #[u, u'] W fun e w' => e = .returned (.bool true) ∧ Fr [] W w' from by
    have := sameItem_any (pushY x true l) (pushY x true l) u u' W W.heap.size sa.out sa.out (Nat.le_refl _) h k
    rw [sameI_refl] at this
    exact this))
  have ST := Lib.hid (fun (W : World) A c A' c' h k => (show Calls Tryz.prog 28 #[.slice A l.length c, .slice A' l.length c'] W fun e w' => e = .returned (.bool true) ∧ Fr [] W w' from by
    have := sameTexts_any l l A A' c c' W.heap.size W hl' hl' (Nat.le_refl _) h k
    rw [show sameT l l = true from by simp [sameT]] at this
    exact this))
  have SZ := Lib.hid (fun (W : World) A c A' c' D d D' d' (h : Sl W W.heap.size 2 (.slice A p.length c) p.length (pairsV p)) (h' : Sl W W.heap.size 2 (.slice A' q.length c') q.length (scoresV q)) (k : Sl W W.heap.size 2 (.slice D p.length d) p.length (pairsV p)) (k' : Sl W W.heap.size 2 (.slice D' q.length d') q.length (scoresV q)) =>
    (show Calls Tryz.prog 12 #[.agg #[.int .i64 0, .string ⟨#[]⟩, .slice none 0 0, .slice A p.length c, .slice A' q.length c'], .agg #[.int .i64 0, .string ⟨#[]⟩, .slice none 0 0, .slice D p.length d, .slice D' q.length d']] W fun e w' => e = .returned (.bool true) ∧ Fr [] W w' from by
    have sz : Itm.Small ⟨0, ⟨#[]⟩, [], p, q⟩ := ⟨by show -9223372036854775808 ≤ (0 : Int) ∧ (0 : Int) ≤ 9223372036854775807; decide, by show (⟨#[]⟩ : ByteArray).size ≤ _; decide, by show ([] : List ByteArray).length ≤ _; decide, by show p.length ≤ _; omega, by show q.length ≤ _; omega, (fun s hs => by cases hs), hsp, hsq⟩
    have := sameItem_any ⟨0, ⟨#[]⟩, [], p, q⟩ ⟨0, ⟨#[]⟩, [], p, q⟩ _ _ W W.heap.size sz sz (Nat.le_refl _) ⟨none, 0, A, c, A', c', rfl, Sl.nil _ _ _, h, h'⟩ ⟨none, 0, D, d, D', d', rfl, Sl.nil _ _ _, k, k'⟩
    rw [sameI_refl] at this
    exact this))
  clear hx2 hx1 hs hsp hsq
  generalize pushY x true l = ya at *
  generalize popY x false = yb at *
  generalize ofL (rangeA x 0 (-1)) = yc at *
  generalize remY x ⟨#[97]⟩ = yd at *
  generalize add3Y x l = yf at *
  generalize remOfY 3 x l = yg at *
  generalize putY x p = yh at *
  generalize dropY x l = yk at *
  generalize put5Y x q = yn at *
  generalize drop5Y x l = yo at *
  generalize decAns (encAns x) = yu at *
  generalize rangeA x 0 (-1) = rr at *
  generalize setsR (meetP [x, x].length) [x, x] = rm at *
  generalize setsR joinP [x] = rj at *
  generalize range5 x 0 (-1) = rt at *
  generalize pushK x true l = n1 at *
  generalize pushCode x l = pc at *
  generalize popT x false = t1 at *
  generalize popCode x = c2 at *
  generalize asCode 2 x = c3 at *
  generalize remK x ⟨#[97]⟩ = n4 at *
  generalize add3N x l = n5 at *
  generalize add3 x l = c5 at *
  generalize remOfK 3 x l = n6 at *
  generalize asCode 3 x = c6 at *
  generalize setsCode [x, x] = c7 at *
  generalize setsCode [x] = c8 at *
  generalize putN x p = n9 at *
  generalize putCode x p = c9 at *
  generalize dropN x l = n10 at *
  generalize asCode 4 x = c10 at *
  generalize put5N x q = n11 at *
  generalize put5 x q = c11 at *
  generalize drop5N x l = n12 at *
  generalize asCode 5 x = c12 at *
  generalize decCode (encAns x) = c14 at *
  generalize checkItm x = c13 at *
  generalize encAns x = es0 at *
  have E0 := Lib.hid (Env.start w)
  have E1 := Lib.hid (E0.out.item (h.more hB))
  have E2 := Lib.hid (E1.out.row (hL.more hB))
  have E3 := Lib.hid (E2.out.row (hP.more hB))
  have E4 := Lib.hid (E3.out.row (hQ.more hB))
  obtain ⟨A1, c1, A2, c2', A3, c3', rfl⟩ := h.form
  clear h hL hP hQ
  have E5 := Lib.hid (E4.out.box (.int .i64 x.kind) (.string x.text) (.slice A1 x.list.length c1) (.slice A2 x.pairs.length c2') (.slice A3 x.scores.length c3'))
  have q0 : (pc != pc) = false := by simp
  go_enter Tryz.func3, Tryz.ntmps3
  go_wp2_with fail
  refine (itemBegun_any _).mono ?_
  rintro e w1 ⟨rfl, f1⟩
  have E6 := Lib.hid (E5.out.go f1)
  go_wp2_with fail
  refine (listBegun_any _).mono ?_
  rintro e w2 ⟨rfl, f2⟩
  have E7 := Lib.hid (E6.out.go f2)
  go_wp2_with fail
  refine (setBegun_any _).mono ?_
  rintro e w3 ⟨rfl, f3⟩
  have E8 := Lib.hid (E7.out.go f3)
  go_wp2_with fail
  refine (hashBegun_any _).mono ?_
  rintro e w4 ⟨rfl, f4⟩
  have E9 := Lib.hid (E8.out.go f4)
  go_wp2_with fail
  refine (scoreBegun_any _).mono ?_
  rintro e w5 ⟨rfl, f5⟩
  have E10 := Lib.hid (E9.out.go f5)
  obtain ⟨d0, d1, d2, d3, d4⟩ := five (E10.out.bl _ (.head _))
  go_wp2_with fail
  refine (CI.out _ _ (E10.out.its _ (.head _))).mono ?_
  rintro e w6 ⟨v6, rfl, i6, f6⟩
  have E11 := Lib.hid (E10.out.go f6)
  clear d0 d1 d2 d3 d4
  have E12 := Lib.hid (E11.out.item i6)
  obtain ⟨J1, j1, J2, j2, J3, j3, rfl⟩ := i6.form
  clear i6
  have E13 := Lib.hid (E12.out.alloc (.cells #[] 9))
  go_wp2_with (at_builtin; go_loud (refine wpList_append_fresh _ rfl _ _ 22 rfl 9 i1 _ 1 16 Tryz.underlying22 hi1 hz1 hs1 hb1 rfl (by decide) _ rfl _ _ l.length (textsV l) rfl (E13.out.rs _ (.tail _ (.tail _ (.head _)))) (texts_one _) ?c1 ?c2 ?_))
  case c1 => unfold maxLen; omega
  case c2 => omega
  intro v7 w7 s7 f7
  obtain ⟨D1, d1, rfl, -⟩ := id s7
  have E14 := Lib.hid (E13.out.go f7)
  have E15 := Lib.hid (E14.out.row s7.sl)
  clear s7
  have E16 := Lib.hid (E15.out.alloc (.cells #[] 57))
  go_wp2_with (at_builtin; go_loud (refine wpList_append_fresh _ rfl _ _ 23 rfl 57 i2 _ 2 32 Tryz.underlying23 hi2 hz2 hs2 hb2 rfl (by decide) _ rfl _ _ p.length (pairsV p) rfl (E16.out.rs _ (.tail _ (.tail _ (.head _)))) (pairs_one _) ?c1 ?c2 ?_))
  case c1 => unfold maxLen; omega
  case c2 => omega
  intro v8 w8 s8 f8
  obtain ⟨D2, d2, rfl, -⟩ := id s8
  have E17 := Lib.hid (E16.out.go f8)
  have E18 := Lib.hid (E17.out.row s8.sl)
  clear s8
  have E19 := Lib.hid (E18.out.alloc (.cells #[] 60))
  go_wp2_with (at_builtin; go_loud (refine wpList_append_fresh _ rfl _ _ 24 rfl 60 i3 _ 2 24 Tryz.underlying24 hi3 hz3 hs3 hb3 rfl (by decide) _ rfl _ _ q.length (scoresV q) rfl (E19.out.rs _ (.tail _ (.tail _ (.head _)))) (scores_one _) ?c1 ?c2 ?_))
  case c1 => unfold maxLen; omega
  case c2 => omega
  intro v9 w9 s9 f9
  obtain ⟨D3, d3, rfl, -⟩ := id s9
  have E20 := Lib.hid (E19.out.go f9)
  have E21 := Lib.hid (E20.out.row s9.sl)
  clear s9
  have E22 := Lib.hid (E21.out.box (.int .i64 x.kind) (.string x.text) (.slice J1 x.list.length j1) (.slice J2 x.pairs.length j2) (.slice J3 x.scores.length j3))
  obtain ⟨d0, d1, d2, d3, d4⟩ := five (E22.out.bl _ (.tail _ (.head _)))
  go_wp2_with fail
  refine (PO.out _ _ _ _ (E22.out.its _ (.tail _ (.head _))) (E22.out.rs _ (.tail _ (.tail _ (.tail _ (.tail _ (.tail _ (.head _)))))))).mono ?_
  rintro e w10 ⟨vw, rfl, iw, f10⟩
  have E23 := Lib.hid (E22.out.go f10)
  clear d0 d1 d2 d3 d4
  have E24 := Lib.hid (E23.out.item iw.item)
  obtain ⟨Q1, q1, Q2, q2, Q3, q3, rfl⟩ := iw.form
  clear iw
  have E25 := Lib.hid (E24.out.box (.int .i64 ya.kind) (.string ya.text) (.slice Q1 ya.list.length q1) (.slice Q2 ya.pairs.length q2) (.slice Q3 ya.scores.length q3))
  go_wp2
  have EL := Lib.hid (E25.out)
  obtain ⟨WL, hWL⟩ : ∃ WL, WL = (w10.alloc (.cells #[.int .i64 ya.kind, .string ya.text, .slice Q1 ya.list.length q1, .slice Q2 ya.pairs.length q2, .slice Q3 ya.scores.length q3] 26)) := ⟨_, rfl⟩
  rw [← hWL] at EL
  have HWL := Lib.hid hWL
  have HFL := Lib.hid (show Fr [] WL (w10.alloc (.cells #[.int .i64 ya.kind, .string ya.text, .slice Q1 ya.list.length q1, .slice Q2 ya.pairs.length q2, .slice Q3 ya.scores.length q3] 26)) from hWL ▸ Fr.refl [] WL)
  clear hWL
  go_loopg [16] 2 (fun y i wr => ∃ (k : Nat), y = 2 - k ∧ k ≤ 2 ∧ i = .int .i64 k ∧ Fr [] WL wr)
  case atStart => exact ⟨0, rfl, by omega, rfl, HFL.out⟩
  case round =>
  obtain ⟨k, rfl, hk, rfl, hf⟩ := hrel
  have HF := Lib.hid hf
  clear hf
  have EM := Lib.hid (EL.out.go HF.out)
  by_cases hlt : k < 2
  ·
    obtain ⟨WR, hWR⟩ : ∃ WR, WR = wr := ⟨_, rfl⟩
    subst hWR
    have E0 := Lib.hid (RE.start EM.out)
    obtain ⟨d0, d1, d2, d3, d4⟩ := five (E0.out.bl _ (.tail _ (.head _)))
    have zz := E0.out.fw.size
    go_wp2_with fail
    refine (PU.out _ _ _ _ (E0.out.its _ (.tail _ (.head _))) (E0.out.rs _ (.tail _ (.tail _ (.head _))))).mono ?_
    rintro e w11 ⟨uv, rfl, iv, f11⟩
    have E1 := Lib.hid (E0.out.go f11)
    clear d0 d1 d2 d3 d4
    have E2 := Lib.hid (E1.out.item iv.item)
    have E3 := Lib.hid (E2.out.out ((WrI.own iv).wide zz (Nat.le_refl _)))
    obtain ⟨P1, p1, P2, p2, P3, p3, rfl⟩ := iv.form
    clear iv zz
    have E4 := Lib.hid (E3.out.box (.int .i64 ya.kind) (.string ya.text) (.slice P1 ya.list.length p1) (.slice P2 ya.pairs.length p2) (.slice P3 ya.scores.length p3))
    obtain ⟨d0, d1, d2, d3, d4⟩ := five (E4.out.bl _ (.head _))
    obtain ⟨g0, g1, g2, g3, g4⟩ := five (E4.out.bl _ (.tail _ (.head _)))
    go_wp2_with fail
    refine (SA.out _ _ _ (E4.out.its _ (.head _)) (E4.out.its _ (.tail _ (.head _)))).mono ?_
    rintro e w12 ⟨rfl, f12⟩
    have E5 := Lib.hid (E4.out.go f12)
    clear d0 d1 d2 d3 d4 g0 g1 g2 g3 g4
    obtain ⟨d0, d1, d2, d3, d4⟩ := five (E5.out.bl _ (.tail _ (.tail _ (.head _))))
    have zz := E5.out.fw.size
    go_wp2_with fail
    refine (PP.out _ _ (E5.out.its _ (.tail _ (.tail _ (.head _))))).mono ?_
    rintro e w13 ⟨uv, rfl, iv, f13⟩
    have E6 := Lib.hid (E5.out.go f13)
    clear d0 d1 d2 d3 d4
    have E7 := Lib.hid (E6.out.item iv.item)
    have E8 := Lib.hid (E7.out.out ((WrI.own iv).wide zz (Nat.le_refl _)))
    obtain ⟨R1, r1, R2, r2, R3, r3, rfl⟩ := iv.form
    clear iv zz
    have E9 := Lib.hid (E8.out.box (.int .i64 yb.kind) (.string yb.text) (.slice R1 yb.list.length r1) (.slice R2 yb.pairs.length r2) (.slice R3 yb.scores.length r3))
    obtain ⟨d0, d1, d2, d3, d4⟩ := five (E9.out.bl _ (.tail _ (.tail _ (.tail _ (.head _)))))
    have zz := E9.out.fw.size
    go_wp2_with fail
    refine (TR.out _ _ (E9.out.its _ (.tail _ (.tail _ (.tail _ (.head _)))))).mono ?_
    rintro e w14 ⟨uv, rfl, iv, f14⟩
    have E10 := Lib.hid (E9.out.go f14)
    clear d0 d1 d2 d3 d4
    have E11 := Lib.hid (E10.out.item iv.item)
    have E12 := Lib.hid (E11.out.out ((WrI.own iv).wide zz (Nat.le_refl _)))
    obtain ⟨S1, s1, S2, s2, S3, s3, rfl⟩ := iv.form
    clear iv zz
    have E13 := Lib.hid (E12.out.box (.int .i64 yc.kind) (.string yc.text) (.slice S1 yc.list.length s1) (.slice S2 yc.pairs.length s2) (.slice S3 yc.scores.length s3))
    obtain ⟨d0, d1, d2, d3, d4⟩ := five (E13.out.bl _ (.tail _ (.tail _ (.tail _ (.tail _ (.head _))))))
    have zz := E13.out.fw.size
    go_wp2_with fail
    refine (RM.out _ _ (E13.out.its _ (.tail _ (.tail _ (.tail _ (.tail _ (.head _))))))).mono ?_
    rintro e w15 ⟨uv, rfl, iv, f15⟩
    have E14 := Lib.hid (E13.out.go f15)
    clear d0 d1 d2 d3 d4
    have E15 := Lib.hid (E14.out.item iv.item)
    have E16 := Lib.hid (E15.out.out ((WrI.own iv).wide zz (Nat.le_refl _)))
    obtain ⟨T1, t1, T2, t2, T3, t3, rfl⟩ := iv.form
    clear iv zz
    have E17 := Lib.hid (E16.out.box (.int .i64 yd.kind) (.string yd.text) (.slice T1 yd.list.length t1) (.slice T2 yd.pairs.length t2) (.slice T3 yd.scores.length t3))
    obtain ⟨d0, d1, d2, d3, d4⟩ := five (E17.out.bl _ (.tail _ (.tail _ (.tail _ (.tail _ (.tail _ (.head _)))))))
    have zz := E17.out.fw.size
    go_wp2_with fail
    refine (RG.out _ _ (E17.out.its _ (.tail _ (.tail _ (.tail _ (.tail _ (.tail _ (.head _)))))))).mono ?_
    rintro e w16 ⟨ur, rfl, or, f16⟩
    have E18 := Lib.hid (E17.out.go f16)
    clear d0 d1 d2 d3 d4
    have E19 := Lib.hid (E18.out.outT ((Wr.own or).wide zz (Nat.le_refl _)))
    clear or zz
    obtain ⟨d0, d1, d2, d3, d4⟩ := five (E19.out.bl _ (.tail _ (.tail _ (.tail _ (.tail _ (.tail _ (.head _)))))))
    have zz := E19.out.fw.size
    go_wp2_with fail
    refine (AD.out _ _ _ _ (E19.out.its _ (.tail _ (.tail _ (.tail _ (.tail _ (.tail _ (.head _))))))) (E19.out.rs _ (.tail _ (.tail _ (.head _))))).mono ?_
    rintro e w17 ⟨uv, rfl, iv, f17⟩
    have E20 := Lib.hid (E19.out.go f17)
    clear d0 d1 d2 d3 d4
    have E21 := Lib.hid (E20.out.item iv.item)
    have E22 := Lib.hid (E21.out.out ((WrI.own iv).wide zz (Nat.le_refl _)))
    obtain ⟨U1, u1, U2, u2, U3, u3, rfl⟩ := iv.form
    clear iv zz
    have E23 := Lib.hid (E22.out.box (.int .i64 yf.kind) (.string yf.text) (.slice U1 yf.list.length u1) (.slice U2 yf.pairs.length u2) (.slice U3 yf.scores.length u3))
    obtain ⟨d0, d1, d2, d3, d4⟩ := five (E23.out.bl _ (.tail _ (.tail _ (.tail _ (.tail _ (.tail _ (.tail _ (.head _))))))))
    have zz := E23.out.fw.size
    go_wp2_with fail
    refine (SR.out _ _ _ _ (E23.out.its _ (.tail _ (.tail _ (.tail _ (.tail _ (.tail _ (.tail _ (.head _)))))))) (E23.out.rs _ (.tail _ (.tail _ (.head _))))).mono ?_
    rintro e w18 ⟨uv, rfl, iv, f18⟩
    have E24 := Lib.hid (E23.out.go f18)
    clear d0 d1 d2 d3 d4
    have E25 := Lib.hid (E24.out.item iv.item)
    have E26 := Lib.hid (E25.out.out ((WrI.own iv).wide zz (Nat.le_refl _)))
    obtain ⟨V1, v1, V2, v2, V3, v3, rfl⟩ := iv.form
    clear iv zz
    have E27 := Lib.hid (E26.out.box (.int .i64 yg.kind) (.string yg.text) (.slice V1 yg.list.length v1) (.slice V2 yg.pairs.length v2) (.slice V3 yg.scores.length v3))
    obtain ⟨d0, d1, d2, d3, d4⟩ := five (E27.out.bl _ (.tail _ (.tail _ (.tail _ (.tail _ (.tail _ (.tail _ (.tail _ (.head _)))))))))
    have E28 := Lib.hid (E27.out.alloc (.cells #[.int .i64 x.kind, .string x.text, .slice J1 x.list.length j1, .slice J2 x.pairs.length j2, .slice J3 x.scores.length j3, .int .i64 x.kind, .string x.text, .slice J1 x.list.length j1, .slice J2 x.pairs.length j2, .slice J3 x.scores.length j3] 26))
    have zz := E28.out.fw.size
    go_wp2_with fail
    refine (ME.out _ _ (slAddr (items_lit2 (E27.out.its _ (.tail _ (.tail _ (.tail _ (.tail _ (.tail _ (.tail _ (.tail _ (.head _))))))))) (E27.out.its _ (.tail _ (.tail _ (.tail _ (.tail _ (.tail _ (.tail _ (.tail _ (.head _)))))))))) (by simp))).mono ?_
    rintro e w19 ⟨um, rfl, om, f19⟩
    have E29 := Lib.hid (E28.out.go f19)
    clear d0 d1 d2 d3 d4
    have E30 := Lib.hid (E29.out.outT ((Wr.own om).wide zz (Nat.le_refl _)))
    clear om zz
    obtain ⟨d0, d1, d2, d3, d4⟩ := five (E30.out.bl _ (.tail _ (.tail _ (.tail _ (.tail _ (.tail _ (.tail _ (.tail _ (.head _)))))))))
    have E31 := Lib.hid (E30.out.alloc (.cells #[.int .i64 x.kind, .string x.text, .slice J1 x.list.length j1, .slice J2 x.pairs.length j2, .slice J3 x.scores.length j3] 26))
    have zz := E31.out.fw.size
    go_wp2_with fail
    refine (JO.out _ _ (items_lit1 (E30.out.its _ (.tail _ (.tail _ (.tail _ (.tail _ (.tail _ (.tail _ (.tail _ (.head _))))))))))).mono ?_
    rintro e w20 ⟨uj, rfl, oj, f20⟩
    have E32 := Lib.hid (E31.out.go f20)
    clear d0 d1 d2 d3 d4
    have E33 := Lib.hid (E32.out.outT ((Wr.own oj).wide zz (Nat.le_refl _)))
    clear oj zz
    obtain ⟨d0, d1, d2, d3, d4⟩ := five (E33.out.bl _ (.tail _ (.tail _ (.tail _ (.tail _ (.tail _ (.tail _ (.tail _ (.head _)))))))))
    have zz := E33.out.fw.size
    go_wp2_with fail
    refine (HP.out _ _ _ _ (E33.out.its _ (.tail _ (.tail _ (.tail _ (.tail _ (.tail _ (.tail _ (.tail _ (.head _))))))))) (E33.out.rs _ (.tail _ (.head _)))).mono ?_
    rintro e w21 ⟨uv, rfl, iv, f21⟩
    have E34 := Lib.hid (E33.out.go f21)
    clear d0 d1 d2 d3 d4
    have E35 := Lib.hid (E34.out.item iv.item)
    have E36 := Lib.hid (E35.out.out ((WrI.own iv).wide zz (Nat.le_refl _)))
    obtain ⟨X1, x1, X2, x2, X3, x3, rfl⟩ := iv.form
    clear iv zz
    have E37 := Lib.hid (E36.out.box (.int .i64 yh.kind) (.string yh.text) (.slice X1 yh.list.length x1) (.slice X2 yh.pairs.length x2) (.slice X3 yh.scores.length x3))
    obtain ⟨d0, d1, d2, d3, d4⟩ := five (E37.out.bl _ (.tail _ (.tail _ (.tail _ (.tail _ (.tail _ (.tail _ (.tail _ (.tail _ (.head _))))))))))
    have zz := E37.out.fw.size
    go_wp2_with fail
    refine (HD.out _ _ _ _ (E37.out.its _ (.tail _ (.tail _ (.tail _ (.tail _ (.tail _ (.tail _ (.tail _ (.tail _ (.head _)))))))))) (E37.out.rs _ (.tail _ (.tail _ (.head _))))).mono ?_
    rintro e w22 ⟨uv, rfl, iv, f22⟩
    have E38 := Lib.hid (E37.out.go f22)
    clear d0 d1 d2 d3 d4
    have E39 := Lib.hid (E38.out.item iv.item)
    have E40 := Lib.hid (E39.out.out ((WrI.own iv).wide zz (Nat.le_refl _)))
    obtain ⟨Y1, y1, Y2, y2, Y3, y3, rfl⟩ := iv.form
    clear iv zz
    have E41 := Lib.hid (E40.out.box (.int .i64 yk.kind) (.string yk.text) (.slice Y1 yk.list.length y1) (.slice Y2 yk.pairs.length y2) (.slice Y3 yk.scores.length y3))
    obtain ⟨d0, d1, d2, d3, d4⟩ := five (E41.out.bl _ (.tail _ (.tail _ (.tail _ (.tail _ (.tail _ (.tail _ (.tail _ (.tail _ (.tail _ (.head _)))))))))))
    have zz := E41.out.fw.size
    go_wp2_with fail
    refine (SP.out _ _ _ _ (E41.out.its _ (.tail _ (.tail _ (.tail _ (.tail _ (.tail _ (.tail _ (.tail _ (.tail _ (.tail _ (.head _))))))))))) (E41.out.rs _ (.head _))).mono ?_
    rintro e w23 ⟨uv, rfl, iv, f23⟩
    have E42 := Lib.hid (E41.out.go f23)
    clear d0 d1 d2 d3 d4
    have E43 := Lib.hid (E42.out.item iv.item)
    have E44 := Lib.hid (E43.out.out ((WrI.own iv).wide zz (Nat.le_refl _)))
    obtain ⟨Z1, z1, Z2, z2, Z3, z3, rfl⟩ := iv.form
    clear iv zz
    have E45 := Lib.hid (E44.out.box (.int .i64 yn.kind) (.string yn.text) (.slice Z1 yn.list.length z1) (.slice Z2 yn.pairs.length z2) (.slice Z3 yn.scores.length z3))
    obtain ⟨d0, d1, d2, d3, d4⟩ := five (E45.out.bl _ (.tail _ (.tail _ (.tail _ (.tail _ (.tail _ (.tail _ (.tail _ (.tail _ (.tail _ (.tail _ (.head _))))))))))))
    have zz := E45.out.fw.size
    go_wp2_with fail
    refine (SD.out _ _ _ _ (E45.out.its _ (.tail _ (.tail _ (.tail _ (.tail _ (.tail _ (.tail _ (.tail _ (.tail _ (.tail _ (.tail _ (.head _)))))))))))) (E45.out.rs _ (.tail _ (.tail _ (.head _))))).mono ?_
    rintro e w24 ⟨uv, rfl, iv, f24⟩
    have E46 := Lib.hid (E45.out.go f24)
    clear d0 d1 d2 d3 d4
    have E47 := Lib.hid (E46.out.item iv.item)
    have E48 := Lib.hid (E47.out.out ((WrI.own iv).wide zz (Nat.le_refl _)))
    obtain ⟨M1, m1, M2, m2, M3, m3, rfl⟩ := iv.form
    clear iv zz
    have E49 := Lib.hid (E48.out.box (.int .i64 yo.kind) (.string yo.text) (.slice M1 yo.list.length m1) (.slice M2 yo.pairs.length m2) (.slice M3 yo.scores.length m3))
    obtain ⟨d0, d1, d2, d3, d4⟩ := five (E49.out.bl _ (.tail _ (.tail _ (.tail _ (.tail _ (.tail _ (.tail _ (.tail _ (.tail _ (.tail _ (.tail _ (.tail _ (.head _)))))))))))))
    have zz := E49.out.fw.size
    go_wp2_with fail
    refine (SG.out _ _ (E49.out.its _ (.tail _ (.tail _ (.tail _ (.tail _ (.tail _ (.tail _ (.tail _ (.tail _ (.tail _ (.tail _ (.tail _ (.head _)))))))))))))).mono ?_
    rintro e w25 ⟨ut, rfl, ot, f25⟩
    have E50 := Lib.hid (E49.out.go f25)
    clear d0 d1 d2 d3 d4
    have E51 := Lib.hid (E50.out.outT ((Wr.own ot).wide zz (Nat.le_refl _)))
    clear ot zz
    obtain ⟨d0, d1, d2, d3, d4⟩ := five (E51.out.bl _ (.tail _ (.tail _ (.tail _ (.tail _ (.tail _ (.tail _ (.tail _ (.tail _ (.tail _ (.tail _ (.tail _ (.head _)))))))))))))
    go_wp2_with fail
    refine (EN.out _ _ (E51.out.its _ (.tail _ (.tail _ (.tail _ (.tail _ (.tail _ (.tail _ (.tail _ (.tail _ (.tail _ (.tail _ (.tail _ (.head _)))))))))))))).mono ?_
    rintro e w26 ⟨rfl, f26⟩
    have E52 := Lib.hid (E51.out.go f26)
    clear d0 d1 d2 d3 d4
    have zz := E52.out.fw.size
    go_wp2_with fail
    refine (DE.out _).mono ?_
    rintro e w27 ⟨uv, rfl, iv, f27⟩
    have E53 := Lib.hid (E52.out.go f27)
    have E54 := Lib.hid (E53.out.item iv.item)
    have E55 := Lib.hid (E54.out.out ((WrI.own iv).wide zz (Nat.le_refl _)))
    obtain ⟨N1, n1', N2, n2', N3, n3', rfl⟩ := iv.form
    clear iv zz
    have E56 := Lib.hid (E55.out.box (.int .i64 yu.kind) (.string yu.text) (.slice N1 yu.list.length n1') (.slice N2 yu.pairs.length n2') (.slice N3 yu.scores.length n3'))
    obtain ⟨d0, d1, d2, d3, d4⟩ := five (E56.out.bl _ (.tail _ (.tail _ (.tail _ (.tail _ (.tail _ (.tail _ (.tail _ (.tail _ (.tail _ (.tail _ (.tail _ (.tail _ (.head _))))))))))))))
    obtain ⟨g0, g1, g2, g3, g4⟩ := five (E56.out.bl _ (.tail _ (.tail _ (.tail _ (.tail _ (.tail _ (.tail _ (.tail _ (.tail _ (.tail _ (.tail _ (.tail _ (.tail _ (.tail _ (.head _)))))))))))))))
    go_wp2_with fail
    refine (SX.out _ _ _ (E56.out.its _ (.tail _ (.tail _ (.tail _ (.tail _ (.tail _ (.tail _ (.tail _ (.tail _ (.tail _ (.tail _ (.tail _ (.tail _ (.head _)))))))))))))) (E56.out.its _ (.tail _ (.tail _ (.tail _ (.tail _ (.tail _ (.tail _ (.tail _ (.tail _ (.tail _ (.tail _ (.tail _ (.tail _ (.tail _ (.head _)))))))))))))))).mono ?_
    rintro e w28 ⟨rfl, f28⟩
    have E57 := Lib.hid (E56.out.go f28)
    clear d0 d1 d2 d3 d4 g0 g1 g2 g3 g4
    go_wp2_with fail
    refine (ST.out _ _ _ _ _ (E57.out.rs _ (.tail _ (.tail _ (.head _)))) (E57.out.rs _ (.tail _ (.tail _ (.tail _ (.tail _ (.tail _ (.head _)))))))).mono ?_
    rintro e w29 ⟨rfl, f29⟩
    have E58 := Lib.hid (E57.out.go f29)
    go_wp2_with fail
    refine (SZ.out _ _ _ _ _ _ _ _ _ (E58.out.rs _ (.tail _ (.head _))) (E58.out.rs _ (.head _)) (E58.out.rs _ (.tail _ (.tail _ (.tail _ (.tail _ (.head _)))))) (E58.out.rs _ (.tail _ (.tail _ (.tail _ (.head _)))))).mono ?_
    rintro e w30 ⟨rfl, f30⟩
    have E59 := Lib.hid (E58.out.go f30)
    obtain ⟨m0_0, m0_1, m0_2, m0_3, m0_4⟩ := five (E59.out.bl _ (.tail _ (.tail _ (.tail _ (.tail _ (.tail _ (.tail _ (.tail _ (.tail _ (.tail _ (.tail _ (.head _))))))))))))
    obtain ⟨m1_0, m1_1, m1_2, m1_3, m1_4⟩ := five (E59.out.bl _ (.tail _ (.tail _ (.tail _ (.tail _ (.tail _ (.tail _ (.tail _ (.tail _ (.tail _ (.head _)))))))))))
    obtain ⟨m2_0, m2_1, m2_2, m2_3, m2_4⟩ := five (E59.out.bl _ (.tail _ (.tail _ (.tail _ (.tail _ (.tail _ (.tail _ (.tail _ (.tail _ (.head _))))))))))
    obtain ⟨m3_0, m3_1, m3_2, m3_3, m3_4⟩ := five (E59.out.bl _ (.tail _ (.tail _ (.tail _ (.tail _ (.tail _ (.tail _ (.tail _ (.head _)))))))))
    obtain ⟨m4_0, m4_1, m4_2, m4_3, m4_4⟩ := five (E59.out.bl _ (.tail _ (.tail _ (.tail _ (.tail _ (.tail _ (.tail _ (.head _))))))))
    obtain ⟨m5_0, m5_1, m5_2, m5_3, m5_4⟩ := five (E59.out.bl _ (.tail _ (.tail _ (.tail _ (.tail _ (.tail _ (.head _)))))))
    obtain ⟨m6_0, m6_1, m6_2, m6_3, m6_4⟩ := five (E59.out.bl _ (.tail _ (.tail _ (.tail _ (.tail _ (.head _))))))
    obtain ⟨m7_0, m7_1, m7_2, m7_3, m7_4⟩ := five (E59.out.bl _ (.tail _ (.tail _ (.tail _ (.head _)))))
    obtain ⟨m8_0, m8_1, m8_2, m8_3, m8_4⟩ := five (E59.out.bl _ (.tail _ (.tail _ (.head _))))
    obtain ⟨m9_0, m9_1, m9_2, m9_3, m9_4⟩ := five (E59.out.bl _ (.tail _ (.head _)))
    obtain ⟨m10_0, m10_1, m10_2, m10_3, m10_4⟩ := five (E59.out.bl _ (.head _))
    obtain ⟨vs, hvs⟩ : ∃ vs : List Value, vs = [.int .i64 ya.kind, .string ya.text, .slice P1 ya.list.length p1, .slice P2 ya.pairs.length p2, .slice P3 ya.scores.length p3, .int .i64 yb.kind, .string yb.text, .slice R1 yb.list.length r1, .slice R2 yb.pairs.length r2, .slice R3 yb.scores.length r3, .int .i64 yc.kind, .string yc.text, .slice S1 yc.list.length s1, .slice S2 yc.pairs.length s2, .slice S3 yc.scores.length s3, .int .i64 yd.kind, .string yd.text, .slice T1 yd.list.length t1, .slice T2 yd.pairs.length t2, .slice T3 yd.scores.length t3, .int .i64 yf.kind, .string yf.text, .slice U1 yf.list.length u1, .slice U2 yf.pairs.length u2, .slice U3 yf.scores.length u3, .int .i64 yg.kind, .string yg.text, .slice V1 yg.list.length v1, .slice V2 yg.pairs.length v2, .slice V3 yg.scores.length v3, .int .i64 yh.kind, .string yh.text, .slice X1 yh.list.length x1, .slice X2 yh.pairs.length x2, .slice X3 yh.scores.length x3, .int .i64 yk.kind, .string yk.text, .slice Y1 yk.list.length y1, .slice Y2 yk.pairs.length y2, .slice Y3 yk.scores.length y3, .int .i64 yn.kind, .string yn.text, .slice Z1 yn.list.length z1, .slice Z2 yn.pairs.length z2, .slice Z3 yn.scores.length z3, .int .i64 yo.kind, .string yo.text, .slice M1 yo.list.length m1, .slice M2 yo.pairs.length m2, .slice M3 yo.scores.length m3, .int .i64 yu.kind, .string yu.text, .slice N1 yu.list.length n1', .slice N2 yu.pairs.length n2', .slice N3 yu.scores.length n3'] := ⟨_, rfl⟩
    have AL := Lib.hid (show AllI w30 w30.heap.size WR.heap.size w30.heap.size [ya, yb, yc, yd, yf, yg, yh, yk, yn, yo, yu] vs from hvs ▸ (AllI.cons (E59.out.wis _ (.tail _ (.tail _ (.tail _ (.tail _ (.tail _ (.tail _ (.tail _ (.tail _ (.tail _ (.tail _ (.head _)))))))))))) (AllI.cons (E59.out.wis _ (.tail _ (.tail _ (.tail _ (.tail _ (.tail _ (.tail _ (.tail _ (.tail _ (.tail _ (.head _))))))))))) (AllI.cons (E59.out.wis _ (.tail _ (.tail _ (.tail _ (.tail _ (.tail _ (.tail _ (.tail _ (.tail _ (.head _)))))))))) (AllI.cons (E59.out.wis _ (.tail _ (.tail _ (.tail _ (.tail _ (.tail _ (.tail _ (.tail _ (.head _))))))))) (AllI.cons (E59.out.wis _ (.tail _ (.tail _ (.tail _ (.tail _ (.tail _ (.tail _ (.head _)))))))) (AllI.cons (E59.out.wis _ (.tail _ (.tail _ (.tail _ (.tail _ (.tail _ (.head _))))))) (AllI.cons (E59.out.wis _ (.tail _ (.tail _ (.tail _ (.tail _ (.head _)))))) (AllI.cons (E59.out.wis _ (.tail _ (.tail _ (.tail _ (.head _))))) (AllI.cons (E59.out.wis _ (.tail _ (.tail _ (.head _)))) (AllI.cons (E59.out.wis _ (.tail _ (.head _))) (AllI.cons (E59.out.wis _ (.head _)) (AllI.nil w30 w30.heap.size WR.heap.size w30.heap.size)))))))))))))
    have SMS : Hid (∀ y ∈ [ya, yb, yc, yd, yf, yg, yh, yk, yn, yo, yu], y.Small) := Lib.hid (fun y hy => by
      simp at hy
      rcases hy with rfl | rfl | rfl | rfl | rfl | rfl | rfl | rfl | rfl | rfl | rfl
      · exact sa.out
      · exact sb.out
      · exact sc.out
      · exact sd.out
      · exact sf.out
      · exact sg.out
      · exact sh.out
      · exact sk.out
      · exact sn.out
      · exact so.out
      · exact su.out)
    have WH := Lib.hid (show Whole (w30.alloc (.cells vs.toArray 26)) w30.heap.size 26 vs from Whole.new w30 _ _)
    have HVS := Lib.hid hvs
    have FB := Lib.hid (E59.out.fw)
    have zb := E59.out.fw.size
    have Tr := Lib.hid (E59.out.wtr _ (.tail _ (.tail _ (.tail _ (.head _)))))
    have Tm := Lib.hid (E59.out.wtr _ (.tail _ (.tail _ (.head _))))
    have Tj := Lib.hid (E59.out.wtr _ (.tail _ (.head _)))
    have Tt := Lib.hid (E59.out.wtr _ (.head _))
    have F0 := Lib.hid ((Fr.refl [] w30).alloc (.cells vs.toArray 26))
    clear hvs
    go_wp2
    obtain ⟨ys, hys⟩ : ∃ ys, ys = [ya, yb, yc, yd, yf, yg, yh, yk, yn, yo, yu] := ⟨_, rfl⟩
    rw [← hys] at AL SMS
    have hyl : ys.length = 11 := by rw [hys]; rfl
    have YL := Lib.hid hyl
    clear hys hyl m0_0 m0_1 m0_2 m0_3 m0_4 m1_0 m1_1 m1_2 m1_3 m1_4 m2_0 m2_1 m2_2 m2_3 m2_4 m3_0 m3_1 m3_2 m3_3 m3_4 m4_0 m4_1 m4_2 m4_3 m4_4 m5_0 m5_1 m5_2 m5_3 m5_4 m6_0 m6_1 m6_2 m6_3 m6_4 m7_0 m7_1 m7_2 m7_3 m7_4 m8_0 m8_1 m8_2 m8_3 m8_4 m9_0 m9_1 m9_2 m9_3 m9_4 m10_0 m10_1 m10_2 m10_3 m10_4
    rw [show (#[.int .i64 ya.kind, .string ya.text, .slice P1 ya.list.length p1, .slice P2 ya.pairs.length p2, .slice P3 ya.scores.length p3, .int .i64 yb.kind, .string yb.text, .slice R1 yb.list.length r1, .slice R2 yb.pairs.length r2, .slice R3 yb.scores.length r3, .int .i64 yc.kind, .string yc.text, .slice S1 yc.list.length s1, .slice S2 yc.pairs.length s2, .slice S3 yc.scores.length s3, .int .i64 yd.kind, .string yd.text, .slice T1 yd.list.length t1, .slice T2 yd.pairs.length t2, .slice T3 yd.scores.length t3, .int .i64 yf.kind, .string yf.text, .slice U1 yf.list.length u1, .slice U2 yf.pairs.length u2, .slice U3 yf.scores.length u3, .int .i64 yg.kind, .string yg.text, .slice V1 yg.list.length v1, .slice V2 yg.pairs.length v2, .slice V3 yg.scores.length v3, .int .i64 yh.kind, .string yh.text, .slice X1 yh.list.length x1, .slice X2 yh.pairs.length x2, .slice X3 yh.scores.length x3, .int .i64 yk.kind, .string yk.text, .slice Y1 yk.list.length y1, .slice Y2 yk.pairs.length y2, .slice Y3 yk.scores.length y3, .int .i64 yn.kind, .string yn.text, .slice Z1 yn.list.length z1, .slice Z2 yn.pairs.length z2, .slice Z3 yn.scores.length z3, .int .i64 yo.kind, .string yo.text, .slice M1 yo.list.length m1, .slice M2 yo.pairs.length m2, .slice M3 yo.scores.length m3, .int .i64 yu.kind, .string yu.text, .slice N1 yu.list.length n1', .slice N2 yu.pairs.length n2', .slice N3 yu.scores.length n3'] : Array Value) = vs.toArray from by rw [HVS.out]]
    go_loopg [59] 11 (fun y i wy => ∃ (j : Nat), y = 11 - j ∧ j ≤ 11 ∧ i = .int .i64 j ∧ Kp w30 wy ∧ Fr (Sp WR.heap.size w30.heap.size) w30 wy ∧ Whole wy w30.heap.size 26 vs)
    case atStart => exact ⟨0, rfl, by omega, rfl, Kp.fr F0.out, F0.out.up, WH.out⟩
    case round =>
    obtain ⟨j, rfl, hj, rfl, hkp, hfy, hwh⟩ := hrel
    have KP := Lib.hid hkp
    have FY := Lib.hid hfy
    have HW := Lib.hid hwh
    have hlw := hwh.lt
    have zy := hfy.size
    clear hkp hfy hwh
    by_cases hlj : j < 11
    · obtain ⟨y, hy⟩ : ∃ y, ys[j]? = some y := ⟨_, List.getElem?_eq_getElem (by rw [YL.out]; exact hlj)⟩
      have sy := Lib.hid (SMS.out y (List.mem_of_getElem? hy))
      obtain ⟨G1, g1, G2, g2, G3, g3, hw, e0, e1, e2, e3, e4⟩ := AL.out j y hy
      have WY := Lib.hid (hw.kp KP.out)
      clear hw hy
      have d0 := (HW.out.cell _).trans e0
      have d1 := (HW.out.cell _).trans e1
      have d2 := (HW.out.cell _).trans e2
      have d3 := (HW.out.cell _).trans e3
      have d4 := (HW.out.cell _).trans e4
      clear e0 e1 e2 e3 e4
      go_wp2_with fail
      refine (spoilItem_any y _ WR.heap.size w30.heap.size _ sy.out (by omega) WY.out).mono ?_
      rintro e wz ⟨rfl, kz, fz⟩
      have KZ := Lib.hid kz
      have FZ := Lib.hid fz
      clear kz fz d0 d1 d2 d3 d4
      go_wp2
      go_roundg (11 - (j + 1))
      case measure => omega
      case rel => exact ⟨j + 1, rfl, by omega, by go_num, KP.out.trans KZ.out, FY.out.trans FZ.out, HW.out.fr FZ.out (sp_off (Nat.le_refl _))⟩
    obtain rfl : j = 11 := by omega
    have FW := Lib.hid (fr_sp FB.out (Nat.le_refl _) FY.out)
    go_wp2_with fail
    refine (spoilTexts_any _ _ WR.heap.size w30.heap.size _ lr (Tr.out.kp KP.out)).mono ?_
    rintro e wt0 ⟨rfl, kt, ft⟩
    have K0 := Lib.hid (KP.out.trans kt)
    have F1 := Lib.hid (fr_sp FW.out (Nat.le_refl _) ft)
    clear kt ft
    go_wp2_with fail
    refine (spoilTexts_any _ _ WR.heap.size w30.heap.size _ lm (Tm.out.kp K0.out)).mono ?_
    rintro e wt1 ⟨rfl, kt, ft⟩
    have K1 := Lib.hid (K0.out.trans kt)
    have F2 := Lib.hid (fr_sp F1.out (Nat.le_refl _) ft)
    clear kt ft
    go_wp2_with fail
    refine (spoilTexts_any _ _ WR.heap.size w30.heap.size _ lj (Tj.out.kp K1.out)).mono ?_
    rintro e wt2 ⟨rfl, kt, ft⟩
    have K2 := Lib.hid (K1.out.trans kt)
    have F3 := Lib.hid (fr_sp F2.out (Nat.le_refl _) ft)
    clear kt ft
    go_wp2_with fail
    refine (spoilTexts_any _ _ WR.heap.size w30.heap.size _ lt (Tt.out.kp K2.out)).mono ?_
    rintro e wt3 ⟨rfl, kt, ft⟩
    have K3 := Lib.hid (K2.out.trans kt)
    have F4 := Lib.hid (fr_sp F3.out (Nat.le_refl _) ft)
    clear kt ft
    go_wp2
    go_roundg (2 - (k + 1))
    case measure => omega
    case rel => exact ⟨k + 1, rfl, by omega, by go_num, HF.out.trans F4.out⟩
  obtain rfl : k = 2 := by omega
  go_wp2
  go_ret
  exact ⟨rfl, EM.out.f⟩
end Go.Proofs.YtkgbgmfidkimfaaGreat
