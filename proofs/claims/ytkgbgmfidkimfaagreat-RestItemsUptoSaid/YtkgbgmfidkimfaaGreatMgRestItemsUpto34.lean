/- The walks of score.Put and score.Drop. (Printed by scores2.py.) -/
import Derived.Test.YtkgbgmfidkimfaaGreatMgRestItemsUpto33
import Derived.Deep.RegionHeld3
import Derived.IntWalk
set_option linter.unusedVariables false
set_option linter.unusedSimpArgs false
namespace Go.Proofs.YtkgbgmfidkimfaaGreat
open Go.RowKit

theorem insCells_scores (l : List (Int × ByteArray)) (p : Int × ByteArray) (i : Nat) : insCells (scoresV l) [.int .i64 p.1, .string p.2] (i * 2) = scoresV (l.take i ++ p :: l.drop i) := by
  have h : scoresV l = scoresV (l.take i) ++ scoresV (l.drop i) := by rw [← scoresV_append, List.take_append_drop]
  have hd : (scoresV l).drop (i * 2) = scoresV (l.drop i) := by
    have e := List.take_append_drop (i * 2) (scoresV l)
    rw [scoresV_take] at e
    exact List.append_cancel_left (e.trans h)
  unfold insCells
  rw [scoresV_take, hd, show p :: l.drop i = [p] ++ l.drop i from rfl, scoresV_append, scoresV_append]
  simp [scoresV]
theorem delCells_scores (l : List (Int × ByteArray)) (i : Nat) : (scoresV l).take (i * 2) ++ (scoresV l).drop ((i + 1) * 2) = scoresV (l.take i ++ l.drop (i + 1)) := by
  have h : scoresV l = scoresV (l.take (i + 1)) ++ scoresV (l.drop (i + 1)) := by rw [← scoresV_append, List.take_append_drop]
  have hd : (scoresV l).drop ((i + 1) * 2) = scoresV (l.drop (i + 1)) := by
    have e := List.take_append_drop ((i + 1) * 2) (scoresV l)
    rw [scoresV_take] at e
    exact List.append_cancel_left (e.trans h)
  rw [scoresV_take, hd, scoresV_append]

set_option maxHeartbeats 4000000 in
set_option maxRecDepth 100000 in
theorem scorePut_any (x : Itm) (v : Value) (l : List (Int × ByteArray)) (Al : Option Addr) (cl : Nat) (w : World) (B : Nat) (hs : x.Small) (hB : B ≤ w.heap.size) (h : ItemV w B v x) (hl : (24 + l.length) * 24 ≤ 140737488355328) (hL : Sl w B 2 (.slice Al l.length cl) l.length (scoresV l)) :
    Calls Tryz.prog 23 #[v, .slice Al l.length cl] w (INPost (put5N x l) (put5 x l) (put5Y x l) w) := by
  have RD := Lib.hid (fun W (hf : Fr [] w W) => ready5_any x v W B hs (Nat.le_trans hB hf.size) (h.fr hf hB (by simp)))
  have SM := Lib.hid (fun W (hf : Fr [] w W) => scoreSome_any l Al cl W B (by omega) (Nat.le_trans hB hf.size) (hL.fr hf hB (by simp)))
  have HL := Lib.hid hL
  obtain ⟨A1, c1, A2, c2, A3, c3, rfl, h1, h2, h3⟩ := h
  have H3 := Lib.hid h3
  have D0 := Lib.hid (BO.new w (.int .i64 x.kind) (.string x.text) (.slice A1 x.list.length c1) (.slice A2 x.pairs.length c2) (.slice A3 x.scores.length c3))
  obtain ⟨d0, d1, d2, d3, d4⟩ := five D0.out.b
  have EC := Lib.hid (show put5 x l = if pre5 x l ≠ 0 then pre5 x l else if 24 < (putF5 x l).length then 2 else 0 from rfl)
  have EP := Lib.hid (show pre5 x l = if asCode 5 x ≠ 0 then asCode 5 x else scsCode l from rfl)
  have EY := Lib.hid (show put5Y x l = if put5 x l = 0 then ofC (putF5 x l) else newI 0 from rfl)
  have EK := Lib.hid (show put5N x l = if put5 x l = 0 then ((putF5 x l).length : Int) - x.scores.length else 0 from rfl)
  clear h1 h2 h3 hs hL
  have no0 : ∀ c : Int, c ≠ 0 → put5 x l = c → put5Y x l = newI 0 ∧ put5N x l = 0 := fun c hc he => by
    have h0 : put5 x l ≠ 0 := by rw [he]; exact hc
    exact ⟨by rw [EY.out, if_neg h0], by rw [EK.out, if_neg h0]⟩
  have NO := Lib.hid no0
  clear no0
  by_cases ha : asCode 5 x = 0
  · rw [ha] at RD
    by_cases hb : scsCode l = 0
    · have NL := Lib.hid (scsCode_ok hb).2
      have OK0 := Lib.hid (scores_ok ha)
      have hx24 := OK0.out.2
      have hp : pre5 x l = 0 := by rw [EP.out, if_neg (by simpa using ha)]; exact hb
      rw [hb] at SM
      have CL := Lib.hid (fun W (hW : Fr [] w W) => cloneC_row x.scores.length (scoresV x.scores) A3 c3 W B (by omega) (Nat.le_trans hB hW.size) (H3.out.fr hW hB (by simp)) (scores_one _))
      have E0 := Lib.hid (show put5 x l = if 24 < (putF5 x l).length then 2 else 0 from by rw [EC.out, if_neg (by simpa using hp)])
      have PFO := Lib.hid (putF5_ok hp)
      clear ha hb hp EC EP
      go_enter Tryz.func23, Tryz.ntmps23
      go_wp2_with fail
      refine (RD.out _ D0.out.f).mono ?_
      rintro e w1 ⟨rfl, f1⟩
      have D1 := Lib.hid (D0.out.go f1)
      clear d0 d1 d2 d3 d4
      go_wp2_with fail
      refine (SM.out _ D1.out.f).mono ?_
      rintro e w2 ⟨rfl, f2⟩
      have D2 := Lib.hid (D1.out.go f2)
      have hz2 := D2.out.lt
      obtain ⟨d0, d1, d2, d3, d4⟩ := five D2.out.b
      go_wp2_with fail
      refine (CL.out _ D2.out.f).mono ?_
      rintro e w3 ⟨u, rfl, ho, f3⟩
      have D3 := Lib.hid (D2.out.go f3)
      have HO3 := Lib.hid (own_base ho (show w.heap.size + 2 ≤ w2.heap.size by omega))
      clear d0 d1 d2 d3 d4 ho SM RD CL
      go_wp2
      go_loopg [8, 29] l.length (fun g o i wr => ∃ (k : Nat) (cur : List (Int × ByteArray)), g = l.length - k ∧ k ≤ l.length ∧ i = .int .i64 k ∧ Hid (cur = (l.take k).foldl putC x.scores) ∧ wr.ownsRow (w.heap.size + 2) 60 2 o cur.length (scoresV cur) ∧ BO w 1 [.int .i64 x.kind, .string x.text, .slice A1 x.list.length c1, .slice A2 x.pairs.length c2, .slice A3 x.scores.length c3] wr)
      case atStart => exact ⟨0, x.scores, rfl, Nat.zero_le _, rfl, Lib.hid rfl, HO3.out, D3.out⟩
      case round =>
        obtain ⟨k, cur, rfl, hk, rfl, hcur, hO, hD⟩ := hrel
        have D4 := Lib.hid hD
        have HO4 := Lib.hid hO
        have OKC := Lib.hid (show ScOk cur from by rw [hcur.out]; exact ScOk.fold _ OK0.out.1 (fun s hs => NL.out s (List.mem_of_mem_take hs)))
        have hcl : cur.length ≤ 24 + k := by
          have := foldC_len (l.take k) x.scores
          rw [← hcur.out, List.length_take] at this
          omega
        obtain ⟨A, c, rfl, hA, hc1, hc2⟩ := own_slice hO
        have hz4 := D4.out.lt
        clear hO hD hA
        by_cases hlt : k < l.length
        · obtain ⟨b, off, rfl, hb, hlc, hlm, hcell⟩ := HL.out.at_ (by omega)
          obtain ⟨p, hp⟩ : ∃ p, l[k]? = some p := ⟨_, List.getElem?_eq_getElem hlt⟩
          have x1 : wr.cell? ⟨b, off + 2 * k, none⟩ = some (.int .i64 p.1) := D4.out.f.cell (hcell _ _ (scoresV_get l k p hp).1) (by simp)
          have x2 : wr.cell? ⟨b, off + 2 * k + 1, none⟩ = some (.string p.2) := D4.out.f.cell (hcell _ _ (scoresV_get l k p hp).2) (by simp)
          rw [Nat.mul_comm 2 k] at x1 x2
          have F1 := Lib.hid ((Fr.refl [] wr).alloc (.cells #[.int .i64 p.1, .string p.2] 60))
          have V1 := Lib.hid (Whole.new wr 60 [.int .i64 p.1, .string p.2])
          have PL := Lib.hid (fun W (hW : Fr [] wr W) => place_any cur p.2 A c wr.heap.size W (by omega) hW.size ((own_sl HO4.out).fr hW (Nat.le_refl _) (by simp)))
          have HPS := Lib.hid (NL.out p (List.mem_of_getElem? hp))
          have HNX := Lib.hid (show putC cur p = (l.take (k + 1)).foldl putC x.scores from by rw [List.take_add_one, hp, Option.toList_some, List.foldl_append, ← hcur.out]; rfl)
          unfold maxLen at hc2 hlm
          clear hcell hp hcur
          rcases idx_split p.2 cur with ⟨e1, hno⟩ | ⟨i0, s', e1, hi, hm, -⟩
          · rw [e1] at PL
            have EO := Lib.hid (off_none hno)
            clear e1 hno
            go_wp2_with fail
            refine (PL.out _ F1.out).mono ?_
            rintro e w5 ⟨rfl, f5⟩
            have F5 := Lib.hid (F1.out.trans f5)
            have HO5 := Lib.hid (own_fr HO4.out F5.out (by simp))
            have V5 := Lib.hid (V1.out.fr f5 (by simp))
            have D5 := Lib.hid (D4.out.go F5.out)
            have hz5 : wr.heap.size < w5.heap.size := V5.out.lt
            clear f5
            have OKX := Lib.hid (show ScOk (cur) from by rw [← EO.out]; exact OKC.out.off p.2)
            have NOX := Lib.hid (show ∀ q ∈ cur, q.2 ≠ p.2 from by rw [← EO.out]; exact off_no cur p.2)
            have hcu : (cur).length ≤ cur.length := by have := offC_len cur p.2; rw [EO.out] at this; exact this
            have HP := Lib.hid (show putC cur p = (cur).take (lowC (cur) p) ++ p :: (cur).drop (lowC (cur) p) from by unfold putC insC; rw [EO.out])
            have hlow := lowC_le (cur) p
            have v1 : w5.cell? ⟨wr.heap.size, 0, none⟩ = some (.int .i64 p.1) := V5.out.cell 0
            have v2 : w5.cell? ⟨wr.heap.size, 1, none⟩ = some (.string p.2) := V5.out.cell 1
            have BS := Lib.hid (binC_any (cur) p.1 p.2 A c w5.heap.size w5 OKX.out.rise (fun q hq => (OKX.out.ok q hq).1) HPS.out.1 (by omega) (Nat.le_refl _) (own_sl HO5.out))
            rw [show ((p.1, p.2) : Int × ByteArray) = p from rfl] at BS
            generalize hitC (cur) p = hb at *
            go_wp2_with fail
            refine BS.out.mono ?_
            rintro e w7 ⟨rfl, f7⟩
            have V7 := Lib.hid (V5.out.fr f7 (by simp))
            clear v1 v2
            have v1 : w7.cell? ⟨wr.heap.size, 0, none⟩ = some (.int .i64 p.1) := V7.out.cell 0
            have v2 : w7.cell? ⟨wr.heap.size, 1, none⟩ = some (.string p.2) := V7.out.cell 1
            have F8 := Lib.hid ((show Fr [] w5 w7 from f7).alloc (.cells #[.int .i64 p.1, .string p.2] 60))
            have V8 := Lib.hid (Whole.new w7 60 [.int .i64 p.1, .string p.2])
            have HO8 := Lib.hid (own_fr HO5.out F8.out (by simp))
            have D8 := Lib.hid (D5.out.go F8.out)
            have hz8 := D8.out.lt
            have IN := Lib.hid (insC_row (cur).length (lowC (cur) p) (scoresV (cur)) [.int .i64 p.1, .string p.2] (w.heap.size + 2) w7.heap.size (.slice A (cur).length c) _ (by omega) hlow HO8.out (scores_one _) (by intro u hu; simp at hu; rcases hu with rfl | rfl <;> rfl) rfl V8.out (by
              intro e
              have h1 := (HO5.out.lt _ e).2
              have h2 := f7.size
              omega) (by omega))
            generalize lowC (cur) p = i at *
            clear f7 x1 x2
            go_wp2_with fail
            refine IN.out.mono ?_
            rintro e w9 ⟨u9, rfl, ho9, hg9, -⟩
            have D9 := Lib.hid (D8.out.step (fr_ownL hg9) (fun g hg => by have := ownL_base HO8.out hg; omega))
            rw [insCells_scores, ← HP.out] at ho9
            have hl9 : (putC cur p).length = (cur).length + 1 := by
              rw [HP.out, List.length_append, List.length_cons, List.length_take, List.length_drop]; omega
            rw [← hl9] at ho9
            have HO9 := Lib.hid ho9
            clear ho9 hg9
            go_wp2
            go_roundg (l.length - (k + 1))
            case measure => omega
            case rel => exact ⟨k + 1, putC cur p, rfl, by omega, by go_num, HNX.out, HO9.out, D9.out⟩
          · rw [e1] at PL
            have hil := (List.getElem?_eq_some_iff.1 hi).1
            have EO := Lib.hid (off_some OKC.out.dist hi hm)
            clear e1 hm hi
            go_wp2_with fail
            refine (PL.out _ F1.out).mono ?_
            rintro e w5 ⟨rfl, f5⟩
            have F5 := Lib.hid (F1.out.trans f5)
            have HO5 := Lib.hid (own_fr HO4.out F5.out (by simp))
            have V5 := Lib.hid (V1.out.fr f5 (by simp))
            have D5 := Lib.hid (D4.out.go F5.out)
            have hz5 : wr.heap.size < w5.heap.size := V5.out.lt
            have DE := Lib.hid (show Calls Tryz.prog 74 #[.slice A cur.length c, .int .i64 (i0 : Int), .int .i64 ((i0 : Int) + 1)] w5 (DelPostC (cur.take i0 ++ cur.drop (i0 + 1)).length (scoresV (cur.take i0 ++ cur.drop (i0 + 1))) (w.heap.size + 2) (.slice A cur.length c) w5) from by
              have := delC_row cur.length i0 (i0 + 1) (scoresV cur) (w.heap.size + 2) (.slice A cur.length c) w5 (by omega) (by omega) (by omega) HO5.out (scores_one _)
              rw [delCells_scores, show (((i0 + 1 : Nat)) : Int) = (i0 : Int) + 1 from by omega] at this
              rw [show (cur.take i0 ++ cur.drop (i0 + 1)).length = i0 + (cur.length - (i0 + 1)) from by rw [List.length_append, List.length_take, List.length_drop]; omega]
              exact this)
            generalize cur.take i0 ++ cur.drop (i0 + 1) = cu at *
            clear f5 PL
            go_wp2_with fail
            refine DE.out.mono ?_
            rintro e w6 ⟨u6, rfl, ho6, hg6, hb6⟩
            have V6 := Lib.hid (V5.out.grown hg6 (by
              intro e
              have := HO4.out.lt wr.heap.size e.symm
              omega))
            have D6 := Lib.hid (D5.out.step (fr_ownL hg6) (fun g hg => by have := ownL_base HO5.out hg; omega))
            have hs6 := hg6.size
            have HO6 := Lib.hid ho6
            obtain ⟨A6, c6, rfl, -, hc6, hm6⟩ := own_slice ho6
            unfold maxLen at hm6
            have hz6 : w5.heap.size ≤ w6.heap.size := hs6
            clear ho6 hg6 hb6 DE hs6
            have OKX := Lib.hid (show ScOk (cu) from by rw [← EO.out]; exact OKC.out.off p.2)
            have NOX := Lib.hid (show ∀ q ∈ cu, q.2 ≠ p.2 from by rw [← EO.out]; exact off_no cur p.2)
            have hcu : (cu).length ≤ cur.length := by have := offC_len cur p.2; rw [EO.out] at this; exact this
            have HP := Lib.hid (show putC cur p = (cu).take (lowC (cu) p) ++ p :: (cu).drop (lowC (cu) p) from by unfold putC insC; rw [EO.out])
            have hlow := lowC_le (cu) p
            have v1 : w6.cell? ⟨wr.heap.size, 0, none⟩ = some (.int .i64 p.1) := V6.out.cell 0
            have v2 : w6.cell? ⟨wr.heap.size, 1, none⟩ = some (.string p.2) := V6.out.cell 1
            have BS := Lib.hid (binC_any (cu) p.1 p.2 A6 c6 w6.heap.size w6 OKX.out.rise (fun q hq => (OKX.out.ok q hq).1) HPS.out.1 (by omega) (Nat.le_refl _) (own_sl HO6.out))
            rw [show ((p.1, p.2) : Int × ByteArray) = p from rfl] at BS
            generalize hitC (cu) p = hb at *
            go_wp2_with fail
            refine BS.out.mono ?_
            rintro e w7 ⟨rfl, f7⟩
            have V7 := Lib.hid (V6.out.fr f7 (by simp))
            clear v1 v2
            have v1 : w7.cell? ⟨wr.heap.size, 0, none⟩ = some (.int .i64 p.1) := V7.out.cell 0
            have v2 : w7.cell? ⟨wr.heap.size, 1, none⟩ = some (.string p.2) := V7.out.cell 1
            have F8 := Lib.hid ((show Fr [] w6 w7 from f7).alloc (.cells #[.int .i64 p.1, .string p.2] 60))
            have V8 := Lib.hid (Whole.new w7 60 [.int .i64 p.1, .string p.2])
            have HO8 := Lib.hid (own_fr HO6.out F8.out (by simp))
            have D8 := Lib.hid (D6.out.go F8.out)
            have hz8 := D8.out.lt
            have IN := Lib.hid (insC_row (cu).length (lowC (cu) p) (scoresV (cu)) [.int .i64 p.1, .string p.2] (w.heap.size + 2) w7.heap.size (.slice A6 (cu).length c6) _ (by omega) hlow HO8.out (scores_one _) (by intro u hu; simp at hu; rcases hu with rfl | rfl <;> rfl) rfl V8.out (by
              intro e
              have h1 := (HO6.out.lt _ e).2
              have h2 := f7.size
              omega) (by omega))
            generalize lowC (cu) p = i at *
            clear f7 x1 x2
            go_wp2_with fail
            refine IN.out.mono ?_
            rintro e w9 ⟨u9, rfl, ho9, hg9, -⟩
            have D9 := Lib.hid (D8.out.step (fr_ownL hg9) (fun g hg => by have := ownL_base HO8.out hg; omega))
            rw [insCells_scores, ← HP.out] at ho9
            have hl9 : (putC cur p).length = (cu).length + 1 := by
              rw [HP.out, List.length_append, List.length_cons, List.length_take, List.length_drop]; omega
            rw [← hl9] at ho9
            have HO9 := Lib.hid ho9
            clear ho9 hg9
            go_wp2
            go_roundg (l.length - (k + 1))
            case measure => omega
            case rel => exact ⟨k + 1, putC cur p, rfl, by omega, by go_num, HNX.out, HO9.out, D9.out⟩
        · obtain rfl : k = l.length := by omega
          have hcur2 : putF5 x l = cur := by have := hcur.out; rw [List.take_length] at this; exact this.symm
          rw [hcur2] at E0 EY EK
          clear hcur hcur2
          unfold maxLen at hc2
          by_cases h24 : 24 < cur.length
          · have E := Lib.hid (show put5 x l = 2 from by rw [E0.out, if_pos h24])
            obtain ⟨e1, e2⟩ := NO.out 2 (by decide) E.out
            have q24 : (cur.length : Int) > 24 := by omega
            have E1 := Lib.hid e1
            have E2 := Lib.hid e2
            clear e1 e2 E0 EY EK NO h24 hlt
            obtain ⟨a0, a1, a2, a3, a4⟩ := five D4.out.o
            obtain ⟨b0, b2, b3, b4, b5⟩ := fiveF D4.out.o
            go_wp2
            refine bodyPost_ret (v := .tuple #[.agg #[.int .i64 0, .string ⟨#[]⟩, .slice none 0 0, .slice none 0 0, .slice none 0 0], .int .i64 0, .int .i64 2]) (by simp [results, Tryz.results23, go_sem, a0, a1, a2, a3, a4]) rfl ?_
            rw [E1.out, E2.out, E.out]
            exact ⟨_, rfl, ItemO.nothing _ _, D4.out.end5 _ _ _ _ _⟩
          · have E := Lib.hid (show put5 x l = 0 from by rw [E0.out, if_neg h24])
            have E1 := Lib.hid (EY.out.trans (if_pos E.out))
            have E2 := Lib.hid (EK.out.trans (if_pos E.out))
            have q24 : ¬ (cur.length : Int) > 24 := by omega
            have OF := Lib.hid (fun W base u hu => scoreOf_own cur base u W (by omega) OKC.out.small hu)
            have HW := Lib.hid (show IntKind.i64.wrap ((cur.length : Int) - (x.scores.length : Int)) = (cur.length : Int) - x.scores.length from IntWalk.i64_in _ (by omega))
            clear E0 EY EK NO hlt NL hcl
            obtain ⟨d0, d1, d2, d3, d4⟩ := five D4.out.b
            generalize ofC cur = y at *
            generalize put5Y x l = y0 at *
            generalize put5N x l = n0 at *
            generalize put5 x l = c0 at *
            have hne1 : ¬ w.heap.size = w.heap.size + 1 := by omega
            have hne2 : ¬ w.heap.size + 1 = w.heap.size := by omega
            go_wp2
            go_region_held3 (fun wx => wx.cell? ⟨w.heap.size, 4, none⟩ = some (.slice A3 x.scores.length c3)) (go_keep) (first | (go_at_call 78; (refine (OF.out _ _ _ (show wr.drew.ownsRow _ _ _ _ _ _ from HO4.out)).mono ?_); rintro e w5 ⟨u5, rfl, hi, f5⟩; have D5 := Lib.hid (D4.out.go (fr_predrew f5)); clear d0 d1 d2 d3 d4 f5; obtain ⟨d0, d1, d2, d3, d4⟩ := five D5.out.b; have HI := Lib.hid hi; obtain ⟨P1, p1, P2, p2, P3, p3, rfl⟩ := hi.form; clear hi; obtain ⟨a0, a1, a2, a3, a4⟩ := five D5.out.o; obtain ⟨b0, b2, b3, b4, b5⟩ := fiveF D5.out.o))
            go_wp2
            refine bodyPost_ret (v := .tuple #[.agg #[.int .i64 y.kind, .string y.text, .slice P1 y.list.length p1, .slice P2 y.pairs.length p2, .slice P3 y.scores.length p3], .int .i64 (IntKind.i64.wrap ((cur.length : Int) - (x.scores.length : Int))), .int .i64 0]) (by simp [results, Tryz.results23, go_sem, a0, a1, a2, a3, a4]) rfl ?_
            rw [E1.out, E2.out, E.out]
            exact ⟨_, by rw [HW.out], (itemO_later HI.out (by omega) _ _ _ _ _).less (by omega), D5.out.end5 _ _ _ _ _⟩
    · have E := Lib.hid (show put5 x l = scsCode l from by
        have hp : pre5 x l = scsCode l := by rw [EP.out, if_neg (by simpa using ha)]
        rw [EC.out, hp, if_pos hb])
      obtain ⟨e1, e2⟩ := NO.out _ hb E.out
      rw [e1, e2, E.out]
      have q : (scsCode l != 0) = true := by simpa using hb
      clear e1 e2 EC EP EY EK ha hb NO E
      generalize scsCode l = r at *
      go_enter Tryz.func23, Tryz.ntmps23
      go_wp2_with fail
      refine (RD.out _ D0.out.f).mono ?_
      rintro e w1 ⟨rfl, f1⟩
      have D1 := Lib.hid (D0.out.go f1)
      clear d0 d1 d2 d3 d4
      go_wp2_with fail
      refine (SM.out _ D1.out.f).mono ?_
      rintro e w2 ⟨rfl, f2⟩
      have D2 := Lib.hid (D1.out.go f2)
      obtain ⟨a0, a1, a2, a3, a4⟩ := five D2.out.o
      obtain ⟨b0, b2, b3, b4, b5⟩ := fiveF D2.out.o
      go_wp2
      refine bodyPost_ret (v := .tuple #[.agg #[.int .i64 0, .string ⟨#[]⟩, .slice none 0 0, .slice none 0 0, .slice none 0 0], .int .i64 0, .int .i64 r]) (by simp [results, Tryz.results23, go_sem, a0, a1, a2, a3, a4]) rfl ?_
      exact ⟨_, rfl, ItemO.nothing _ _, D2.out.end5 _ _ _ _ _⟩
  · have hp : pre5 x l = asCode 5 x := by rw [EP.out, if_pos ha]
    have E := Lib.hid (show put5 x l = asCode 5 x from by rw [EC.out, hp, if_pos ha])
    obtain ⟨e1, e2⟩ := NO.out _ ha E.out
    rw [e1, e2, E.out]
    have q : (asCode 5 x != 0) = true := by simpa using ha
    have q2 : (asCode 5 x == 0) = false := by simpa using ha
    clear e1 e2 EC EP EY EK hp E ha NO SM
    generalize asCode 5 x = r at *
    go_enter Tryz.func23, Tryz.ntmps23
    go_wp2_with fail
    refine (RD.out _ D0.out.f).mono ?_
    rintro e w1 ⟨rfl, f1⟩
    have D1 := Lib.hid (D0.out.go f1)
    clear d0 d1 d2 d3 d4
    obtain ⟨a0, a1, a2, a3, a4⟩ := five D1.out.o
    obtain ⟨b0, b2, b3, b4, b5⟩ := fiveF D1.out.o
    go_wp2
    refine bodyPost_ret (v := .tuple #[.agg #[.int .i64 0, .string ⟨#[]⟩, .slice none 0 0, .slice none 0 0, .slice none 0 0], .int .i64 0, .int .i64 r]) (by simp [results, Tryz.results23, go_sem, a0, a1, a2, a3, a4]) rfl ?_
    exact ⟨_, rfl, ItemO.nothing _ _, D1.out.end5 _ _ _ _ _⟩

set_option maxHeartbeats 2000000 in
set_option maxRecDepth 100000 in
theorem scoreDrop_any (x : Itm) (v : Value) (l : List ByteArray) (A : Option Addr) (c : Nat) (w : World) (B : Nat) (hs : x.Small) (hB : B ≤ w.heap.size) (h : ItemV w B v x) (hl : l.length ≤ 281474976710656) (hL : Sl w B 1 (.slice A l.length c) l.length (textsV l)) :
    Calls Tryz.prog 24 #[v, .slice A l.length c] w (INPost (drop5N x l) (asCode 5 x) (drop5Y x l) w) := by
  have RD := Lib.hid (fun W (hf : Fr [] w W) => ready5_any x v W B hs (Nat.le_trans hB hf.size) (h.fr hf hB (by simp)))
  obtain ⟨A1, c1, A2, c2, A3, c3, rfl, h1, h2, h3⟩ := h
  have H3 := Lib.hid h3
  have HL := Lib.hid hL
  have D0 := Lib.hid (BO.newL w (.int .i64 x.kind) (.string x.text) (.slice A1 x.list.length c1) (.slice A2 x.pairs.length c2) (.slice A3 x.scores.length c3) (.slice A l.length c))
  obtain ⟨d0, d1, d2, d3, d4⟩ := five D0.out.b
  have S0 := Lib.hid (show (((w.alloc (.cells #[.int .i64 x.kind, .string x.text, .slice A1 x.list.length c1, .slice A2 x.pairs.length c2, .slice A3 x.scores.length c3] 26)).alloc (.cells #[.slice A l.length c] 22)).alloc (.cells #[.int .i64 0, .string ⟨#[]⟩, .slice none 0 0, .slice none 0 0, .slice none 0 0] 26)).cell? ⟨w.heap.size + 1, 0, none⟩ = some (.slice A l.length c) from by
    have := ((Whole.new (w.alloc (.cells #[.int .i64 x.kind, .string x.text, .slice A1 x.list.length c1, .slice A2 x.pairs.length c2, .slice A3 x.scores.length c3] 26)) 22 [.slice A l.length c]).alloc (.cells #[.int .i64 0, .string ⟨#[]⟩, .slice none 0 0, .slice none 0 0, .slice none 0 0] 26)).cell 0
    simpa using this)
  have EY := Lib.hid (show drop5Y x l = if asCode 5 x = 0 then ofC (dropC x l) else newI 0 from rfl)
  have EK := Lib.hid (show drop5N x l = if asCode 5 x = 0 then (x.scores.length : Int) - (dropC x l).length else 0 from rfl)
  clear h1 h2 h3 hs hL
  by_cases ha : asCode 5 x = 0
  · have hok := asOk_of ha
    rw [EY.out, EK.out, if_pos ha, if_pos ha, ha]
    rw [ha] at RD
    have OK0 := dropC_ok l ha
    have h24 := (scores_ok ha).2
    have hrl : (dropC x l).length ≤ x.scores.length := List.length_filter_le _ _
    have OF := Lib.hid (fun W base u hu => scoreOf_own (dropC x l) base u W (by omega) OK0.1.small hu)
    have CL := Lib.hid (fun W (hW : Fr [] w W) => cloneC_row x.scores.length (scoresV x.scores) A3 c3 W B (by omega) (Nat.le_trans hB hW.size) (H3.out.fr hW hB (by simp)) (scores_one _))
    have DF := Lib.hid (fun W base u D (hp : PredC 80 #[.pointer (some ⟨w.heap.size + 1, 0, none⟩)] (fun x => l.any fun y => decide (y = x.2)) D W) hD hu => (show Calls Tryz.prog 79 #[u, .func (Fn.func 80) #[] #[.pointer (some ⟨w.heap.size + 1, 0, none⟩)]] W (DelFPostC (dropC x l) base u W) from delFC_any 80 #[.pointer (some ⟨w.heap.size + 1, 0, none⟩)] (enters_any Tryz.func80 (by kernel_rfl) rfl) (fun x => l.any fun y => decide (y = x.2)) D x.scores base u W hp hD (by omega) hu))
    clear hok OK0 EY EK ha
    generalize ofC (dropC x l) = y at *
    have HW := Lib.hid (show IntKind.i64.wrap ((x.scores.length : Int) - ((dropC x l).length : Int)) = (x.scores.length : Int) - (dropC x l).length from IntWalk.i64_in _ (by omega))
    generalize dropC x l = r at *
    go_enter Tryz.func24, Tryz.ntmps24
    go_wp2_with fail
    refine (RD.out _ D0.out.f).mono ?_
    rintro e w1 ⟨rfl, f1⟩
    have D1 := Lib.hid (D0.out.go f1)
    have S1 := Lib.hid (f1.cell S0.out (by simp))
    have hz1 := D1.out.lt
    clear d0 d1 d2 d3 d4
    obtain ⟨d0, d1, d2, d3, d4⟩ := five D1.out.b
    go_wp2_with fail
    refine (CL.out _ D1.out.f).mono ?_
    rintro e w2 ⟨u, rfl, ho, f2⟩
    have D2 := Lib.hid (D1.out.go f2)
    have S2 := Lib.hid (f2.cell S1.out (by simp))
    have HO := Lib.hid ho
    obtain ⟨U, cu, rfl, -⟩ := own_slice ho
    have hp := Lib.hid (drop5_pred l A c (w.heap.size + 1) w1.heap.size w2 hl f2.size (((HL.out.fr D1.out.f hB (by simp)).more (Nat.le_trans hB D1.out.f.size)).fr f2 (Nat.le_refl _) (by simp)) S2.out (by omega))
    clear d0 d1 d2 d3 d4 ho
    obtain ⟨d0, d1, d2, d3, d4⟩ := five D2.out.b
    go_wp2_with fail
    refine (DF.out _ _ _ _ hp.out (Nat.le_refl _) HO.out).mono ?_
    rintro e w3 ⟨u3, rfl, ho3, f3, -⟩
    have D3 := Lib.hid (D2.out.step f3 (fun g hg => by have := ownL_base HO.out hg; omega))
    have HO3 := Lib.hid ho3
    obtain ⟨U3, cu3, rfl, -⟩ := own_slice ho3
    clear d0 d1 d2 d3 d4 ho3
    obtain ⟨d0, d1, d2, d3, d4⟩ := five D3.out.b
    have hne1 : ¬ w.heap.size = w.heap.size + 1 + 1 := by omega
    have hne2 : ¬ w.heap.size + 1 + 1 = w.heap.size := by omega
    go_wp2
    go_region_held3 (fun wx => wx.cell? ⟨w.heap.size, 4, none⟩ = some (.slice A3 x.scores.length c3)) (go_keep) (first | (go_at_call 78; (refine (OF.out _ _ _ (show w3.drew.ownsRow _ _ _ _ _ _ from HO3.out)).mono ?_); rintro e w5 ⟨u5, rfl, hi, f5⟩; have D5 := Lib.hid (D3.out.go (fr_predrew f5)); clear d0 d1 d2 d3 d4 f5; obtain ⟨d0, d1, d2, d3, d4⟩ := five D5.out.b; have HI := Lib.hid hi; obtain ⟨P1, p1, P2, p2, P3, p3, rfl⟩ := hi.form; clear hi; have OO := D5.out.o; rw [show w.heap.size + 2 = w.heap.size + 1 + 1 from rfl] at OO; obtain ⟨a0, a1, a2, a3, a4⟩ := five OO; obtain ⟨b0, b2, b3, b4, b5⟩ := fiveF OO; clear OO))
    go_wp2
    refine bodyPost_ret (v := .tuple #[.agg #[.int .i64 y.kind, .string y.text, .slice P1 y.list.length p1, .slice P2 y.pairs.length p2, .slice P3 y.scores.length p3], .int .i64 (IntKind.i64.wrap ((x.scores.length : Int) - (r.length : Int))), .int .i64 0]) (by simp [results, Tryz.results24, go_sem, a0, a1, a2, a3, a4]) rfl ?_
    exact ⟨_, by rw [HW.out], (itemO_later HI.out (by omega) _ _ _ _ _).less (by omega), D5.out.end5 _ _ _ _ _⟩
  · rw [EY.out, EK.out, if_neg ha, if_neg ha]
    have q2 : (asCode 5 x != 0) = true := by simpa using ha
    clear EY EK ha
    generalize asCode 5 x = r at *
    go_enter Tryz.func24, Tryz.ntmps24
    go_wp2_with fail
    refine (RD.out _ D0.out.f).mono ?_
    rintro e w1 ⟨rfl, f1⟩
    have D1 := Lib.hid (D0.out.go f1)
    clear d0 d1 d2 d3 d4
    have OO := D1.out.o
    rw [show w.heap.size + 2 = w.heap.size + 1 + 1 from rfl] at OO
    obtain ⟨a0, a1, a2, a3, a4⟩ := five OO
    obtain ⟨b0, b2, b3, b4, b5⟩ := fiveF OO
    clear OO
    go_wp2
    refine bodyPost_ret (v := .tuple #[.agg #[.int .i64 0, .string ⟨#[]⟩, .slice none 0 0, .slice none 0 0, .slice none 0 0], .int .i64 0, .int .i64 r]) (by simp [results, Tryz.results24, go_sem, a0, a1, a2, a3, a4]) rfl ?_
    exact ⟨_, rfl, ItemO.nothing _ _, D1.out.end5 _ _ _ _ _⟩

end Go.Proofs.YtkgbgmfidkimfaaGreat
