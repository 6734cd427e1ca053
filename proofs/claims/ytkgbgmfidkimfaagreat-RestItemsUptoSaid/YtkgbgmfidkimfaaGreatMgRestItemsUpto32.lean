/- The walk of hash.Put. -/
import Derived.Test.YtkgbgmfidkimfaaGreatMgRestItemsUpto31
import Derived.Test.YtkgbgmfidkimfaaGreatInsP
set_option linter.unusedVariables false
set_option linter.unusedSimpArgs false
namespace Go.Proofs.YtkgbgmfidkimfaaGreat
open Go.RowKit

theorem insCells_pairs (l : List (ByteArray × ByteArray)) (p : ByteArray × ByteArray) (i : Nat) : insCells (pairsV l) [.string p.1, .string p.2] (i * 2) = pairsV (l.take i ++ p :: l.drop i) := by
  have h : pairsV l = pairsV (l.take i) ++ pairsV (l.drop i) := by rw [← pairsV_append, List.take_append_drop]
  have hd : (pairsV l).drop (i * 2) = pairsV (l.drop i) := by
    have e := List.take_append_drop (i * 2) (pairsV l)
    rw [pairsV_take] at e
    exact List.append_cancel_left (e.trans h)
  unfold insCells
  rw [pairsV_take, hd, show p :: l.drop i = [p] ++ l.drop i from rfl, pairsV_append, pairsV_append]
  simp [pairsV]

set_option maxHeartbeats 4000000 in
set_option maxRecDepth 100000 in
theorem hashPut_any (x : Itm) (v : Value) (l : List (ByteArray × ByteArray)) (Al : Option Addr) (cl : Nat) (w : World) (B : Nat) (hs : x.Small) (hB : B ≤ w.heap.size) (h : ItemV w B v x) (hl : (24 + l.length) * 32 ≤ 140737488355328) (hL : Sl w B 2 (.slice Al l.length cl) l.length (pairsV l)) :
    Calls Tryz.prog 21 #[v, .slice Al l.length cl] w (INPost (putN x l) (putCode x l) (putY x l) w) := by
  have RD := Lib.hid (fun W (hf : Fr [] w W) => ready4_any x v W B hs (Nat.le_trans hB hf.size) (h.fr hf hB (by simp)))
  have CF := Lib.hid (fun W (hf : Fr [] w W) => conFP_any 62 #[] (enters_any Tryz.func62 (by kernel_rfl) rfl) longP B l Al cl B W (put1_pred B W) (by omega) (Nat.le_trans hB hf.size) (hL.fr hf hB (by simp)))
  have HL := Lib.hid hL
  obtain ⟨A1, c1, A2, c2, A3, c3, rfl, h1, h2, h3⟩ := h
  have H2 := Lib.hid h2
  have D0 := Lib.hid (BO.new w (.int .i64 x.kind) (.string x.text) (.slice A1 x.list.length c1) (.slice A2 x.pairs.length c2) (.slice A3 x.scores.length c3))
  obtain ⟨d0, d1, d2, d3, d4⟩ := five D0.out.b
  have EC := Lib.hid (show putCode x l = if pairsCode x l ≠ 0 then pairsCode x l else if 24 < (putF x l).length then 2 else 0 from rfl)
  have EP := Lib.hid (show pairsCode x l = if asCode 4 x ≠ 0 then asCode 4 x else if l.length = 0 then 1 else if l.any longP = true then 2 else 0 from rfl)
  have EY := Lib.hid (show putY x l = if putCode x l = 0 then ofP (putF x l) else newI 0 from rfl)
  have EK := Lib.hid (show putN x l = if putCode x l = 0 then ((putF x l).length : Int) - x.pairs.length else 0 from rfl)
  clear h1 h2 h3 hs hL
  have no0 : ∀ c : Int, c ≠ 0 → putCode x l = c → putY x l = newI 0 ∧ putN x l = 0 := fun c hc he => by
    have h0 : putCode x l ≠ 0 := by rw [he]; exact hc
    exact ⟨by rw [EY.out, if_neg h0], by rw [EK.out, if_neg h0]⟩
  have NO := Lib.hid no0
  clear no0
  by_cases ha : asCode 4 x = 0
  · rw [ha] at RD
    by_cases hb : l.length = 0
    · have E := Lib.hid (show putCode x l = 1 from by
        have hp : pairsCode x l = 1 := by rw [EP.out, if_neg (by simpa using ha), if_pos hb]
        rw [EC.out, hp, if_pos (by decide)])
      obtain ⟨e1, e2⟩ := NO.out 1 (by decide) E.out
      rw [e1, e2, E.out]
      have q : ((l.length : Int) == 0) = true := by simp [hb]
      clear e1 e2 EC EP EY EK ha hb NO CF
      go_enter Tryz.func21, Tryz.ntmps21
      go_wp2_with fail
      refine (RD.out _ D0.out.f).mono ?_
      rintro e w1 ⟨rfl, f1⟩
      have D1 := Lib.hid (D0.out.go f1)
      clear d0 d1 d2 d3 d4
      obtain ⟨a0, a1, a2, a3, a4⟩ := five D1.out.o
      obtain ⟨b0, b2, b3, b4, b5⟩ := fiveF D1.out.o
      go_wp2
      refine bodyPost_ret (v := .tuple #[.agg #[.int .i64 0, .string ⟨#[]⟩, .slice none 0 0, .slice none 0 0, .slice none 0 0], .int .i64 0, .int .i64 1]) (by simp [results, Tryz.results21, go_sem, a0, a1, a2, a3, a4]) rfl ?_
      exact ⟨_, rfl, ItemO.nothing _ _, D1.out.end5 _ _ _ _ _⟩
    · have q : ((l.length : Int) == 0) = false := beq_eq_false_iff_ne.2 (by omega)
      by_cases hc : l.any longP = true
      · have E := Lib.hid (show putCode x l = 2 from by
          have hp : pairsCode x l = 2 := by rw [EP.out, if_neg (by simpa using ha), if_neg hb, if_pos hc]
          rw [EC.out, hp, if_pos (by decide)])
        obtain ⟨e1, e2⟩ := NO.out 2 (by decide) E.out
        rw [e1, e2, E.out]
        rw [hc] at CF
        clear e1 e2 EC EP EY EK ha hb NO hc
        go_enter Tryz.func21, Tryz.ntmps21
        go_wp2_with fail
        refine (RD.out _ D0.out.f).mono ?_
        rintro e w1 ⟨rfl, f1⟩
        have D1 := Lib.hid (D0.out.go f1)
        clear d0 d1 d2 d3 d4
        go_wp2_with fail
        refine (CF.out _ D1.out.f).mono ?_
        rintro e w2 ⟨rfl, f2⟩
        have D2 := Lib.hid (D1.out.go f2)
        obtain ⟨a0, a1, a2, a3, a4⟩ := five D2.out.o
        obtain ⟨b0, b2, b3, b4, b5⟩ := fiveF D2.out.o
        go_wp2
        refine bodyPost_ret (v := .tuple #[.agg #[.int .i64 0, .string ⟨#[]⟩, .slice none 0 0, .slice none 0 0, .slice none 0 0], .int .i64 0, .int .i64 2]) (by simp [results, Tryz.results21, go_sem, a0, a1, a2, a3, a4]) rfl ?_
        exact ⟨_, rfl, ItemO.nothing _ _, D2.out.end5 _ _ _ _ _⟩
      · have hp : pairsCode x l = 0 := by rw [EP.out, if_neg (by simpa using ha), if_neg hb, if_neg hc]
        rw [show (l.any longP) = false from by simpa using hc] at CF
        have NL := Lib.hid (not_long hc)
        have OKP := Lib.hid (ok_pairs ha)
        have HR := Lib.hid (pairs_rise ha)
        have hx24 := OKP.out.1
        have CL := Lib.hid (fun W (hW : Fr [] w W) => cloneP_row x.pairs.length (pairsV x.pairs) A2 c2 W B (by omega) (Nat.le_trans hB hW.size) (H2.out.fr hW hB (by simp)) (pairs_one _))
        have E0 := Lib.hid (show putCode x l = if 24 < (putF x l).length then 2 else 0 from by rw [EC.out, if_neg (by simpa using hp)])
        clear ha hb hc hp EC EP
        go_enter Tryz.func21, Tryz.ntmps21
        go_wp2_with fail
        refine (RD.out _ D0.out.f).mono ?_
        rintro e w1 ⟨rfl, f1⟩
        have D1 := Lib.hid (D0.out.go f1)
        clear d0 d1 d2 d3 d4
        go_wp2_with fail
        refine (CF.out _ D1.out.f).mono ?_
        rintro e w2 ⟨rfl, f2⟩
        have D2 := Lib.hid (D1.out.go f2)
        have hz2 := D2.out.lt
        obtain ⟨d0, d1, d2, d3, d4⟩ := five D2.out.b
        go_wp2_with fail
        refine (CL.out _ D2.out.f).mono ?_
        rintro e w3 ⟨u, rfl, ho, f3⟩
        have D3 := Lib.hid (D2.out.go f3)
        have HO3 := Lib.hid (own_base ho (show w.heap.size + 2 ≤ w2.heap.size by omega))
        clear d0 d1 d2 d3 d4 ho CF RD CL
        go_wp2
        go_loopg [8, 34] l.length (fun g o i wr => ∃ (k : Nat) (cur : List (ByteArray × ByteArray)), g = l.length - k ∧ k ≤ l.length ∧ i = .int .i64 k ∧ cur = (l.take k).foldl (putK Prod.fst) x.pairs ∧ wr.ownsRow (w.heap.size + 2) 57 2 o cur.length (pairsV cur) ∧ BO w 1 [.int .i64 x.kind, .string x.text, .slice A1 x.list.length c1, .slice A2 x.pairs.length c2, .slice A3 x.scores.length c3] wr)
        case atStart => exact ⟨0, x.pairs, rfl, Nat.zero_le _, rfl, rfl, HO3.out, D3.out⟩
        case round =>
          obtain ⟨k, cur, rfl, hk, rfl, hcur, hO, hD⟩ := hrel
          have D4 := Lib.hid hD
          have HO4 := Lib.hid hO
          have hr : rises (ltK Prod.fst) cur = true := by rw [hcur]; exact fold_rises _ _ HR.out
          have hcl : cur.length ≤ 24 + k := by
            have := (fold_len Prod.fst (l.take k) x.pairs).1
            rw [← hcur, List.length_take] at this
            omega
          obtain ⟨A, c, rfl, hA, hc1, hc2⟩ := own_slice hO
          have hz4 := D4.out.lt
          clear hO hD
          by_cases hlt : k < l.length
          · obtain ⟨b, off, rfl, hb, hlc, hlm, hcell⟩ := HL.out.at_ (by omega)
            obtain ⟨p, hp⟩ : ∃ p, l[k]? = some p := ⟨_, List.getElem?_eq_getElem hlt⟩
            have x1 : wr.cell? ⟨b, off + 2 * k, none⟩ = some (.string p.1) := D4.out.f.cell (hcell _ _ (pairsV_get l k p hp).1) (by simp)
            have x2 : wr.cell? ⟨b, off + 2 * k + 1, none⟩ = some (.string p.2) := D4.out.f.cell (hcell _ _ (pairsV_get l k p hp).2) (by simp)
            rw [Nat.mul_comm 2 k] at x1 x2
            have F1 := Lib.hid ((Fr.refl [] wr).alloc (.cells #[.string p.1, .string p.2] 57))
            have V1 := Lib.hid (Whole.new wr 57 [.string p.1, .string p.2])
            have v0 : (wr.alloc (.cells #[.string p.1, .string p.2] 57)).cell? ⟨wr.heap.size, 0, none⟩ = some (.string p.1) := V1.out.cell 0
            have FD := Lib.hid (fun W (hW : Fr [] wr W) => findP_any cur p.1 A c wr.heap.size W hr (by omega) hW.size ((own_sl HO4.out).fr hW (Nat.le_refl _) (by simp)))
            have hnx : (l.take (k + 1)).foldl (putK Prod.fst) x.pairs = putK Prod.fst cur p := by
              rw [List.take_add_one, hp, Option.toList_some, List.foldl_append, ← hcur]; rfl
            have HNX := Lib.hid hnx.symm
            have hlow := lowK_le Prod.fst cur p.1
            unfold maxLen at hc2 hlm
            by_cases hh : hitK Prod.fst cur p.1 = true
            · obtain ⟨s', hs', -⟩ := (hitK_iff Prod.fst).1 hh
              have hput : putK Prod.fst cur p = cur.set (lowK Prod.fst cur p.1) p := by unfold putK; rw [if_pos hh]
              have HP := Lib.hid hput
              have HS := Lib.hid hs'
              have hil := (List.getElem?_eq_some_iff.1 hs').1
              obtain ⟨gb, rfl⟩ : ∃ gb, A = some ⟨gb, 0, none⟩ := by
                rcases hA with rfl | ⟨gb, rfl⟩
                · exfalso
                  rcases HO4.out.2 with ⟨_, h0⟩ | ⟨g', cap', cur', h', _⟩
                  · omega
                  · cases h'
                · exact ⟨gb, rfl⟩
              have hgb := HO4.out.lt gb rfl
              rw [hh] at FD
              clear hh hr hcell hp hnx hput hs' hcur hA
              generalize lowK Prod.fst cur p.1 = i at *
              go_wp2_with fail
              refine (FD.out _ F1.out).mono ?_
              rintro e w5 ⟨rfl, f5⟩
              have F5 := Lib.hid (F1.out.trans f5)
              have HO5 := Lib.hid (own_fr HO4.out F5.out (by simp))
              have V5 := V1.out.fr f5 (by simp)
              have v1 : w5.cell? ⟨wr.heap.size, 0, none⟩ = some (.string p.1) := V5.cell 0
              have v2 : w5.cell? ⟨wr.heap.size, 1, none⟩ = some (.string p.2) := V5.cell 1
              have y1 : w5.cell? ⟨gb, i * 2, none⟩ = some (.string s'.1) := (HO5.out.cellAt (i * 2) (by omega)).trans (by rw [Nat.mul_comm]; exact (pairsV_get cur i s' HS.out).1)
              have y2 : w5.cell? ⟨gb, i * 2 + 1, none⟩ = some (.string s'.2) := (HO5.out.cellAt (i * 2 + 1) (by omega)).trans (by rw [Nat.mul_comm]; exact (pairsV_get cur i s' HS.out).2)
              have z1 : w5.frozen? ⟨gb, i * 2, none⟩ = false := HO5.out.frozenAt _
              have z2 : w5.frozen? ⟨gb, i * 2 + 1, none⟩ = false := HO5.out.frozenAt _
              clear V5 f5 x1 x2 v0
              go_wp2
              go_roundg (l.length - (k + 1))
              case measure => omega
              case rel =>
                have o1 := HO5.out.stored (i * 2) (.string p.1)
                have o2 := o1.1.stored (i * 2 + 1) (.string p.2)
                refine ⟨k + 1, cur.set i p, rfl, by omega, by go_num, by rw [← HP.out, HNX.out], by rw [pairsV_set, List.length_set]; exact o2.1, ?_⟩
                exact D4.out.step (S := [gb]) ((F5.out.up.setCell (p := ⟨gb, i * 2, none⟩) (.inl (by simp)) _).setCell (p := ⟨gb, i * 2 + 1, none⟩) (.inl (by simp)) _) (fun g hg => by simp at hg; omega)
            · have hput : putK Prod.fst cur p = cur.take (lowK Prod.fst cur p.1) ++ p :: cur.drop (lowK Prod.fst cur p.1) := by unfold putK; rw [if_neg hh]
              have HP := Lib.hid hput
              rw [show hitK Prod.fst cur p.1 = false from by simpa using hh] at FD
              clear hh hr hcell hp hnx hput hcur
              generalize lowK Prod.fst cur p.1 = i at *
              go_wp2_with fail
              refine (FD.out _ F1.out).mono ?_
              rintro e w5 ⟨rfl, f5⟩
              have F5 := Lib.hid (F1.out.trans f5)
              have V5 := V1.out.fr f5 (by simp)
              have v1 : w5.cell? ⟨wr.heap.size, 0, none⟩ = some (.string p.1) := V5.cell 0
              have v2 : w5.cell? ⟨wr.heap.size, 1, none⟩ = some (.string p.2) := V5.cell 1
              have F6 := Lib.hid (F5.out.alloc (.cells #[.string p.1, .string p.2] 57))
              have V6 := Lib.hid (Whole.new w5 57 [.string p.1, .string p.2])
              have HO6 := Lib.hid (own_fr HO4.out F6.out (by simp))
              have D6 := Lib.hid (D4.out.go F6.out)
              have hz6 := D6.out.lt
              have IN := Lib.hid (insP_row cur.length i (pairsV cur) [.string p.1, .string p.2] (w.heap.size + 2) w5.heap.size (.slice A cur.length c) _ (by omega) hlow HO6.out (pairs_one _) (by intro u hu; simp at hu; rcases hu with rfl | rfl <;> rfl) rfl V6.out (by
                intro e
                have h1 := (HO4.out.lt _ e).2
                have h2 := F5.out.size
                omega) (by omega))
              clear V5 f5 x1 x2 v0
              go_wp2_with fail
              refine IN.out.mono ?_
              rintro e w7 ⟨u7, rfl, ho7, hg7, -⟩
              have D7 := Lib.hid (D6.out.step (fr_ownL hg7) (fun g hg => by have := ownL_base HO6.out hg; omega))
              rw [insCells_pairs, ← HP.out] at ho7
              have hl7 : (putK Prod.fst cur p).length = cur.length + 1 := by
                rw [HP.out, List.length_append, List.length_cons, List.length_take, List.length_drop]; omega
              rw [← hl7] at ho7
              have HO7 := Lib.hid ho7
              clear ho7 hg7
              go_wp2
              go_roundg (l.length - (k + 1))
              case measure => omega
              case rel => exact ⟨k + 1, putK Prod.fst cur p, rfl, by omega, by go_num, HNX.out, HO7.out, D7.out⟩
          · obtain rfl : k = l.length := by omega
            rw [List.take_length] at hcur
            have hcur2 : putF x l = cur := hcur.symm
            have hsz : ∀ s ∈ cur, s.1.size ≤ 281474976710656 ∧ s.2.size ≤ 281474976710656 := fun s hs => by
              rw [hcur] at hs
              rcases fold_mem _ _ hs with h | h
              · have := NL.out s h; omega
              · have := OKP.out.2 s h; omega
            have HSZ := Lib.hid hsz
            rw [hcur2] at E0 EY EK
            clear hcur hcur2 hsz
            unfold maxLen at hc2
            by_cases h24 : 24 < cur.length
            · have E := Lib.hid (show putCode x l = 2 from by rw [E0.out, if_pos h24])
              obtain ⟨e1, e2⟩ := NO.out 2 (by decide) E.out
              have q24 : (cur.length : Int) > 24 := by omega
              have E1 := Lib.hid e1
              have E2 := Lib.hid e2
              clear e1 e2 E0 EY EK NO h24 hlt hr
              obtain ⟨a0, a1, a2, a3, a4⟩ := five D4.out.o
              obtain ⟨b0, b2, b3, b4, b5⟩ := fiveF D4.out.o
              go_wp2
              refine bodyPost_ret (v := .tuple #[.agg #[.int .i64 0, .string ⟨#[]⟩, .slice none 0 0, .slice none 0 0, .slice none 0 0], .int .i64 0, .int .i64 2]) (by simp [results, Tryz.results21, go_sem, a0, a1, a2, a3, a4]) rfl ?_
              rw [E1.out, E2.out, E.out]
              exact ⟨_, rfl, ItemO.nothing _ _, D4.out.end5 _ _ _ _ _⟩
            · have E := Lib.hid (show putCode x l = 0 from by rw [E0.out, if_neg h24])
              have E1 := Lib.hid (EY.out.trans (if_pos E.out))
              have E2 := Lib.hid (EK.out.trans (if_pos E.out))
              have q24 : ¬ (cur.length : Int) > 24 := by omega
              have OF := Lib.hid (fun W base u hu => hashOf_own cur base u W (by omega) HSZ.out hu)
              have HW := Lib.hid (show IntKind.i64.wrap ((cur.length : Int) - (x.pairs.length : Int)) = (cur.length : Int) - x.pairs.length from IntWalk.i64_in _ (by omega))
              clear E0 EY EK NO hlt hr NL OKP HR hcl
              obtain ⟨d0, d1, d2, d3, d4⟩ := five D4.out.b
              generalize ofP cur = y at *
              generalize putY x l = y0 at *
              generalize putN x l = n0 at *
              generalize putCode x l = c0 at *
              have hne1 : ¬ w.heap.size = w.heap.size + 1 := by omega
              have hne2 : ¬ w.heap.size + 1 = w.heap.size := by omega
              go_wp2
              go_region_held3 (fun wx => wx.cell? ⟨w.heap.size, 3, none⟩ = some (.slice A2 x.pairs.length c2)) (go_keep) (first | (go_at_call 67; (refine (OF.out _ _ _ (show wr.drew.ownsRow _ _ _ _ _ _ from HO4.out)).mono ?_); rintro e w5 ⟨u5, rfl, hi, f5⟩; have D5 := Lib.hid (D4.out.go (fr_predrew f5)); clear d0 d1 d2 d3 d4 f5; obtain ⟨d0, d1, d2, d3, d4⟩ := five D5.out.b; have HI := Lib.hid hi; obtain ⟨P1, p1, P2, p2, P3, p3, rfl⟩ := hi.form; clear hi; obtain ⟨a0, a1, a2, a3, a4⟩ := five D5.out.o; obtain ⟨b0, b2, b3, b4, b5⟩ := fiveF D5.out.o))
              go_wp2
              refine bodyPost_ret (v := .tuple #[.agg #[.int .i64 y.kind, .string y.text, .slice P1 y.list.length p1, .slice P2 y.pairs.length p2, .slice P3 y.scores.length p3], .int .i64 (IntKind.i64.wrap ((cur.length : Int) - (x.pairs.length : Int))), .int .i64 0]) (by simp [results, Tryz.results21, go_sem, a0, a1, a2, a3, a4]) rfl ?_
              rw [E1.out, E2.out, E.out]
              exact ⟨_, by rw [HW.out], (itemO_later HI.out (by omega) _ _ _ _ _).less (by omega), D5.out.end5 _ _ _ _ _⟩
  · have hp : pairsCode x l = asCode 4 x := by rw [EP.out, if_pos ha]
    have E := Lib.hid (show putCode x l = asCode 4 x from by rw [EC.out, hp, if_pos ha])
    obtain ⟨e1, e2⟩ := NO.out _ ha E.out
    rw [e1, e2, E.out]
    have q : (asCode 4 x != 0) = true := by simpa using ha
    clear e1 e2 EC EP EY EK hp E ha NO CF
    generalize asCode 4 x = r at *
    go_enter Tryz.func21, Tryz.ntmps21
    go_wp2_with fail
    refine (RD.out _ D0.out.f).mono ?_
    rintro e w1 ⟨rfl, f1⟩
    have D1 := Lib.hid (D0.out.go f1)
    clear d0 d1 d2 d3 d4
    obtain ⟨a0, a1, a2, a3, a4⟩ := five D1.out.o
    obtain ⟨b0, b2, b3, b4, b5⟩ := fiveF D1.out.o
    go_wp2
    refine bodyPost_ret (v := .tuple #[.agg #[.int .i64 0, .string ⟨#[]⟩, .slice none 0 0, .slice none 0 0, .slice none 0 0], .int .i64 0, .int .i64 r]) (by simp [results, Tryz.results21, go_sem, a0, a1, a2, a3, a4]) rfl ?_
    exact ⟨_, rfl, ItemO.nothing _ _, D1.out.end5 _ _ _ _ _⟩
end Go.Proofs.YtkgbgmfidkimfaaGreat
