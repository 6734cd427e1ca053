/- The walks of hash.Get and hash.Drop. -/
import Derived.Test.YtkgbgmfidkimfaaGreatMgRestItemsUpto11
import Derived.Test.YtkgbgmfidkimfaaGreatMgRestItemsUpto9
import Derived.Test.YtkgbgmfidkimfaaGreatMgRestItemsUpto10
import Derived.Deep.RegionHeld3
import Derived.IntWalk
set_option linter.unusedVariables false
set_option linter.unusedSimpArgs false
namespace Go.Proofs.YtkgbgmfidkimfaaGreat
open Go.RowKit


set_option maxHeartbeats 2000000 in
set_option maxRecDepth 100000 in
theorem hashGet_any (x : Itm) (v : Value) (f : ByteArray) (w : World) (B : Nat) (hs : x.Small) (hB : B ≤ w.heap.size) (h : ItemV w B v x) :
    Calls Tryz.prog 36 #[v, .string f] w (SEPost (getS x f) (getCode x f) w) := by
  have RD := Lib.hid (fun W (hf : Fr [] w W) => ready4_any x v W B hs (Nat.le_trans hB hf.size) (h.fr hf hB (by simp)))
  obtain ⟨A1, c1, A2, c2, A3, c3, rfl, h1, h2, h3⟩ := h
  have H2 := Lib.hid h2
  have D0 := Lib.hid (BX.new w (.int .i64 x.kind) (.string x.text) (.slice A1 x.list.length c1) (.slice A2 x.pairs.length c2) (.slice A3 x.scores.length c3))
  obtain ⟨d0, d1, d2, d3, d4⟩ := five D0.out.b
  have EC := Lib.hid (show getCode x f = if asCode 4 x ≠ 0 then asCode 4 x else match getK Prod.fst x.pairs f with | some _ => 0 | none => 5 from rfl)
  have ES := Lib.hid (show getS x f = if asCode 4 x ≠ 0 then ⟨#[]⟩ else match getK Prod.fst x.pairs f with | some q => q.2 | none => ⟨#[]⟩ from rfl)
  have hs2 := hs.pairs
  clear h1 h2 h3 hs
  by_cases ha : asCode 4 x = 0
  · have hr := pairs_rise ha
    rw [ha] at RD
    have FD := Lib.hid (fun W (hW : Fr [] w W) => findP_any x.pairs f A2 c2 B W hr hs2 (Nat.le_trans hB hW.size) (H2.out.fr hW hB (by simp)))
    by_cases hh : hitK Prod.fst x.pairs f = true
    · obtain ⟨e1, e2⟩ := getK_hit Prod.fst hr hh
      obtain ⟨q, hq⟩ := Option.isSome_iff_exists.1 e2
      rw [hq] at e1
      have E1 := Lib.hid (show getCode x f = 0 from by rw [EC.out, if_neg (by simpa using ha), hq])
      have E2 := Lib.hid (show getS x f = q.2 from by rw [ES.out, if_neg (by simpa using ha), hq])
      rw [E1.out, E2.out]
      rw [hh] at FD
      have hlt := (List.getElem?_eq_some_iff.1 e1).1
      obtain ⟨b, off, rfl, hb, hlc, hcm, hcell⟩ := H2.out.at_ (by omega)
      have HC := Lib.hid (hcell _ _ (pairsV_get _ _ q e1).2)
      unfold maxLen at hcm
      clear hr ha hh e1 e2 hq EC ES E1 E2 hcell
      generalize lowK Prod.fst x.pairs f = i at *
      rw [Nat.mul_comm 2 i] at HC
      go_enter Tryz.func36, Tryz.ntmps36
      go_wp2_with fail
      refine (RD.out _ D0.out.f).mono ?_
      rintro e w1 ⟨rfl, f1⟩
      have D1 := Lib.hid (D0.out.go f1)
      clear d0 d1 d2 d3 d4
      obtain ⟨d0, d1, d2, d3, d4⟩ := five D1.out.b
      go_wp2_with fail
      refine (FD.out _ D1.out.f).mono ?_
      rintro e w2 ⟨rfl, f2⟩
      have D2 := Lib.hid (D1.out.go f2)
      clear d0 d1 d2 d3 d4
      obtain ⟨d0, d1, d2, d3, d4⟩ := five D2.out.b
      have hc1 : w2.cell? ⟨b, off + i * 2 + 1, none⟩ = some (.string q.2) := D2.out.f.cell HC.out (by simp)
      go_wp2
      go_ret2
      exact ⟨rfl, D2.out.f⟩
    · have hh' : hitK Prod.fst x.pairs f = false := by simpa using hh
      have hq := getK_miss Prod.fst hr hh'
      have E1 := Lib.hid (show getCode x f = 5 from by rw [EC.out, if_neg (by simpa using ha), hq])
      have E2 := Lib.hid (show getS x f = ⟨#[]⟩ from by rw [ES.out, if_neg (by simpa using ha), hq])
      rw [E1.out, E2.out]
      rw [hh'] at FD
      clear hr ha hh hh' hq EC ES E1 E2
      generalize lowK Prod.fst x.pairs f = i at *
      go_enter Tryz.func36, Tryz.ntmps36
      go_wp2_with fail
      refine (RD.out _ D0.out.f).mono ?_
      rintro e w1 ⟨rfl, f1⟩
      have D1 := Lib.hid (D0.out.go f1)
      clear d0 d1 d2 d3 d4
      obtain ⟨d0, d1, d2, d3, d4⟩ := five D1.out.b
      go_wp2_with fail
      refine (FD.out _ D1.out.f).mono ?_
      rintro e w2 ⟨rfl, f2⟩
      go_wp2
      go_ret2
      exact ⟨rfl, D1.out.f.trans f2⟩
  · have E1 := Lib.hid (show getCode x f = asCode 4 x from by rw [EC.out, if_pos ha])
    have E2 := Lib.hid (show getS x f = ⟨#[]⟩ from by rw [ES.out, if_pos ha])
    rw [E1.out, E2.out]
    have q : (asCode 4 x != 0) = true := by simpa using ha
    clear ha EC ES E1 E2
    generalize asCode 4 x = r at *
    go_enter Tryz.func36, Tryz.ntmps36
    go_wp2_with fail
    refine (RD.out _ D0.out.f).mono ?_
    rintro e w1 ⟨rfl, f1⟩
    go_wp2
    go_ret2
    exact ⟨rfl, D0.out.f.trans f1⟩
-- DROP (printed by hashes.py out of list.Remove's text)

set_option maxHeartbeats 2000000 in
set_option maxRecDepth 100000 in
theorem hashDrop_any (x : Itm) (v : Value) (l : List ByteArray) (A : Option Addr) (c : Nat) (w : World) (B : Nat) (hs : x.Small) (hB : B ≤ w.heap.size) (h : ItemV w B v x) (hl : l.length ≤ 281474976710656) (hL : Sl w B 1 (.slice A l.length c) l.length (textsV l)) :
    Calls Tryz.prog 22 #[v, .slice A l.length c] w (INPost (dropN x l) (asCode 4 x) (dropY x l) w) := by
  have RD := Lib.hid (fun W (hf : Fr [] w W) => ready4_any x v W B hs (Nat.le_trans hB hf.size) (h.fr hf hB (by simp)))
  obtain ⟨A1, c1, A2, c2, A3, c3, rfl, h1, h2, h3⟩ := h
  have H2 := Lib.hid h2
  have HL := Lib.hid hL
  have D0 := Lib.hid (BO.newL w (.int .i64 x.kind) (.string x.text) (.slice A1 x.list.length c1) (.slice A2 x.pairs.length c2) (.slice A3 x.scores.length c3) (.slice A l.length c))
  obtain ⟨d0, d1, d2, d3, d4⟩ := five D0.out.b
  have S0 := Lib.hid (show (((w.alloc (.cells #[.int .i64 x.kind, .string x.text, .slice A1 x.list.length c1, .slice A2 x.pairs.length c2, .slice A3 x.scores.length c3] 26)).alloc (.cells #[.slice A l.length c] 22)).alloc (.cells #[.int .i64 0, .string ⟨#[]⟩, .slice none 0 0, .slice none 0 0, .slice none 0 0] 26)).cell? ⟨w.heap.size + 1, 0, none⟩ = some (.slice A l.length c) from by
    have := ((Whole.new (w.alloc (.cells #[.int .i64 x.kind, .string x.text, .slice A1 x.list.length c1, .slice A2 x.pairs.length c2, .slice A3 x.scores.length c3] 26)) 22 [.slice A l.length c]).alloc (.cells #[.int .i64 0, .string ⟨#[]⟩, .slice none 0 0, .slice none 0 0, .slice none 0 0] 26)).cell 0
    simpa using this)
  have EY := Lib.hid (show dropY x l = if asCode 4 x = 0 then ofP (dropP x l) else newI 0 from rfl)
  have EK := Lib.hid (show dropN x l = if asCode 4 x = 0 then (x.pairs.length : Int) - (dropP x l).length else 0 from rfl)
  clear h1 h2 h3 hs hL
  by_cases ha : asCode 4 x = 0
  · have hok := asOk_of ha
    rw [EY.out, EK.out, if_pos ha, if_pos ha, ha]
    rw [ha] at RD
    have h24 : x.pairs.length ≤ 24 := by have := hok.le24; unfold many at this; omega
    have hrl : (dropP x l).length ≤ x.pairs.length := List.length_filter_le _ _
    have OF := Lib.hid (fun W base u hu => hashOf_own (dropP x l) base u W (by omega) (fun y hy => by have := hok.fields y (List.mem_filter.1 hy).1; omega) hu)
    have CL := Lib.hid (fun W (hW : Fr [] w W) => cloneP_row x.pairs.length (pairsV x.pairs) A2 c2 W B (by omega) (Nat.le_trans hB hW.size) (H2.out.fr hW hB (by simp)) (pairs_one _))
    have DF := Lib.hid (fun W base u D (hp : PredP 69 #[.pointer (some ⟨w.heap.size + 1, 0, none⟩)] (fun x => l.any fun y => decide (y = x.1)) D W) hD hu => (show Calls Tryz.prog 68 #[u, .func (Fn.func 69) #[] #[.pointer (some ⟨w.heap.size + 1, 0, none⟩)]] W (DelFPostP (dropP x l) base u W) from delFP_any 69 #[.pointer (some ⟨w.heap.size + 1, 0, none⟩)] (enters_any Tryz.func69 (by kernel_rfl) rfl) (fun x => l.any fun y => decide (y = x.1)) D x.pairs base u W hp hD (by omega) hu))
    clear hok EY EK ha
    generalize ofP (dropP x l) = y at *
    have HW := Lib.hid (show IntKind.i64.wrap ((x.pairs.length : Int) - ((dropP x l).length : Int)) = (x.pairs.length : Int) - (dropP x l).length from IntWalk.i64_in _ (by omega))
    generalize dropP x l = r at *
    go_enter Tryz.func22, Tryz.ntmps22
    go_wp2_with fail
    refine (RD.out _ D0.out.f).mono ?_
    rintro e w1 ⟨rfl, f1⟩
    have D1 := Lib.hid (D0.out.go f1)
    have S1 := Lib.hid (f1.cell S0.out (by simp))
    have hz1 := D1.out.lt
    clear d0 d1 d2 d3 d4
    obtain ⟨d0, d1, d2, d3, d4⟩ := five D1.out.b
    go_wp2_with fail
    refine (CL.out _ D1.out.f).mono ?_
    rintro e w2 ⟨u, rfl, ho, f2⟩
    have D2 := Lib.hid (D1.out.go f2)
    have S2 := Lib.hid (f2.cell S1.out (by simp))
    have HO := Lib.hid ho
    obtain ⟨U, cu, rfl, -⟩ := own_slice ho
    have hp := Lib.hid (drop1_pred l A c (w.heap.size + 1) w1.heap.size w2 hl f2.size (((HL.out.fr D1.out.f hB (by simp)).more (Nat.le_trans hB D1.out.f.size)).fr f2 (Nat.le_refl _) (by simp)) S2.out (by omega))
    clear d0 d1 d2 d3 d4 ho
    obtain ⟨d0, d1, d2, d3, d4⟩ := five D2.out.b
    go_wp2_with fail
    refine (DF.out _ _ _ _ hp.out (Nat.le_refl _) HO.out).mono ?_
    rintro e w3 ⟨u3, rfl, ho3, f3, -⟩
    have D3 := Lib.hid (D2.out.step f3 (fun g hg => by have := ownL_base HO.out hg; omega))
    have HO3 := Lib.hid ho3
    obtain ⟨U3, cu3, rfl, -⟩ := own_slice ho3
    clear d0 d1 d2 d3 d4 ho3
    obtain ⟨d0, d1, d2, d3, d4⟩ := five D3.out.b
    have hne1 : ¬ w.heap.size = w.heap.size + 1 + 1 := by omega
    have hne2 : ¬ w.heap.size + 1 + 1 = w.heap.size := by omega
    go_wp2
    go_region_held3 (fun wx => wx.cell? ⟨w.heap.size, 3, none⟩ = some (.slice A2 x.pairs.length c2)) (go_keep) (first | (go_at_call 67; (refine (OF.out _ _ _ (show w3.drew.ownsRow _ _ _ _ _ _ from HO3.out)).mono ?_); rintro e w5 ⟨u5, rfl, hi, f5⟩; have D5 := Lib.hid (D3.out.go (fr_predrew f5)); clear d0 d1 d2 d3 d4 f5; obtain ⟨d0, d1, d2, d3, d4⟩ := five D5.out.b; have HI := Lib.hid hi; obtain ⟨P1, p1, P2, p2, P3, p3, rfl⟩ := hi.form; clear hi; have OO := D5.out.o; rw [show w.heap.size + 2 = w.heap.size + 1 + 1 from rfl] at OO; obtain ⟨a0, a1, a2, a3, a4⟩ := five OO; obtain ⟨b0, b2, b3, b4, b5⟩ := fiveF OO; clear OO))
    go_wp2
    refine bodyPost_ret (v := .tuple #[.agg #[.int .i64 y.kind, .string y.text, .slice P1 y.list.length p1, .slice P2 y.pairs.length p2, .slice P3 y.scores.length p3], .int .i64 (IntKind.i64.wrap ((x.pairs.length : Int) - (r.length : Int))), .int .i64 0]) (by simp [results, Tryz.results22, go_sem, a0, a1, a2, a3, a4]) rfl ?_
    exact ⟨_, by rw [HW.out], (itemO_later HI.out (by omega) _ _ _ _ _).less (by omega), D5.out.end5 _ _ _ _ _⟩
  · rw [EY.out, EK.out, if_neg ha, if_neg ha]
    have q2 : (asCode 4 x != 0) = true := by simpa using ha
    clear EY EK ha
    generalize asCode 4 x = r at *
    go_enter Tryz.func22, Tryz.ntmps22
    go_wp2_with fail
    refine (RD.out _ D0.out.f).mono ?_
    rintro e w1 ⟨rfl, f1⟩
    have D1 := Lib.hid (D0.out.go f1)
    clear d0 d1 d2 d3 d4
    have OO := D1.out.o
    rw [show w.heap.size + 2 = w.heap.size + 1 + 1 from rfl] at OO
    obtain ⟨a0, a1, a2, a3, a4⟩ := five OO
    obtain ⟨b0, b2, b3, b4, b5⟩ := fiveF OO
    clear OO
    go_wp2
    refine bodyPost_ret (v := .tuple #[.agg #[.int .i64 0, .string ⟨#[]⟩, .slice none 0 0, .slice none 0 0, .slice none 0 0], .int .i64 0, .int .i64 r]) (by simp [results, Tryz.results22, go_sem, a0, a1, a2, a3, a4]) rfl ?_
    exact ⟨_, rfl, ItemO.nothing _ _, D1.out.end5 _ _ _ _ _⟩
end Go.Proofs.YtkgbgmfidkimfaaGreat
