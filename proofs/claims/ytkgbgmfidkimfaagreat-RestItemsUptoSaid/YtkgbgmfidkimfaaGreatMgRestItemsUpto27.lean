/- The walk of list.Pop. (Printed by lists.py.) -/
import Derived.Test.YtkgbgmfidkimfaaGreatMgRestItemsUpto12
import Derived.Test.YtkgbgmfidkimfaaGreatMgRestItemsUpto9
import Derived.Test.YtkgbgmfidkimfaaGreatMgRestItemsUpto4
import Derived.Test.YtkgbgmfidkimfaaGreatSlA
import Derived.Deep.RegionHeld3
import Derived.IntWalk
set_option linter.unusedVariables false
set_option linter.unusedSimpArgs false
namespace Go.Proofs.YtkgbgmfidkimfaaGreat
open Go.RowKit

theorem textsV_take1 (l : List ByteArray) (i : Nat) : (textsV l).take (i * 1) = textsV (l.take i) := by simp [textsV, List.map_take]
theorem textsV_drop1 (l : List ByteArray) (i : Nat) : (textsV l).drop (i * 1) = textsV (l.drop i) := by simp [textsV, List.map_drop]
/-- without the element at i. -/
def without {α : Type} (l : List α) (i : Nat) : List α := l.take i ++ l.drop (i + 1)
theorem without_length {α : Type} (l : List α) (i : Nat) (h : i < l.length) : (without l i).length = l.length - 1 := by
  unfold without
  rw [List.length_append, List.length_take, List.length_drop]
  omega
theorem without_mem {α : Type} {l : List α} {i : Nat} {s : α} (h : s ∈ without l i) : s ∈ l := by
  unfold without at h
  rcases List.mem_append.1 h with h | h
  · exact List.mem_of_mem_take h
  · exact List.mem_of_mem_drop h

def DelOne (T size m : Nat) (ys : List Value) (base : Nat) (v : Value) (w : World) (e : Ending) (w' : World) : Prop :=
  ∃ v', e = .returned v' ∧ w'.ownsRow base T size v' m ys ∧ w.grownBy w' v.ownBlock ∧ v'.ownBlock = v.ownBlock

theorem delS_one (l : List ByteArray) (i : Nat) (base : Nat) (v : Value) (w : World) (hl : l.length ≤ 1000000) (hi : i < l.length) (h : w.ownsRow base 9 1 v l.length (textsV l)) :
    Calls Tryz.prog 49 #[v, .int .i64 i, .int .i64 ((i : Int) + 1)] w (DelOne 9 1 (without l i).length (textsV (without l i)) base v w) := by
  have := delS_row l.length i (i + 1) (textsV l) base v w hl (by omega) (by omega) h (texts_one l)
  rw [textsV_take1, textsV_drop1, ← textsV_append, show i + (l.length - (i + 1)) = (without l i).length by rw [without_length l i hi]; omega] at this
  exact this

theorem list_pos {x : Itm} (hok : AsOk 2 x) (hk : x.kind ≠ 0) : 0 < x.list.length := by
  have hc := hok.some hk
  have hk2 : x.kind = 2 := by rcases hok.kind with h | h; exact absurd h hk; exact h
  have hb := hok.bare
  unfold checkItm at hc
  rw [if_neg (by omega), if_neg (by rw [hb]; decide), if_neg (by omega)] at hc
  by_cases hm : many x = 0
  · rw [if_pos hm] at hc; cases hc
  · unfold bareB at hb
    rw [hk2] at hb
    simp at hb
    obtain ⟨⟨_, e3⟩, e4⟩ := hb
    unfold many at hm
    rw [e3, e4] at hm
    simp at hm
    exact List.length_pos_iff.2 hm
theorem pop_without (x : Itm) (left : Bool) (h : 0 < x.list.length) : popL x left = without x.list (if left then 0 else x.list.length - 1) := by
  unfold popL without
  cases left
  · simp
    omega
  · simp

set_option maxHeartbeats 2000000 in
set_option maxRecDepth 100000 in
theorem listPop_any (x : Itm) (v : Value) (left : Bool) (w : World) (B : Nat) (hs : x.Small) (hB : B ≤ w.heap.size) (h : ItemV w B v x) :
    Calls Tryz.prog 13 #[v, .bool left] w (ISPost (popT x left) (popCode x) (popY x left) w) := by
  have RD := Lib.hid (fun W (hf : Fr [] w W) => ready_any x v W B hs (Nat.le_trans hB hf.size) (h.fr hf hB (by simp)))
  obtain ⟨A1, c1, A2, c2, A3, c3, rfl, h1, h2, h3⟩ := h
  have H1 := Lib.hid h1
  have D0 := Lib.hid (BO.new w (.int .i64 x.kind) (.string x.text) (.slice A1 x.list.length c1) (.slice A2 x.pairs.length c2) (.slice A3 x.scores.length c3))
  obtain ⟨d0, d1, d2, d3, d4⟩ := five D0.out.b
  have EC := Lib.hid (show popCode x = if asCode 2 x ≠ 0 then asCode 2 x else if x.kind = 0 then 5 else 0 from rfl)
  have EY := Lib.hid (show popY x left = if popCode x = 0 then ofL (popL x left) else newI 0 from rfl)
  have EK := Lib.hid (show popT x left = if popCode x = 0 then popS x left else ⟨#[]⟩ from rfl)
  have hs1 := hs.list
  clear h1 h2 h3 hs
  have no0 : ∀ c : Int, c ≠ 0 → popCode x = c → popY x left = newI 0 ∧ popT x left = ⟨#[]⟩ := fun c hc he => by
    have h0 : popCode x ≠ 0 := by rw [he]; exact hc
    exact ⟨by rw [EY.out, if_neg h0], by rw [EK.out, if_neg h0]⟩
  have NO := Lib.hid no0
  clear no0
  by_cases ha : asCode 2 x = 0
  · have hok := asOk_of ha
    rw [ha] at RD
    by_cases hk : x.kind = 0
    · have E := Lib.hid (show popCode x = 5 from by rw [EC.out, if_neg (by simpa using ha), if_pos hk])
      obtain ⟨e1, e2⟩ := NO.out 5 (by decide) E.out
      rw [e1, e2, E.out]
      have q : (x.kind == 0) = true := by simpa using hk
      clear e1 e2 E EC EY EK ha hk NO hok
      generalize x.kind = k at *
      go_enter Tryz.func13, Tryz.ntmps13
      go_wp2_with fail
      refine (RD.out _ D0.out.f).mono ?_
      rintro e w1 ⟨rfl, f1⟩
      have D1 := Lib.hid (D0.out.go f1)
      clear d0 d1 d2 d3 d4
      obtain ⟨d0, d1, d2, d3, d4⟩ := five D1.out.b
      obtain ⟨a0, a1, a2, a3, a4⟩ := five D1.out.o
      obtain ⟨b0, b2, b3, b4, b5⟩ := fiveF D1.out.o
      go_wp2
      refine bodyPost_ret (v := .tuple #[.agg #[.int .i64 0, .string ⟨#[]⟩, .slice none 0 0, .slice none 0 0, .slice none 0 0], .string ⟨#[]⟩, .int .i64 5]) (by simp [results, Tryz.results13, go_sem, a0, a1, a2, a3, a4]) rfl ?_
      exact ⟨_, rfl, ItemO.nothing _ _, D1.out.end5 _ _ _ _ _⟩
    · have E := Lib.hid (show popCode x = 0 from by rw [EC.out, if_neg (by simpa using ha), if_neg hk])
      have q : (x.kind == 0) = false := by simpa using hk
      have hpos := list_pos hok hk
      have h24 : x.list.length ≤ 24 := by have := hok.le24; unfold many at this; omega
      obtain ⟨b, off, rfl, hb, hlc, hcm, hcell⟩ := H1.out.at_ hpos
      rw [EY.out, EK.out, E.out, if_pos rfl, if_pos rfl]
      obtain ⟨i, hi⟩ : ∃ i, i = if left then 0 else x.list.length - 1 := ⟨_, rfl⟩
      have hil : i < x.list.length := by rw [hi]; split <;> omega
      obtain ⟨s, hs⟩ : ∃ s, x.list[i]? = some s := ⟨_, List.getElem?_eq_getElem hil⟩
      have hps : popS x left = s := by unfold popS; rw [← hi, List.getD_eq_getElem?_getD, hs]; rfl
      have hpl : popL x left = without x.list i := by rw [pop_without x left hpos, hi]
      rw [hps, hpl]
      have OF := Lib.hid (fun W base u hu => listOf_own (without x.list i) base u W (by rw [without_length _ _ hil]; omega) (fun s hs => by
        have := hok.texts s (without_mem hs); omega) hu)
      have DL := Lib.hid (fun W base u hu => delS_one x.list i base u W (by omega) hil hu)
      have CL := Lib.hid (fun W (hW : Fr [] w W) => cloneS_row x.list.length (textsV x.list) (some ⟨b, off, none⟩) c1 W B (by omega) (Nat.le_trans hB hW.size) (H1.out.fr hW hB (by simp)) (texts_one _))
      have hcs : w.cell? ⟨b, off + i, none⟩ = some (.string s) := hcell i _ (textsV_get _ i s hs)
      have HCS := Lib.hid hcs
      unfold maxLen at hcm
      clear hok E EC EY EK ha hk NO hps hpl hcell hs hcs
      generalize ofL (without x.list i) = y at *
      cases left
      · have hie : (i : Int) = ((x.list.length : Int) - 1) := by rw [hi]; simp; omega
        have hi0 := hi; clear hi0
        have HIE := Lib.hid hie
        have hoff : off + i < off + x.list.length := by omega
        clear hi hie
        go_enter Tryz.func13, Tryz.ntmps13
        go_wp2_with fail
        refine (RD.out _ D0.out.f).mono ?_
        rintro e w1 ⟨rfl, f1⟩
        have D1 := Lib.hid (D0.out.go f1)
        have hz1 := D1.out.lt
        clear d0 d1 d2 d3 d4
        obtain ⟨d0, d1, d2, d3, d4⟩ := five D1.out.b
        have hc1 : w1.cell? ⟨b, off + i, none⟩ = some (.string s) := D1.out.f.cell HCS.out (by simp)
        have hne1 : ¬ b = w.heap.size + 1 := by omega
        have hne2 : ¬ w.heap.size + 1 = b := by omega
        go_wp2
        rw [← HIE.out]
        clear HIE
        have hwr : IntKind.i64.wrap ((i : Int) + 1) = (i : Int) + 1 := IntWalk.i64_in _ (by omega)
        rw [← hwr] at DL
        clear hwr
        go_region_held3 (fun wx => wx.cell? ⟨w.heap.size, 2, none⟩ = some (.slice (some ⟨b, off, none⟩) x.list.length c1) ∧ wx.cell? ⟨b, off + i, none⟩ = some (.string s)) (go_keep) (first | (go_at_call 46; (refine (CL.out _ D1.out.f.drew).mono ?_); rintro e w3 ⟨u, rfl, ho, f3⟩; have D3 := Lib.hid (D1.out.go (fr_predrew f3)); clear d0 d1 d2 d3 d4 hc1 f3; obtain ⟨d0, d1, d2, d3, d4⟩ := five D3.out.b; have hc1 : w3.cell? ⟨b, off + i, none⟩ = some (.string s) := D3.out.f.cell HCS.out (by simp); have HO := Lib.hid (show w3.ownsRow w1.heap.size _ _ _ _ _ from ho); obtain ⟨U, cu, rfl, -⟩ := own_slice ho; clear ho) | (go_at_call 49; (refine (DL.out _ _ _ HO.out).mono ?_); rintro e w4 ⟨u4, rfl, ho4, hg4, -⟩; have D4 := Lib.hid (D3.out.step (fr_ownL hg4) (fun g hg => by have := ownL_base HO.out hg; omega)); clear d0 d1 d2 d3 d4 hc1 hg4; obtain ⟨d0, d1, d2, d3, d4⟩ := five D4.out.b; have hc1 : w4.cell? ⟨b, off + i, none⟩ = some (.string s) := D4.out.f.cell HCS.out (by simp); have HO4 := Lib.hid ho4; obtain ⟨U4, cu4, rfl, -⟩ := own_slice ho4; clear ho4) | (go_at_call 48; (refine (OF.out _ _ _ HO4.out).mono ?_); rintro e w5 ⟨u5, rfl, hi, f5⟩; have D5 := Lib.hid (D4.out.go f5); clear d0 d1 d2 d3 d4 hc1 f5; obtain ⟨d0, d1, d2, d3, d4⟩ := five D5.out.b; have hc1 : w5.cell? ⟨b, off + i, none⟩ = some (.string s) := D5.out.f.cell HCS.out (by simp); have HI := Lib.hid hi; obtain ⟨P1, p1, P2, p2, P3, p3, rfl⟩ := hi.form; clear hi; obtain ⟨a0, a1, a2, a3, a4⟩ := five D5.out.o; obtain ⟨b0, b2, b3, b4, b5⟩ := fiveF D5.out.o))
        go_wp2
        refine bodyPost_ret (v := .tuple #[.agg #[.int .i64 y.kind, .string y.text, .slice P1 y.list.length p1, .slice P2 y.pairs.length p2, .slice P3 y.scores.length p3], .string s, .int .i64 0]) (by simp [results, Tryz.results13, go_sem, a0, a1, a2, a3, a4]) rfl ?_
        exact ⟨_, rfl, (itemO_later HI.out (by omega) _ _ _ _ _).less (by omega), D5.out.end5 _ _ _ _ _⟩
      · have hie : (i : Int) = 0 := by rw [hi]; simp
        obtain rfl : i = 0 := by omega
        rw [hie, Int.zero_add] at DL
        have hoff : off + 0 < off + x.list.length := by omega
        clear hi hie
        go_enter Tryz.func13, Tryz.ntmps13
        go_wp2_with fail
        refine (RD.out _ D0.out.f).mono ?_
        rintro e w1 ⟨rfl, f1⟩
        have D1 := Lib.hid (D0.out.go f1)
        have hz1 := D1.out.lt
        clear d0 d1 d2 d3 d4
        obtain ⟨d0, d1, d2, d3, d4⟩ := five D1.out.b
        have hc1 : w1.cell? ⟨b, off, none⟩ = some (.string s) := D1.out.f.cell HCS.out (by simp)
        have hne1 : ¬ b = w.heap.size + 1 := by omega
        have hne2 : ¬ w.heap.size + 1 = b := by omega
        go_wp2
        go_region_held3 (fun wx => wx.cell? ⟨w.heap.size, 2, none⟩ = some (.slice (some ⟨b, off, none⟩) x.list.length c1) ∧ wx.cell? ⟨b, off, none⟩ = some (.string s)) (go_keep) (first | (go_at_call 46; (refine (CL.out _ D1.out.f.drew).mono ?_); rintro e w3 ⟨u, rfl, ho, f3⟩; have D3 := Lib.hid (D1.out.go (fr_predrew f3)); clear d0 d1 d2 d3 d4 hc1 f3; obtain ⟨d0, d1, d2, d3, d4⟩ := five D3.out.b; have hc1 : w3.cell? ⟨b, off, none⟩ = some (.string s) := D3.out.f.cell HCS.out (by simp); have HO := Lib.hid (show w3.ownsRow w1.heap.size _ _ _ _ _ from ho); obtain ⟨U, cu, rfl, -⟩ := own_slice ho; clear ho) | (go_at_call 49; (refine (DL.out _ _ _ HO.out).mono ?_); rintro e w4 ⟨u4, rfl, ho4, hg4, -⟩; have D4 := Lib.hid (D3.out.step (fr_ownL hg4) (fun g hg => by have := ownL_base HO.out hg; omega)); clear d0 d1 d2 d3 d4 hc1 hg4; obtain ⟨d0, d1, d2, d3, d4⟩ := five D4.out.b; have hc1 : w4.cell? ⟨b, off, none⟩ = some (.string s) := D4.out.f.cell HCS.out (by simp); have HO4 := Lib.hid ho4; obtain ⟨U4, cu4, rfl, -⟩ := own_slice ho4; clear ho4) | (go_at_call 48; (refine (OF.out _ _ _ HO4.out).mono ?_); rintro e w5 ⟨u5, rfl, hi, f5⟩; have D5 := Lib.hid (D4.out.go f5); clear d0 d1 d2 d3 d4 hc1 f5; obtain ⟨d0, d1, d2, d3, d4⟩ := five D5.out.b; have hc1 : w5.cell? ⟨b, off, none⟩ = some (.string s) := D5.out.f.cell HCS.out (by simp); have HI := Lib.hid hi; obtain ⟨P1, p1, P2, p2, P3, p3, rfl⟩ := hi.form; clear hi; obtain ⟨a0, a1, a2, a3, a4⟩ := five D5.out.o; obtain ⟨b0, b2, b3, b4, b5⟩ := fiveF D5.out.o))
        go_wp2
        refine bodyPost_ret (v := .tuple #[.agg #[.int .i64 y.kind, .string y.text, .slice P1 y.list.length p1, .slice P2 y.pairs.length p2, .slice P3 y.scores.length p3], .string s, .int .i64 0]) (by simp [results, Tryz.results13, go_sem, a0, a1, a2, a3, a4]) rfl ?_
        exact ⟨_, rfl, (itemO_later HI.out (by omega) _ _ _ _ _).less (by omega), D5.out.end5 _ _ _ _ _⟩
  · have E := Lib.hid (show popCode x = asCode 2 x from by rw [EC.out, if_pos ha])
    obtain ⟨e1, e2⟩ := NO.out _ ha E.out
    rw [e1, e2, E.out]
    have q : (asCode 2 x == 0) = false := by simpa using ha
    have q2 : (asCode 2 x != 0) = true := by simpa using ha
    clear e1 e2 E EC EY EK ha NO
    generalize asCode 2 x = r at *
    go_enter Tryz.func13, Tryz.ntmps13
    go_wp2_with fail
    refine (RD.out _ D0.out.f).mono ?_
    rintro e w1 ⟨rfl, f1⟩
    have D1 := Lib.hid (D0.out.go f1)
    clear d0 d1 d2 d3 d4
    obtain ⟨a0, a1, a2, a3, a4⟩ := five D1.out.o
    obtain ⟨b0, b2, b3, b4, b5⟩ := fiveF D1.out.o
    go_wp2
    refine bodyPost_ret (v := .tuple #[.agg #[.int .i64 0, .string ⟨#[]⟩, .slice none 0 0, .slice none 0 0, .slice none 0 0], .string ⟨#[]⟩, .int .i64 r]) (by simp [results, Tryz.results13, go_sem, a0, a1, a2, a3, a4]) rfl ?_
    exact ⟨_, rfl, ItemO.nothing _ _, D1.out.end5 _ _ _ _ _⟩
end Go.Proofs.YtkgbgmfidkimfaaGreat
