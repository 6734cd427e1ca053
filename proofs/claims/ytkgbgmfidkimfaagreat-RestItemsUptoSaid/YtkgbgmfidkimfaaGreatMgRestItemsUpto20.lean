/- The walk of set.Add. -/
import Derived.Test.YtkgbgmfidkimfaaGreatMgRestItemsUpto19
set_option linter.unusedVariables false
set_option linter.unusedSimpArgs false
namespace Go.Proofs.YtkgbgmfidkimfaaGreat
open Go.RowKit

def addL3 (x : Itm) (l : List ByteArray) : List ByteArray := setU (x.list ++ l)
def pre3 (x : Itm) (l : List ByteArray) : Int := if asCode 3 x ≠ 0 then asCode 3 x else someCode l
def add3 (x : Itm) (l : List ByteArray) : Int := if pre3 x l ≠ 0 then pre3 x l else if 24 < (addL3 x l).length then 2 else 0
def add3Y (x : Itm) (l : List ByteArray) : Itm := if add3 x l = 0 then ofK 3 (addL3 x l) else newI 0
def add3N (x : Itm) (l : List ByteArray) : Int := if add3 x l = 0 then ((addL3 x l).length : Int) - x.list.length else 0
theorem pre3_ok {x : Itm} {l : List ByteArray} (h : pre3 x l = 0) : asCode 3 x = 0 ∧ someCode l = 0 := by
  unfold pre3 at h
  by_cases ha : asCode 3 x = 0
  · rw [if_neg (by simpa using ha)] at h
    exact ⟨ha, h⟩
  · rw [if_pos ha] at h
    exact absurd h ha
theorem add3_ok {x : Itm} {l : List ByteArray} (h : add3 x l = 0) : pre3 x l = 0 ∧ (addL3 x l).length ≤ 24 := by
  unfold add3 at h
  by_cases hp : pre3 x l = 0
  · rw [if_neg (by simpa using hp)] at h
    refine ⟨hp, ?_⟩
    by_cases hc : 24 < (addL3 x l).length
    · rw [if_pos hc] at h; cases h
    · omega
  · rw [if_pos hp] at h
    exact absurd h hp
theorem addL3_texts {x : Itm} {l : List ByteArray} (h : pre3 x l = 0) : ∀ s ∈ addL3 x l, s.size ≤ 60 := fun s hs => by
  obtain ⟨ha, hb⟩ := pre3_ok h
  rcases List.mem_append.1 (setU_mem.1 hs) with h1 | h1
  · exact (asOk_of ha).texts s h1
  · exact some_texts hb s h1

theorem whole_far5 {w : World} {g t o : Nat} {cs : List Value} (h : Whole w g t cs) (hg : g ≠ o) (a b c d e : Value) :
    Whole (((((w.setCell ⟨o, 0, none⟩ a).setCell ⟨o, 1, none⟩ b).setCell ⟨o, 2, none⟩ c).setCell ⟨o, 3, none⟩ d).setCell ⟨o, 4, none⟩ e) g t cs :=
  ((((h.far hg _).far hg _).far hg _).far hg _).far hg _
set_option maxHeartbeats 2000000 in
set_option maxRecDepth 100000 in
theorem setAdd_any (x : Itm) (v : Value) (l : List ByteArray) (Al : Option Addr) (cl : Nat) (w : World) (B : Nat) (hs : x.Small) (hB : B ≤ w.heap.size) (h : ItemV w B v x) (hl : l.length ≤ 8796093021952) (hL : Sl w B 1 (.slice Al l.length cl) l.length (textsV l)) :
    Calls Tryz.prog 17 #[v, .slice Al l.length cl] w (INPost (add3N x l) (add3 x l) (add3Y x l) w) := by
  have RD := Lib.hid (fun W (hf : Fr [] w W) => ready3_any x v W B hs (Nat.le_trans hB hf.size) (h.fr hf hB (by simp)))
  have SM := Lib.hid (fun W (hf : Fr [] w W) => some_any l Al cl W B (by omega) (Nat.le_trans hB hf.size) (hL.fr hf hB (by simp)))
  have HL := Lib.hid hL
  obtain ⟨A1, c1, A2, c2, A3, c3, rfl, h1, h2, h3⟩ := h
  have H1 := Lib.hid h1
  have D0 := Lib.hid (BO.new w (.int .i64 x.kind) (.string x.text) (.slice A1 x.list.length c1) (.slice A2 x.pairs.length c2) (.slice A3 x.scores.length c3))
  obtain ⟨d0, d1, d2, d3, d4⟩ := five D0.out.b
  have EP := Lib.hid (show pre3 x l = if asCode 3 x ≠ 0 then asCode 3 x else someCode l from rfl)
  have EC := Lib.hid (show add3 x l = if pre3 x l ≠ 0 then pre3 x l else if 24 < (addL3 x l).length then 2 else 0 from rfl)
  have EY := Lib.hid (show add3Y x l = if add3 x l = 0 then ofK 3 (addL3 x l) else newI 0 from rfl)
  have EK := Lib.hid (show add3N x l = if add3 x l = 0 then ((addL3 x l).length : Int) - x.list.length else 0 from rfl)
  have OK := Lib.hid (fun (h : pre3 x l = 0) => addL3_texts h)
  have OA := Lib.hid (fun (h : asCode 3 x = 0) => (setOk h).2)
  have ON := Lib.hid (fun (h : someCode l = 0) => some_texts h)
  have OX := Lib.hid (fun (h : asCode 3 x = 0) => (asOk_of h).texts)
  have EL := Lib.hid (ofK_list 3 (addL3 x l))
  have LL := Lib.hid (show (addL3 x l).length ≤ x.list.length + l.length from by have := setU_len (x.list ++ l); rw [List.length_append] at this; exact this)
  clear h1 h2 h3 hs hL
  have no0 : ∀ c : Int, c ≠ 0 → add3 x l = c → add3Y x l = newI 0 ∧ add3N x l = 0 := fun c hc he => by
    have h0 : add3 x l ≠ 0 := by rw [he]; exact hc
    exact ⟨by rw [EY.out, if_neg h0], by rw [EK.out, if_neg h0]⟩
  have NO := Lib.hid no0
  clear no0
  by_cases ha : asCode 3 x = 0
  · rw [ha] at RD
    by_cases hb : someCode l = 0
    · rw [hb] at SM
      have hp : pre3 x l = 0 := by rw [EP.out, if_neg (by simpa using ha)]; exact hb
      have h24 := OA.out ha
      have hll := LL.out
      have OF := Lib.hid (fun W base u hb0 hu => (show Calls Tryz.prog 54 #[u] W (OfPost (ofK 3 (addL3 x l)) base u W) from setOf_own (x.list ++ l) base u W (by rw [List.length_append]; omega) (fun s hs => by
        rcases List.mem_append.1 hs with h | h
        · have := OX.out ha s h; omega
        · have := ON.out hb s h; omega) hb0 hu))
      have HW := Lib.hid (show IntKind.i64.wrap (((addL3 x l).length : Int) - (x.list.length : Int)) = ((addL3 x l).length : Int) - x.list.length from IntWalk.i64_in _ (by omega))
      by_cases hc : 24 < (addL3 x l).length
      · have E := Lib.hid (show add3 x l = 2 from by rw [EC.out, if_neg (by simpa using hp), if_pos hc])
        obtain ⟨e1, e2⟩ := NO.out 2 (by decide) E.out
        rw [e1, e2, E.out]
        have q : ((addL3 x l).length : Int) > 24 := by omega
        have ELL := Lib.hid (congrArg List.length EL.out)
        clear e1 e2 EP EC EY EK OK OA ON OX ha hb hc NO hp EL LL HW
        generalize ofK 3 (addL3 x l) = y at *
        generalize (addL3 x l).length = N at *
        go_enter Tryz.func17, Tryz.ntmps17
        go_wp2_with fail
        refine (RD.out _ D0.out.f).mono ?_
        rintro e w1 ⟨rfl, f1⟩
        have D1 := Lib.hid (D0.out.go f1)
        clear d0 d1 d2 d3 d4
        obtain ⟨d0, d1, d2, d3, d4⟩ := five D1.out.b
        go_wp2_with fail
        refine (SM.out _ D1.out.f).mono ?_
        rintro e w2 ⟨rfl, f2⟩
        have D2 := Lib.hid (D1.out.go f2)
        clear d0 d1 d2 d3 d4
        obtain ⟨d0, d1, d2, d3, d4⟩ := five D2.out.b
        have D3 := Lib.hid (D2.out.alloc (.cells #[.slice A1 x.list.length c1, .slice Al l.length cl] 22))
        have V3 := Lib.hid (Whole.new w2 22 [.slice A1 x.list.length c1, .slice Al l.length cl])
        have CC := Lib.hid (concat_any x.list l _ _ w2.heap.size 2 _ B (by omega) (by omega) (by omega) (by omega) (Nat.le_trans hB D3.out.f.size) (H1.out.fr D3.out.f hB (by simp)) (HL.out.fr D3.out.f hB (by simp)) (V3.out.cell 0) (V3.out.cell 1))
        go_wp2_with fail
        refine CC.out.mono ?_
        rintro e w3 ⟨u, rfl, ho, f3⟩
        have D4 := Lib.hid (D3.out.go f3)
        have hz := D3.out.lt
        obtain ⟨U, cu, hu, -⟩ := own_slice ho
        rw [List.length_append] at hu
        subst hu
        have HO := Lib.hid ho
        clear d0 d1 d2 d3 d4 ho
        go_wp2_with fail
        refine (OF.out _ _ _ f3.size HO.out).mono ?_
        rintro e w4 ⟨u, rfl, hi, f4⟩
        have D4 := Lib.hid (D4.out.step f4 (fun g hg => by have := ownL_base HO.out hg; omega))
        have HI := Lib.hid hi
        obtain ⟨P1, p1, P2, p2, P3, p3, rfl⟩ := hi.form
        clear hi
        have D5 := Lib.hid (D4.out.alloc (.cells #[.int .i64 y.kind, .string y.text, .slice P1 y.list.length p1, .slice P2 y.pairs.length p2, .slice P3 y.scores.length p3] 26))
        have V5 := Lib.hid (Whole.new w4 26 [.int .i64 y.kind, .string y.text, .slice P1 y.list.length p1, .slice P2 y.pairs.length p2, .slice P3 y.scores.length p3])
        have q : (y.list.length : Int) > 24 := by rw [ELL.out]; exact q
        obtain ⟨a0, a1, a2, a3, a4⟩ := five D5.out.o
        obtain ⟨b0, b2, b3, b4, b5⟩ := fiveF D5.out.o
        obtain ⟨g0, g1, g2, g3, g4⟩ := five V5.out
        go_wp2
        refine bodyPost_ret (v := .tuple #[.agg #[.int .i64 0, .string ⟨#[]⟩, .slice none 0 0, .slice none 0 0, .slice none 0 0], .int .i64 0, .int .i64 2]) (by simp [results, Tryz.results17, go_sem, a0, a1, a2, a3, a4]) rfl ?_
        exact ⟨_, rfl, ItemO.nothing _ _, D5.out.end5 _ _ _ _ _⟩
      · have E := Lib.hid (show add3 x l = 0 from by rw [EC.out, if_neg (by simpa using hp), if_neg hc])
        rw [EY.out, EK.out, E.out, if_pos rfl, if_pos rfl]
        have q : ¬ (((addL3 x l).length : Int) > 24) := by omega
        have ELL := Lib.hid (congrArg List.length EL.out)
        clear EP EC EY EK OK OA ON OX ha hb hc NO hp EL LL E
        generalize ofK 3 (addL3 x l) = y at *
        generalize (addL3 x l).length = N at *
        go_enter Tryz.func17, Tryz.ntmps17
        go_wp2_with fail
        refine (RD.out _ D0.out.f).mono ?_
        rintro e w1 ⟨rfl, f1⟩
        have D1 := Lib.hid (D0.out.go f1)
        clear d0 d1 d2 d3 d4
        obtain ⟨d0, d1, d2, d3, d4⟩ := five D1.out.b
        go_wp2_with fail
        refine (SM.out _ D1.out.f).mono ?_
        rintro e w2 ⟨rfl, f2⟩
        have D2 := Lib.hid (D1.out.go f2)
        clear d0 d1 d2 d3 d4
        obtain ⟨d0, d1, d2, d3, d4⟩ := five D2.out.b
        have D3 := Lib.hid (D2.out.alloc (.cells #[.slice A1 x.list.length c1, .slice Al l.length cl] 22))
        have V3 := Lib.hid (Whole.new w2 22 [.slice A1 x.list.length c1, .slice Al l.length cl])
        have CC := Lib.hid (concat_any x.list l _ _ w2.heap.size 2 _ B (by omega) (by omega) (by omega) (by omega) (Nat.le_trans hB D3.out.f.size) (H1.out.fr D3.out.f hB (by simp)) (HL.out.fr D3.out.f hB (by simp)) (V3.out.cell 0) (V3.out.cell 1))
        go_wp2_with fail
        refine CC.out.mono ?_
        rintro e w3 ⟨u, rfl, ho, f3⟩
        have D4 := Lib.hid (D3.out.go f3)
        have hz := D3.out.lt
        obtain ⟨U, cu, hu, -⟩ := own_slice ho
        rw [List.length_append] at hu
        subst hu
        have HO := Lib.hid ho
        clear d0 d1 d2 d3 d4 ho
        go_wp2_with fail
        refine (OF.out _ _ _ f3.size HO.out).mono ?_
        rintro e w4 ⟨u, rfl, hi, f4⟩
        have D4 := Lib.hid (D4.out.step f4 (fun g hg => by have := ownL_base HO.out hg; omega))
        have HI := Lib.hid hi
        obtain ⟨P1, p1, P2, p2, P3, p3, rfl⟩ := hi.form
        clear hi
        have D5 := Lib.hid (D4.out.alloc (.cells #[.int .i64 y.kind, .string y.text, .slice P1 y.list.length p1, .slice P2 y.pairs.length p2, .slice P3 y.scores.length p3] 26))
        have V5 := Lib.hid (Whole.new w4 26 [.int .i64 y.kind, .string y.text, .slice P1 y.list.length p1, .slice P2 y.pairs.length p2, .slice P3 y.scores.length p3])
        have q : ¬ ((y.list.length : Int) > 24) := by rw [ELL.out]; omega
        have hz4 := D4.out.lt
        have hne1 : ¬ w.heap.size = w.heap.size + 1 := by omega
        have hne2 : ¬ w.heap.size + 1 = w.heap.size := by omega
        have hne3 : ¬ w4.heap.size = w.heap.size + 1 := by omega
        have hne4 : ¬ w.heap.size + 1 = w4.heap.size := by omega
        have HI5 := Lib.hid (HI.out.go ((Fr.refl [] _).alloc (.cells #[.int .i64 y.kind, .string y.text, .slice P1 y.list.length p1, .slice P2 y.pairs.length p2, .slice P3 y.scores.length p3] 26)))
        go_wp2_with fail
        generalize hw5 : w4.alloc (.cells #[.int .i64 y.kind, .string y.text, .slice P1 y.list.length p1, .slice P2 y.pairs.length p2, .slice P3 y.scores.length p3] 26) = w5
        rw [hw5] at D5 V5 HI5
        clear hw5
        obtain ⟨a0, a1, a2, a3, a4⟩ := five D5.out.o
        obtain ⟨b0, b2, b3, b4, b5⟩ := fiveF D5.out.o
        obtain ⟨d0, d1, d2, d3, d4⟩ := five D5.out.b
        obtain ⟨g0, g1, g2, g3, g4⟩ := five V5.out
        go_wp2
        go_region_held3 (fun wx => wx.cell? ⟨w.heap.size, 2, none⟩ = some (.slice A1 x.list.length c1) ∧ wx.cell? ⟨w4.heap.size, 0, none⟩ = some (.int .i64 y.kind) ∧ wx.cell? ⟨w4.heap.size, 1, none⟩ = some (.string y.text) ∧ wx.cell? ⟨w4.heap.size, 2, none⟩ = some (.slice P1 y.list.length p1) ∧ wx.cell? ⟨w4.heap.size, 3, none⟩ = some (.slice P2 y.pairs.length p2) ∧ wx.cell? ⟨w4.heap.size, 4, none⟩ = some (.slice P3 y.scores.length p3)) (go_keep) (first | fail)
        go_wp2
        refine bodyPost_ret (v := .tuple #[.agg #[.int .i64 y.kind, .string y.text, .slice P1 y.list.length p1, .slice P2 y.pairs.length p2, .slice P3 y.scores.length p3], .int .i64 (IntKind.i64.wrap ((y.list.length : Int) - (x.list.length : Int))), .int .i64 0]) (by simp [results, Tryz.results17, go_sem, a0, a1, a2, a3, a4]) rfl ?_
        exact ⟨_, by rw [ELL.out, HW.out], ((itemO_later (HI5.out.go (Fr.refl [] _).drew) (by omega) _ _ _ _ _).less (by omega)), (D5.out.go (Fr.refl [] _).drew).end5 _ _ _ _ _⟩
    · have hp : pre3 x l = someCode l := by rw [EP.out, if_neg (by simpa using ha)]
      have E := Lib.hid (show add3 x l = someCode l from by rw [EC.out, hp, if_pos hb])
      obtain ⟨e1, e2⟩ := NO.out _ hb E.out
      rw [e1, e2, E.out]
      have q2 : (someCode l != 0) = true := by simpa using hb
      clear e1 e2 EP EC EY EK OK OA ON OX ha hb NO hp EL LL E
      generalize someCode l = r at *
      go_enter Tryz.func17, Tryz.ntmps17
      go_wp2_with fail
      refine (RD.out _ D0.out.f).mono ?_
      rintro e w1 ⟨rfl, f1⟩
      have D1 := Lib.hid (D0.out.go f1)
      clear d0 d1 d2 d3 d4
      obtain ⟨d0, d1, d2, d3, d4⟩ := five D1.out.b
      go_wp2_with fail
      refine (SM.out _ D1.out.f).mono ?_
      rintro e w2 ⟨rfl, f2⟩
      have D2 := Lib.hid (D1.out.go f2)
      clear d0 d1 d2 d3 d4
      obtain ⟨a0, a1, a2, a3, a4⟩ := five D2.out.o
      obtain ⟨b0, b2, b3, b4, b5⟩ := fiveF D2.out.o
      go_wp2
      refine bodyPost_ret (v := .tuple #[.agg #[.int .i64 0, .string ⟨#[]⟩, .slice none 0 0, .slice none 0 0, .slice none 0 0], .int .i64 0, .int .i64 r]) (by simp [results, Tryz.results17, go_sem, a0, a1, a2, a3, a4]) rfl ?_
      exact ⟨_, rfl, ItemO.nothing _ _, D2.out.end5 _ _ _ _ _⟩
  · have hp : pre3 x l = asCode 3 x := by rw [EP.out, if_pos ha]
    have E := Lib.hid (show add3 x l = asCode 3 x from by rw [EC.out, hp, if_pos ha])
    obtain ⟨e1, e2⟩ := NO.out _ ha E.out
    rw [e1, e2, E.out]
    have q2 : (asCode 3 x != 0) = true := by simpa using ha
    have q3 : (asCode 3 x == 0) = false := by simpa using ha
    clear e1 e2 EP EC EY EK OK OA ON OX ha NO hp EL LL E
    generalize asCode 3 x = r at *
    go_enter Tryz.func17, Tryz.ntmps17
    go_wp2_with fail
    refine (RD.out _ D0.out.f).mono ?_
    rintro e w1 ⟨rfl, f1⟩
    have D1 := Lib.hid (D0.out.go f1)
    clear d0 d1 d2 d3 d4
    obtain ⟨a0, a1, a2, a3, a4⟩ := five D1.out.o
    obtain ⟨b0, b2, b3, b4, b5⟩ := fiveF D1.out.o
    go_wp2
    refine bodyPost_ret (v := .tuple #[.agg #[.int .i64 0, .string ⟨#[]⟩, .slice none 0 0, .slice none 0 0, .slice none 0 0], .int .i64 0, .int .i64 r]) (by simp [results, Tryz.results17, go_sem, a0, a1, a2, a3, a4]) rfl ?_
    exact ⟨_, rfl, ItemO.nothing _ _, D1.out.end5 _ _ _ _ _⟩
end Go.Proofs.YtkgbgmfidkimfaaGreat
