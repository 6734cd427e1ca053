/- The walks of set.ready, of, Has, Remove. -/
import Derived.Test.YtkgbgmfidkimfaaGreatMgRestItemsUpto5
import Derived.Test.YtkgbgmfidkimfaaGreatMgRestItemsUpto6
import Derived.Test.YtkgbgmfidkimfaaGreatSlG
set_option linter.unusedVariables false
set_option linter.unusedSimpArgs false
namespace Go.Proofs.YtkgbgmfidkimfaaGreat
open Go.RowKit

theorem setOk {x : Itm} (h : asCode 3 x = 0) : rises ltS x.list = true ∧ x.list.length ≤ 24 := by
  have k := asOk_of h
  have hm := k.le24
  refine ⟨?_, by unfold many at hm; omega⟩
  by_cases h0 : x.kind = 0
  · have := k.none h0
    unfold many at this
    rw [List.eq_nil_of_length_eq_zero (show x.list.length = 0 by omega)]
    rfl
  · have hk : x.kind = 3 := by rcases k.kind with e | e
                               · exact absurd e h0
                               · exact e
    have hc := k.some h0
    unfold checkItm at hc
    rw [hk] at hc
    rw [if_neg (by decide)] at hc
    split at hc
    · cases hc
    · rw [if_neg (by decide)] at hc
      split at hc
      · cases hc
      · split at hc
        · cases hc
        · split at hc
          · cases hc
          · rename_i hn
            rcases hr : rises ltS x.list with _ | _
            · exact absurd (.inl ⟨rfl, hr⟩) hn
            · rfl

set_option maxRecDepth 100000 in
theorem ready3_any (x : Itm) (v : Value) (w : World) (B : Nat) (hs : x.Small) (hB : B ≤ w.heap.size) (h : ItemV w B v x) :
    Calls Tryz.prog 53 #[v] w fun e w' => e = .returned (.int .i64 (asCode 3 x)) ∧ Fr [] w w' := by
  have M := Lib.hid (fun W (hf : Fr [] w W) => as_any x 3 v W B hs (Nat.le_trans hB hf.size) (h.fr hf hB (by simp)))
  obtain ⟨A1, c1, A2, c2, A3, c3, rfl, h1, h2, h3⟩ := h
  have F1 : Fr [] w (w.alloc (.cells #[.int .i64 x.kind, .string x.text, .slice A1 x.list.length c1, .slice A2 x.pairs.length c2, .slice A3 x.scores.length c3] 26)) := (Fr.refl [] w).alloc _
  go_enter Tryz.func53, Tryz.ntmps53
  go_wp2_with fail
  refine (M.out _ F1).mono ?_
  rintro e w1 ⟨rfl, f1⟩
  go_wp2
  go_ret
  exact ⟨rfl, F1.trans f1⟩

theorem fr_set5S {S : List Nat} {w wr : World} {o : Nat} (h : Fr S w wr) (ho : w.heap.size ≤ o) (a b c d e : Value) : Fr S w (set5 wr o a b c d e) :=
  ((((h.setCell (p := ⟨o, 0, none⟩) (.inr ho) _).setCell (p := ⟨o, 1, none⟩) (.inr ho) _).setCell (p := ⟨o, 2, none⟩) (.inr ho) _).setCell (p := ⟨o, 3, none⟩) (.inr ho) _).setCell (p := ⟨o, 4, none⟩) (.inr ho) _
def OfPost (y : Itm) (base : Nat) (v : Value) (w : World) (e : Ending) (w' : World) : Prop := ∃ u, e = .returned u ∧ ItemO w' base u y ∧ Fr (ownL v) w w'

theorem ownL_block {v v' : Value} (h : v'.ownBlock = v.ownBlock) : ownL v' = ownL v := by
  unfold Value.ownBlock at h
  unfold ownL
  split at h <;> split at h <;> simp_all

set_option maxHeartbeats 1000000 in
set_option maxRecDepth 100000 in
theorem setOf_own (l : List ByteArray) (base : Nat) (v : Value) (w : World) (hl : l.length ≤ 281474976710656) (ht : ∀ s ∈ l, s.size ≤ 281474976710656) (hb : base ≤ w.heap.size) (h : w.ownsRow base 9 1 v l.length (textsV l)) :
    Calls Tryz.prog 54 #[v] w (OfPost (ofK 3 (setU l)) base v w) := by
  have hul := setU_len l
  have hut : ∀ s ∈ setU l, s.size ≤ 281474976710656 := fun s hs => ht s (setU_mem.1 hs)
  have hsm : (kindI 3 (setU l)).Small := kindI_big (by decide) (by omega) hut
  have F0 := Lib.hid ((Fr.refl [] w).alloc (.cells #[.int .i64 0, .string ⟨#[]⟩, .slice none 0 0, .slice none 0 0, .slice none 0 0] 26))
  have B0 := Lib.hid (Whole.new w 26 [.int .i64 0, .string ⟨#[]⟩, .slice none 0 0, .slice none 0 0, .slice none 0 0])
  have HO := Lib.hid (own_fr h F0.out (by simp))
  have hlt : ∀ k, k ∈ ownL v → k < w.heap.size := fun k hk => by
    unfold ownL at hk
    split at hk
    · simp at hk; subst hk; exact (h.lt _ rfl).2
    · cases hk
  have HLT := Lib.hid hlt
  clear h hlt
  go_enter Tryz.func54, Tryz.ntmps54
  go_wp2_with fail
  refine (sortS_any l base v _ hl HO.out).mono ?_
  rintro e w1 ⟨rfl, ho1, g1⟩
  have f1 := fr_ownL g1
  have F1 := Lib.hid ((F0.out.up (T := ownL v)).step f1 (fun k hk => .inl hk))
  have B1 := Lib.hid (B0.out.fr f1 (fun hm => by have := HLT.out _ hm; omega))
  have HO1 := Lib.hid (show w1.ownsRow base 9 1 v (sortB l).length (textsV (sortB l)) from by rw [sortB_length]; exact ho1)
  clear ho1 g1 f1
  go_wp2_with fail
  refine (compS_any (sortB l) base v _ (by rw [sortB_length]; exact hl) HO1.out).mono ?_
  rintro e w2 ⟨v2, rfl, ho2, g2, hbl⟩
  have f2 := fr_ownL g2
  have F2 := Lib.hid (F1.out.step f2 (fun k hk => .inl hk))
  have B2 := Lib.hid (B1.out.fr f2 (fun hm => by have := HLT.out _ hm; omega))
  have HO2 := Lib.hid (show w2.ownsRow base 9 1 v2 (setU l).length (textsV (setU l)) from ho2)
  obtain ⟨A2, c2, rfl, -⟩ := own_slice HO2.out
  clear ho2 g2 f2 hbl
  have hv2 : ItemV w2 w2.heap.size (.agg #[.int .i64 3, .string ⟨#[]⟩, .slice A2 (setU l).length c2, .slice none 0 0, .slice none 0 0]) (kindI 3 (setU l)) := ⟨A2, c2, none, 0, none, 0, rfl, own_sl HO2.out, Sl.nil _ _ _, Sl.nil _ _ _⟩
  have O := Lib.hid (of_any (kindI 3 (setU l)) _ w2 w2.heap.size hsm (Nat.le_refl _) hv2 (show (3 : Int) ≠ 1 by decide))
  clear hv2 hsm
  have hbs : base ≤ w2.heap.size := Nat.le_trans hb F2.out.size
  have EO := Lib.hid (show ofV (.agg #[.int .i64 3, .string ⟨#[]⟩, .slice A2 (setU l).length c2, .slice none 0 0, .slice none 0 0]) (kindI 3 (setU l)) = if (setU l).length = 0 then .agg #[.int .i64 0, .string ⟨#[]⟩, .slice none 0 0, .slice none 0 0, .slice none 0 0] else .agg #[.int .i64 3, .string ⟨#[]⟩, .slice A2 (setU l).length c2, .slice none 0 0, .slice none 0 0] from by
    unfold ofV
    rw [show many (kindI 3 (setU l)) = (setU l).length from by show (setU l).length + 0 + 0 = (setU l).length; omega])
  have EF := Lib.hid (show ofK 3 (setU l) = if (setU l).length = 0 then newI 0 else kindI 3 (setU l) from rfl)
  rw [EO.out] at O
  clear EO
  generalize setU l = r at *
  by_cases h0 : r.length = 0
  · rw [if_pos h0] at O
    have EG := Lib.hid (EF.out.trans (if_pos h0))
    clear h0 EF
    go_wp2_with fail
    refine O.out.mono ?_
    rintro e w3 ⟨rfl, f3⟩
    have F3 := Lib.hid (F2.out.step (T := []) f3 (fun k hk => by cases hk))
    have B3 := Lib.hid (B2.out.fr f3 (by simp))
    obtain ⟨a0, a1, a2, a3, a4⟩ := five B3.out
    obtain ⟨b0, b2, b3, b4, b5⟩ := fiveF B3.out
    go_wp2
    refine bodyPost_ret (v := .agg #[.int .i64 0, .string ⟨#[]⟩, .slice none 0 0, .slice none 0 0, .slice none 0 0]) (by simp [results, Tryz.results54, go_sem, a0, a1, a2, a3, a4]) rfl ?_
    exact ⟨_, rfl, by rw [EG.out]; exact ItemO.nothing _ _, fr_set5S F3.out (Nat.le_refl _) _ _ _ _ _⟩
  · rw [if_neg h0] at O
    have EG := Lib.hid (EF.out.trans (if_neg h0))
    clear h0 EF
    go_wp2_with fail
    refine O.out.mono ?_
    rintro e w3 ⟨rfl, f3⟩
    have F3 := Lib.hid (F2.out.step (T := []) f3 (fun k hk => by cases hk))
    have B3 := Lib.hid (B2.out.fr f3 (by simp))
    have HO3 := Lib.hid (own_fr HO2.out f3 (by simp))
    obtain ⟨a0, a1, a2, a3, a4⟩ := five B3.out
    obtain ⟨b0, b2, b3, b4, b5⟩ := fiveF B3.out
    go_wp2
    refine bodyPost_ret (v := .agg #[.int .i64 3, .string ⟨#[]⟩, .slice A2 r.length c2, .slice none 0 0, .slice none 0 0]) (by simp [results, Tryz.results54, go_sem, a0, a1, a2, a3, a4]) rfl ?_
    exact ⟨_, rfl, by rw [EG.out]; exact ⟨_, _, _, rfl, own_set5 HO3.out B3.out (by decide) _ _ _ _ _, ⟨rfl, .inl ⟨rfl, rfl⟩⟩, ⟨rfl, .inl ⟨rfl, rfl⟩⟩⟩, fr_set5S F3.out (Nat.le_refl _) _ _ _ _ _⟩

set_option maxRecDepth 100000 in
theorem setHasOp_any (x : Itm) (v : Value) (s : ByteArray) (w : World) (B : Nat) (hs : x.Small) (hB : B ≤ w.heap.size) (h : ItemV w B v x) :
    Calls Tryz.prog 34 #[v, .string s] w fun e w' => e = .returned (.tuple #[.bool (decide (asCode 3 x = 0) && hasT x.list s), .int .i64 (asCode 3 x)]) ∧ Fr [] w w' := by
  have RD := Lib.hid (fun W (hf : Fr [] w W) => ready3_any x v W B hs (Nat.le_trans hB hf.size) (h.fr hf hB (by simp)))
  obtain ⟨A1, c1, A2, c2, A3, c3, rfl, h1, h2, h3⟩ := h
  have H1 := Lib.hid h1
  have F1 : Fr [] w (w.alloc (.cells #[.int .i64 x.kind, .string x.text, .slice A1 x.list.length c1, .slice A2 x.pairs.length c2, .slice A3 x.scores.length c3] 26)) := (Fr.refl [] w).alloc _
  have R1 := Lib.hid (Whole.new w 26 [.int .i64 x.kind, .string x.text, .slice A1 x.list.length c1, .slice A2 x.pairs.length c2, .slice A3 x.scores.length c3])
  obtain ⟨d0, d1, d2, d3, d4⟩ := five R1.out
  have hsl := hs.list
  clear h1 h2 h3 hs
  by_cases ha : asCode 3 x = 0
  · have HA := Lib.hid (fun W (hf : Fr [] w W) => setHas_any x.list s A1 c1 B W (setOk ha).1 hsl (Nat.le_trans hB hf.size) (H1.out.fr hf hB (by simp)))
    rw [ha] at RD ⊢
    rw [decide_eq_true rfl, Bool.true_and]
    clear ha
    generalize hasT x.list s = b at *
    go_enter Tryz.func34, Tryz.ntmps34
    go_wp2_with fail
    refine (RD.out _ F1).mono ?_
    rintro e w1 ⟨rfl, f1⟩
    have F2 := F1.trans f1
    have R2 := Lib.hid (R1.out.fr f1 (by simp))
    clear d0 d1 d2 d3 d4
    obtain ⟨d0, d1, d2, d3, d4⟩ := five R2.out
    go_wp2_with fail
    refine (HA.out _ F2).mono ?_
    rintro e w2 ⟨rfl, f2⟩
    go_wp2
    go_ret2
    exact ⟨rfl, F2.trans f2⟩
  · have q2 : (asCode 3 x != 0) = true := by simpa using ha
    rw [decide_eq_false ha, Bool.false_and]
    clear ha
    generalize asCode 3 x = r at *
    go_enter Tryz.func34, Tryz.ntmps34
    go_wp2_with fail
    refine (RD.out _ F1).mono ?_
    rintro e w1 ⟨rfl, f1⟩
    go_wp2
    go_ret2
    exact ⟨rfl, F1.trans f1⟩

theorem remS_any (x : ByteArray) (l : List ByteArray) (A : Option Addr) (c g B : Nat) (w : World) (hl : l.length ≤ 281474976710656) (hB : B ≤ w.heap.size) (h : Sl w B 1 (.slice A l.length c) l.length (textsV l)) (hg : w.cell? ⟨g, 0, none⟩ = some (.slice A l.length c)) :
    Calls Tryz.prog 55 (#[.string x] ++ #[.pointer (some ⟨g, 0, none⟩)]) w fun e w' => e = .returned (.bool (hasT l x)) ∧ Fr [] w w' := by
  have CT := Lib.hid (containsS_any l x A c B w hl hB h)
  have EH := Lib.hid (show (l.any fun y => decide (y = x)) = hasT l x from rfl)
  rw [EH.out] at CT
  generalize hasT l x = b at *
  clear h EH
  go_enter Tryz.func55, Tryz.ntmps55
  go_wp2_with fail
  refine CT.out.mono ?_
  rintro e w1 ⟨rfl, rfl⟩
  go_wp2
  go_ret
  exact ⟨rfl, Fr.refl _ _⟩
theorem remS_pred (l : List ByteArray) (A : Option Addr) (c g D : Nat) (w : World) (hl : l.length ≤ 281474976710656) (hD : D ≤ w.heap.size) (h : Sl w D 1 (.slice A l.length c) l.length (textsV l)) (hc : w.cell? ⟨g, 0, none⟩ = some (.slice A l.length c)) (hg : g < D) :
    PredS 55 #[.pointer (some ⟨g, 0, none⟩)] (fun x => hasT l x) D w :=
  fun W x hW => remS_any x l A c g D W hl (Nat.le_trans hD hW.size) (sl_frB h hW (Nat.le_refl _)) (frB_cell hW hc hg (by simp))

set_option maxHeartbeats 2000000 in
set_option maxRecDepth 100000 in
theorem setRemove_any (x : Itm) (v : Value) (l : List ByteArray) (A : Option Addr) (c : Nat) (w : World) (B : Nat) (hs : x.Small) (hB : B ≤ w.heap.size) (h : ItemV w B v x) (hl : l.length ≤ 281474976710656) (hL : Sl w B 1 (.slice A l.length c) l.length (textsV l)) :
    Calls Tryz.prog 18 #[v, .slice A l.length c] w (INPost (remOfK 3 x l) (asCode 3 x) (remOfY 3 x l) w) := by
  have RD := Lib.hid (fun W (hf : Fr [] w W) => ready3_any x v W B hs (Nat.le_trans hB hf.size) (h.fr hf hB (by simp)))
  obtain ⟨A1, c1, A2, c2, A3, c3, rfl, h1, h2, h3⟩ := h
  have H1 := Lib.hid h1
  have HL := Lib.hid hL
  have D0 := Lib.hid (BO.newL w (.int .i64 x.kind) (.string x.text) (.slice A1 x.list.length c1) (.slice A2 x.pairs.length c2) (.slice A3 x.scores.length c3) (.slice A l.length c))
  obtain ⟨d0, d1, d2, d3, d4⟩ := five D0.out.b
  have S0 := Lib.hid (show (((w.alloc (.cells #[.int .i64 x.kind, .string x.text, .slice A1 x.list.length c1, .slice A2 x.pairs.length c2, .slice A3 x.scores.length c3] 26)).alloc (.cells #[.slice A l.length c] 22)).alloc (.cells #[.int .i64 0, .string ⟨#[]⟩, .slice none 0 0, .slice none 0 0, .slice none 0 0] 26)).cell? ⟨w.heap.size + 1, 0, none⟩ = some (.slice A l.length c) from by
    have := ((Whole.new (w.alloc (.cells #[.int .i64 x.kind, .string x.text, .slice A1 x.list.length c1, .slice A2 x.pairs.length c2, .slice A3 x.scores.length c3] 26)) 22 [.slice A l.length c]).alloc (.cells #[.int .i64 0, .string ⟨#[]⟩, .slice none 0 0, .slice none 0 0, .slice none 0 0] 26)).cell 0
    simpa using this)
  have EY := Lib.hid (show remOfY 3 x l = if asCode 3 x = 0 then ofK 3 (lessL x.list l) else newI 0 from rfl)
  have EK := Lib.hid (show remOfK 3 x l = if asCode 3 x = 0 then (x.list.length : Int) - (lessL x.list l).length else 0 from rfl)
  clear h1 h2 h3 hs hL
  by_cases ha : asCode 3 x = 0
  · have hok := asOk_of ha
    rw [EY.out, EK.out, if_pos ha, if_pos ha, ha]
    rw [ha] at RD
    have h24 : x.list.length ≤ 24 := by have := hok.le24; unfold many at this; omega
    have OR := Lib.hid (show rises ltS (lessL x.list l) = true from filter_rises (fun y => !hasT l y) (setOk ha).1)
    have hrl : (lessL x.list l).length ≤ x.list.length := List.length_filter_le _ _
    have OF := Lib.hid (fun W base u hb hu => (show Calls Tryz.prog 54 #[u] W (OfPost (ofK 3 (lessL x.list l)) base u W) from by have := setOf_own (lessL x.list l) base u W (by omega) (fun y hy => by have := hok.texts y (List.mem_filter.1 hy).1; omega) hb hu; rw [setU_of_rises OR.out] at this; exact this))
    have CL := Lib.hid (fun W (hW : Fr [] w W) => cloneS_row x.list.length (textsV x.list) A1 c1 W B (by omega) (Nat.le_trans hB hW.size) (H1.out.fr hW hB (by simp)) (texts_one _))
    have DF := Lib.hid (fun W base u D (hp : PredS 55 #[.pointer (some ⟨w.heap.size + 1, 0, none⟩)] (fun x => hasT l x) D W) hD hu => (show Calls Tryz.prog 50 #[u, .func (Fn.func 55) #[] #[.pointer (some ⟨w.heap.size + 1, 0, none⟩)]] W (DelFPostS (lessL x.list l) base u W) from delFS_any 55 #[.pointer (some ⟨w.heap.size + 1, 0, none⟩)] (enters_any Tryz.func55 (by kernel_rfl) rfl) (fun x => hasT l x) D x.list base u W hp hD (by omega) hu))
    clear hok EY EK ha
    generalize ofK 3 (lessL x.list l) = y at *
    have HW := Lib.hid (show IntKind.i64.wrap ((x.list.length : Int) - ((lessL x.list l).length : Int)) = (x.list.length : Int) - (lessL x.list l).length from IntWalk.i64_in _ (by omega))
    generalize lessL x.list l = r at *
    go_enter Tryz.func18, Tryz.ntmps18
    go_wp2_with fail
    refine (RD.out _ D0.out.f).mono ?_
    rintro e w1 ⟨rfl, f1⟩
    have D1 := Lib.hid (D0.out.go f1)
    have S1 := Lib.hid (f1.cell S0.out (by simp))
    have hz1 := D1.out.lt
    clear d0 d1 d2 d3 d4
    obtain ⟨d0, d1, d2, d3, d4⟩ := five D1.out.b
    go_wp2_with fail
    refine (CL.out _ D1.out.f).mono ?_
    rintro e w2 ⟨u, rfl, ho, f2⟩
    have D2 := Lib.hid (D1.out.go f2)
    have S2 := Lib.hid (f2.cell S1.out (by simp))
    have HO := Lib.hid ho
    obtain ⟨U, cu, rfl, -⟩ := own_slice ho
    have hp := Lib.hid (remS_pred l A c (w.heap.size + 1) w1.heap.size w2 hl f2.size (((HL.out.fr D1.out.f hB (by simp)).more (Nat.le_trans hB D1.out.f.size)).fr f2 (Nat.le_refl _) (by simp)) S2.out (by omega))
    clear d0 d1 d2 d3 d4 ho
    obtain ⟨d0, d1, d2, d3, d4⟩ := five D2.out.b
    go_wp2_with fail
    refine (DF.out _ _ _ _ hp.out (Nat.le_refl _) HO.out).mono ?_
    rintro e w3 ⟨u3, rfl, ho3, f3, -⟩
    have D3 := Lib.hid (D2.out.step f3 (fun g hg => by have := ownL_base HO.out hg; omega))
    have HO3 := Lib.hid ho3
    obtain ⟨U3, cu3, rfl, -⟩ := own_slice ho3
    clear d0 d1 d2 d3 d4 ho3
    obtain ⟨d0, d1, d2, d3, d4⟩ := five D3.out.b
    have hb3 : w1.heap.size ≤ w3.drew.heap.size := Nat.le_trans f2.size f3.size
    have hne1 : ¬ w.heap.size = w.heap.size + 1 + 1 := by omega
    have hne2 : ¬ w.heap.size + 1 + 1 = w.heap.size := by omega
    go_wp2
    go_region_held3 (fun wx => wx.cell? ⟨w.heap.size, 2, none⟩ = some (.slice A1 x.list.length c1)) (go_keep) (first | (go_at_call 54; (refine (OF.out _ _ _ hb3 (show w3.drew.ownsRow _ _ _ _ _ _ from HO3.out)).mono ?_); rintro e w5 ⟨u5, rfl, hi, f5⟩; have D5 := Lib.hid (D3.out.step (fr_predrew f5) (fun g hg => by have := ownL_base HO3.out hg; omega)); clear d0 d1 d2 d3 d4 f5; obtain ⟨d0, d1, d2, d3, d4⟩ := five D5.out.b; have HI := Lib.hid hi; obtain ⟨P1, p1, P2, p2, P3, p3, rfl⟩ := hi.form; clear hi; have OO := D5.out.o; rw [show w.heap.size + 2 = w.heap.size + 1 + 1 from rfl] at OO; obtain ⟨a0, a1, a2, a3, a4⟩ := five OO; obtain ⟨b0, b2, b3, b4, b5⟩ := fiveF OO; clear OO))
    go_wp2
    refine bodyPost_ret (v := .tuple #[.agg #[.int .i64 y.kind, .string y.text, .slice P1 y.list.length p1, .slice P2 y.pairs.length p2, .slice P3 y.scores.length p3], .int .i64 (IntKind.i64.wrap ((x.list.length : Int) - (r.length : Int))), .int .i64 0]) (by simp [results, Tryz.results18, go_sem, a0, a1, a2, a3, a4]) rfl ?_
    exact ⟨_, by rw [HW.out], (itemO_later HI.out (by omega) _ _ _ _ _).less (by omega), D5.out.end5 _ _ _ _ _⟩
  · rw [EY.out, EK.out, if_neg ha, if_neg ha]
    have q2 : (asCode 3 x != 0) = true := by simpa using ha
    clear EY EK ha
    generalize asCode 3 x = r at *
    go_enter Tryz.func18, Tryz.ntmps18
    go_wp2_with fail
    refine (RD.out _ D0.out.f).mono ?_
    rintro e w1 ⟨rfl, f1⟩
    have D1 := Lib.hid (D0.out.go f1)
    clear d0 d1 d2 d3 d4
    have OO := D1.out.o
    rw [show w.heap.size + 2 = w.heap.size + 1 + 1 from rfl] at OO
    obtain ⟨a0, a1, a2, a3, a4⟩ := five OO
    obtain ⟨b0, b2, b3, b4, b5⟩ := fiveF OO
    clear OO
    go_wp2
    refine bodyPost_ret (v := .tuple #[.agg #[.int .i64 0, .string ⟨#[]⟩, .slice none 0 0, .slice none 0 0, .slice none 0 0], .int .i64 0, .int .i64 r]) (by simp [results, Tryz.results18, go_sem, a0, a1, a2, a3, a4]) rfl ?_
    exact ⟨_, rfl, ItemO.nothing _ _, D1.out.end5 _ _ _ _ _⟩


end Go.Proofs.YtkgbgmfidkimfaaGreat
