/- The walk of the reference's PushOf. (Printed by lists2.py.) -/
import Derived.Test.YtkgbgmfidkimfaaGreatMgRestItemsUpto6
import Derived.Test.YtkgbgmfidkimfaaGreatMgRestItemsUpto5
import Derived.Test.YtkgbgmfidkimfaaGreatMgRestItemsUpto1
set_option linter.unusedVariables false
set_option linter.unusedSimpArgs false
namespace Go.Proofs.YtkgbgmfidkimfaaGreat
open Go.RowKit

/-- what the document has behind i rounds. -/
def pushN (x : List ByteArray) (left : Bool) (l : List ByteArray) (i : Nat) : List ByteArray := if left then (l.take i).reverse ++ x else x ++ l.take i
theorem pushN_step {x : List ByteArray} {left : Bool} {l : List ByteArray} {i : Nat} {s : ByteArray} (h : l[i]? = some s) : pushN x left l (i + 1) = if left then s :: pushN x left l i else pushN x left l i ++ [s] := by
  unfold pushN
  cases left <;> simp [List.take_add_one, h]
theorem pushN_len (x : List ByteArray) (left : Bool) (l : List ByteArray) (i : Nat) : (pushN x left l i).length ≤ x.length + l.length := by
  unfold pushN
  cases left <;> simp <;> omega

set_option maxHeartbeats 2000000 in
set_option maxRecDepth 100000 in
theorem pushOf_any (x : Itm) (v : Value) (left : Bool) (l : List ByteArray) (Al : Option Addr) (cl : Nat) (w : World) (B : Nat) (hs : x.Small) (hB : B ≤ w.heap.size) (h : ItemV w B v x) (hl : l.length ≤ 281474976710656) (hL : Sl w B 1 (.slice Al l.length cl) l.length (textsV l)) :
    Calls Tryz.prog 10 #[v, .bool left, .slice Al l.length cl] w (INPost (pushK x left l) (pushCode x l) (pushY x left l) w) := by
  obtain ⟨i0, hi, hz0, hz1, hz2⟩ := info_parts stringInfo
  have RD := Lib.hid (fun W (hf : Fr [] w W) => checkAs_any x 2 v W B hs (Nat.le_trans hB hf.size) (h.fr hf hB (by simp)))
  have SM := Lib.hid (fun W (hf : Fr [] w W) => checkSome_any l Al cl W B hl (Nat.le_trans hB hf.size) (hL.fr hf hB (by simp)))
  have HL := Lib.hid hL
  obtain ⟨A1, c1, A2, c2, A3, c3, rfl, h1, h2, h3⟩ := h
  have H1 := Lib.hid h1
  have D0 := Lib.hid (BO.new w (.int .i64 x.kind) (.string x.text) (.slice A1 x.list.length c1) (.slice A2 x.pairs.length c2) (.slice A3 x.scores.length c3))
  obtain ⟨d0, d1, d2, d3, d4⟩ := five D0.out.b
  have EC := Lib.hid (show pushCode x l = if asCode 2 x ≠ 0 then asCode 2 x else if someCode l ≠ 0 then someCode l else if 24 < x.list.length + l.length then 2 else 0 from rfl)
  have EY := Lib.hid (show pushY x left l = if pushCode x l = 0 then ofL (pushL x left l) else newI 0 from rfl)
  have EK := Lib.hid (show pushK x left l = if pushCode x l = 0 then ((pushL x left l).length : Int) else 0 from rfl)
  have OK := Lib.hid (fun (h : asCode 2 x = 0) => asOk_of h)
  have OS := Lib.hid (fun (h : someCode l = 0) => some_texts h)
  have hs1 := hs.list
  clear h1 h2 h3 hs hL
  have no0 : ∀ c : Int, c ≠ 0 → pushCode x l = c → pushY x left l = newI 0 ∧ pushK x left l = 0 := fun c hc he => by
    have h0 : pushCode x l ≠ 0 := by rw [he]; exact hc
    exact ⟨by rw [EY.out, if_neg h0], by rw [EK.out, if_neg h0]⟩
  have NO := Lib.hid no0
  clear no0
  by_cases ha : asCode 2 x = 0
  · rw [ha] at RD
    by_cases hb : someCode l = 0
    · rw [hb] at SM
      by_cases hc : 24 < x.list.length + l.length
      · have E := Lib.hid (show pushCode x l = 2 from by rw [EC.out, if_neg (by simpa using ha), if_neg (by simpa using hb), if_pos hc])
        obtain ⟨e1, e2⟩ := NO.out 2 (by decide) E.out
        rw [e1, e2, E.out]
        have q : (x.list.length : Int) + (l.length : Int) > 24 := by omega
        clear e1 e2 EC EY EK OK OS ha hb hc NO
        generalize x.list.length = n at *
        go_enter Tryz.func10, Tryz.ntmps10
        go_wp2_with fail
        refine (RD.out _ D0.out.f).mono ?_
        rintro e w1 ⟨rfl, f1⟩
        have D1 := Lib.hid (D0.out.go f1)
        clear d0 d1 d2 d3 d4
        obtain ⟨d0, d1, d2, d3, d4⟩ := five D1.out.b
        go_wp2_with fail
        refine (SM.out _ D1.out.f).mono ?_
        rintro e w2 ⟨rfl, f2⟩
        have D2 := Lib.hid (D1.out.go f2)
        clear d0 d1 d2 d3 d4
        obtain ⟨d0, d1, d2, d3, d4⟩ := five D2.out.b
        obtain ⟨a0, a1, a2, a3, a4⟩ := five D2.out.o
        obtain ⟨b0, b2, b3, b4, b5⟩ := fiveF D2.out.o
        go_wp2
        refine bodyPost_ret (v := .tuple #[.agg #[.int .i64 0, .string ⟨#[]⟩, .slice none 0 0, .slice none 0 0, .slice none 0 0], .int .i64 0, .int .i64 2]) (by simp [results, Tryz.results10, go_sem, a0, a1, a2, a3, a4]) rfl ?_
        exact ⟨_, rfl, ItemO.nothing _ _, D2.out.end5 _ _ _ _ _⟩
      · have E := Lib.hid (show pushCode x l = 0 from by rw [EC.out, if_neg (by simpa using ha), if_neg (by simpa using hb), if_neg hc])
        have hok := OK.out ha
        have hos := OS.out hb
        have OF := Lib.hid (fun W base u hu => filled_own 2 (pushL x left l) base u W (by omega) (by rw [push_length]; omega) (fun s hs => by
          rcases push_mem hs with h | h
          · have := hok.texts s h; omega
          · have := hos s h; omega) hu)
        rw [ofK_two] at OF
        rw [EY.out, EK.out, E.out, if_pos rfl, if_pos rfl]
        have q : ¬ ((x.list.length : Int) + (l.length : Int) > 24) := by omega
        have h24 : x.list.length + l.length ≤ 24 := by omega
        have EN := Lib.hid (show pushN x.list left l l.length = pushL x left l from by unfold pushN pushL; rw [List.take_length])
        clear hok hos E EC EY EK OK OS ha hb hc NO
        generalize ofL (pushL x left l) = y at *
        go_enter Tryz.func10, Tryz.ntmps10
        go_wp2_with fail
        refine (RD.out _ D0.out.f).mono ?_
        rintro e w1 ⟨rfl, f1⟩
        have D1 := Lib.hid (D0.out.go f1)
        clear d0 d1 d2 d3 d4
        obtain ⟨d0, d1, d2, d3, d4⟩ := five D1.out.b
        go_wp2_with fail
        refine (SM.out _ D1.out.f).mono ?_
        rintro e w2 ⟨rfl, f2⟩
        have D2 := Lib.hid (D1.out.go f2)
        have hzw2 := D2.out.lt
        clear d0 d1 d2 d3 d4
        obtain ⟨d0, d1, d2, d3, d4⟩ := five D2.out.b
        have D3 := Lib.hid (D2.out.alloc (.cells #[] 9))
        have e2 := (five D3.out.b).2.2.1
        have hO := Lib.hid (World.ownsRow_lit (base := w2.heap.size) (e := 9) (size := 1) w2 #[] 0 (Nat.le_refl _) (Nat.zero_le _) rfl)
        go_wp2_with (at_builtin; refine wpList_append_sl _ rfl _ _ 22 rfl w2.heap.size 9 i0 _ 1 16 Tryz.underlying22 hi hz0 hz1 hz2 rfl (by decide) _ _ _ rfl hO.out B _ x.list.length (textsV x.list) rfl (H1.out.fr D3.out.f hB (by simp)) (texts_one _) ?c1 ?c2 (by simp) ?_)
        case c1 => unfold maxLen; omega
        case c2 => omega
        intro v' w3 hown' hgrow _
        have HO3 := Lib.hid (show w3.ownsRow w2.heap.size 9 1 v' (pushN x.list left l 0).length (textsV (pushN x.list left l 0)) from by
          have e : pushN x.list left l 0 = x.list := by unfold pushN; cases left <;> simp
          rw [e]; simpa using hown')
        have D4 := Lib.hid (D3.out.step (fr_ownL hgrow) (fun g hg => by have := ownL_base hO.out hg; omega))
        have hz3 : w2.heap.size ≤ w3.heap.size := by have := hgrow.size; simp at this; omega
        clear hown' hgrow d0 d1 d2 d3 d4 e2
        obtain ⟨U, cu, rfl, -⟩ := own_slice HO3.out
        go_wp2
        go_loopg [10, 11] l.length (fun g u i wr => ∃ (m : Nat), g = l.length - m ∧ m ≤ l.length ∧ i = .int .i64 m ∧ wr.ownsRow w2.heap.size 9 1 u (pushN x.list left l m).length (textsV (pushN x.list left l m)) ∧ BO w 1 [.int .i64 x.kind, .string x.text, .slice A1 x.list.length c1, .slice A2 x.pairs.length c2, .slice A3 x.scores.length c3] wr ∧ w2.heap.size ≤ wr.heap.size)
        case atStart => exact ⟨0, rfl, Nat.zero_le _, rfl, HO3.out, D4.out, hz3⟩
        case round =>
        obtain ⟨m, rfl, hm, rfl, ho, hD, hbase⟩ := hrel
        have HO := Lib.hid ho
        have D := Lib.hid hD
        have hzr := hD.lt
        have hlen := pushN_len x.list left l m
        obtain ⟨Av, cv, rfl, -⟩ := own_slice ho
        clear ho hD HO3 D4
        by_cases hlt : m < l.length
        · obtain ⟨b, off, rfl, hb, hc, hmx, hcell⟩ := HL.out.at_ (by omega)
          obtain ⟨s, hs⟩ : ∃ s, l[m]? = some s := ⟨_, List.getElem?_eq_getElem hlt⟩
          have hc1 : wr.cell? ⟨b, off + m, none⟩ = some (.string s) := D.out.f.cell (hcell m _ (textsV_get l m s hs)) (by simp)
          have ST := Lib.hid (pushN_step (x := x.list) (left := left) hs)
          cases left
          · rw [if_neg (by decide)] at ST
            generalize pushN x.list false l m = d at *
            clear hcell hs
            go_wp2_with (at_builtin; refine wpList_append_own_at _ rfl _ _ 22 rfl w2.heap.size 9 i0 _ 1 16 Tryz.underlying22 hi hz0 hz1 hz2 rfl (by decide) _ _ _ rfl (HO.out.alloc _) ⟨wr.heap.size, 0, none⟩ 1 1 [.string s] rfl rfl ?c3 ?c4 ?c5 ?c6 ?c7 ?_)
            case c3 => exact cell_one_new _ _ _
            case c4 => intro u hu; simp at hu; subst hu; rfl
            case c5 => unfold maxLen; omega
            case c6 => omega
            case c7 => simp; omega
            intro v'' w5 hown' hgrow _ hat
            have HO5 := Lib.hid hown'
            have D5 := Lib.hid ((D.out.alloc (.cells #[.string s] 9)).step (fr_ownL hgrow) (fun g hg => by have := ownL_base HO.out hg; omega))
            have hz5 : w2.heap.size ≤ w5.heap.size := by have := hgrow.size; simp at this; omega
            clear hown' hgrow hat hc1
            go_wp2
            go_roundg (l.length - (m + 1))
            case measure => omega
            case rel => exact ⟨m + 1, rfl, by omega, by go_num, by rw [ST.out, textsV_append]; simpa [textsV] using HO5.out, D5.out, hz5⟩
          · rw [if_pos rfl] at ST
            have hlen2 : (pushN x.list true l m).length ≤ 1000 := by omega
            generalize pushN x.list true l m = d at *
            clear hcell hs
            have hL1 := Lib.hid (World.ownsRow_lit (base := w2.heap.size) (e := 9) (size := 1) wr #[.string s] 1 hbase (by unfold maxLen; omega) rfl)
            have SL := Lib.hid (own_sl (HO.out.alloc (.cells #[.string s] 9)))
            go_wp2_with (at_builtin; refine wpList_append_sl _ rfl _ _ 22 rfl w2.heap.size 9 i0 _ 1 16 Tryz.underlying22 hi hz0 hz1 hz2 rfl (by decide) _ _ _ rfl hL1.out _ _ d.length (textsV d) rfl SL.out (texts_one _) ?e1 ?e2 ?e3 ?_)
            case e1 => unfold maxLen; omega
            case e2 => omega
            case e3 => first | omega | (simp; omega)
            intro v'' w5 hown' hgrow hat
            have HO5 := Lib.hid hown'
            have D5 := Lib.hid ((D.out.alloc (.cells #[.string s] 9)).step (fr_ownL hgrow) (fun g hg => by have := ownL_base hL1.out hg; omega))
            have hz5 : w2.heap.size ≤ w5.heap.size := by have := hgrow.size; simp at this; omega
            clear hown' hgrow hat hc1
            go_wp2
            go_roundg (l.length - (m + 1))
            case measure => omega
            case rel => exact ⟨m + 1, rfl, by omega, by go_num, by rw [ST.out]; have := HO5.out; simpa [textsV, Nat.add_comm] using this, D5.out, hz5⟩
        · obtain rfl : m = l.length := by omega
          rw [EN.out] at HO
          rw [EN.out]
          have hle : (pushL x left l).length ≤ 24 := by rw [push_length]; omega
          generalize pushL x left l = r at *
          go_wp2_with fail
          refine (OF.out _ _ _ HO.out).mono ?_
          rintro e w7 ⟨u7, rfl, hi7, f7⟩
          have D9 := Lib.hid (D.out.go f7)
          have HI := Lib.hid hi7
          obtain ⟨P1, p1, P2, p2, P3, p3, rfl⟩ := hi7.form
          clear hi7
          obtain ⟨a0, a1, a2, a3, a4⟩ := five D9.out.o
          obtain ⟨b0, b2, b3, b4, b5⟩ := fiveF D9.out.o
          go_wp2
          refine bodyPost_ret (v := .tuple #[.agg #[.int .i64 y.kind, .string y.text, .slice P1 y.list.length p1, .slice P2 y.pairs.length p2, .slice P3 y.scores.length p3], .int .i64 (r.length : Nat), .int .i64 0]) (by simp [results, Tryz.results10, go_sem, a0, a1, a2, a3, a4]) rfl ?_
          exact ⟨_, rfl, (itemO_later HI.out (by omega) _ _ _ _ _).less (by omega), D9.out.end5 _ _ _ _ _⟩
    · have E := Lib.hid (show pushCode x l = someCode l from by rw [EC.out, if_neg (by simpa using ha), if_pos hb])
      obtain ⟨e1, e2⟩ := NO.out _ hb E.out
      rw [e1, e2, E.out]
      have q : (someCode l == 0) = false := by simpa using hb
      have q2 : (someCode l != 0) = true := by simpa using hb
      clear e1 e2 EC EY EK OK OS ha hb NO E
      generalize someCode l = r at *
      go_enter Tryz.func10, Tryz.ntmps10
      go_wp2_with fail
      refine (RD.out _ D0.out.f).mono ?_
      rintro e w1 ⟨rfl, f1⟩
      have D1 := Lib.hid (D0.out.go f1)
      clear d0 d1 d2 d3 d4
      obtain ⟨d0, d1, d2, d3, d4⟩ := five D1.out.b
      go_wp2_with fail
      refine (SM.out _ D1.out.f).mono ?_
      rintro e w2 ⟨rfl, f2⟩
      have D2 := Lib.hid (D1.out.go f2)
      clear d0 d1 d2 d3 d4
      obtain ⟨a0, a1, a2, a3, a4⟩ := five D2.out.o
      obtain ⟨b0, b2, b3, b4, b5⟩ := fiveF D2.out.o
      go_wp2
      refine bodyPost_ret (v := .tuple #[.agg #[.int .i64 0, .string ⟨#[]⟩, .slice none 0 0, .slice none 0 0, .slice none 0 0], .int .i64 0, .int .i64 r]) (by simp [results, Tryz.results10, go_sem, a0, a1, a2, a3, a4]) rfl ?_
      exact ⟨_, rfl, ItemO.nothing _ _, D2.out.end5 _ _ _ _ _⟩
  · have E := Lib.hid (show pushCode x l = asCode 2 x from by rw [EC.out, if_pos ha])
    obtain ⟨e1, e2⟩ := NO.out _ ha E.out
    rw [e1, e2, E.out]
    have q : (asCode 2 x == 0) = false := by simpa using ha
    have q2 : (asCode 2 x != 0) = true := by simpa using ha
    clear e1 e2 EC EY EK OK OS ha NO E
    generalize asCode 2 x = r at *
    go_enter Tryz.func10, Tryz.ntmps10
    go_wp2_with fail
    refine (RD.out _ D0.out.f).mono ?_
    rintro e w1 ⟨rfl, f1⟩
    have D1 := Lib.hid (D0.out.go f1)
    clear d0 d1 d2 d3 d4
    obtain ⟨a0, a1, a2, a3, a4⟩ := five D1.out.o
    obtain ⟨b0, b2, b3, b4, b5⟩ := fiveF D1.out.o
    go_wp2
    refine bodyPost_ret (v := .tuple #[.agg #[.int .i64 0, .string ⟨#[]⟩, .slice none 0 0, .slice none 0 0, .slice none 0 0], .int .i64 0, .int .i64 r]) (by simp [results, Tryz.results10, go_sem, a0, a1, a2, a3, a4]) rfl ?_
    exact ⟨_, rfl, ItemO.nothing _ _, D1.out.end5 _ _ _ _ _⟩
end Go.Proofs.YtkgbgmfidkimfaaGreat
