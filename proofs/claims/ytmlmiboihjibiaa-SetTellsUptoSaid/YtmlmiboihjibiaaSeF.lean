/- The walk of the reference's AddSet. -/
import Derived.Test.YtmlmiboihjibiaaSeE
import Derived.Test.YtmlmiboihjibiaaSeD
set_option linter.unusedVariables false
set_option linter.unusedSimpArgs false
namespace Go.Proofs.Ytmlmiboihjibiaa
open Go.RowKit

theorem putF_rises {x : Itm} (h : asCode 3 x = 0) (l : List ByteArray) : rises ltS (l.foldl putT x.list) = true := putT_fold_rises l (setOk h).1
theorem putF_len (l : List ByteArray) : ∀ a : List ByteArray, (l.foldl putT a).length ≤ a.length + l.length := by
  induction l with
  | nil => intro a; simp
  | cons s l ih =>
    intro a
    have h1 := ih (putT a s)
    have h2 := putT_len (l := a) (s := s)
    rw [List.foldl_cons, List.length_cons]
    omega

set_option maxHeartbeats 2000000 in
set_option maxRecDepth 100000 in
theorem addSet_any (x : Itm) (v : Value) (l : List ByteArray) (Al : Option Addr) (cl : Nat) (w : World) (B : Nat) (hs : x.Small) (hB : B ≤ w.heap.size) (h : ItemV w B v x) (hl : l.length ≤ 1048576) (hL : Sl w B 1 (.slice Al l.length cl) l.length (textsV l)) :
    Calls Try.prog 51 #[v, .slice Al l.length cl] w (INPost (add3N x l) (add3 x l) (add3Y x l) w) := by
  have RD := Lib.hid (fun W (hf : Fr [] w W) => checkAs_any x 3 v W B hs (Nat.le_trans hB hf.size) (h.fr hf hB (by simp)))
  have SM := Lib.hid (fun W (hf : Fr [] w W) => checkSome_any l Al cl W B (by omega) (Nat.le_trans hB hf.size) (hL.fr hf hB (by simp)))
  have HL := Lib.hid hL
  obtain ⟨A1, c1, A2, c2, A3, c3, rfl, h1, h2, h3⟩ := h
  have H1 := Lib.hid h1
  have D0 := Lib.hid (BO.new w (.int .i64 x.kind) (.string x.text) (.slice A1 x.list.length c1) (.slice A2 x.pairs.length c2) (.slice A3 x.scores.length c3))
  obtain ⟨d0, d1, d2, d3, d4⟩ := five D0.out.b
  have EP := Lib.hid (show pre3 x l = if asCode 3 x ≠ 0 then asCode 3 x else someCode l from rfl)
  have EC := Lib.hid (show add3 x l = if pre3 x l ≠ 0 then pre3 x l else if 24 < (addL3 x l).length then 2 else 0 from rfl)
  have EY := Lib.hid (show add3Y x l = if add3 x l = 0 then ofK 3 (addL3 x l) else newI 0 from rfl)
  have EK := Lib.hid (show add3N x l = if add3 x l = 0 then ((addL3 x l).length : Int) - x.list.length else 0 from rfl)
  have OK := Lib.hid (fun (h : pre3 x l = 0) => addL3_texts h)
  have OA := Lib.hid (fun (h : asCode 3 x = 0) => (setOk h).2)
  have ON := Lib.hid (fun (h : someCode l = 0) => some_texts h)
  have OX := Lib.hid (fun (h : asCode 3 x = 0) => (asOk_of h).texts)
  have EL := Lib.hid (ofK_list 3 (addL3 x l))
  have LL := Lib.hid (show (addL3 x l).length ≤ x.list.length + l.length from by have := setU_len (x.list ++ l); rw [List.length_append] at this; exact this)
  clear h1 h2 h3 hs hL
  have no0 : ∀ c : Int, c ≠ 0 → add3 x l = c → add3Y x l = newI 0 ∧ add3N x l = 0 := fun c hc he => by
    have h0 : add3 x l ≠ 0 := by rw [he]; exact hc
    exact ⟨by rw [EY.out, if_neg h0], by rw [EK.out, if_neg h0]⟩
  have NO := Lib.hid no0
  clear no0
  by_cases ha : asCode 3 x = 0
  · rw [ha] at RD
    by_cases hb : someCode l = 0
    · rw [hb] at SM
      have hp : pre3 x l = 0 := by rw [EP.out, if_neg (by simpa using ha)]; exact hb
      have h24 := OA.out ha
      have hx24 := h24
      clear h24
      have TS := Lib.hid (OK.out hp)
      have RI := Lib.hid (fun q => putF_rises ha (l.take q))
      have LN := Lib.hid (fun q => putF_len (l.take q) x.list)
      have PM := Lib.hid (show ∀ q, ∀ t ∈ (l.take q).foldl putT x.list, t.size ≤ 60 from fun q t ht => by
        rcases putT_fold_mem _ |>.1 ht with h | h
        · exact OX.out ha t h
        · exact ON.out hb t (List.mem_of_mem_take h))
      have HT := Lib.hid (fun s (h : s ∈ l) => ON.out hb s h)
      have hpos : 0 < l.length := by
        rcases Nat.eq_zero_or_pos l.length with h0 | h0
        · exfalso
          unfold someCode at hb
          rw [if_pos h0] at hb
          cases hb
        · exact h0
      have EF := Lib.hid (show l.foldl putT x.list = addL3 x l from putT_fold l (setOk ha).1)
      clear OK OX ON OA
      go_enter Try.func51, Try.ntmps51
      go_wp2_with fail
      refine (RD.out _ D0.out.f).mono ?_
      rintro e w1 ⟨rfl, f1⟩
      have D1 := Lib.hid (D0.out.go f1)
      clear d0 d1 d2 d3 d4
      obtain ⟨d0, d1, d2, d3, d4⟩ := five D1.out.b
      go_wp2_with fail
      refine (SM.out _ D1.out.f).mono ?_
      rintro e w2 ⟨rfl, f2⟩
      have D2 := Lib.hid (D1.out.go f2)
      have X2 := Lib.hid ((H1.out.fr D2.out.f hB (by simp)).more (Nat.le_trans hB D2.out.f.size))
      clear d0 d1 d2 d3 d4
      obtain ⟨d0, d1, d2, d3, d4⟩ := five D2.out.b
      go_wp2
      go_loopg [8, 9] l.length (fun g o i wr => ∃ (k : Nat) (cur : List ByteArray), g = l.length - k ∧ k ≤ l.length ∧ i = .int .i64 k ∧ Hid (cur = (l.take k).foldl putT x.list) ∧ Sl wr wr.heap.size 1 o cur.length (textsV cur) ∧ (0 < k → wr.ownsRow (w.heap.size + 2) 9 1 o cur.length (textsV cur)) ∧ BO w 1 [.int .i64 x.kind, .string x.text, .slice A1 x.list.length c1, .slice A2 x.pairs.length c2, .slice A3 x.scores.length c3] wr)
      case atStart => exact ⟨0, x.list, rfl, Nat.zero_le _, rfl, Lib.hid rfl, X2.out, fun h => absurd h (by omega), D2.out⟩
      case round =>
        obtain ⟨k, cur, rfl, hk, rfl, hcur, hsl, hown, hD⟩ := hrel
        have D4 := Lib.hid hD
        have HSL := Lib.hid hsl
        have HOW := Lib.hid hown
        obtain ⟨Ac, cc, rfl⟩ := sl_form hsl
        have hcl : cur.length ≤ 24 + k := by
          have := LN.out k
          rw [← hcur.out, List.length_take] at this
          omega
        clear hD hsl hown d0 d1 d2 d3 d4
        by_cases hlt : k < l.length
        · obtain ⟨b, off, rfl, hbb, hlc, hlm, hcell⟩ := HL.out.at_ (by omega)
          obtain ⟨p, hp⟩ : ∃ p, l[k]? = some p := ⟨_, List.getElem?_eq_getElem hlt⟩
          have x1 : wr.cell? ⟨b, off + k, none⟩ = some (.string p) := D4.out.f.cell (hcell k _ (textsV_get l k p hp)) (by simp)
          have hp60 := HT.out p (List.mem_of_getElem? hp)
          have PT := Lib.hid (putText_any cur p Ac cc wr.heap.size wr (by rw [hcur.out]; exact RI.out k) (by omega) (by omega) (fun t ht => by rw [hcur.out] at ht; have := PM.out k t ht; omega) (Nat.le_refl _) HSL.out)
          have HNX := Lib.hid (show putT cur p = (l.take (k + 1)).foldl putT x.list from by rw [List.take_add_one, hp, Option.toList_some, List.foldl_append, List.foldl_cons, List.foldl_nil, hcur.out])
          have hz := D4.out.lt
          clear hcell hp
          go_wp2_with fail
          refine PT.out.mono ?_
          rintro e w5 ⟨u, rfl, ho, f5⟩
          have HO5 := Lib.hid ho
          have D5 := Lib.hid (D4.out.go f5)
          clear ho f5
          go_wp2
          go_roundg (l.length - (k + 1))
          case measure => omega
          case rel => exact ⟨k + 1, putT cur p, rfl, by omega, by go_num, HNX, own_sl HO5.out, fun _ => own_base HO5.out (by omega), D5.out⟩
        · obtain rfl : k = l.length := by omega
          have hcur2 : addL3 x l = cur := by have := hcur.out; rw [List.take_length, EF.out] at this; exact this.symm
          rw [hcur2] at EC EY EK
          have EC2 := Lib.hid (show add3 x l = if 24 < cur.length then 2 else 0 from by rw [EC.out, if_neg (by simpa using hp)])
          have HO4 := Lib.hid (HOW.out hpos)
          have CT := Lib.hid (show ∀ t ∈ cur, t.size ≤ 60 from fun t ht => TS.out t (by rw [hcur2]; exact ht))
          obtain ⟨Ac', cc', hv', -, hc1, hc2⟩ := own_slice HO4.out
          cases hv'
          clear hcur hcur2 HOW HSL EL LL TS
          unfold maxLen at hc2
          by_cases h24 : 24 < cur.length
          · have E := Lib.hid (show add3 x l = 2 from by rw [EC2.out, if_pos h24])
            obtain ⟨e1, e2⟩ := NO.out 2 (by decide) E.out
            have q24 : (cur.length : Int) > 24 := by omega
            have E1 := Lib.hid e1
            have E2 := Lib.hid e2
            clear e1 e2 EC EC2 EY EK NO h24 hlt
            obtain ⟨a0, a1, a2, a3, a4⟩ := five D4.out.o
            obtain ⟨b0, b2, b3, b4, b5⟩ := fiveF D4.out.o
            go_wp2
            refine bodyPost_ret (v := .tuple #[.agg #[.int .i64 0, .string ⟨#[]⟩, .slice none 0 0, .slice none 0 0, .slice none 0 0], .int .i64 0, .int .i64 2]) (by simp [results, Try.results51, go_sem, a0, a1, a2, a3, a4]) rfl ?_
            rw [E1.out, E2.out, E.out]
            exact ⟨_, rfl, ItemO.nothing _ _, D4.out.end5 _ _ _ _ _⟩
          · have E := Lib.hid (show add3 x l = 0 from by rw [EC2.out, if_neg h24])
            have E1 := Lib.hid (EY.out.trans (if_pos E.out))
            have E2 := Lib.hid (EK.out.trans (if_pos E.out))
            have q24 : ¬ (cur.length : Int) > 24 := by omega
            have OF := Lib.hid (fun W base u hu => filled_own 3 cur base u W (by decide) (by omega) (fun t ht => by have := CT.out t ht; omega) hu)
            have hx24' := hx24
            have HW := Lib.hid (show IntKind.i64.wrap ((cur.length : Int) - (x.list.length : Int)) = (cur.length : Int) - x.list.length from IntWalk.i64_in _ (by omega))
            clear EC EC2 EY EK NO hlt hcl
            obtain ⟨d0, d1, d2, d3, d4⟩ := five D4.out.b
            generalize ofK 3 cur = y at *
            generalize add3Y x l = y0 at *
            generalize add3N x l = n0 at *
            generalize add3 x l = c0 at *
            have hne1 : ¬ w.heap.size = w.heap.size + 1 := by omega
            have hne2 : ¬ w.heap.size + 1 = w.heap.size := by omega
            go_wp2
            go_region_held3 (fun wx => wx.cell? ⟨w.heap.size, 2, none⟩ = some (.slice A1 x.list.length c1)) (go_keep) (first | (go_at_call 75; (refine (OF.out _ _ _ (show wr.drew.ownsRow _ _ _ _ _ _ from HO4.out)).mono ?_); rintro e w5 ⟨u5, rfl, hi, f5⟩; have D5 := Lib.hid (D4.out.go (fr_predrew f5)); clear d0 d1 d2 d3 d4 f5; obtain ⟨d0, d1, d2, d3, d4⟩ := five D5.out.b; have HI := Lib.hid hi; obtain ⟨P1, p1, P2, p2, P3, p3, rfl⟩ := hi.form; clear hi; obtain ⟨a0, a1, a2, a3, a4⟩ := five D5.out.o; obtain ⟨b0, b2, b3, b4, b5⟩ := fiveF D5.out.o))
            go_wp2
            refine bodyPost_ret (v := .tuple #[.agg #[.int .i64 y.kind, .string y.text, .slice P1 y.list.length p1, .slice P2 y.pairs.length p2, .slice P3 y.scores.length p3], .int .i64 (IntKind.i64.wrap ((cur.length : Int) - (x.list.length : Int))), .int .i64 0]) (by simp [results, Try.results51, go_sem, a0, a1, a2, a3, a4]) rfl ?_
            rw [E1.out, E2.out, E.out]
            exact ⟨_, by rw [HW.out], (itemO_later HI.out (by omega) _ _ _ _ _).less (by omega), D5.out.end5 _ _ _ _ _⟩
    · have hp : pre3 x l = someCode l := by rw [EP.out, if_neg (by simpa using ha)]
      have E := Lib.hid (show add3 x l = someCode l from by rw [EC.out, hp, if_pos hb])
      obtain ⟨e1, e2⟩ := NO.out _ hb E.out
      rw [e1, e2, E.out]
      have q2 : (someCode l != 0) = true := by simpa using hb
      clear e1 e2 EP EC EY EK OK OA ON OX ha hb NO hp EL LL E
      generalize someCode l = r at *
      go_enter Try.func51, Try.ntmps51
      go_wp2_with fail
      refine (RD.out _ D0.out.f).mono ?_
      rintro e w1 ⟨rfl, f1⟩
      have D1 := Lib.hid (D0.out.go f1)
      clear d0 d1 d2 d3 d4
      obtain ⟨d0, d1, d2, d3, d4⟩ := five D1.out.b
      go_wp2_with fail
      refine (SM.out _ D1.out.f).mono ?_
      rintro e w2 ⟨rfl, f2⟩
      have D2 := Lib.hid (D1.out.go f2)
      clear d0 d1 d2 d3 d4
      obtain ⟨a0, a1, a2, a3, a4⟩ := five D2.out.o
      obtain ⟨b0, b2, b3, b4, b5⟩ := fiveF D2.out.o
      go_wp2
      refine bodyPost_ret (v := .tuple #[.agg #[.int .i64 0, .string ⟨#[]⟩, .slice none 0 0, .slice none 0 0, .slice none 0 0], .int .i64 0, .int .i64 r]) (by simp [results, Try.results51, go_sem, a0, a1, a2, a3, a4]) rfl ?_
      exact ⟨_, rfl, ItemO.nothing _ _, D2.out.end5 _ _ _ _ _⟩
  · have hp : pre3 x l = asCode 3 x := by rw [EP.out, if_pos ha]
    have E := Lib.hid (show add3 x l = asCode 3 x from by rw [EC.out, hp, if_pos ha])
    obtain ⟨e1, e2⟩ := NO.out _ ha E.out
    rw [e1, e2, E.out]
    have q2 : (asCode 3 x != 0) = true := by simpa using ha
    have q3 : (asCode 3 x == 0) = false := by simpa using ha
    clear e1 e2 EP EC EY EK OK OA ON OX ha NO hp EL LL E
    generalize asCode 3 x = r at *
    go_enter Try.func51, Try.ntmps51
    go_wp2_with fail
    refine (RD.out _ D0.out.f).mono ?_
    rintro e w1 ⟨rfl, f1⟩
    have D1 := Lib.hid (D0.out.go f1)
    clear d0 d1 d2 d3 d4
    obtain ⟨a0, a1, a2, a3, a4⟩ := five D1.out.o
    obtain ⟨b0, b2, b3, b4, b5⟩ := fiveF D1.out.o
    go_wp2
    refine bodyPost_ret (v := .tuple #[.agg #[.int .i64 0, .string ⟨#[]⟩, .slice none 0 0, .slice none 0 0, .slice none 0 0], .int .i64 0, .int .i64 r]) (by simp [results, Try.results51, go_sem, a0, a1, a2, a3, a4]) rfl ?_
    exact ⟨_, rfl, ItemO.nothing _ _, D1.out.end5 _ _ _ _ _⟩
end Go.Proofs.Ytmlmiboihjibiaa
