/- The walk of the reference's PutScores. (Printed by scores5.py.) -/
import Derived.Test.YtmlmiboihjibiaaScE
import Derived.Test.YtmlmiboihjibiaaScC
import Derived.Test.YtmlmiboihjibiaaIns
import Derived.Test.YtmlmiboihjibiaaItC
set_option linter.unusedVariables false
set_option linter.unusedSimpArgs false
namespace Go.Proofs.Ytmlmiboihjibiaa
open Go.RowKit

theorem offC_step {l : List (Int × ByteArray)} {k : Nat} {s : Int × ByteArray} (m : ByteArray) (h : l[k]? = some s) : offC (l.take (k + 1)) m = if s.2 = m then offC (l.take k) m else offC (l.take k) m ++ [s] := by
  unfold offC
  rw [List.take_add_one, h, Option.toList_some, List.filter_append]
  by_cases hs : s.2 = m
  · rw [if_pos hs]; simp [List.filter_cons, hs]
  · rw [if_neg hs]; simp [List.filter_cons, hs]
theorem offC_take_len (l : List (Int × ByteArray)) (k : Nat) (m : ByteArray) : (offC (l.take k) m).length ≤ l.length := by
  have := offC_len (l.take k) m
  rw [List.length_take] at this
  omega
theorem putC_ins (l : List (Int × ByteArray)) (s : Int × ByteArray) : putC l s = insAt (offC l s.2) s (lowC (offC l s.2) s) := rfl

set_option maxHeartbeats 8000000 in
set_option maxRecDepth 100000 in
theorem putScores_any (x : Itm) (v : Value) (l : List (Int × ByteArray)) (Al : Option Addr) (cl : Nat) (w : World) (B : Nat) (hs : x.Small) (hB : B ≤ w.heap.size) (h : ItemV w B v x) (hl : (24 + l.length) * 24 ≤ 140737488355328) (hls : ∀ s ∈ l, s.2.size ≤ 281474976710656) (hL : Sl w B 2 (.slice Al l.length cl) l.length (scoresV l)) :
    Calls Try.prog 17 #[v, .slice Al l.length cl] w (INPost (put5N x l) (put5 x l) (put5Y x l) w) := by
  obtain ⟨i0, hi, hz0, hz1, hz2⟩ := info_parts scoreInfo
  have RD := Lib.hid (fun W (hf : Fr [] w W) => checkAs_any x 5 v W B hs (Nat.le_trans hB hf.size) (h.fr hf hB (by simp)))
  have HL := Lib.hid hL
  have HLS := Lib.hid hls
  obtain ⟨A1, c1, A2, c2, A3, c3, rfl, h1, h2, h3⟩ := h
  have H3 := Lib.hid h3
  have D0 := Lib.hid (BO.new w (.int .i64 x.kind) (.string x.text) (.slice A1 x.list.length c1) (.slice A2 x.pairs.length c2) (.slice A3 x.scores.length c3))
  obtain ⟨d0, d1, d2, d3, d4⟩ := five D0.out.b
  have EC := Lib.hid (show put5 x l = if pre5 x l ≠ 0 then pre5 x l else if 24 < (putF5 x l).length then 2 else 0 from rfl)
  have EP := Lib.hid (show pre5 x l = if asCode 5 x ≠ 0 then asCode 5 x else scsCode l from rfl)
  have ES := Lib.hid (show scsCode l = if l.length = 0 then 1 else someC l from rfl)
  have EY := Lib.hid (show put5Y x l = if put5 x l = 0 then ofC (putF5 x l) else newI 0 from rfl)
  have EK := Lib.hid (show put5N x l = if put5 x l = 0 then ((putF5 x l).length : Int) - x.scores.length else 0 from rfl)
  clear h1 h2 h3 hs hL hls
  have no0 : ∀ c : Int, c ≠ 0 → put5 x l = c → put5Y x l = newI 0 ∧ put5N x l = 0 := fun c hc he => by
    have h0 : put5 x l ≠ 0 := by rw [he]; exact hc
    exact ⟨by rw [EY.out, if_neg h0], by rw [EK.out, if_neg h0]⟩
  have NO := Lib.hid no0
  clear no0
  by_cases ha : asCode 5 x = 0
  · rw [ha] at RD
    by_cases hb : l.length = 0
    · have E := Lib.hid (show put5 x l = 1 from by
        have hp : pre5 x l = 1 := by rw [EP.out, if_neg (by simpa using ha), ES.out, if_pos hb]
        rw [EC.out, hp, if_pos (by decide)])
      obtain ⟨e1, e2⟩ := NO.out 1 (by decide) E.out
      rw [e1, e2, E.out]
      have q : ((l.length : Int) == 0) = true := by simp [hb]
      have q0 : ¬ (0 : Int) < (l.length : Int) := by omega
      clear e1 e2 EC EP ES EY EK ha NO
      go_enter Try.func17, Try.ntmps17
      go_wp2_with fail
      refine (RD.out _ D0.out.f).mono ?_
      rintro e w1 ⟨rfl, f1⟩
      have D1 := Lib.hid (D0.out.go f1)
      clear d0 d1 d2 d3 d4
      obtain ⟨a0, a1, a2, a3, a4⟩ := five D1.out.o
      obtain ⟨b0, b2, b3, b4, b5⟩ := fiveF D1.out.o
      go_wp2
      go_loopg [7, 8] 0 (fun g ec i wr => g = 0 ∧ ec = .int .i64 1 ∧ i = .int .i64 0 ∧ w1 = wr)
      case atStart => exact ⟨rfl, rfl, rfl, rfl⟩
      case round =>
        obtain ⟨rfl, rfl, rfl, rfl⟩ := hrel
        go_wp2
        refine bodyPost_ret (v := .tuple #[.agg #[.int .i64 0, .string ⟨#[]⟩, .slice none 0 0, .slice none 0 0, .slice none 0 0], .int .i64 0, .int .i64 1]) (by simp [results, Try.results17, go_sem, a0, a1, a2, a3, a4]) rfl ?_
        exact ⟨_, rfl, ItemO.nothing _ _, D1.out.end5 _ _ _ _ _⟩
    · have q : ((l.length : Int) == 0) = false := beq_eq_false_iff_ne.2 (by omega)
      have ES2 := Lib.hid (ES.out.trans (if_neg hb))
      by_cases hc : someC l = 0
      · have hp : pre5 x l = 0 := by rw [EP.out, if_neg (by simpa using ha), ES2.out, hc]
        have NL := Lib.hid (someC_ok hc)
        have OK0 := Lib.hid (scores_ok ha)
        have hx24 := OK0.out.2
        have E0 := Lib.hid (show put5 x l = if 24 < (putF5 x l).length then 2 else 0 from by rw [EC.out, if_neg (by simpa using hp)])
        clear ha hb hc hp EC EP ES ES2
        go_enter Try.func17, Try.ntmps17
        go_wp2_with fail
        refine (RD.out _ D0.out.f).mono ?_
        rintro e w1 ⟨rfl, f1⟩
        have D1 := Lib.hid (D0.out.go f1)
        clear d0 d1 d2 d3 d4
        go_wp2
        go_loopg [7, 8] l.length (fun g ec i wr => ∃ (k : Nat), g = l.length - k ∧ k ≤ l.length ∧ ec = .int .i64 0 ∧ i = .int .i64 k ∧ w1 = wr)
        case atStart => exact ⟨0, rfl, Nat.zero_le _, rfl, rfl, rfl⟩
        case round =>
          obtain ⟨k, rfl, hk, rfl, rfl, rfl⟩ := hrel
          by_cases hlt : k < l.length
          · obtain ⟨b, off, rfl, hb, hlc, hlm, hcell⟩ := HL.out.at_ (by omega)
            obtain ⟨p, hp⟩ : ∃ p, l[k]? = some p := ⟨_, List.getElem?_eq_getElem hlt⟩
            have x1 : w1.cell? ⟨b, off + 2 * k, none⟩ = some (.int .i64 p.1) := D1.out.f.cell (hcell _ _ (scoresV_get l k p hp).1) (by simp)
            have x2 : w1.cell? ⟨b, off + 2 * k + 1, none⟩ = some (.string p.2) := D1.out.f.cell (hcell _ _ (scoresV_get l k p hp).2) (by simp)
            rw [Nat.mul_comm 2 k] at x1 x2
            have hn := NL.out p (List.mem_of_getElem? hp)
            have II := Lib.hid (fun W => refInt_any p.1 W)
            rw [hn.1] at II
            have q2 : ¬ 60 < p.2.size := by omega
            clear hcell hp hn
            go_wp2_with fail
            refine (II.out _).mono ?_
            rintro e w2 ⟨rfl, h2⟩
            subst h2
            go_wp2
            go_roundg (l.length - (k + 1))
            case measure => omega
            case rel => exact ⟨k + 1, rfl, by omega, rfl, by go_num, rfl⟩
          · obtain rfl : k = l.length := by omega
            have hzz := D1.out.lt
            have hO := (World.ownsRow_lit (base := w1.heap.size) (e := 36) (size := 2) w1 #[] 0 (Nat.le_refl _) (Nat.zero_le _) rfl)
            have D2 := Lib.hid (D1.out.alloc (.cells #[] 36))
            obtain ⟨d0, d1, d2, d3, d4⟩ := five D2.out.b
            have HS := Lib.hid (H3.out.fr D2.out.f hB (by simp))
            go_wp2_with (at_builtin; refine wpList_append_sl _ rfl _ _ 24 rfl w1.heap.size 36 i0 _ 2 24 Try.underlying24 hi hz0 hz1 hz2 rfl (by decide) _ _ _ rfl hO B _ x.scores.length (scoresV x.scores) rfl HS.out (scores_one _) ?c1 ?c2 (by simp) ?_)
            case c1 => unfold maxLen; omega
            case c2 => omega
            intro v' w3 hown' hgrow hat
            have D3 := Lib.hid (D2.out.step (fr_ownL hgrow) (fun g hg => by have := ownL_base hO hg; omega))
            have HO3 := Lib.hid (own_base hown' (show w.heap.size + 2 ≤ w1.heap.size by omega))
            clear hown' hgrow hat hO d0 d1 d2 d3 d4
            go_wp2
            go_loopg [9, 10] l.length (fun g o i wr => ∃ (k : Nat) (cur : List (Int × ByteArray)), g = l.length - k ∧ k ≤ l.length ∧ i = .int .i64 k ∧ Hid (cur = (l.take k).foldl putC x.scores) ∧ wr.ownsRow (w.heap.size + 2) 36 2 o cur.length (scoresV cur) ∧ BO w 1 [.int .i64 x.kind, .string x.text, .slice A1 x.list.length c1, .slice A2 x.pairs.length c2, .slice A3 x.scores.length c3] wr)
            case atStart => exact ⟨0, x.scores, rfl, Nat.zero_le _, rfl, Lib.hid rfl, by simpa using HO3.out, D3.out⟩
            case round =>
              obtain ⟨k, cur, rfl, hk, rfl, hcur, hO, hD⟩ := hrel
              have D4 := Lib.hid hD
              have HO4 := Lib.hid hO
              have OKC := Lib.hid (show ScOk cur from by rw [hcur.out]; exact ScOk.fold _ OK0.out.1 (fun s hs => NL.out s (List.mem_of_mem_take hs)))
              have hcl : cur.length ≤ 24 + k := by
                have := foldC_len (l.take k) x.scores
                rw [← hcur.out, List.length_take] at this
                omega
              obtain ⟨A, c, rfl, hA, hc1, hc2⟩ := own_slice hO
              have hz4 := D4.out.lt
              clear hO hD
              by_cases hlt : k < l.length
              · obtain ⟨b, off, rfl, hb, hlc, hlm, hcell⟩ := HL.out.at_ (by omega)
                obtain ⟨p, hp⟩ : ∃ p, l[k]? = some p := ⟨_, List.getElem?_eq_getElem hlt⟩
                have X1 := Lib.hid (fun W (hW : Fr [] w W) => (show W.cell? ⟨b, off + k * 2, none⟩ = some (.int .i64 p.1) from by rw [Nat.mul_comm]; exact hW.cell (hcell _ _ (scoresV_get l k p hp).1) (by simp)))
                have X2 := Lib.hid (fun W (hW : Fr [] w W) => (show W.cell? ⟨b, off + k * 2 + 1, none⟩ = some (.string p.2) from by rw [Nat.mul_comm]; exact hW.cell (hcell _ _ (scoresV_get l k p hp).2) (by simp)))
                have HPS := Lib.hid (NL.out p (List.mem_of_getElem? hp))
                have HNX := Lib.hid (show putC cur p = (l.take (k + 1)).foldl putC x.scores from by rw [List.take_add_one, hp, Option.toList_some, List.foldl_append, ← hcur.out]; rfl)
                have OKX := Lib.hid (OKC.out.off p.2)
                have NOX := Lib.hid (off_no cur p.2)
                have HP := Lib.hid (putC_ins cur p)
                have hcu := offC_len cur p.2
                obtain ⟨wo, hwo⟩ : ∃ wo, wo = wr := ⟨_, rfl⟩
                subst hwo
                unfold maxLen at hc2 hlm
                clear hcell hp hcur
                go_wp2
                go_loopg [11, 12] cur.length (fun g lv n wq => ∃ (m : Nat), g = cur.length - m ∧ m ≤ cur.length ∧ n = .int .i64 m ∧ wq.ownsRow wo.heap.size 36 2 lv (offC (cur.take m) p.2).length (scoresV (offC (cur.take m) p.2)) ∧ Fr [] wo wq)
                case atStart => exact ⟨0, rfl, Nat.zero_le _, rfl, World.ownsRow_nil _ _ _ _, Fr.refl _ _⟩
                case round =>
                  obtain ⟨m, rfl, hm, rfl, hO, hf⟩ := hrel
                  have HF := Lib.hid hf
                  have HOL := Lib.hid hO
                  obtain ⟨Al2, cl2, rfl, -, hcl2, hml2⟩ := own_slice hO
                  have hfs := hf.size
                  have hol := offC_take_len cur m p.2
                  have HO5 := Lib.hid (own_fr HO4.out hf (by simp))
                  clear hf hO
                  by_cases hml : m < cur.length
                  · obtain ⟨t, ht⟩ : ∃ t, cur[m]? = some t := ⟨_, List.getElem?_eq_getElem hml⟩
                    obtain ⟨gb, rfl⟩ : ∃ gb, A = some ⟨gb, 0, none⟩ := by
                      rcases hA with rfl | ⟨gb, rfl⟩
                      · exfalso
                        rcases HO4.out.2 with ⟨_, h0⟩ | ⟨g', cap', cur', h', _⟩
                        · omega
                        · cases h'
                      · exact ⟨gb, rfl⟩
                    have y1 : wr.cell? ⟨gb, m * 2, none⟩ = some (.int .i64 t.1) := (HO5.out.cellAt (m * 2) (by omega)).trans (by rw [Nat.mul_comm]; exact (scoresV_get cur m t ht).1)
                    have y2 : wr.cell? ⟨gb, m * 2 + 1, none⟩ = some (.string t.2) := (HO5.out.cellAt (m * 2 + 1) (by omega)).trans (by rw [Nat.mul_comm]; exact (scoresV_get cur m t ht).2)
                    have x1 := X1.out wr (D4.out.f.trans HF.out)
                    have x2 := X2.out wr (D4.out.f.trans HF.out)
                    have ST := Lib.hid (offC_step p.2 ht)
                    by_cases hq : t.2 = p.2
                    · have ST2 := Lib.hid (ST.out.trans (if_pos hq))
                      have q := eqqB p.2
                      rw [hq] at y2
                      clear hq ht ST
                      obtain ⟨q1, q2⟩ := q
                      go_wp2
                      go_quiet (fail)
                      go_wp2
                      go_roundg (cur.length - (m + 1))
                      case measure => omega
                      case rel => exact ⟨m + 1, rfl, by omega, by go_num, by rw [ST2.out]; first | exact HOL.out | exact own_fr HOL.out (Fr.drewN_of _ _ []) (by simp), by first | exact HF.out.drew | exact HF.out.drewN _ | exact HF.out⟩
                    · have ST2 := Lib.hid (ST.out.trans (if_neg hq))
                      obtain ⟨q1, q2⟩ := neqB hq
                      clear hq ht ST
                      generalize offC (cur.take m) p.2 = d at *
                      go_wp2
                      go_quiet (fail)
                      have S6 := Lib.hid (fun (W : World) => (show Sl (W.alloc (.cells #[.int .i64 t.1, .string t.2] 36)) (W.heap.size + 1) 2 (.slice (some ⟨W.heap.size, 0, none⟩) 1 1) 1 [.int .i64 t.1, .string t.2] from ⟨_, _, rfl, rfl, Nat.le_refl _, by unfold maxLen; omega, fun _ => ⟨_, 0, rfl, Nat.lt_succ_self _, fun j u hu => by rw [Nat.zero_add, (Whole.new W 36 [.int .i64 t.1, .string t.2]).cell]; exact hu⟩⟩))
                      have HOX := Lib.hid (fun n o => (own_fr HOL.out (Fr.drewN_of wr n []) (by simp)).alloc o)
                      go_wp2_with (at_builtin; refine wpList_append_sl _ rfl _ _ 24 rfl wo.heap.size 36 i0 _ 2 24 Try.underlying24 hi hz0 hz1 hz2 rfl (by decide) _ _ _ rfl (HOX.out _ _) _ _ 1 _ rfl (S6.out _) ?c2 ?c3 ?c4 ?c5 ?_)
                      case c2 => intro u hu; simp at hu; rcases hu with rfl | rfl <;> rfl
                      case c3 => unfold maxLen; omega
                      case c4 => omega
                      case c5 => simp; omega
                      intro v' w2 hown' hgrow hat
                      have HOY := Lib.hid (show w2.ownsRow wo.heap.size 36 2 v' (d ++ [t]).length (scoresV (d ++ [t])) from by rw [scoresV_append, List.length_append]; simpa [scoresV] using hown')
                      have HF2 := Lib.hid (((HF.out.drewN _).alloc _).grown hgrow (fun k hk => .inr (HOL.out.lt k hk).1))
                      clear hown' hgrow hat x1 x2 y1 y2
                      go_wp2
                      go_roundg (cur.length - (m + 1))
                      case measure => omega
                      case rel => exact ⟨m + 1, rfl, by omega, by go_num, by rw [ST2.out]; exact HOY.out, HF2.out⟩
                  · obtain rfl : m = cur.length := by omega
                    rw [List.take_length] at HOL hol ⊢
                    have x1 := X1.out wr (D4.out.f.trans HF.out)
                    have x2 := X2.out wr (D4.out.f.trans HF.out)
                    have D5 := Lib.hid (D4.out.go HF.out)
                    have S6 := Lib.hid (show Sl (wr.alloc (.cells #[.int .i64 p.1, .string p.2] 36)) (wr.heap.size + 1) 2 (.slice (some ⟨wr.heap.size, 0, none⟩) 1 1) 1 [.int .i64 p.1, .string p.2] from ⟨_, _, rfl, rfl, Nat.le_refl _, by unfold maxLen; omega, fun _ => ⟨_, 0, rfl, Nat.lt_succ_self _, fun j u hu => by rw [Nat.zero_add, (Whole.new wr 36 [.int .i64 p.1, .string p.2]).cell]; exact hu⟩⟩)
                    have hlow := lowC_le (offC cur p.2) p
                    have LW1 := Lib.hid (fun j q (hj : j < lowC (offC cur p.2) p) (hq : (offC cur p.2)[j]? = some q) => lowC_lt hj hq)
                    have LW2 := Lib.hid (fun j q (hj : lowC (offC cur p.2) p ≤ j) (hq : (offC cur p.2)[j]? = some q) => lowC_ge OKX.out.rise hj hq)
                    have HQS := Lib.hid (fun q (hq : q ∈ offC cur p.2) => (OKX.out.ok q hq).2)
                    generalize offC cur p.2 = cu at *
                    generalize lowC cu p = lo at *
                    have hps : p.2.size ≤ 60 := HPS.out.2
                    have C2 := Lib.hid (show ∀ u ∈ [Value.int .i64 p.1, Value.string p.2], u.oneCell' = true from by intro u hu; simp at hu; rcases hu with rfl | rfl <;> rfl)
                    have C5 := Lib.hid (show wo.heap.size ≤ (wr.alloc (.cells #[.int .i64 p.1, .string p.2] 36)).heap.size from by simp; omega)
                    go_wp2_with (at_builtin; refine wpList_append_sl _ rfl _ _ 24 rfl wo.heap.size 36 i0 _ 2 24 Try.underlying24 hi hz0 hz1 hz2 rfl (by decide) _ _ _ rfl (HOL.out.alloc _) _ _ 1 _ rfl S6.out C2.out ?c3 ?c4 C5.out ?_)
                    case c3 => unfold maxLen; omega
                    case c4 => omega
                    intro v6 w6 hown' hgrow hat
                    have HO6 := Lib.hid (show w6.ownsRow (w.heap.size + 2) 36 2 v6 (cu.length + 1) (scoresV (insAt cu p cu.length)) from by rw [insAt_end, scoresV_append]; exact own_base (show w6.ownsRow wo.heap.size 36 2 v6 (cu.length + 1) _ from by simpa [scoresV] using hown') (by omega))
                    have D6 := Lib.hid ((D5.out.alloc (.cells #[.int .i64 p.1, .string p.2] 36)).step (fr_ownL hgrow) (fun g hg => by have := ownL_base HOL.out hg; omega))
                    clear hown' hgrow hat x1 x2
                    obtain ⟨A6, c6, rfl, hA6, hc6, hm6⟩ := own_slice HO6.out
                    obtain ⟨g6, rfl⟩ : ∃ g6, A6 = some ⟨g6, 0, none⟩ := by
                      rcases hA6 with rfl | ⟨gb, rfl⟩
                      · exfalso
                        rcases HO6.out.2 with ⟨_, h0⟩ | ⟨g', cap', cur', h', _⟩
                        · omega
                        · cases h'
                      · exact ⟨gb, rfl⟩
                    unfold maxLen at hm6
                    go_wp2
                    go_loopg [13] (2 * cu.length) (fun g kk wq => ∃ (j : Nat), g = 2 * j ∧ kk = .int .i64 j ∧ lo ≤ j ∧ j ≤ cu.length ∧ wq.ownsRow (w.heap.size + 2) 36 2 (.slice (some ⟨g6, 0, none⟩) (cu.length + 1) c6) (cu.length + 1) (scoresV (insAt cu p j)) ∧ BO w 1 [.int .i64 x.kind, .string x.text, .slice A1 x.list.length c1, .slice A2 x.pairs.length c2, .slice A3 x.scores.length c3] wq)
                    case atStart => exact ⟨cu.length, rfl, by go_num, hlow, Nat.le_refl _, HO6.out, D6.out⟩
                    case round =>
                      obtain ⟨j, rfl, rfl, hlj, hjc, hO, hD⟩ := hrel
                      have HO7 := Lib.hid hO
                      have D7 := Lib.hid hD
                      clear hO hD HO5 D5
                      have hgg := HO7.out.lt g6 rfl
                      rcases j with _ | j
                      · have hl0 : lo = 0 := by omega
                        have HL0 := Lib.hid hl0
                        clear hl0 hlj hlow
                        go_wp2
                        go_quiet (fail)
                        go_wp2
                        go_roundg (l.length - (k + 1))
                        case measure => omega
                        case rel => exact ⟨k + 1, putC cur p, rfl, by omega, by go_num, HNX, by rw [HP.out, HL0.out, insAt_length _ _ (Nat.zero_le _)]; exact HO7.out, by first | exact D7.out | exact D7.out.go (Fr.refl _ _).drew | exact D7.out.go ((Fr.refl _ _).drewN _)⟩
                      · obtain ⟨q, hq⟩ : ∃ q, cu[j]? = some q := ⟨_, List.getElem?_eq_getElem (by omega)⟩
                        have hp0 := insAt_at cu p hjc
                        have hq0 : (insAt cu p (j + 1))[j]? = some q := (insAt_before cu p hjc (Nat.lt_succ_self j)).trans hq
                        have y1 : wr.cell? ⟨g6, (j + 1) * 2, none⟩ = some (.int .i64 p.1) := (HO7.out.cellAt ((j + 1) * 2) (by omega)).trans (by rw [Nat.mul_comm]; exact (scoresV_get _ _ _ hp0).1)
                        have y2 : wr.cell? ⟨g6, (j + 1) * 2 + 1, none⟩ = some (.string p.2) := (HO7.out.cellAt ((j + 1) * 2 + 1) (by omega)).trans (by rw [Nat.mul_comm]; exact (scoresV_get _ _ _ hp0).2)
                        have y3 : wr.cell? ⟨g6, j * 2, none⟩ = some (.int .i64 q.1) := (HO7.out.cellAt (j * 2) (by omega)).trans (by rw [Nat.mul_comm]; exact (scoresV_get _ _ _ hq0).1)
                        have y4 : wr.cell? ⟨g6, j * 2 + 1, none⟩ = some (.string q.2) := (HO7.out.cellAt (j * 2 + 1) (by omega)).trans (by rw [Nat.mul_comm]; exact (scoresV_get _ _ _ hq0).2)
                        have hqs := HQS.out q (List.mem_of_getElem? hq)
                        have SC := Lib.hid (fun W => scoreLess_any p q W (by omega) (by omega))
                        have hw1 : IntKind.i64.wrap (((j + 1 : Nat) : Int) - 1) = (j : Int) := by rw [IntKind.wrap_i64]; omega
                        have hw2 : IntKind.i64.wrap ((j : Int) + 1 - 1) = (j : Int) := by rw [IntKind.wrap_i64]; omega
                        have hw3 : IntKind.i64.wrap (j : Int) = (j : Int) := by rw [IntKind.wrap_i64]; omega
                        have ix0 : (0 : Int) ≤ (j : Int) := by omega
                        have ix1 : (j : Int) < (cu.length : Int) := by omega
                        have ix2 : (j : Int) < (cu.length : Int) + 1 := by omega
                        have ix3 : (0 : Int) ≤ (j : Int) + 1 := by omega
                        have ix4 : ((j : Int) + 1).toNat = j + 1 := by omega
                        have NE : q.2 ≠ p.2 := NOX.out q (List.mem_of_getElem? hq)
                        have ho2 : ltR p q = true ↔ ordC p q < 0 := by rw [ltR_eq]; exact decide_eq_true_iff
                        have ha2 := ordC_anti p q
                        by_cases ho : ltR p q = true
                        · have hlj2 : lo ≤ j := by
                            rcases Nat.lt_or_ge j lo with hx | hx
                            · have h1 := LW1.out j q hx hq
                              have h3 := ho2.1 ho
                              omega
                            · exact hx
                          have SW := Lib.hid (insAt_swap (p := p) hq)
                          rw [ho] at SC
                          clear hp0 hq0 hq NE ho2 ha2 ho
                          go_wp2
                          go_region_held3 (fun wx => wx.cell? ⟨g6, (j + 1) * 2, none⟩ = some (.int .i64 p.1) ∧ wx.cell? ⟨g6, (j + 1) * 2 + 1, none⟩ = some (.string p.2) ∧ wx.cell? ⟨g6, j * 2, none⟩ = some (.int .i64 q.1) ∧ wx.cell? ⟨g6, j * 2 + 1, none⟩ = some (.string q.2)) (go_keep) ((go_at_call 74; refine (SC.out _).mono ?_; rintro e w8 ⟨rfl, f8⟩; have G8 := Lib.hid (fr_predrew f8); have y1 := G8.out.cell y1 (by simp); have y2 := G8.out.cell y2 (by simp); have y3 := G8.out.cell y3 (by simp); have y4 := G8.out.cell y4 (by simp); have HO8 := Lib.hid (own_fr HO7.out G8.out (by simp)); have z1 : w8.frozen? ⟨g6, (j + 1) * 2, none⟩ = false := HO8.out.frozenAt _; have z2 : w8.frozen? ⟨g6, (j + 1) * 2 + 1, none⟩ = false := HO8.out.frozenAt _; have z3 : w8.frozen? ⟨g6, j * 2, none⟩ = false := HO8.out.frozenAt _; have z4 : w8.frozen? ⟨g6, j * 2 + 1, none⟩ = false := HO8.out.frozenAt _; clear f8))
                          go_wp2
                          go_region
                          go_wp2
                          go_roundg (2 * j)
                          case measure => omega
                          case rel =>
                            refine ⟨j, rfl, by go_num, hlj2, by omega, ?_, ?_⟩
                            · rw [← SW.out, scoresV_set, scoresV_set]
                              have o0 := HO8.out.stored ((j + 1) * 2) (.int .i64 q.1)
                              have o1 := o0.1.stored ((j + 1) * 2 + 1) (.string q.2)
                              have o2 := o1.1.stored (j * 2) (.int .i64 p.1)
                              have o3 := o2.1.stored (j * 2 + 1) (.string p.2)
                              exact o3.1
                            · exact (D7.out.go G8.out).step (S := [g6]) ((((((Fr.refl [g6] w8).drewN _).setCell (p := ⟨g6, (j + 1) * 2, none⟩) (.inl (by simp)) _).setCell (p := ⟨g6, (j + 1) * 2 + 1, none⟩) (.inl (by simp)) _).setCell (p := ⟨g6, j * 2, none⟩) (.inl (by simp)) _).setCell (p := ⟨g6, j * 2 + 1, none⟩) (.inl (by simp)) _) (fun g hg => by simp at hg; omega)
                        · have hlj2 : lo = j + 1 := by
                            rcases Nat.lt_or_ge j lo with hx | hx
                            · omega
                            · exfalso
                              have h1 := LW2.out j q hx hq
                              have h3 : ¬ ordC p q < 0 := fun h => ho (ho2.2 h)
                              exact NE (congrArg Prod.snd (ordC_eq (show ordC q p = 0 by omega)))
                          have HL0 := Lib.hid hlj2
                          rw [show ltR p q = false by simpa using ho] at SC
                          clear hp0 hq0 hq hlj2 hlj hlow NE ho2 ha2 ho
                          go_wp2
                          go_region_held3 (fun wx => wx.cell? ⟨g6, (j + 1) * 2, none⟩ = some (.int .i64 p.1) ∧ wx.cell? ⟨g6, (j + 1) * 2 + 1, none⟩ = some (.string p.2) ∧ wx.cell? ⟨g6, j * 2, none⟩ = some (.int .i64 q.1) ∧ wx.cell? ⟨g6, j * 2 + 1, none⟩ = some (.string q.2)) (go_keep) ((go_at_call 74; refine (SC.out _).mono ?_; rintro e w8 ⟨rfl, f8⟩; have G8 := Lib.hid (fr_predrew f8); have y1 := G8.out.cell y1 (by simp); have y2 := G8.out.cell y2 (by simp); have y3 := G8.out.cell y3 (by simp); have y4 := G8.out.cell y4 (by simp); have HO8 := Lib.hid (own_fr HO7.out G8.out (by simp)); clear f8))
                          go_wp2
                          go_roundg (l.length - (k + 1))
                          case measure => omega
                          case rel => exact ⟨k + 1, putC cur p, rfl, by omega, by go_num, HNX, by rw [HP.out, HL0.out, insAt_length _ _ hjc]; exact HO8.out, by first | exact D7.out.go G8.out | exact D7.out.go G8.out.drew | exact D7.out.go (G8.out.drewN _)⟩

              · obtain rfl : k = l.length := by omega
                have hcur2 : putF5 x l = cur := by have := hcur.out; rw [List.take_length] at this; exact this.symm
                rw [hcur2] at E0 EY EK
                clear hcur hcur2
                unfold maxLen at hc2
                by_cases h24 : 24 < cur.length
                · have E := Lib.hid (show put5 x l = 2 from by rw [E0.out, if_pos h24])
                  obtain ⟨e1, e2⟩ := NO.out 2 (by decide) E.out
                  have q24 : (cur.length : Int) > 24 := by omega
                  have E1 := Lib.hid e1
                  have E2 := Lib.hid e2
                  clear e1 e2 E0 EY EK NO h24 hlt
                  obtain ⟨a0, a1, a2, a3, a4⟩ := five D4.out.o
                  obtain ⟨b0, b2, b3, b4, b5⟩ := fiveF D4.out.o
                  go_wp2
                  refine bodyPost_ret (v := .tuple #[.agg #[.int .i64 0, .string ⟨#[]⟩, .slice none 0 0, .slice none 0 0, .slice none 0 0], .int .i64 0, .int .i64 2]) (by simp [results, Try.results17, go_sem, a0, a1, a2, a3, a4]) rfl ?_
                  rw [E1.out, E2.out, E.out]
                  exact ⟨_, rfl, ItemO.nothing _ _, D4.out.end5 _ _ _ _ _⟩
                · have E := Lib.hid (show put5 x l = 0 from by rw [E0.out, if_neg h24])
                  have E1 := Lib.hid (EY.out.trans (if_pos E.out))
                  have E2 := Lib.hid (EK.out.trans (if_pos E.out))
                  have q24 : ¬ (cur.length : Int) > 24 := by omega
                  have OF := Lib.hid (fun W base u hu => filledC_own cur base u W (by omega) OKC.out.small hu)
                  have HW := Lib.hid (show IntKind.i64.wrap ((cur.length : Int) - (x.scores.length : Int)) = (cur.length : Int) - x.scores.length from IntWalk.i64_in _ (by omega))
                  clear E0 EY EK NO hlt NL hcl
                  obtain ⟨d0, d1, d2, d3, d4⟩ := five D4.out.b
                  generalize ofC cur = y at *
                  generalize put5Y x l = y0 at *
                  generalize put5N x l = n0 at *
                  generalize put5 x l = c0 at *
                  have hne1 : ¬ w.heap.size = w.heap.size + 1 := by omega
                  have hne2 : ¬ w.heap.size + 1 = w.heap.size := by omega
                  go_wp2
                  go_region_held3 (fun wx => wx.cell? ⟨w.heap.size, 4, none⟩ = some (.slice A3 x.scores.length c3)) (go_keep) (first | (go_at_call 75; (refine (OF.out _ _ _ (show wr.drew.ownsRow _ _ _ _ _ _ from HO4.out)).mono ?_); rintro e w5 ⟨u5, rfl, hi, f5⟩; have D5 := Lib.hid (D4.out.go (fr_predrew f5)); clear d0 d1 d2 d3 d4 f5; obtain ⟨d0, d1, d2, d3, d4⟩ := five D5.out.b; have HI := Lib.hid hi; obtain ⟨P1, p1, P2, p2, P3, p3, rfl⟩ := hi.form; clear hi; obtain ⟨a0, a1, a2, a3, a4⟩ := five D5.out.o; obtain ⟨b0, b2, b3, b4, b5⟩ := fiveF D5.out.o))
                  go_wp2
                  refine bodyPost_ret (v := .tuple #[.agg #[.int .i64 y.kind, .string y.text, .slice P1 y.list.length p1, .slice P2 y.pairs.length p2, .slice P3 y.scores.length p3], .int .i64 (IntKind.i64.wrap ((cur.length : Int) - (x.scores.length : Int))), .int .i64 0]) (by simp [results, Try.results17, go_sem, a0, a1, a2, a3, a4]) rfl ?_
                  rw [E1.out, E2.out, E.out]
                  exact ⟨_, by rw [HW.out], (itemO_later HI.out (by omega) _ _ _ _ _).less (by omega), D5.out.end5 _ _ _ _ _⟩
      · have E := Lib.hid (show put5 x l = someC l from by
          have hp : pre5 x l = someC l := by rw [EP.out, if_neg (by simpa using ha), ES2.out]
          rw [EC.out, hp, if_pos hc])
        obtain ⟨e1, e2⟩ := NO.out _ hc E.out
        rw [e1, e2, E.out]
        have HC := Lib.hid hc
        have qr : (someC l != 0) = true := by simpa using hc
        have qr2 : (someC l == 0) = false := by simpa using hc
        have HE0 := Lib.hid (show someC l = someC (l.drop 0) from rfl)
        clear e1 e2 EC EP ES ES2 EY EK ha hb NO hc E
        generalize hr : someC l = r at *
        clear hr
        go_enter Try.func17, Try.ntmps17
        go_wp2_with fail
        refine (RD.out _ D0.out.f).mono ?_
        rintro e w1 ⟨rfl, f1⟩
        have D1 := Lib.hid (D0.out.go f1)
        clear d0 d1 d2 d3 d4
        obtain ⟨a0, a1, a2, a3, a4⟩ := five D1.out.o
        obtain ⟨b0, b2, b3, b4, b5⟩ := fiveF D1.out.o
        go_wp2
        go_loopg [7, 8] l.length (fun g ec i wr => ∃ (k : Nat) (d : Int), g = l.length - k ∧ k ≤ l.length ∧ i = .int .i64 k ∧ ec = .int .i64 d ∧ ((d = 0 ∧ Hid (r = someC (l.drop k))) ∨ d = r) ∧ w1 = wr)
        case atStart => exact ⟨0, 0, rfl, Nat.zero_le _, rfl, rfl, .inl ⟨rfl, HE0⟩, rfl⟩
        case round =>
          obtain ⟨k, d, rfl, hk, rfl, rfl, hd, rfl⟩ := hrel
          rcases hd with ⟨rfl, HE⟩ | rfl
          · by_cases hlt : k < l.length
            · obtain ⟨b, off, rfl, hb, hlc, hlm, hcell⟩ := HL.out.at_ (by omega)
              obtain ⟨p, hp⟩ : ∃ p, l[k]? = some p := ⟨_, List.getElem?_eq_getElem hlt⟩
              have x1 : w1.cell? ⟨b, off + 2 * k, none⟩ = some (.int .i64 p.1) := D1.out.f.cell (hcell _ _ (scoresV_get l k p hp).1) (by simp)
              have x2 : w1.cell? ⟨b, off + 2 * k + 1, none⟩ = some (.string p.2) := D1.out.f.cell (hcell _ _ (scoresV_get l k p hp).2) (by simp)
              rw [Nat.mul_comm 2 k] at x1 x2
              have hps := HLS.out p (List.mem_of_getElem? hp)
              have II := Lib.hid (fun W => refInt_any p.1 W)
              have ST := Lib.hid (HE.out.trans (someC_step hp))
              clear hcell hp
              by_cases q1 : isInt p.1 = true
              · have ST2 := Lib.hid (ST.out.trans (if_neg (by rw [q1]; decide)))
                rw [q1] at II
                by_cases q2 : 60 < p.2.size
                · have ST3 := Lib.hid (ST2.out.trans (if_pos q2))
                  clear q1 ST ST2
                  go_wp2_with fail
                  refine (II.out _).mono ?_
                  rintro e w2 ⟨rfl, h2⟩
                  subst h2
                  go_wp2
                  go_roundg (l.length - (k + 1))
                  case measure => omega
                  case rel => exact ⟨k + 1, 2, rfl, by omega, by go_num, rfl, .inr ST3.out.symm, rfl⟩
                · have ST3 := Lib.hid (ST2.out.trans (if_neg q2))
                  clear q1 ST ST2
                  go_wp2_with fail
                  refine (II.out _).mono ?_
                  rintro e w2 ⟨rfl, h2⟩
                  subst h2
                  go_wp2
                  go_roundg (l.length - (k + 1))
                  case measure => omega
                  case rel => exact ⟨k + 1, 0, rfl, by omega, by go_num, rfl, .inl ⟨rfl, ST3⟩, rfl⟩
              · have q1' : isInt p.1 = false := by simpa using q1
                have ST2 := Lib.hid (ST.out.trans (if_pos q1'))
                rw [q1'] at II
                clear q1 q1' ST
                go_wp2_with fail
                refine (II.out _).mono ?_
                rintro e w2 ⟨rfl, h2⟩
                subst h2
                go_wp2
                go_roundg (l.length - (k + 1))
                case measure => omega
                case rel => exact ⟨k + 1, 3, rfl, by omega, by go_num, rfl, .inr ST2.out.symm, rfl⟩
            · exact absurd (HE.out.trans (someC_end (by omega))) HC.out
          · by_cases hlt : k < l.length
            · go_wp2
              refine bodyPost_ret (v := .tuple #[.agg #[.int .i64 0, .string ⟨#[]⟩, .slice none 0 0, .slice none 0 0, .slice none 0 0], .int .i64 0, .int .i64 d]) (by simp [results, Try.results17, go_sem, a0, a1, a2, a3, a4]) rfl ?_
              exact ⟨_, rfl, ItemO.nothing _ _, D1.out.end5 _ _ _ _ _⟩
            · go_wp2
              refine bodyPost_ret (v := .tuple #[.agg #[.int .i64 0, .string ⟨#[]⟩, .slice none 0 0, .slice none 0 0, .slice none 0 0], .int .i64 0, .int .i64 d]) (by simp [results, Try.results17, go_sem, a0, a1, a2, a3, a4]) rfl ?_
              exact ⟨_, rfl, ItemO.nothing _ _, D1.out.end5 _ _ _ _ _⟩
  · have hp : pre5 x l = asCode 5 x := by rw [EP.out, if_pos ha]
    have E := Lib.hid (show put5 x l = asCode 5 x from by rw [EC.out, hp, if_pos ha])
    obtain ⟨e1, e2⟩ := NO.out _ ha E.out
    rw [e1, e2, E.out]
    have q : (asCode 5 x != 0) = true := by simpa using ha
    have q2 : (asCode 5 x == 0) = false := by simpa using ha
    clear e1 e2 EC EP ES EY EK hp E ha NO
    generalize asCode 5 x = r at *
    go_enter Try.func17, Try.ntmps17
    go_wp2_with fail
    refine (RD.out _ D0.out.f).mono ?_
    rintro e w1 ⟨rfl, f1⟩
    have D1 := Lib.hid (D0.out.go f1)
    clear d0 d1 d2 d3 d4
    obtain ⟨a0, a1, a2, a3, a4⟩ := five D1.out.o
    obtain ⟨b0, b2, b3, b4, b5⟩ := fiveF D1.out.o
    go_wp2
    go_loopg [7, 8] 0 (fun g ec i wr => g = 0 ∧ ec = .int .i64 r ∧ i = .int .i64 0 ∧ w1 = wr)
    case atStart => exact ⟨rfl, rfl, rfl, rfl⟩
    case round =>
      obtain ⟨rfl, rfl, rfl, rfl⟩ := hrel
      by_cases hlt : (0 : Int) < (l.length : Int)
      · go_wp2
        refine bodyPost_ret (v := .tuple #[.agg #[.int .i64 0, .string ⟨#[]⟩, .slice none 0 0, .slice none 0 0, .slice none 0 0], .int .i64 0, .int .i64 r]) (by simp [results, Try.results17, go_sem, a0, a1, a2, a3, a4]) rfl ?_
        exact ⟨_, rfl, ItemO.nothing _ _, D1.out.end5 _ _ _ _ _⟩
      · go_wp2
        refine bodyPost_ret (v := .tuple #[.agg #[.int .i64 0, .string ⟨#[]⟩, .slice none 0 0, .slice none 0 0, .slice none 0 0], .int .i64 0, .int .i64 r]) (by simp [results, Try.results17, go_sem, a0, a1, a2, a3, a4]) rfl ?_
        exact ⟨_, rfl, ItemO.nothing _ _, D1.out.end5 _ _ _ _ _⟩

end Go.Proofs.Ytmlmiboihjibiaa
