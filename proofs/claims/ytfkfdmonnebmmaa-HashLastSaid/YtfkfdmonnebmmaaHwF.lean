/- The walk of the reference's PutPairs. -/
import Derived.Test.YtfkfdmonnebmmaaHwD
import Derived.Test.YtfkfdmonnebmmaaHwE
set_option linter.unusedVariables false
set_option linter.unusedSimpArgs false
namespace Go.Proofs.Ytfkfdmonnebmmaa
open Go.RowKit

/-- one put between. -/
def insAt {α : Type} (l : List α) (p : α) (j : Nat) : List α := l.take j ++ p :: l.drop j
theorem insAt_length {α : Type} (l : List α) (p : α) {j : Nat} (h : j ≤ l.length) : (insAt l p j).length = l.length + 1 := by
  unfold insAt
  rw [List.length_append, List.length_cons, List.length_take, List.length_drop]
  omega
theorem insAt_at {α : Type} (l : List α) (p : α) {j : Nat} (h : j ≤ l.length) : (insAt l p j)[j]? = some p := by
  unfold insAt
  rw [List.getElem?_append_right (by rw [List.length_take]; omega), List.length_take, show j - min j l.length = 0 by omega]
  rfl
theorem insAt_before {α : Type} (l : List α) (p : α) {j i : Nat} (hj : j ≤ l.length) (h : i < j) : (insAt l p j)[i]? = l[i]? := by
  unfold insAt
  rw [List.getElem?_append_left (by rw [List.length_take]; omega), List.getElem?_take, if_pos h]
theorem insAt_end {α : Type} (l : List α) (p : α) : insAt l p l.length = l ++ [p] := by
  unfold insAt
  rw [List.take_length, List.drop_length]
theorem insAt_swap {α : Type} {l : List α} {p q : α} {j : Nat} (hq : l[j]? = some q) : ((insAt l p (j + 1)).set (j + 1) q).set j p = insAt l p j := by
  have hlt := (List.getElem?_eq_some_iff.1 hq).1
  have hv := (List.getElem?_eq_some_iff.1 hq).2
  apply List.ext_getElem?
  intro i
  have hl1 := insAt_length l p (j := j + 1) (by omega)
  rcases Nat.lt_trichotomy i j with h | h | h
  · rw [List.getElem?_set_ne (by omega), List.getElem?_set_ne (by omega), insAt_before _ _ (by omega) (by omega), insAt_before _ _ (by omega) h]
  · subst h
    rw [List.getElem?_set_self (by rw [List.length_set, hl1]; omega), insAt_at _ _ (by omega)]
  · rw [List.getElem?_set_ne (by omega)]
    have hb : ∀ {k m : Nat}, k ≤ l.length → k < m → (insAt l p k)[m]? = l[m - 1]? := by
      intro k m hk hm
      unfold insAt
      rw [List.getElem?_append_right (by rw [List.length_take]; omega), List.length_take, show m - min k l.length = (m - 1 - k) + 1 by omega, List.getElem?_cons_succ, List.getElem?_drop]
      congr 1
      omega
    by_cases h2 : i = j + 1
    · subst h2
      rw [List.getElem?_set_self (by rw [hl1]; omega), hb (by omega) (by omega), show j + 1 - 1 = j by omega, hq]
    · rw [List.getElem?_set_ne (by omega), hb (by omega) (by omega), hb (by omega) (by omega)]
theorem insAt_swap' {α : Type} {l : List α} {p q : α} {j : Nat} (hq : l[j]? = some q) : ((insAt l p (j + 1)).set j p).set (j + 1) q = insAt l p j := by
  rw [← insAt_swap (p := p) hq, List.set_comm _ _ (by omega)]

theorem any_take_step {α : Type} {p : α → Bool} {l : List α} {k : Nat} {s : α} (h : l[k]? = some s) : (l.take (k + 1)).any p = ((l.take k).any p || p s) := by
  rw [List.take_add_one, h, Option.toList_some, List.any_append]
  simp

/-- where the key was found among the first so many. -/
def seenK (cur : List (ByteArray × ByteArray)) (f : ByteArray) (m : Nat) : Nat := if hitK Prod.fst cur f = true ∧ lowK Prod.fst cur f < m then lowK Prod.fst cur f else cur.length

theorem seenK_step {cur : List (ByteArray × ByteArray)} {f : ByteArray} {m : Nat} {q : ByteArray × ByteArray} (hr : rises (ltK Prod.fst) cur = true) (hq : cur[m]? = some q) : seenK cur f (m + 1) = if q.1 = f then m else seenK cur f m := by
  have he := eq_low Prod.fst (f := f) hr hq
  unfold seenK
  by_cases h : q.1 = f
  · obtain ⟨h1, h2⟩ := he.1 h
    rw [if_pos h, if_pos ⟨h1, by omega⟩, h2]
  · rw [if_neg h]
    by_cases h1 : hitK Prod.fst cur f = true
    · have hne : m ≠ lowK Prod.fst cur f := fun e => h (he.2 ⟨h1, e⟩)
      by_cases h2 : lowK Prod.fst cur f < m
      · rw [if_pos ⟨h1, by omega⟩, if_pos ⟨h1, h2⟩]
      · rw [if_neg (fun hh => by have := hh.2; omega), if_neg (fun hh => h2 hh.2)]
    · rw [if_neg (fun hh => h1 hh.1), if_neg (fun hh => h1 hh.1)]
theorem seenK_end {cur : List (ByteArray × ByteArray)} {f : ByteArray} : seenK cur f cur.length = if hitK Prod.fst cur f = true then lowK Prod.fst cur f else cur.length := by
  unfold seenK
  by_cases h1 : hitK Prod.fst cur f = true
  · obtain ⟨q, hq, _⟩ := (hitK_iff Prod.fst).1 h1
    have := (List.getElem?_eq_some_iff.1 hq).1
    rw [if_pos ⟨h1, this⟩, if_pos h1]
  · rw [if_neg (fun hh => h1 hh.1), if_neg h1]
theorem seenK_le (cur : List (ByteArray × ByteArray)) (f : ByteArray) (m : Nat) : seenK cur f m ≤ cur.length := by
  unfold seenK
  have := lowK_le Prod.fst cur f
  split <;> omega

set_option maxHeartbeats 8000000 in
set_option maxRecDepth 100000 in
theorem putPairs_any (x : Itm) (v : Value) (l : List (ByteArray × ByteArray)) (Al : Option Addr) (cl : Nat) (w : World) (B : Nat) (hs : x.Small) (hB : B ≤ w.heap.size) (h : ItemV w B v x) (hl : (24 + l.length) * 32 ≤ 140737488355328) (hL : Sl w B 2 (.slice Al l.length cl) l.length (pairsV l)) :
    Calls Try.prog 43 #[v, .slice Al l.length cl] w (INPost (putN x l) (putCode x l) (putY x l) w) := by
  obtain ⟨i0, hi, hz0, hz1, hz2⟩ := info_parts pairInfo
  have RD := Lib.hid (fun W (hf : Fr [] w W) => checkAs_any x 4 v W B hs (Nat.le_trans hB hf.size) (h.fr hf hB (by simp)))
  have HL := Lib.hid hL
  obtain ⟨A1, c1, A2, c2, A3, c3, rfl, h1, h2, h3⟩ := h
  have H2 := Lib.hid h2
  have D0 := Lib.hid (BO.new w (.int .i64 x.kind) (.string x.text) (.slice A1 x.list.length c1) (.slice A2 x.pairs.length c2) (.slice A3 x.scores.length c3))
  obtain ⟨d0, d1, d2, d3, d4⟩ := five D0.out.b
  have EC := Lib.hid (show putCode x l = if pairsCode x l ≠ 0 then pairsCode x l else if 24 < (putF x l).length then 2 else 0 from rfl)
  have EP := Lib.hid (show pairsCode x l = if asCode 4 x ≠ 0 then asCode 4 x else if l.length = 0 then 1 else if l.any longP = true then 2 else 0 from rfl)
  have EY := Lib.hid (show putY x l = if putCode x l = 0 then ofP (putF x l) else newI 0 from rfl)
  have EK := Lib.hid (show putN x l = if putCode x l = 0 then ((putF x l).length : Int) - x.pairs.length else 0 from rfl)
  clear h1 h2 h3 hs hL
  have no0 : ∀ c : Int, c ≠ 0 → putCode x l = c → putY x l = newI 0 ∧ putN x l = 0 := fun c hc he => by
    have h0 : putCode x l ≠ 0 := by rw [he]; exact hc
    exact ⟨by rw [EY.out, if_neg h0], by rw [EK.out, if_neg h0]⟩
  have NO := Lib.hid no0
  clear no0
  by_cases ha : asCode 4 x = 0
  · rw [ha] at RD
    by_cases hb : l.length = 0
    · have E := Lib.hid (show putCode x l = 1 from by
        have hp : pairsCode x l = 1 := by rw [EP.out, if_neg (by simpa using ha), if_pos hb]
        rw [EC.out, hp, if_pos (by decide)])
      obtain ⟨e1, e2⟩ := NO.out 1 (by decide) E.out
      rw [e1, e2, E.out]
      have q : ((l.length : Int) == 0) = true := by simp [hb]
      have q0 : ¬ (0 : Int) < (l.length : Int) := by omega
      clear e1 e2 EC EP EY EK ha NO
      go_enter Try.func43, Try.ntmps43
      go_wp2_with fail
      refine (RD.out _ D0.out.f).mono ?_
      rintro e w1 ⟨rfl, f1⟩
      have D1 := Lib.hid (D0.out.go f1)
      clear d0 d1 d2 d3 d4
      obtain ⟨a0, a1, a2, a3, a4⟩ := five D1.out.o
      obtain ⟨b0, b2, b3, b4, b5⟩ := fiveF D1.out.o
      go_wp2
      go_loopg [7, 8] 0 (fun g ec i wr => g = 0 ∧ ec = .int .i64 1 ∧ i = .int .i64 0 ∧ w1 = wr)
      case atStart => exact ⟨rfl, rfl, rfl, rfl⟩
      case round =>
        obtain ⟨rfl, rfl, rfl, rfl⟩ := hrel
        go_wp2
        refine bodyPost_ret (v := .tuple #[.agg #[.int .i64 0, .string ⟨#[]⟩, .slice none 0 0, .slice none 0 0, .slice none 0 0], .int .i64 0, .int .i64 1]) (by simp [results, Try.results43, go_sem, a0, a1, a2, a3, a4]) rfl ?_
        exact ⟨_, rfl, ItemO.nothing _ _, D1.out.end5 _ _ _ _ _⟩
    · have q : ((l.length : Int) == 0) = false := beq_eq_false_iff_ne.2 (by omega)
      by_cases hc : l.any longP = true
      · have E := Lib.hid (show putCode x l = 2 from by
          have hp : pairsCode x l = 2 := by rw [EP.out, if_neg (by simpa using ha), if_neg hb, if_pos hc]
          rw [EC.out, hp, if_pos (by decide)])
        obtain ⟨e1, e2⟩ := NO.out 2 (by decide) E.out
        rw [e1, e2, E.out]
        have HC := Lib.hid hc
        clear e1 e2 EC EP EY EK ha hb NO hc
        go_enter Try.func43, Try.ntmps43
        go_wp2_with fail
        refine (RD.out _ D0.out.f).mono ?_
        rintro e w1 ⟨rfl, f1⟩
        have D1 := Lib.hid (D0.out.go f1)
        clear d0 d1 d2 d3 d4
        obtain ⟨a0, a1, a2, a3, a4⟩ := five D1.out.o
        obtain ⟨b0, b2, b3, b4, b5⟩ := fiveF D1.out.o
        go_wp2
        go_loopg [7, 8] l.length (fun g ec i wr => ∃ (k : Nat) (d : Int), g = l.length - k ∧ k ≤ l.length ∧ i = .int .i64 k ∧ ec = .int .i64 d ∧ ((d = 0 ∧ (l.take k).any longP = false) ∨ d = 2) ∧ w1 = wr)
        case atStart => exact ⟨0, 0, rfl, Nat.zero_le _, rfl, rfl, .inl ⟨rfl, by simp⟩, rfl⟩
        case round =>
          obtain ⟨k, d, rfl, hk, rfl, rfl, hd, rfl⟩ := hrel
          rcases hd with ⟨rfl, hno⟩ | rfl
          · by_cases hlt : k < l.length
            · obtain ⟨b, off, rfl, hb, hlc, hlm, hcell⟩ := HL.out.at_ (by omega)
              obtain ⟨p, hp⟩ : ∃ p, l[k]? = some p := ⟨_, List.getElem?_eq_getElem hlt⟩
              have x1 : w1.cell? ⟨b, off + 2 * k, none⟩ = some (.string p.1) := D1.out.f.cell (hcell _ _ (pairsV_get l k p hp).1) (by simp)
              have x2 : w1.cell? ⟨b, off + 2 * k + 1, none⟩ = some (.string p.2) := D1.out.f.cell (hcell _ _ (pairsV_get l k p hp).2) (by simp)
              rw [Nat.mul_comm 2 k] at x1 x2
              have hst := any_take_step (p := longP) hp
              rw [hno, Bool.false_or] at hst
              have ST := Lib.hid hst
              have LP := Lib.hid (show longP p = (decide (60 < p.1.size) || decide (60 < p.2.size)) from rfl)
              clear hno hcell hp hst
              by_cases q1 : 60 < p.1.size
              · go_wp2
                go_roundg (l.length - (k + 1))
                case measure => omega
                case rel => exact ⟨k + 1, 2, rfl, by omega, by go_num, rfl, .inr rfl, rfl⟩
              · by_cases q2 : 60 < p.2.size
                · go_wp2
                  go_roundg (l.length - (k + 1))
                  case measure => omega
                  case rel => exact ⟨k + 1, 2, rfl, by omega, by go_num, rfl, .inr rfl, rfl⟩
                · go_wp2
                  go_roundg (l.length - (k + 1))
                  case measure => omega
                  case rel => exact ⟨k + 1, 0, rfl, by omega, by go_num, rfl, .inl ⟨rfl, by rw [ST.out, LP.out, decide_eq_false q1, decide_eq_false q2]; rfl⟩, rfl⟩
            · obtain rfl : k = l.length := by omega
              rw [List.take_length, HC.out] at hno
              cases hno
          · by_cases hlt : k < l.length
            · go_wp2
              refine bodyPost_ret (v := .tuple #[.agg #[.int .i64 0, .string ⟨#[]⟩, .slice none 0 0, .slice none 0 0, .slice none 0 0], .int .i64 0, .int .i64 2]) (by simp [results, Try.results43, go_sem, a0, a1, a2, a3, a4]) rfl ?_
              exact ⟨_, rfl, ItemO.nothing _ _, D1.out.end5 _ _ _ _ _⟩
            · go_wp2
              refine bodyPost_ret (v := .tuple #[.agg #[.int .i64 0, .string ⟨#[]⟩, .slice none 0 0, .slice none 0 0, .slice none 0 0], .int .i64 0, .int .i64 2]) (by simp [results, Try.results43, go_sem, a0, a1, a2, a3, a4]) rfl ?_
              exact ⟨_, rfl, ItemO.nothing _ _, D1.out.end5 _ _ _ _ _⟩
      · have hp : pairsCode x l = 0 := by rw [EP.out, if_neg (by simpa using ha), if_neg hb, if_neg hc]
        have NL := Lib.hid (not_long hc)
        have OKP := Lib.hid (ok_pairs ha)
        have HR := Lib.hid (pairs_rise ha)
        have hx24 := OKP.out.1
        have E0 := Lib.hid (show putCode x l = if 24 < (putF x l).length then 2 else 0 from by rw [EC.out, if_neg (by simpa using hp)])
        clear ha hb hc hp EC EP
        go_enter Try.func43, Try.ntmps43
        go_wp2_with fail
        refine (RD.out _ D0.out.f).mono ?_
        rintro e w1 ⟨rfl, f1⟩
        have D1 := Lib.hid (D0.out.go f1)
        clear d0 d1 d2 d3 d4
        go_wp2
        go_loopg [7, 8] l.length (fun g ec i wr => ∃ (k : Nat), g = l.length - k ∧ k ≤ l.length ∧ ec = .int .i64 0 ∧ i = .int .i64 k ∧ w1 = wr)
        case atStart => exact ⟨0, rfl, Nat.zero_le _, rfl, rfl, rfl⟩
        case round =>
          obtain ⟨k, rfl, hk, rfl, rfl, rfl⟩ := hrel
          by_cases hlt : k < l.length
          · obtain ⟨b, off, rfl, hb, hlc, hlm, hcell⟩ := HL.out.at_ (by omega)
            obtain ⟨p, hp⟩ : ∃ p, l[k]? = some p := ⟨_, List.getElem?_eq_getElem hlt⟩
            have x1 : w1.cell? ⟨b, off + 2 * k, none⟩ = some (.string p.1) := D1.out.f.cell (hcell _ _ (pairsV_get l k p hp).1) (by simp)
            have x2 : w1.cell? ⟨b, off + 2 * k + 1, none⟩ = some (.string p.2) := D1.out.f.cell (hcell _ _ (pairsV_get l k p hp).2) (by simp)
            rw [Nat.mul_comm 2 k] at x1 x2
            have hn := NL.out p (List.mem_of_getElem? hp)
            have q1 : ¬ 60 < p.1.size := by omega
            have q2 : ¬ 60 < p.2.size := by omega
            clear hcell hp hn
            go_wp2
            go_roundg (l.length - (k + 1))
            case measure => omega
            case rel => exact ⟨k + 1, rfl, by omega, rfl, by go_num, rfl⟩
          · obtain rfl : k = l.length := by omega
            have hzz := D1.out.lt
            have hO := (World.ownsRow_lit (base := w1.heap.size) (e := 64) (size := 2) w1 #[] 0 (Nat.le_refl _) (Nat.zero_le _) rfl)
            have D2 := Lib.hid (D1.out.alloc (.cells #[] 64))
            obtain ⟨d0, d1, d2, d3, d4⟩ := five D2.out.b
            have HS := Lib.hid (H2.out.fr D2.out.f hB (by simp))
            go_wp2_with (at_builtin; refine wpList_append_sl _ rfl _ _ 30 rfl w1.heap.size 64 i0 _ 2 32 Try.underlying30 hi hz0 hz1 hz2 rfl (by decide) _ _ _ rfl hO B _ x.pairs.length (pairsV x.pairs) rfl HS.out (pairs_one _) ?c1 ?c2 (by simp) ?_)
            case c1 => unfold maxLen; omega
            case c2 => omega
            intro v' w3 hown' hgrow hat
            have D3 := Lib.hid (D2.out.step (fr_ownL hgrow) (fun g hg => by have := ownL_base hO hg; omega))
            have HO3 := Lib.hid (own_base hown' (show w.heap.size + 2 ≤ w1.heap.size by omega))
            clear hown' hgrow hat hO d0 d1 d2 d3 d4
            go_wp2
            go_loopg [9, 10] l.length (fun g o i wr => ∃ (k : Nat) (cur : List (ByteArray × ByteArray)), g = l.length - k ∧ k ≤ l.length ∧ i = .int .i64 k ∧ cur = (l.take k).foldl (putK Prod.fst) x.pairs ∧ wr.ownsRow (w.heap.size + 2) 64 2 o cur.length (pairsV cur) ∧ BO w 1 [.int .i64 x.kind, .string x.text, .slice A1 x.list.length c1, .slice A2 x.pairs.length c2, .slice A3 x.scores.length c3] wr)
            case atStart => exact ⟨0, x.pairs, rfl, Nat.zero_le _, rfl, rfl, by simpa using HO3.out, D3.out⟩
            case round =>
              obtain ⟨k, cur, rfl, hk, rfl, hcur, hO, hD⟩ := hrel
              have D4 := Lib.hid hD
              have HO4 := Lib.hid hO
              have hr : rises (ltK Prod.fst) cur = true := by rw [hcur]; exact fold_rises _ _ HR.out
              have hcl : cur.length ≤ 24 + k := by
                have := (fold_len Prod.fst (l.take k) x.pairs).1
                rw [← hcur, List.length_take] at this
                omega
              obtain ⟨A, c, rfl, hA, hc1, hc2⟩ := own_slice hO
              have hz4 := D4.out.lt
              clear hO hD
              by_cases hlt : k < l.length
              · obtain ⟨b, off, rfl, hb, hlc, hlm, hcell⟩ := HL.out.at_ (by omega)
                obtain ⟨p, hp⟩ : ∃ p, l[k]? = some p := ⟨_, List.getElem?_eq_getElem hlt⟩
                have X1 := Lib.hid (fun W (hW : Fr [] w W) => (show W.cell? ⟨b, off + k * 2, none⟩ = some (.string p.1) from by rw [Nat.mul_comm]; exact hW.cell (hcell _ _ (pairsV_get l k p hp).1) (by simp)))
                have X2 := Lib.hid (fun W (hW : Fr [] w W) => (show W.cell? ⟨b, off + k * 2 + 1, none⟩ = some (.string p.2) from by rw [Nat.mul_comm]; exact hW.cell (hcell _ _ (pairsV_get l k p hp).2) (by simp)))
                have hps := NL.out p (List.mem_of_getElem? hp)
                have hnx : (l.take (k + 1)).foldl (putK Prod.fst) x.pairs = putK Prod.fst cur p := by
                  rw [List.take_add_one, hp, Option.toList_some, List.foldl_append, ← hcur]; rfl
                have HNX := Lib.hid hnx.symm
                have hlow := lowK_le Prod.fst cur p.1
                have hcs : ∀ s ∈ cur, s.1.size ≤ 60 := fun s hs => by
                  rw [hcur] at hs
                  rcases fold_mem _ _ hs with h | h
                  · exact (NL.out s (List.mem_of_mem_take h)).1
                  · exact (OKP.out.2 s h).1
                have HCS := Lib.hid hcs
                have HRR := Lib.hid hr
                unfold maxLen at hc2 hlm
                clear hcell hnx hp hcur hcs hr
                go_wp2
                go_loopg [11, 12] cur.length (fun g kk n wq => ∃ (m : Nat), g = cur.length - m ∧ m ≤ cur.length ∧ n = .int .i64 m ∧ kk = .int .i64 (seenK cur p.1 m) ∧ Fr [] wr wq)
                case atStart => exact ⟨0, rfl, Nat.zero_le _, rfl, by unfold seenK; rw [if_neg (fun hh => by have := hh.2; omega)], Fr.refl _ _⟩
                case round =>
                  obtain ⟨m, rfl, hm, rfl, rfl, hf⟩ := hrel
                  have HF := Lib.hid hf
                  clear hf
                  by_cases hml : m < cur.length
                  · obtain ⟨t, ht⟩ : ∃ t, cur[m]? = some t := ⟨_, List.getElem?_eq_getElem hml⟩
                    obtain ⟨gb, rfl⟩ : ∃ gb, A = some ⟨gb, 0, none⟩ := by
                      rcases hA with rfl | ⟨gb, rfl⟩
                      · exfalso
                        rcases HO4.out.2 with ⟨_, h0⟩ | ⟨g', cap', cur', h', _⟩
                        · omega
                        · cases h'
                      · exact ⟨gb, rfl⟩
                    have HO5 := Lib.hid (own_fr HO4.out HF.out (by simp))
                    have y1 : wr.cell? ⟨gb, m * 2, none⟩ = some (.string t.1) := (HO5.out.cellAt (m * 2) (by omega)).trans (by rw [Nat.mul_comm]; exact (pairsV_get cur m t ht).1)
                    have x1 := X1.out wr (D4.out.f.trans HF.out)
                    have hst := seenK_step (f := p.1) HRR.out ht
                    have hsl := seenK_le cur p.1 m
                    by_cases hq : t.1 = p.1
                    · rw [if_pos hq] at hst
                      have ST := Lib.hid hst
                      have q : (t.1.toList == p.1.toList) = true := by have := eqB t.1 p.1; rw [decide_eq_true hq] at this; exact this
                      clear hq hst ht
                      generalize seenK cur p.1 m = z at *
                      go_wp2
                      go_quiet (fail)
                      go_wp2
                      go_roundg (cur.length - (m + 1))
                      case measure => omega
                      case rel => exact ⟨m + 1, rfl, by omega, by go_num, by rw [ST.out], by first | exact HF.out.drew | exact HF.out.drewN _ | exact HF.out⟩
                    · rw [if_neg hq] at hst
                      have ST := Lib.hid hst
                      have q : (t.1.toList == p.1.toList) = false := neqB' hq
                      clear hq hst ht
                      generalize seenK cur p.1 m = z at *
                      go_wp2
                      go_quiet (fail)
                      go_wp2
                      go_roundg (cur.length - (m + 1))
                      case measure => omega
                      case rel => exact ⟨m + 1, rfl, by omega, by go_num, by rw [ST.out], by first | exact HF.out.drew | exact HF.out.drewN _ | exact HF.out⟩
                  · obtain rfl : m = cur.length := by omega
                    rw [seenK_end]
                    have D5 := Lib.hid (D4.out.go HF.out)
                    have HO5 := Lib.hid (own_fr HO4.out HF.out (by simp))
                    by_cases hh : hitK Prod.fst cur p.1 = true
                    · rw [if_pos hh]
                      obtain ⟨s', hs', -⟩ := (hitK_iff Prod.fst).1 hh
                      have hput : putK Prod.fst cur p = cur.set (lowK Prod.fst cur p.1) p := by unfold putK; rw [if_pos hh]
                      have HP := Lib.hid hput
                      have hil := (List.getElem?_eq_some_iff.1 hs').1
                      obtain ⟨gb, rfl⟩ : ∃ gb, A = some ⟨gb, 0, none⟩ := by
                        rcases hA with rfl | ⟨gb, rfl⟩
                        · exfalso
                          rcases HO4.out.2 with ⟨_, h0⟩ | ⟨g', cap', cur', h', _⟩
                          · omega
                          · cases h'
                        · exact ⟨gb, rfl⟩
                      have hgb := HO4.out.lt gb rfl
                      have x1 := X1.out wr D5.out.f
                      have x2 := X2.out wr D5.out.f
                      generalize lowK Prod.fst cur p.1 = i at *
                      have y1 : wr.cell? ⟨gb, i * 2, none⟩ = some (.string s'.1) := (HO5.out.cellAt (i * 2) (by omega)).trans (by rw [Nat.mul_comm]; exact (pairsV_get cur i s' hs').1)
                      have y2 : wr.cell? ⟨gb, i * 2 + 1, none⟩ = some (.string s'.2) := (HO5.out.cellAt (i * 2 + 1) (by omega)).trans (by rw [Nat.mul_comm]; exact (pairsV_get cur i s' hs').2)
                      have z1 : wr.frozen? ⟨gb, i * 2, none⟩ = false := HO5.out.frozenAt _
                      have z2 : wr.frozen? ⟨gb, i * 2 + 1, none⟩ = false := HO5.out.frozenAt _
                      clear hh hput hs'
                      go_wp2
                      go_roundg (l.length - (k + 1))
                      case measure => omega
                      case rel =>
                        have o1 := HO5.out.stored (i * 2) (.string p.1)
                        have o2 := o1.1.stored (i * 2 + 1) (.string p.2)
                        refine ⟨k + 1, cur.set i p, rfl, by omega, by go_num, by rw [← HP.out, HNX.out], by rw [pairsV_set, List.length_set]; exact o2.1, ?_⟩
                        exact D5.out.step (S := [gb]) (((Fr.refl _ _).setCell (p := ⟨gb, i * 2, none⟩) (.inl (by simp)) _).setCell (p := ⟨gb, i * 2 + 1, none⟩) (.inl (by simp)) _) (fun g hg => by simp at hg; omega)
                    · rw [if_neg hh]
                      have hput : putK Prod.fst cur p = insAt cur p (lowK Prod.fst cur p.1) := by unfold putK insAt; rw [if_neg hh]
                      have HP := Lib.hid hput
                      have HH := Lib.hid hh
                      have x1 := X1.out wr D5.out.f
                      have x2 := X2.out wr D5.out.f
                      have hz5 := D5.out.lt
                      have V6 := Lib.hid (Whole.new wr 64 [.string p.1, .string p.2])
                      have S6 := Lib.hid (show Sl (wr.alloc (.cells #[.string p.1, .string p.2] 64)) (wr.heap.size + 1) 2 (.slice (some ⟨wr.heap.size, 0, none⟩) 1 1) 1 [.string p.1, .string p.2] from ⟨_, _, rfl, rfl, Nat.le_refl _, by unfold maxLen; omega, fun _ => ⟨_, 0, rfl, Nat.lt_succ_self _, fun j u hu => by rw [Nat.zero_add, V6.out.cell]; exact hu⟩⟩)
                      clear hh hput
                      go_wp2_with (at_builtin; refine wpList_append_sl _ rfl _ _ 30 rfl (w.heap.size + 2) 64 i0 _ 2 32 Try.underlying30 hi hz0 hz1 hz2 rfl (by decide) _ _ _ rfl (HO5.out.alloc _) _ _ 1 _ rfl S6.out ?c2 ?c3 ?c4 ?c5 ?_)
                      case c2 => intro u hu; simp at hu; rcases hu with rfl | rfl <;> rfl
                      case c3 => unfold maxLen; omega
                      case c4 => omega
                      case c5 => simp; omega
                      intro v6 w6 hown' hgrow hat
                      have HO6 := Lib.hid (show w6.ownsRow (w.heap.size + 2) 64 2 v6 (cur.length + 1) (pairsV (insAt cur p cur.length)) from by rw [insAt_end, pairsV_append]; simpa [pairsV] using hown')
                      have D6 := Lib.hid ((D5.out.alloc (.cells #[.string p.1, .string p.2] 64)).step (fr_ownL hgrow) (fun g hg => by have := ownL_base HO5.out hg; omega))
                      clear hown' hgrow hat x1 x2
                      obtain ⟨A6, c6, rfl, hA6, hc6, hm6⟩ := own_slice HO6.out
                      obtain ⟨g6, rfl⟩ : ∃ g6, A6 = some ⟨g6, 0, none⟩ := by
                        rcases hA6 with rfl | ⟨gb, rfl⟩
                        · exfalso
                          rcases HO6.out.2 with ⟨_, h0⟩ | ⟨g', cap', cur', h', _⟩
                          · omega
                          · cases h'
                        · exact ⟨gb, rfl⟩
                      unfold maxLen at hm6
                      go_wp2
                      go_loopg [11] (2 * cur.length) (fun g kk wq => ∃ (j : Nat), g = 2 * j ∧ kk = .int .i64 j ∧ lowK Prod.fst cur p.1 ≤ j ∧ j ≤ cur.length ∧ wq.ownsRow (w.heap.size + 2) 64 2 (.slice (some ⟨g6, 0, none⟩) (cur.length + 1) c6) (cur.length + 1) (pairsV (insAt cur p j)) ∧ BO w 1 [.int .i64 x.kind, .string x.text, .slice A1 x.list.length c1, .slice A2 x.pairs.length c2, .slice A3 x.scores.length c3] wq)
                      case atStart => exact ⟨cur.length, rfl, rfl, hlow, Nat.le_refl _, HO6.out, D6.out⟩
                      case round =>
                        obtain ⟨j, rfl, rfl, hlj, hjc, hO, hD⟩ := hrel
                        have HO7 := Lib.hid hO
                        have D7 := Lib.hid hD
                        clear hO hD HO5 D5
                        have hgg := HO7.out.lt g6 rfl
                        rcases j with _ | j
                        · have hl0 : lowK Prod.fst cur p.1 = 0 := by omega
                          have HL0 := Lib.hid hl0
                          clear hl0 hlj hlow
                          go_wp2
                          go_quiet (fail)
                          go_wp2
                          go_roundg (l.length - (k + 1))
                          case measure => omega
                          case rel => exact ⟨k + 1, putK Prod.fst cur p, rfl, by omega, by go_num, HNX.out, by rw [HP.out, HL0.out, insAt_length _ _ (Nat.zero_le _)]; exact HO7.out, by first | exact D7.out | exact D7.out.go (Fr.refl _ _).drew | exact D7.out.go ((Fr.refl _ _).drewN _)⟩
                        · obtain ⟨q, hq⟩ : ∃ q, cur[j]? = some q := ⟨_, List.getElem?_eq_getElem (by omega)⟩
                          have hp0 := insAt_at cur p hjc
                          have hq0 : (insAt cur p (j + 1))[j]? = some q := (insAt_before cur p hjc (Nat.lt_succ_self j)).trans hq
                          have y1 : wr.cell? ⟨g6, (j + 1) * 2, none⟩ = some (.string p.1) := (HO7.out.cellAt ((j + 1) * 2) (by omega)).trans (by rw [Nat.mul_comm]; exact (pairsV_get _ _ _ hp0).1)
                          have y2 : wr.cell? ⟨g6, (j + 1) * 2 + 1, none⟩ = some (.string p.2) := (HO7.out.cellAt ((j + 1) * 2 + 1) (by omega)).trans (by rw [Nat.mul_comm]; exact (pairsV_get _ _ _ hp0).2)
                          have y3 : wr.cell? ⟨g6, j * 2, none⟩ = some (.string q.1) := (HO7.out.cellAt (j * 2) (by omega)).trans (by rw [Nat.mul_comm]; exact (pairsV_get _ _ _ hq0).1)
                          have y4 : wr.cell? ⟨g6, j * 2 + 1, none⟩ = some (.string q.2) := (HO7.out.cellAt (j * 2 + 1) (by omega)).trans (by rw [Nat.mul_comm]; exact (pairsV_get _ _ _ hq0).2)
                          have hqs := HCS.out q (List.mem_of_getElem? hq)
                          have TO := Lib.hid (fun W => textOrder_any p.1 q.1 W (by omega) (by omega))
                          have hw1 : IntKind.i64.wrap (((j + 1 : Nat) : Int) - 1) = (j : Int) := by rw [IntKind.wrap_i64]; omega
                          have hw2 : IntKind.i64.wrap ((j : Int) + 1 - 1) = (j : Int) := by rw [IntKind.wrap_i64]; omega
                          by_cases ho : ordB p.1 q.1 < 0
                          · have hlj2 : lowK Prod.fst cur p.1 ≤ j := by
                              rcases Nat.lt_or_ge j (lowK Prod.fst cur p.1) with hx | hx
                              · have h1 := lowK_lt Prod.fst hx hq
                                have h2 := ordB_anti p.1 q.1
                                omega
                              · exact hx
                            have SW := Lib.hid (insAt_swap (p := p) hq)
                            have SW2 := Lib.hid (insAt_swap' (p := p) hq)
                            have z1 : wr.frozen? ⟨g6, (j + 1) * 2, none⟩ = false := HO7.out.frozenAt _
                            have z2 : wr.frozen? ⟨g6, (j + 1) * 2 + 1, none⟩ = false := HO7.out.frozenAt _
                            have z3 : wr.frozen? ⟨g6, j * 2, none⟩ = false := HO7.out.frozenAt _
                            have z4 : wr.frozen? ⟨g6, j * 2 + 1, none⟩ = false := HO7.out.frozenAt _
                            generalize ordB p.1 q.1 = od at *
                            clear hp0 hq0 hq
                            go_wp2
                            go_quiet ((go_at_call 58; exact Calls.quiet_of (TO.out _)))
                            go_wp2
                            go_region
                            go_wp2
                            go_roundg (2 * j)
                            case measure => omega
                            case rel =>
                              refine ⟨j, rfl, by go_num, hlj2, by omega, ?_, ?_⟩
                              · rw [← SW.out, pairsV_set, pairsV_set]
                                have o0 := HO7.out.stored ((j + 1) * 2) (.string q.1)
                                have o1 := o0.1.stored ((j + 1) * 2 + 1) (.string q.2)
                                have o2 := o1.1.stored (j * 2) (.string p.1)
                                have o3 := o2.1.stored (j * 2 + 1) (.string p.2)
                                exact o3.1
                              · exact D7.out.step (S := [g6]) ((((((Fr.refl [g6] wr).drewN _).setCell (p := ⟨g6, (j + 1) * 2, none⟩) (.inl (by simp)) _).setCell (p := ⟨g6, (j + 1) * 2 + 1, none⟩) (.inl (by simp)) _).setCell (p := ⟨g6, j * 2, none⟩) (.inl (by simp)) _).setCell (p := ⟨g6, j * 2 + 1, none⟩) (.inl (by simp)) _) (fun g hg => by simp at hg; omega)
                          · have hlj2 : lowK Prod.fst cur p.1 = j + 1 := by
                              rcases Nat.lt_or_ge j (lowK Prod.fst cur p.1) with hx | hx
                              · omega
                              · exfalso
                                have h1 := lowK_ge Prod.fst HRR.out hx hq
                                have h2 := ordB_anti p.1 q.1
                                have h3 : ordB q.1 p.1 = 0 := by omega
                                exact HH.out ((eq_low Prod.fst HRR.out hq).1 (ordB_eq h3)).1
                            have HL0 := Lib.hid hlj2
                            generalize ordB p.1 q.1 = od at *
                            clear hp0 hq0 hq hlj2 hlj hlow
                            go_wp2
                            go_quiet ((go_at_call 58; exact Calls.quiet_of (TO.out _)))
                            go_wp2
                            go_roundg (l.length - (k + 1))
                            case measure => omega
                            case rel => exact ⟨k + 1, putK Prod.fst cur p, rfl, by omega, by go_num, HNX.out, by rw [HP.out, HL0.out, insAt_length _ _ hjc]; exact HO7.out, by first | exact D7.out | exact D7.out.go (Fr.refl _ _).drew | exact D7.out.go ((Fr.refl _ _).drewN _)⟩
              · obtain rfl : k = l.length := by omega
                rw [List.take_length] at hcur
                have hcur2 : putF x l = cur := hcur.symm
                have hsz : ∀ s ∈ cur, s.1.size ≤ 281474976710656 ∧ s.2.size ≤ 281474976710656 := fun s hs => by
                  rw [hcur] at hs
                  rcases fold_mem _ _ hs with h | h
                  · have := NL.out s h; omega
                  · have := OKP.out.2 s h; omega
                have HSZ := Lib.hid hsz
                rw [hcur2] at E0 EY EK
                clear hcur hcur2 hsz
                unfold maxLen at hc2
                by_cases h24 : 24 < cur.length
                · have E := Lib.hid (show putCode x l = 2 from by rw [E0.out, if_pos h24])
                  obtain ⟨e1, e2⟩ := NO.out 2 (by decide) E.out
                  have q24 : (cur.length : Int) > 24 := by omega
                  have E1 := Lib.hid e1
                  have E2 := Lib.hid e2
                  clear e1 e2 E0 EY EK NO h24 hlt hr
                  obtain ⟨a0, a1, a2, a3, a4⟩ := five D4.out.o
                  obtain ⟨b0, b2, b3, b4, b5⟩ := fiveF D4.out.o
                  go_wp2
                  refine bodyPost_ret (v := .tuple #[.agg #[.int .i64 0, .string ⟨#[]⟩, .slice none 0 0, .slice none 0 0, .slice none 0 0], .int .i64 0, .int .i64 2]) (by simp [results, Try.results43, go_sem, a0, a1, a2, a3, a4]) rfl ?_
                  rw [E1.out, E2.out, E.out]
                  exact ⟨_, rfl, ItemO.nothing _ _, D4.out.end5 _ _ _ _ _⟩
                · have E := Lib.hid (show putCode x l = 0 from by rw [E0.out, if_neg h24])
                  have E1 := Lib.hid (EY.out.trans (if_pos E.out))
                  have E2 := Lib.hid (EK.out.trans (if_pos E.out))
                  have q24 : ¬ (cur.length : Int) > 24 := by omega
                  have OF := Lib.hid (fun W base u hu => filledP_own cur base u W (by omega) HSZ.out hu)
                  have HW := Lib.hid (show IntKind.i64.wrap ((cur.length : Int) - (x.pairs.length : Int)) = (cur.length : Int) - x.pairs.length from IntWalk.i64_in _ (by omega))
                  clear E0 EY EK NO hlt hr NL OKP HR hcl
                  obtain ⟨d0, d1, d2, d3, d4⟩ := five D4.out.b
                  generalize ofP cur = y at *
                  generalize putY x l = y0 at *
                  generalize putN x l = n0 at *
                  generalize putCode x l = c0 at *
                  have hne1 : ¬ w.heap.size = w.heap.size + 1 := by omega
                  have hne2 : ¬ w.heap.size + 1 = w.heap.size := by omega
                  go_wp2
                  go_region_held3 (fun wx => wx.cell? ⟨w.heap.size, 3, none⟩ = some (.slice A2 x.pairs.length c2)) (go_keep) (first | (go_at_call 86; (refine (OF.out _ _ _ (show wr.drew.ownsRow _ _ _ _ _ _ from HO4.out)).mono ?_); rintro e w5 ⟨u5, rfl, hi, f5⟩; have D5 := Lib.hid (D4.out.go (fr_predrew f5)); clear d0 d1 d2 d3 d4 f5; obtain ⟨d0, d1, d2, d3, d4⟩ := five D5.out.b; have HI := Lib.hid hi; obtain ⟨P1, p1, P2, p2, P3, p3, rfl⟩ := hi.form; clear hi; obtain ⟨a0, a1, a2, a3, a4⟩ := five D5.out.o; obtain ⟨b0, b2, b3, b4, b5⟩ := fiveF D5.out.o))
                  go_wp2
                  refine bodyPost_ret (v := .tuple #[.agg #[.int .i64 y.kind, .string y.text, .slice P1 y.list.length p1, .slice P2 y.pairs.length p2, .slice P3 y.scores.length p3], .int .i64 (IntKind.i64.wrap ((cur.length : Int) - (x.pairs.length : Int))), .int .i64 0]) (by simp [results, Try.results43, go_sem, a0, a1, a2, a3, a4]) rfl ?_
                  rw [E1.out, E2.out, E.out]
                  exact ⟨_, by rw [HW.out], (itemO_later HI.out (by omega) _ _ _ _ _).less (by omega), D5.out.end5 _ _ _ _ _⟩
  · have hp : pairsCode x l = asCode 4 x := by rw [EP.out, if_pos ha]
    have E := Lib.hid (show putCode x l = asCode 4 x from by rw [EC.out, hp, if_pos ha])
    obtain ⟨e1, e2⟩ := NO.out _ ha E.out
    rw [e1, e2, E.out]
    have q : (asCode 4 x != 0) = true := by simpa using ha
    have q2 : (asCode 4 x == 0) = false := by simpa using ha
    clear e1 e2 EC EP EY EK hp E ha NO
    generalize asCode 4 x = r at *
    go_enter Try.func43, Try.ntmps43
    go_wp2_with fail
    refine (RD.out _ D0.out.f).mono ?_
    rintro e w1 ⟨rfl, f1⟩
    have D1 := Lib.hid (D0.out.go f1)
    clear d0 d1 d2 d3 d4
    obtain ⟨a0, a1, a2, a3, a4⟩ := five D1.out.o
    obtain ⟨b0, b2, b3, b4, b5⟩ := fiveF D1.out.o
    go_wp2
    go_loopg [7, 8] 0 (fun g ec i wr => g = 0 ∧ ec = .int .i64 r ∧ i = .int .i64 0 ∧ w1 = wr)
    case atStart => exact ⟨rfl, rfl, rfl, rfl⟩
    case round =>
      obtain ⟨rfl, rfl, rfl, rfl⟩ := hrel
      by_cases hlt : (0 : Int) < (l.length : Int)
      · go_wp2
        refine bodyPost_ret (v := .tuple #[.agg #[.int .i64 0, .string ⟨#[]⟩, .slice none 0 0, .slice none 0 0, .slice none 0 0], .int .i64 0, .int .i64 r]) (by simp [results, Try.results43, go_sem, a0, a1, a2, a3, a4]) rfl ?_
        exact ⟨_, rfl, ItemO.nothing _ _, D1.out.end5 _ _ _ _ _⟩
      · go_wp2
        refine bodyPost_ret (v := .tuple #[.agg #[.int .i64 0, .string ⟨#[]⟩, .slice none 0 0, .slice none 0 0, .slice none 0 0], .int .i64 0, .int .i64 r]) (by simp [results, Try.results43, go_sem, a0, a1, a2, a3, a4]) rfl ?_
        exact ⟨_, rfl, ItemO.nothing _ _, D1.out.end5 _ _ _ _ _⟩
end Go.Proofs.Ytfkfdmonnebmmaa
