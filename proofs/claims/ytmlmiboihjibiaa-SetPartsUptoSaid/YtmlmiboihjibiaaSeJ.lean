/- The walk of the reference's SetsOf. (Printed by sets2.py.) -/
import Derived.Test.YtmlmiboihjibiaaSeH
import Derived.Test.YtmlmiboihjibiaaSeI
import Derived.Test.YtmlmiboihjibiaaSeD
set_option linter.unusedVariables false
set_option linter.unusedSimpArgs false
namespace Go.Proofs.Ytmlmiboihjibiaa
open Go.RowKit

def chB (op : Nat) (l : List Itm) (i : Nat) (s : ByteArray) : Bool := decide (op = 2) || (decide (op = 1) && decide (hasN l s = l.length)) || (decide (op = 3) && decide (i = 0) && decide (hasN l s = 1))
def Sel (op : Nat) (l : List Itm) (i : Nat) (t : ByteArray) : Prop := ∃ j y, j < i ∧ l[j]? = some y ∧ t ∈ y.list ∧ chB op l j t = true
structure SelI (op : Nat) (l : List Itm) (i : Nat) (ts cur : List ByteArray) : Prop where
  rise : rises ltS cur = true
  mem : ∀ t, t ∈ cur ↔ Sel op l i t ∨ (t ∈ ts ∧ chB op l i t = true)
theorem SelI.start (op : Nat) (l : List Itm) : SelI op l 0 [] [] := ⟨rfl, fun t => ⟨(fun h => by cases h), (fun h => by
  rcases h with ⟨j, _, h, _⟩ | ⟨h, _⟩
  · omega
  · cases h)⟩⟩
theorem SelI.put {op : Nat} {l : List Itm} {i : Nat} {ts cur : List ByteArray} (h : SelI op l i ts cur) {s : ByteArray} (hs : chB op l i s = true) : SelI op l i (ts ++ [s]) (putT cur s) := by
  refine ⟨putT_rises h.rise, fun t => ?_⟩
  rw [putT_mem, h.mem, List.mem_append]
  constructor
  · rintro ((h1 | ⟨h1, h2⟩) | rfl)
    · exact .inl h1
    · exact .inr ⟨.inl h1, h2⟩
    · exact .inr ⟨.inr (by simp), hs⟩
  · rintro (h1 | ⟨h1 | h1, h2⟩)
    · exact .inl (.inl h1)
    · exact .inl (.inr ⟨h1, h2⟩)
    · simp at h1; exact .inr h1
theorem SelI.skip {op : Nat} {l : List Itm} {i : Nat} {ts cur : List ByteArray} (h : SelI op l i ts cur) {s : ByteArray} (hs : chB op l i s = false) : SelI op l i (ts ++ [s]) cur := by
  refine ⟨h.rise, fun t => ?_⟩
  rw [h.mem, List.mem_append]
  constructor
  · rintro (h1 | ⟨h1, h2⟩)
    · exact .inl h1
    · exact .inr ⟨.inl h1, h2⟩
  · rintro (h1 | ⟨h1 | h1, h2⟩)
    · exact .inl h1
    · exact .inr ⟨h1, h2⟩
    · simp at h1; subst h1; rw [hs] at h2; cases h2
theorem SelI.next {op : Nat} {l : List Itm} {i : Nat} {x : Itm} {cur : List ByteArray} (h : SelI op l i x.list cur) (hx : l[i]? = some x) : SelI op l (i + 1) [] cur := by
  refine ⟨h.rise, fun t => ?_⟩
  rw [h.mem]
  constructor
  · rintro (⟨j, y, h1, h2⟩ | ⟨h1, h2⟩)
    · exact .inl ⟨j, y, by omega, h2⟩
    · exact .inl ⟨i, x, by omega, hx, h1, h2⟩
  · rintro (⟨j, y, h1, h2, h3, h4⟩ | ⟨h1, _⟩)
    · rcases Nat.lt_or_ge j i with hj | hj
      · exact .inl ⟨j, y, hj, h2, h3, h4⟩
      · obtain rfl : j = i := by omega
        rw [hx] at h2
        cases h2
        exact .inr ⟨h3, h4⟩
    · cases h1
theorem SelI.sub {op : Nat} {l : List Itm} {i : Nat} {x : Itm} {q : Nat} {cur : List ByteArray} (h : SelI op l i (x.list.take q) cur) (hx : l[i]? = some x) : ∀ t ∈ cur, t ∈ allT l := fun t ht => by
  rcases (h.mem t).1 ht with ⟨j, y, _, h2, h3, _⟩ | ⟨h1, _⟩
  · exact List.mem_flatMap.2 ⟨y, List.mem_of_getElem? h2, h3⟩
  · exact List.mem_flatMap.2 ⟨x, List.mem_of_getElem? hx, List.mem_of_mem_take h1⟩
theorem hasN_step {l : List Itm} {n : Nat} {x : Itm} (s : ByteArray) (h : l[n]? = some x) : hasN (l.take (n + 1)) s = hasN (l.take n) s + if hasT x.list s = true then 1 else 0 := by
  unfold hasN
  rw [List.take_add_one, h, Option.toList_some, List.filter_append, List.length_append, List.filter_cons]
  split <;> rfl
theorem mem_allT {l : List Itm} {t : ByteArray} : t ∈ allT l ↔ ∃ (j : Nat) (y : Itm), l[j]? = some y ∧ t ∈ y.list := by
  unfold allT
  rw [List.mem_flatMap]
  constructor
  · rintro ⟨y, h1, h2⟩
    obtain ⟨j, hj⟩ := List.getElem?_of_mem h1
    exact ⟨j, y, hj, h2⟩
  · rintro ⟨j, y, h1, h2⟩
    exact ⟨y, List.mem_of_getElem? h1, h2⟩
def opP (op m : Nat) : Nat → Bool → Bool := if op = 1 then meetP m else if op = 2 then joinP else lessP
theorem SelI.done {op : Nat} {l : List Itm} {cur : List ByteArray} (hop : op = 1 ∨ op = 2 ∨ op = 3) (h : SelI op l l.length [] cur) : cur = setU ((allT l).filter (pick (opP op l.length) l)) := by
  refine rises_ext h.rise (setU_rises _) (fun t => ?_)
  rw [h.mem, setU_mem, List.mem_filter, mem_allT]
  constructor
  · rintro (⟨j, y, h1, h2, h3, h4⟩ | ⟨h1, _⟩)
    · refine ⟨⟨j, y, h2, h3⟩, ?_⟩
      rcases hop with rfl | rfl | rfl
      · simpa [chB, pick, opP, meetP] using h4
      · rfl
      · simp [chB] at h4
        obtain ⟨rfl, h4⟩ := h4
        have hf : firstL l = y.list := by
          cases l with
          | nil => simp at h2
          | cons z l => simp at h2; subst h2; rfl
        simp [pick, opP, lessP, h4, hf, hasT_iff.2 h3]
    · cases h1
  · rintro ⟨⟨j, y, h2, h3⟩, h4⟩
    refine .inl ?_
    rcases hop with rfl | rfl | rfl
    · exact ⟨j, y, (List.getElem?_eq_some_iff.1 h2).1, h2, h3, by simpa [chB, pick, opP, meetP] using h4⟩
    · exact ⟨j, y, (List.getElem?_eq_some_iff.1 h2).1, h2, h3, rfl⟩
    · simp [pick, opP, lessP] at h4
      cases l with
      | nil => simp at h2
      | cons z l => exact ⟨0, z, by simp, rfl, hasT_iff.1 h4.1, by simp [chB, h4.2]⟩

set_option maxHeartbeats 4000000 in
set_option maxRecDepth 100000 in
theorem setsOf1_any (l : List Itm) (v : Value) (w : World) (B : Nat) (hs : ∀ x ∈ l, x.Small) (hl : l.length ≤ 1048576) (hB : B ≤ w.heap.size) (h : ItemsV w B v l) :
    Calls Try.prog 54 #[v, .int .i64 1] w (SetsPost (setsR (meetP l.length) l) (setsCode l) w) := by
  obtain ⟨A, c, rfl⟩ := h.form
  by_cases h0 : l.length = 0
  · have E1 : setsCode l = 1 := if_pos h0
    have E2 : setsR (meetP l.length) l = [] := by unfold setsR; rw [E1, if_neg (by decide)]
    rw [E1, E2]
    clear E1 E2
    rw [h0]
    go_enter Try.func54, Try.ntmps54
    go_wp2
    go_ret2
    exact ⟨_, rfl, World.ownsRow_nil _ _ _ _, Fr.refl _ _⟩
  · have HV := Lib.hid h
    have HS := Lib.hid hs
    have HC := Lib.hid (show setsCode l = firstCode 3 l from if_neg h0)
    have hpos : 0 < l.length := by omega
    clear h hs
    have q0 : ((l.length : Int) == 0) = false := by simpa using h0
    clear h0
    obtain ⟨b, off, rfl, hb, hc, hmx, hat⟩ := HV.out.at_ hpos
    have HA := Lib.hid hat
    clear hat
    go_enter Try.func54, Try.ntmps54
    go_wp2
    go_loopg [6] l.length (fun g i wr => ∃ (k : Nat), g = l.length - k ∧ k ≤ l.length ∧ i = .int .i64 k ∧ (∀ x ∈ l.take k, asCode 3 x = 0) ∧ Fr [] w wr)
    case atStart => exact ⟨0, rfl, Nat.zero_le _, rfl, fun x hx => by simp at hx, Fr.refl _ _⟩
    case round =>
      obtain ⟨k, rfl, hk, rfl, hok, hf⟩ := hrel
      have HF := Lib.hid hf
      have HO := Lib.hid hok
      clear hf hok
      by_cases hlt : k < l.length
      · obtain ⟨x, hx⟩ : ∃ x, l[k]? = some x := ⟨_, List.getElem?_eq_getElem hlt⟩
        obtain ⟨A1, A2, A3, c1, c2, c3, h5⟩ := HA.out k x hx
        have hxs := HS.out x (List.mem_of_getElem? hx)
        have P5 := Lib.hid (h5.fr HF.out hb hB (by simp))
        obtain ⟨a0, a1, a2, a3, a4⟩ : _ ∧ _ ∧ _ ∧ _ ∧ _ := ⟨P5.out.k0, P5.out.k1, P5.out.k2, P5.out.k3, P5.out.k4⟩
        have RD := Lib.hid (checkAs_any x 3 (.agg #[.int .i64 x.kind, .string x.text, .slice A1 x.list.length c1, .slice A2 x.pairs.length c2, .slice A3 x.scores.length c3]) wr B hxs (Nat.le_trans hB HF.out.size) P5.out.item)
        have HX := Lib.hid hx
        clear h5 hx hxs
        by_cases ha : asCode 3 x = 0
        · rw [ha] at RD
          have OKN := Lib.hid (take_ok HO.out HX.out ha)
          clear P5
          go_wp2_with fail
          refine RD.out.mono ?_
          rintro e w1 ⟨rfl, f1⟩
          go_wp2
          go_roundg (l.length - (k + 1))
          case measure => omega
          case rel => exact ⟨k + 1, rfl, by omega, by go_num, OKN.out, HF.out.trans f1⟩
        · have E1 := Lib.hid (HC.out.trans (firstCode_at HO.out HX.out ha))
          have E2 := Lib.hid (show setsR (meetP l.length) l = [] from by unfold setsR; rw [E1.out, if_neg ha])
          have q1 : (asCode 3 x != 0) = true := by simpa using ha
          clear ha HC
          generalize asCode 3 x = r at *
          go_wp2_with fail
          refine RD.out.mono ?_
          rintro e w1 ⟨rfl, f1⟩
          go_wp2
          go_ret2
          rw [E1.out, E2.out]
          exact ⟨_, rfl, World.ownsRow_nil _ _ _ _, HF.out.trans f1⟩
      · obtain rfl : k = l.length := by omega
        rw [List.take_length] at HO
        have EC := Lib.hid (HC.out.trans (firstCode_all HO.out))
        have ER := Lib.hid (show setsR (meetP l.length) l = setU ((allT l).filter (pick (meetP l.length) l)) from by unfold setsR; rw [if_pos EC.out])
        have hal := allT_len HO.out
        have TS := Lib.hid (show ∀ s ∈ allT l, s.size ≤ 60 from fun s hs => by
          obtain ⟨x, hx, hsx⟩ := List.mem_flatMap.1 hs
          exact (asOk_of (HO.out x hx)).texts s hsx)
        clear HC hlt
        go_wp2
        go_loopg [8, 9] l.length (fun g o i wr => ∃ (k : Nat) (cur : List ByteArray), g = l.length - k ∧ k ≤ l.length ∧ i = .int .i64 k ∧ SelI 1 l k [] cur ∧ wr.ownsRow w.heap.size 9 1 o cur.length (textsV cur) ∧ Fr [] w wr)
        case atStart => exact ⟨0, [], rfl, Nat.zero_le _, rfl, SelI.start _ _, World.ownsRow_nil _ _ _ _, HF.out⟩
        case round =>
          obtain ⟨k, cur, rfl, hk, rfl, hsi, ho, hf⟩ := hrel
          have HFo := Lib.hid hf
          have HOo := Lib.hid ho
          have HSo := Lib.hid hsi
          obtain ⟨Ac, cc, rfl, -⟩ := own_slice ho
          clear hf ho hsi
          by_cases hlt : k < l.length
          · obtain ⟨x, hx⟩ : ∃ x, l[k]? = some x := ⟨_, List.getElem?_eq_getElem hlt⟩
            obtain ⟨A1, A2, A3, c1, c2, c3, h5⟩ := HA.out k x hx
            have H5 := Lib.hid h5
            have hxs := (HS.out x (List.mem_of_getElem? hx)).list
            have HX := Lib.hid hx
            clear h5 hx
            go_wp2
            go_loopg [8, 10] x.list.length (fun g o j wr => ∃ (q : Nat) (cur : List ByteArray), g = x.list.length - q ∧ q ≤ x.list.length ∧ j = .int .i64 q ∧ SelI 1 l k (x.list.take q) cur ∧ wr.ownsRow w.heap.size 9 1 o cur.length (textsV cur) ∧ Fr [] w wr)
            case atStart => exact ⟨0, cur, rfl, Nat.zero_le _, rfl, by rw [List.take_zero]; exact HSo.out, HOo.out, HFo.out⟩
            case round =>
              clear HSo HOo HFo
              obtain ⟨q, cur, rfl, hq, rfl, hsi, ho, hf⟩ := hrel
              have HFi := Lib.hid hf
              have HOi := Lib.hid ho
              have HSI := Lib.hid hsi
              obtain ⟨Ac, cc, rfl, -⟩ := own_slice ho
              have a2 := (H5.out.fr hf hb hB (by simp)).k2
              have hcl : cur.length ≤ 24 * l.length := Nat.le_trans (rises_sub hsi.rise (hsi.sub HX.out)) hal
              clear hf ho hsi
              by_cases hlt2 : q < x.list.length
              · obtain ⟨s, hs⟩ : ∃ s, x.list[q]? = some s := ⟨_, List.getElem?_eq_getElem hlt2⟩
                obtain ⟨b1, o1, rfl, hb1, hcx, hmx1, hcell⟩ := H5.out.s1.at_ (by omega)
                have cc1 := HFi.out.cell (show w.cell? ⟨b1, o1 + q, none⟩ = some (.string s) from hcell q _ (textsV_get _ q s hs)) (by simp)
                have hs60 := TS.out s (mem_allT.2 ⟨k, x, HX.out, List.mem_of_getElem? hs⟩)
                have ES := Lib.hid (show x.list.take (q + 1) = x.list.take q ++ [s] from by rw [List.take_add_one, hs]; rfl)
                clear hcell hs
                obtain ⟨wo, rfl⟩ : ∃ wo, wo = wr := ⟨_, rfl⟩
                go_wp2
                go_loopg [12, 13] l.length (fun g m j wr => ∃ (n mm : Nat), g = l.length - n ∧ n ≤ l.length ∧ j = .int .i64 n ∧ m = .int .i64 mm ∧ Hid (hasN (l.take n) s = mm) ∧ mm ≤ n ∧ Fr [] wo wr)
                case atStart => exact ⟨0, 0, rfl, Nat.zero_le _, rfl, rfl, Lib.hid rfl, Nat.le_refl _, Fr.refl _ _⟩
                case round =>
                  obtain ⟨n, mm, rfl, hn, rfl, rfl, HMM, hmn, hf⟩ := hrel
                  have HFn := Lib.hid hf
                  clear hf
                  by_cases hlt3 : n < l.length
                  · obtain ⟨y, hy⟩ : ∃ y, l[n]? = some y := ⟨_, List.getElem?_eq_getElem hlt3⟩
                    obtain ⟨Y1, Y2, Y3, d1, d2, d3, g5⟩ := HA.out n y hy
                    have HFw := Lib.hid (HFi.out.trans HFn.out)
                    have G5 := Lib.hid (g5.fr HFw.out hb hB (by simp))
                    have y2 := G5.out.k2
                    have hyl := (HS.out y (List.mem_of_getElem? hy)).list
                    have HT := Lib.hid (hasText_any y.list s Y1 d1 B wr hyl (Nat.le_trans hB HFw.out.size) G5.out.s1)
                    have ST := Lib.hid (hasN_step s hy)
                    clear g5 hy
                    by_cases hyt : hasT y.list s = true
                    · have ST2 := Lib.hid (show hasN (l.take (n + 1)) s = mm + 1 from by rw [ST.out, HMM.out, if_pos hyt])
                      rw [hyt] at HT
                      clear hyt ST HMM
                      go_wp2_with fail
                      refine HT.out.mono ?_
                      rintro e w1 ⟨rfl, rfl⟩
                      go_wp2
                      go_roundg (l.length - (n + 1))
                      case measure => omega
                      case rel => exact ⟨n + 1, mm + 1, rfl, by omega, by go_num, by go_num, ST2, by omega, HFn.out⟩
                    · have ST2 := Lib.hid (show hasN (l.take (n + 1)) s = mm from by rw [ST.out, HMM.out, if_neg hyt, Nat.add_zero])
                      rw [show hasT y.list s = false by simpa using hyt] at HT
                      clear hyt ST HMM
                      go_wp2_with fail
                      refine HT.out.mono ?_
                      rintro e w1 ⟨rfl, rfl⟩
                      go_wp2
                      go_roundg (l.length - (n + 1))
                      case measure => omega
                      case rel => exact ⟨n + 1, mm, rfl, by omega, by go_num, rfl, ST2, by omega, HFn.out⟩
                  · obtain rfl : n = l.length := by omega
                    rw [List.take_length] at HMM
                    have HF4 := Lib.hid (HFi.out.trans HFn.out)
                    have HO4 := Lib.hid (own_fr HOi.out HFn.out (by simp))
                    have PT := Lib.hid (putText_any cur s Ac cc wr.heap.size wr HSI.out.rise (by omega) (by omega) (fun t ht => by have := TS.out t (HSI.out.sub HX.out t ht); omega) (Nat.le_refl _) (own_sl HO4.out))
                    have hsz : w.heap.size ≤ w.heap.size := Nat.le_refl _
                    clear HFn HOi HFi hlt3
                    by_cases hm : mm = l.length
                    · have qm : ((mm : Int) == (l.length : Int)) = true := by simp [hm]
                      have HCH := Lib.hid (show chB 1 l k s = true from by simp [chB, HMM.out, hm])
                      clear hm
                      have NX := Lib.hid (HSI.out.put (s := s) HCH.out)
                      rw [← ES.out] at NX
                      clear HCH
                      go_wp2_with fail
                      refine PT.out.mono ?_
                      rintro e w5 ⟨u, rfl, ho, f5⟩
                      have HO5 := Lib.hid ho
                      have D5 := Lib.hid (HF4.out.trans f5)
                      have hsz5 := Nat.le_trans hsz (HF4.out.size)
                      clear ho f5
                      go_wp2
                      go_roundg (x.list.length - (q + 1))
                      case measure => omega
                      case rel => exact ⟨q + 1, putT cur s, rfl, by omega, by go_num, NX.out, own_base HO5.out (by have := HF4.out.size; omega), D5⟩
                    · have qm : ((mm : Int) == (l.length : Int)) = false := beq_eq_false_iff_ne.2 (by omega)
                      have HCH := Lib.hid (show chB 1 l k s = false from by simp [chB, HMM.out, hm])
                      clear hm
                      have NX := Lib.hid (HSI.out.skip (s := s) HCH.out)
                      rw [← ES.out] at NX
                      clear HCH PT
                      go_wp2
                      go_roundg (x.list.length - (q + 1))
                      case measure => omega
                      case rel => exact ⟨q + 1, cur, rfl, by omega, by go_num, NX.out, HO4.out, HF4.out⟩
              · obtain rfl : q = x.list.length := by omega
                rw [List.take_length] at HSI
                have NX := Lib.hid (HSI.out.next HX.out)
                go_wp2
                go_roundg (l.length - (k + 1))
                case measure => omega
                case rel => exact ⟨k + 1, cur, rfl, by omega, by go_num, NX.out, HOi.out, HFi.out⟩
          · obtain rfl : k = l.length := by omega
            have ED := Lib.hid (HSo.out.done (by decide))
            go_wp2
            go_ret2
            rw [EC.out, ER.out]
            rw [show pick (meetP l.length) l = pick (opP 1 l.length) l from rfl, ← ED.out]
            exact ⟨_, rfl, HOo.out, HFo.out⟩

set_option maxHeartbeats 4000000 in
set_option maxRecDepth 100000 in
theorem setsOf2_any (l : List Itm) (v : Value) (w : World) (B : Nat) (hs : ∀ x ∈ l, x.Small) (hl : l.length ≤ 1048576) (hB : B ≤ w.heap.size) (h : ItemsV w B v l) :
    Calls Try.prog 54 #[v, .int .i64 2] w (SetsPost (setsR (joinP) l) (setsCode l) w) := by
  obtain ⟨A, c, rfl⟩ := h.form
  by_cases h0 : l.length = 0
  · have E1 : setsCode l = 1 := if_pos h0
    have E2 : setsR (joinP) l = [] := by unfold setsR; rw [E1, if_neg (by decide)]
    rw [E1, E2]
    clear E1 E2
    rw [h0]
    go_enter Try.func54, Try.ntmps54
    go_wp2
    go_ret2
    exact ⟨_, rfl, World.ownsRow_nil _ _ _ _, Fr.refl _ _⟩
  · have HV := Lib.hid h
    have HS := Lib.hid hs
    have HC := Lib.hid (show setsCode l = firstCode 3 l from if_neg h0)
    have hpos : 0 < l.length := by omega
    clear h hs
    have q0 : ((l.length : Int) == 0) = false := by simpa using h0
    clear h0
    obtain ⟨b, off, rfl, hb, hc, hmx, hat⟩ := HV.out.at_ hpos
    have HA := Lib.hid hat
    clear hat
    go_enter Try.func54, Try.ntmps54
    go_wp2
    go_loopg [6] l.length (fun g i wr => ∃ (k : Nat), g = l.length - k ∧ k ≤ l.length ∧ i = .int .i64 k ∧ (∀ x ∈ l.take k, asCode 3 x = 0) ∧ Fr [] w wr)
    case atStart => exact ⟨0, rfl, Nat.zero_le _, rfl, fun x hx => by simp at hx, Fr.refl _ _⟩
    case round =>
      obtain ⟨k, rfl, hk, rfl, hok, hf⟩ := hrel
      have HF := Lib.hid hf
      have HO := Lib.hid hok
      clear hf hok
      by_cases hlt : k < l.length
      · obtain ⟨x, hx⟩ : ∃ x, l[k]? = some x := ⟨_, List.getElem?_eq_getElem hlt⟩
        obtain ⟨A1, A2, A3, c1, c2, c3, h5⟩ := HA.out k x hx
        have hxs := HS.out x (List.mem_of_getElem? hx)
        have P5 := Lib.hid (h5.fr HF.out hb hB (by simp))
        obtain ⟨a0, a1, a2, a3, a4⟩ : _ ∧ _ ∧ _ ∧ _ ∧ _ := ⟨P5.out.k0, P5.out.k1, P5.out.k2, P5.out.k3, P5.out.k4⟩
        have RD := Lib.hid (checkAs_any x 3 (.agg #[.int .i64 x.kind, .string x.text, .slice A1 x.list.length c1, .slice A2 x.pairs.length c2, .slice A3 x.scores.length c3]) wr B hxs (Nat.le_trans hB HF.out.size) P5.out.item)
        have HX := Lib.hid hx
        clear h5 hx hxs
        by_cases ha : asCode 3 x = 0
        · rw [ha] at RD
          have OKN := Lib.hid (take_ok HO.out HX.out ha)
          clear P5
          go_wp2_with fail
          refine RD.out.mono ?_
          rintro e w1 ⟨rfl, f1⟩
          go_wp2
          go_roundg (l.length - (k + 1))
          case measure => omega
          case rel => exact ⟨k + 1, rfl, by omega, by go_num, OKN.out, HF.out.trans f1⟩
        · have E1 := Lib.hid (HC.out.trans (firstCode_at HO.out HX.out ha))
          have E2 := Lib.hid (show setsR (joinP) l = [] from by unfold setsR; rw [E1.out, if_neg ha])
          have q1 : (asCode 3 x != 0) = true := by simpa using ha
          clear ha HC
          generalize asCode 3 x = r at *
          go_wp2_with fail
          refine RD.out.mono ?_
          rintro e w1 ⟨rfl, f1⟩
          go_wp2
          go_ret2
          rw [E1.out, E2.out]
          exact ⟨_, rfl, World.ownsRow_nil _ _ _ _, HF.out.trans f1⟩
      · obtain rfl : k = l.length := by omega
        rw [List.take_length] at HO
        have EC := Lib.hid (HC.out.trans (firstCode_all HO.out))
        have ER := Lib.hid (show setsR (joinP) l = setU ((allT l).filter (pick (joinP) l)) from by unfold setsR; rw [if_pos EC.out])
        have hal := allT_len HO.out
        have TS := Lib.hid (show ∀ s ∈ allT l, s.size ≤ 60 from fun s hs => by
          obtain ⟨x, hx, hsx⟩ := List.mem_flatMap.1 hs
          exact (asOk_of (HO.out x hx)).texts s hsx)
        clear HC hlt
        go_wp2
        go_loopg [8, 9] l.length (fun g o i wr => ∃ (k : Nat) (cur : List ByteArray), g = l.length - k ∧ k ≤ l.length ∧ i = .int .i64 k ∧ SelI 2 l k [] cur ∧ wr.ownsRow w.heap.size 9 1 o cur.length (textsV cur) ∧ Fr [] w wr)
        case atStart => exact ⟨0, [], rfl, Nat.zero_le _, rfl, SelI.start _ _, World.ownsRow_nil _ _ _ _, HF.out⟩
        case round =>
          obtain ⟨k, cur, rfl, hk, rfl, hsi, ho, hf⟩ := hrel
          have HFo := Lib.hid hf
          have HOo := Lib.hid ho
          have HSo := Lib.hid hsi
          obtain ⟨Ac, cc, rfl, -⟩ := own_slice ho
          clear hf ho hsi
          by_cases hlt : k < l.length
          · obtain ⟨x, hx⟩ : ∃ x, l[k]? = some x := ⟨_, List.getElem?_eq_getElem hlt⟩
            obtain ⟨A1, A2, A3, c1, c2, c3, h5⟩ := HA.out k x hx
            have H5 := Lib.hid h5
            have hxs := (HS.out x (List.mem_of_getElem? hx)).list
            have HX := Lib.hid hx
            clear h5 hx
            go_wp2
            go_loopg [8, 10] x.list.length (fun g o j wr => ∃ (q : Nat) (cur : List ByteArray), g = x.list.length - q ∧ q ≤ x.list.length ∧ j = .int .i64 q ∧ SelI 2 l k (x.list.take q) cur ∧ wr.ownsRow w.heap.size 9 1 o cur.length (textsV cur) ∧ Fr [] w wr)
            case atStart => exact ⟨0, cur, rfl, Nat.zero_le _, rfl, by rw [List.take_zero]; exact HSo.out, HOo.out, HFo.out⟩
            case round =>
              clear HSo HOo HFo
              obtain ⟨q, cur, rfl, hq, rfl, hsi, ho, hf⟩ := hrel
              have HFi := Lib.hid hf
              have HOi := Lib.hid ho
              have HSI := Lib.hid hsi
              obtain ⟨Ac, cc, rfl, -⟩ := own_slice ho
              have a2 := (H5.out.fr hf hb hB (by simp)).k2
              have hcl : cur.length ≤ 24 * l.length := Nat.le_trans (rises_sub hsi.rise (hsi.sub HX.out)) hal
              clear hf ho hsi
              by_cases hlt2 : q < x.list.length
              · obtain ⟨s, hs⟩ : ∃ s, x.list[q]? = some s := ⟨_, List.getElem?_eq_getElem hlt2⟩
                obtain ⟨b1, o1, rfl, hb1, hcx, hmx1, hcell⟩ := H5.out.s1.at_ (by omega)
                have cc1 := HFi.out.cell (show w.cell? ⟨b1, o1 + q, none⟩ = some (.string s) from hcell q _ (textsV_get _ q s hs)) (by simp)
                have hs60 := TS.out s (mem_allT.2 ⟨k, x, HX.out, List.mem_of_getElem? hs⟩)
                have ES := Lib.hid (show x.list.take (q + 1) = x.list.take q ++ [s] from by rw [List.take_add_one, hs]; rfl)
                clear hcell hs
                obtain ⟨wo, rfl⟩ : ∃ wo, wo = wr := ⟨_, rfl⟩
                go_wp2
                go_loopg [12, 13] l.length (fun g m j wr => ∃ (n mm : Nat), g = l.length - n ∧ n ≤ l.length ∧ j = .int .i64 n ∧ m = .int .i64 mm ∧ Hid (hasN (l.take n) s = mm) ∧ mm ≤ n ∧ Fr [] wo wr)
                case atStart => exact ⟨0, 0, rfl, Nat.zero_le _, rfl, rfl, Lib.hid rfl, Nat.le_refl _, Fr.refl _ _⟩
                case round =>
                  obtain ⟨n, mm, rfl, hn, rfl, rfl, HMM, hmn, hf⟩ := hrel
                  have HFn := Lib.hid hf
                  clear hf
                  by_cases hlt3 : n < l.length
                  · obtain ⟨y, hy⟩ : ∃ y, l[n]? = some y := ⟨_, List.getElem?_eq_getElem hlt3⟩
                    obtain ⟨Y1, Y2, Y3, d1, d2, d3, g5⟩ := HA.out n y hy
                    have HFw := Lib.hid (HFi.out.trans HFn.out)
                    have G5 := Lib.hid (g5.fr HFw.out hb hB (by simp))
                    have y2 := G5.out.k2
                    have hyl := (HS.out y (List.mem_of_getElem? hy)).list
                    have HT := Lib.hid (hasText_any y.list s Y1 d1 B wr hyl (Nat.le_trans hB HFw.out.size) G5.out.s1)
                    have ST := Lib.hid (hasN_step s hy)
                    clear g5 hy
                    by_cases hyt : hasT y.list s = true
                    · have ST2 := Lib.hid (show hasN (l.take (n + 1)) s = mm + 1 from by rw [ST.out, HMM.out, if_pos hyt])
                      rw [hyt] at HT
                      clear hyt ST HMM
                      go_wp2_with fail
                      refine HT.out.mono ?_
                      rintro e w1 ⟨rfl, rfl⟩
                      go_wp2
                      go_roundg (l.length - (n + 1))
                      case measure => omega
                      case rel => exact ⟨n + 1, mm + 1, rfl, by omega, by go_num, by go_num, ST2, by omega, HFn.out⟩
                    · have ST2 := Lib.hid (show hasN (l.take (n + 1)) s = mm from by rw [ST.out, HMM.out, if_neg hyt, Nat.add_zero])
                      rw [show hasT y.list s = false by simpa using hyt] at HT
                      clear hyt ST HMM
                      go_wp2_with fail
                      refine HT.out.mono ?_
                      rintro e w1 ⟨rfl, rfl⟩
                      go_wp2
                      go_roundg (l.length - (n + 1))
                      case measure => omega
                      case rel => exact ⟨n + 1, mm, rfl, by omega, by go_num, rfl, ST2, by omega, HFn.out⟩
                  · obtain rfl : n = l.length := by omega
                    rw [List.take_length] at HMM
                    have HF4 := Lib.hid (HFi.out.trans HFn.out)
                    have HO4 := Lib.hid (own_fr HOi.out HFn.out (by simp))
                    have PT := Lib.hid (putText_any cur s Ac cc wr.heap.size wr HSI.out.rise (by omega) (by omega) (fun t ht => by have := TS.out t (HSI.out.sub HX.out t ht); omega) (Nat.le_refl _) (own_sl HO4.out))
                    have hsz : w.heap.size ≤ w.heap.size := Nat.le_refl _
                    clear HFn HOi HFi hlt3
                    have HCH := Lib.hid (show chB 2 l k s = true from rfl)
                    have NX := Lib.hid (HSI.out.put (s := s) HCH.out)
                    rw [← ES.out] at NX
                    clear HCH
                    go_wp2_with fail
                    refine PT.out.mono ?_
                    rintro e w5 ⟨u, rfl, ho, f5⟩
                    have HO5 := Lib.hid ho
                    have D5 := Lib.hid (HF4.out.trans f5)
                    have hsz5 := Nat.le_trans hsz (HF4.out.size)
                    clear ho f5
                    go_wp2
                    go_roundg (x.list.length - (q + 1))
                    case measure => omega
                    case rel => exact ⟨q + 1, putT cur s, rfl, by omega, by go_num, NX.out, own_base HO5.out (by have := HF4.out.size; omega), D5⟩
              · obtain rfl : q = x.list.length := by omega
                rw [List.take_length] at HSI
                have NX := Lib.hid (HSI.out.next HX.out)
                go_wp2
                go_roundg (l.length - (k + 1))
                case measure => omega
                case rel => exact ⟨k + 1, cur, rfl, by omega, by go_num, NX.out, HOi.out, HFi.out⟩
          · obtain rfl : k = l.length := by omega
            have ED := Lib.hid (HSo.out.done (by decide))
            go_wp2
            go_ret2
            rw [EC.out, ER.out]
            rw [show pick (joinP) l = pick (opP 2 l.length) l from rfl, ← ED.out]
            exact ⟨_, rfl, HOo.out, HFo.out⟩

set_option maxHeartbeats 4000000 in
set_option maxRecDepth 100000 in
theorem setsOf3_any (l : List Itm) (v : Value) (w : World) (B : Nat) (hs : ∀ x ∈ l, x.Small) (hl : l.length ≤ 1048576) (hB : B ≤ w.heap.size) (h : ItemsV w B v l) :
    Calls Try.prog 54 #[v, .int .i64 3] w (SetsPost (setsR (lessP) l) (setsCode l) w) := by
  obtain ⟨A, c, rfl⟩ := h.form
  by_cases h0 : l.length = 0
  · have E1 : setsCode l = 1 := if_pos h0
    have E2 : setsR (lessP) l = [] := by unfold setsR; rw [E1, if_neg (by decide)]
    rw [E1, E2]
    clear E1 E2
    rw [h0]
    go_enter Try.func54, Try.ntmps54
    go_wp2
    go_ret2
    exact ⟨_, rfl, World.ownsRow_nil _ _ _ _, Fr.refl _ _⟩
  · have HV := Lib.hid h
    have HS := Lib.hid hs
    have HC := Lib.hid (show setsCode l = firstCode 3 l from if_neg h0)
    have hpos : 0 < l.length := by omega
    clear h hs
    have q0 : ((l.length : Int) == 0) = false := by simpa using h0
    clear h0
    obtain ⟨b, off, rfl, hb, hc, hmx, hat⟩ := HV.out.at_ hpos
    have HA := Lib.hid hat
    clear hat
    go_enter Try.func54, Try.ntmps54
    go_wp2
    go_loopg [6] l.length (fun g i wr => ∃ (k : Nat), g = l.length - k ∧ k ≤ l.length ∧ i = .int .i64 k ∧ (∀ x ∈ l.take k, asCode 3 x = 0) ∧ Fr [] w wr)
    case atStart => exact ⟨0, rfl, Nat.zero_le _, rfl, fun x hx => by simp at hx, Fr.refl _ _⟩
    case round =>
      obtain ⟨k, rfl, hk, rfl, hok, hf⟩ := hrel
      have HF := Lib.hid hf
      have HO := Lib.hid hok
      clear hf hok
      by_cases hlt : k < l.length
      · obtain ⟨x, hx⟩ : ∃ x, l[k]? = some x := ⟨_, List.getElem?_eq_getElem hlt⟩
        obtain ⟨A1, A2, A3, c1, c2, c3, h5⟩ := HA.out k x hx
        have hxs := HS.out x (List.mem_of_getElem? hx)
        have P5 := Lib.hid (h5.fr HF.out hb hB (by simp))
        obtain ⟨a0, a1, a2, a3, a4⟩ : _ ∧ _ ∧ _ ∧ _ ∧ _ := ⟨P5.out.k0, P5.out.k1, P5.out.k2, P5.out.k3, P5.out.k4⟩
        have RD := Lib.hid (checkAs_any x 3 (.agg #[.int .i64 x.kind, .string x.text, .slice A1 x.list.length c1, .slice A2 x.pairs.length c2, .slice A3 x.scores.length c3]) wr B hxs (Nat.le_trans hB HF.out.size) P5.out.item)
        have HX := Lib.hid hx
        clear h5 hx hxs
        by_cases ha : asCode 3 x = 0
        · rw [ha] at RD
          have OKN := Lib.hid (take_ok HO.out HX.out ha)
          clear P5
          go_wp2_with fail
          refine RD.out.mono ?_
          rintro e w1 ⟨rfl, f1⟩
          go_wp2
          go_roundg (l.length - (k + 1))
          case measure => omega
          case rel => exact ⟨k + 1, rfl, by omega, by go_num, OKN.out, HF.out.trans f1⟩
        · have E1 := Lib.hid (HC.out.trans (firstCode_at HO.out HX.out ha))
          have E2 := Lib.hid (show setsR (lessP) l = [] from by unfold setsR; rw [E1.out, if_neg ha])
          have q1 : (asCode 3 x != 0) = true := by simpa using ha
          clear ha HC
          generalize asCode 3 x = r at *
          go_wp2_with fail
          refine RD.out.mono ?_
          rintro e w1 ⟨rfl, f1⟩
          go_wp2
          go_ret2
          rw [E1.out, E2.out]
          exact ⟨_, rfl, World.ownsRow_nil _ _ _ _, HF.out.trans f1⟩
      · obtain rfl : k = l.length := by omega
        rw [List.take_length] at HO
        have EC := Lib.hid (HC.out.trans (firstCode_all HO.out))
        have ER := Lib.hid (show setsR (lessP) l = setU ((allT l).filter (pick (lessP) l)) from by unfold setsR; rw [if_pos EC.out])
        have hal := allT_len HO.out
        have TS := Lib.hid (show ∀ s ∈ allT l, s.size ≤ 60 from fun s hs => by
          obtain ⟨x, hx, hsx⟩ := List.mem_flatMap.1 hs
          exact (asOk_of (HO.out x hx)).texts s hsx)
        clear HC hlt
        go_wp2
        go_loopg [8, 9] l.length (fun g o i wr => ∃ (k : Nat) (cur : List ByteArray), g = l.length - k ∧ k ≤ l.length ∧ i = .int .i64 k ∧ SelI 3 l k [] cur ∧ wr.ownsRow w.heap.size 9 1 o cur.length (textsV cur) ∧ Fr [] w wr)
        case atStart => exact ⟨0, [], rfl, Nat.zero_le _, rfl, SelI.start _ _, World.ownsRow_nil _ _ _ _, HF.out⟩
        case round =>
          obtain ⟨k, cur, rfl, hk, rfl, hsi, ho, hf⟩ := hrel
          have HFo := Lib.hid hf
          have HOo := Lib.hid ho
          have HSo := Lib.hid hsi
          obtain ⟨Ac, cc, rfl, -⟩ := own_slice ho
          clear hf ho hsi
          by_cases hlt : k < l.length
          · obtain ⟨x, hx⟩ : ∃ x, l[k]? = some x := ⟨_, List.getElem?_eq_getElem hlt⟩
            obtain ⟨A1, A2, A3, c1, c2, c3, h5⟩ := HA.out k x hx
            have H5 := Lib.hid h5
            have hxs := (HS.out x (List.mem_of_getElem? hx)).list
            have HX := Lib.hid hx
            clear h5 hx
            go_wp2
            go_loopg [8, 10] x.list.length (fun g o j wr => ∃ (q : Nat) (cur : List ByteArray), g = x.list.length - q ∧ q ≤ x.list.length ∧ j = .int .i64 q ∧ SelI 3 l k (x.list.take q) cur ∧ wr.ownsRow w.heap.size 9 1 o cur.length (textsV cur) ∧ Fr [] w wr)
            case atStart => exact ⟨0, cur, rfl, Nat.zero_le _, rfl, by rw [List.take_zero]; exact HSo.out, HOo.out, HFo.out⟩
            case round =>
              clear HSo HOo HFo
              obtain ⟨q, cur, rfl, hq, rfl, hsi, ho, hf⟩ := hrel
              have HFi := Lib.hid hf
              have HOi := Lib.hid ho
              have HSI := Lib.hid hsi
              obtain ⟨Ac, cc, rfl, -⟩ := own_slice ho
              have a2 := (H5.out.fr hf hb hB (by simp)).k2
              have hcl : cur.length ≤ 24 * l.length := Nat.le_trans (rises_sub hsi.rise (hsi.sub HX.out)) hal
              clear hf ho hsi
              by_cases hlt2 : q < x.list.length
              · obtain ⟨s, hs⟩ : ∃ s, x.list[q]? = some s := ⟨_, List.getElem?_eq_getElem hlt2⟩
                obtain ⟨b1, o1, rfl, hb1, hcx, hmx1, hcell⟩ := H5.out.s1.at_ (by omega)
                have cc1 := HFi.out.cell (show w.cell? ⟨b1, o1 + q, none⟩ = some (.string s) from hcell q _ (textsV_get _ q s hs)) (by simp)
                have hs60 := TS.out s (mem_allT.2 ⟨k, x, HX.out, List.mem_of_getElem? hs⟩)
                have ES := Lib.hid (show x.list.take (q + 1) = x.list.take q ++ [s] from by rw [List.take_add_one, hs]; rfl)
                clear hcell hs
                obtain ⟨wo, rfl⟩ : ∃ wo, wo = wr := ⟨_, rfl⟩
                go_wp2
                go_loopg [12, 13] l.length (fun g m j wr => ∃ (n mm : Nat), g = l.length - n ∧ n ≤ l.length ∧ j = .int .i64 n ∧ m = .int .i64 mm ∧ Hid (hasN (l.take n) s = mm) ∧ mm ≤ n ∧ Fr [] wo wr)
                case atStart => exact ⟨0, 0, rfl, Nat.zero_le _, rfl, rfl, Lib.hid rfl, Nat.le_refl _, Fr.refl _ _⟩
                case round =>
                  obtain ⟨n, mm, rfl, hn, rfl, rfl, HMM, hmn, hf⟩ := hrel
                  have HFn := Lib.hid hf
                  clear hf
                  by_cases hlt3 : n < l.length
                  · obtain ⟨y, hy⟩ : ∃ y, l[n]? = some y := ⟨_, List.getElem?_eq_getElem hlt3⟩
                    obtain ⟨Y1, Y2, Y3, d1, d2, d3, g5⟩ := HA.out n y hy
                    have HFw := Lib.hid (HFi.out.trans HFn.out)
                    have G5 := Lib.hid (g5.fr HFw.out hb hB (by simp))
                    have y2 := G5.out.k2
                    have hyl := (HS.out y (List.mem_of_getElem? hy)).list
                    have HT := Lib.hid (hasText_any y.list s Y1 d1 B wr hyl (Nat.le_trans hB HFw.out.size) G5.out.s1)
                    have ST := Lib.hid (hasN_step s hy)
                    clear g5 hy
                    by_cases hyt : hasT y.list s = true
                    · have ST2 := Lib.hid (show hasN (l.take (n + 1)) s = mm + 1 from by rw [ST.out, HMM.out, if_pos hyt])
                      rw [hyt] at HT
                      clear hyt ST HMM
                      go_wp2_with fail
                      refine HT.out.mono ?_
                      rintro e w1 ⟨rfl, rfl⟩
                      go_wp2
                      go_roundg (l.length - (n + 1))
                      case measure => omega
                      case rel => exact ⟨n + 1, mm + 1, rfl, by omega, by go_num, by go_num, ST2, by omega, HFn.out⟩
                    · have ST2 := Lib.hid (show hasN (l.take (n + 1)) s = mm from by rw [ST.out, HMM.out, if_neg hyt, Nat.add_zero])
                      rw [show hasT y.list s = false by simpa using hyt] at HT
                      clear hyt ST HMM
                      go_wp2_with fail
                      refine HT.out.mono ?_
                      rintro e w1 ⟨rfl, rfl⟩
                      go_wp2
                      go_roundg (l.length - (n + 1))
                      case measure => omega
                      case rel => exact ⟨n + 1, mm, rfl, by omega, by go_num, rfl, ST2, by omega, HFn.out⟩
                  · obtain rfl : n = l.length := by omega
                    rw [List.take_length] at HMM
                    have HF4 := Lib.hid (HFi.out.trans HFn.out)
                    have HO4 := Lib.hid (own_fr HOi.out HFn.out (by simp))
                    have PT := Lib.hid (putText_any cur s Ac cc wr.heap.size wr HSI.out.rise (by omega) (by omega) (fun t ht => by have := TS.out t (HSI.out.sub HX.out t ht); omega) (Nat.le_refl _) (own_sl HO4.out))
                    have hsz : w.heap.size ≤ w.heap.size := Nat.le_refl _
                    clear HFn HOi HFi hlt3
                    by_cases hk0 : k = 0
                    · have qk : ((k : Int) == 0) = true := by simp [hk0]
                      by_cases hm : mm = 1
                      · have qm : ((mm : Int) == 1) = true := by simp [hm]
                        have HCH := Lib.hid (show chB 3 l k s = true from by simp [chB, HMM.out, hm, hk0])
                        clear hm hk0
                        have NX := Lib.hid (HSI.out.put (s := s) HCH.out)
                        rw [← ES.out] at NX
                        clear HCH
                        go_wp2_with fail
                        refine PT.out.mono ?_
                        rintro e w5 ⟨u, rfl, ho, f5⟩
                        have HO5 := Lib.hid ho
                        have D5 := Lib.hid (HF4.out.trans f5)
                        have hsz5 := Nat.le_trans hsz (HF4.out.size)
                        clear ho f5
                        go_wp2
                        go_roundg (x.list.length - (q + 1))
                        case measure => omega
                        case rel => exact ⟨q + 1, putT cur s, rfl, by omega, by go_num, NX.out, own_base HO5.out (by have := HF4.out.size; omega), D5⟩
                      · have qm : ((mm : Int) == 1) = false := beq_eq_false_iff_ne.2 (by omega)
                        have HCH := Lib.hid (show chB 3 l k s = false from by simp [chB, HMM.out, hm])
                        clear hm hk0
                        have NX := Lib.hid (HSI.out.skip (s := s) HCH.out)
                        rw [← ES.out] at NX
                        clear HCH PT
                        go_wp2
                        go_roundg (x.list.length - (q + 1))
                        case measure => omega
                        case rel => exact ⟨q + 1, cur, rfl, by omega, by go_num, NX.out, HO4.out, HF4.out⟩
                    · have qk : ((k : Int) == 0) = false := beq_eq_false_iff_ne.2 (by omega)
                      have HCH := Lib.hid (show chB 3 l k s = false from by simp [chB, hk0])
                      clear hk0
                      have NX := Lib.hid (HSI.out.skip (s := s) HCH.out)
                      rw [← ES.out] at NX
                      clear HCH PT
                      go_wp2
                      go_roundg (x.list.length - (q + 1))
                      case measure => omega
                      case rel => exact ⟨q + 1, cur, rfl, by omega, by go_num, NX.out, HO4.out, HF4.out⟩
              · obtain rfl : q = x.list.length := by omega
                rw [List.take_length] at HSI
                have NX := Lib.hid (HSI.out.next HX.out)
                go_wp2
                go_roundg (l.length - (k + 1))
                case measure => omega
                case rel => exact ⟨k + 1, cur, rfl, by omega, by go_num, NX.out, HOi.out, HFi.out⟩
          · obtain rfl : k = l.length := by omega
            have ED := Lib.hid (HSo.out.done (by decide))
            go_wp2
            go_ret2
            rw [EC.out, ER.out]
            rw [show pick (lessP) l = pick (opP 3 l.length) l from rfl, ← ED.out]
            exact ⟨_, rfl, HOo.out, HFo.out⟩
end Go.Proofs.Ytmlmiboihjibiaa
