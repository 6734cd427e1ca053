/- The walk of set.some: the map counts, the range chooses. -/
import Derived.Test.YtkgbgmfidkimfaaGreatMgRestItemsUpto19
import Derived.Test.YtkgbgmfidkimfaaGreatMgRestItemsUpto7
import Derived.Sort.KeysCollected
import Derived.Sort.OwnSorted
import Derived.WalkArith
import Derived.StringKeys
set_option linter.unusedVariables false
set_option linter.unusedSimpArgs false
namespace Go.Proofs.YtkgbgmfidkimfaaGreat
open Go.RowKit

theorem lawT : Maps.Keyed Tryz.prog 9 := Maps.string_keyed Tryz.underlying9
theorem zeroT (w : World) : (zeroValue 3).run Tryz.prog w = .ok (.int .i64 0) w := by kernel_rfl
theorem Fr.grown0 {a b : World} (h : Fr [] a b) : a.grownBy b none := ⟨h.os, h.tape, h.output, h.size, fun i hi _ => h.block i hi (by simp)⟩
theorem keyT (s : ByteArray) (hs : s.size ≤ 281474976710656) : keyOf Tryz.prog 9 (.string s) = some (kS s) := WideMaps.keyOf_string_mk Tryz.underlying9 (by unfold maxLen; omega)
theorem keyT_inv (key : Value) (kl : Lit) (h : keyOf Tryz.prog 9 key = some kl) : ∃ s : ByteArray, key = .string s := by
  obtain ⟨x, hx, _, _⟩ := Maps.keyOf_str Tryz.underlying9 h
  exact ⟨unB x, hx⟩
theorem keyT_lit {s : ByteArray} {kl : Lit} (h : keyOf Tryz.prog 9 (.string s) = some kl) : kl = kS s := by
  obtain ⟨x, hx, rfl, _⟩ := Maps.keyOf_str Tryz.underlying9 h
  have := Value.string.inj hx
  subst this
  rfl
theorem elemI_inv (v : Value) (y : DataW Unit × List MemPlace) (h : plainElem Tryz.prog 3 v = some y) : ∃ c : Int, v = .int .i64 c := by
  obtain ⟨c, rfl, _⟩ := plainElem_int_inv Tryz.underlying3 h
  exact ⟨c, rfl⟩
abbrev OwnM (w : World) (b n : Nat) (D : DataW Unit) : Prop := w.ownsMap Tryz.prog 9 (plainElem Tryz.prog 3) b n D
abbrev RanM (w : World) (b r n : Nat) (D : DataW Unit) (left : Lit → Bool) (cnt : Nat) : Prop := w.ranges Tryz.prog 9 (plainElem Tryz.prog 3) b r n D left cnt

theorem take_succ_allT {l : List Itm} {k : Nat} {x : Itm} (h : l[k]? = some x) : allT (l.take (k + 1)) = allT (l.take k) ++ x.list := by
  unfold allT
  rw [List.take_add_one, h]
  simp
theorem take_ok {l : List Itm} {k : Nat} {x : Itm} {c : Int} (h : ∀ y ∈ l.take k, asCode c y = 0) (hx : l[k]? = some x) (ha : asCode c x = 0) : ∀ y ∈ l.take (k + 1), asCode c y = 0 := by
  intro y hy
  rw [List.take_add_one, hx] at hy
  rcases List.mem_append.1 hy with hy | hy
  · exact h y hy
  · simp at hy; subst hy; exact ha
theorem allT_len {l : List Itm} (h : ∀ y ∈ l, asCode 3 y = 0) : (allT l).length ≤ 24 * l.length := by
  induction l with
  | nil => simp [allT]
  | cons x l ih =>
    have h1 := ih fun y hy => h y (by simp [hy])
    have h2 := (setOk (h x (by simp))).2
    unfold allT at h1 ⊢
    rw [List.flatMap_cons, List.length_append, List.length_cons]
    omega

theorem cnt_int {n : Nat} {c : Int} (h : nI n = .lit (.int .i64 c)) : c = (n : Int) := by
  unfold nI at h
  exact (Lit.int.inj (DataW.lit.inj h)).2.symm
theorem elemN (n : Nat) (h : n ≤ 4611686018427387904) : plainElem (H := Unit) Tryz.prog 3 (.int .i64 ((n : Int) + 1)) = some (nI (n + 1), []) :=
  plainElem_int Tryz.underlying3 (WalkArith.wf_i64 ⟨by omega, by omega⟩)

def SetsPost (r : List ByteArray) (code : Int) (w : World) (e : Ending) (w' : World) : Prop := ∃ u, e = .returned (.tuple #[u, .int .i64 code]) ∧ w'.ownsRow w.heap.size 9 1 u r.length (textsV r) ∧ Fr [] w w'
/-- a function value that says which are chosen. -/
def PredN (g : Nat) (lb : Array Value) (p : Nat → Bool → Bool) (B : Nat) (w : World) : Prop :=
  ∀ W (n : Nat) (b : Bool), FrB [] B w W → Calls Tryz.prog g (#[.int .i64 n, .bool b] ++ lb) W fun e w' => e = .returned (.bool (p n b)) ∧ Fr [] W w'

set_option maxHeartbeats 4000000 in
set_option maxRecDepth 100000 in
theorem setSome_any (g : Nat) (lb : Array Value) (eg : ∀ args w, (callFunc g args).run Tryz.prog w = .ok (.enter g args) w) (p : Nat → Bool → Bool) (l : List Itm) (v : Value) (w : World) (B : Nat) (hp : PredN g lb p w.heap.size w)
    (hs : ∀ x ∈ l, x.Small) (hl : l.length ≤ 1048576) (hB : B ≤ w.heap.size) (h : ItemsV w B v l) :
    Calls Tryz.prog 57 #[v, .func (Fn.func g) #[] lb] w (SetsPost (setsR p l) (setsCode l) w) := by
  obtain ⟨i0, hi, hz0, hz1, hz2⟩ := info_parts stringInfo
  obtain ⟨A, c, rfl⟩ := h.form
  by_cases h0 : l.length = 0
  · have E1 : setsCode l = 1 := if_pos h0
    have E2 : setsR p l = [] := by unfold setsR; rw [E1, if_neg (by decide)]
    rw [E1, E2]
    clear E1 E2 hp
    rw [h0]
    go_enter Tryz.func57, Tryz.ntmps57
    go_wp2
    go_ret2
    exact ⟨_, rfl, World.ownsRow_nil _ _ _ _, Fr.refl _ _⟩
  · have HV := Lib.hid h
    have HP := Lib.hid hp
    have HS := Lib.hid hs
    have HC := Lib.hid (show setsCode l = firstCode 3 l from if_neg h0)
    have hpos : 0 < l.length := by omega
    clear h hp hs
    have q0 : ((l.length : Int) == 0) = false := by simpa using h0
    have hmm := @run_makeMap Tryz.prog
    clear h0
    go_enter Tryz.func57, Tryz.ntmps57
    go_wp2
    go_loopg [21] l.length (fun g i wr => ∃ (k : Nat) (D : DataW Unit), g = l.length - k ∧ k ≤ l.length ∧ i = .int .i64 k ∧ (∀ x ∈ l.take k, asCode 3 x = 0) ∧ OwnM wr w.heap.size (allT (l.take k)).length D ∧ Cnt D (allT (l.take k)) ∧ Fr [] w wr)
    case atStart => exact ⟨0, .map [], rfl, Nat.zero_le _, rfl, fun x hx => by simp at hx, World.ownsMap_made _ _ _ _, Cnt.start, (Fr.refl _ _).alloc _⟩
    case round =>
      obtain ⟨k, D, rfl, hk, rfl, hok, hm, hcn, hf⟩ := hrel
      have HF := Lib.hid hf
      have HM := Lib.hid hm
      have HN := Lib.hid hcn
      have HO := Lib.hid hok
      clear hf hm hcn hok
      obtain ⟨b, off, rfl, hb, hc, hmx, hat⟩ := HV.out.at_ hpos
      have HA := Lib.hid hat
      clear hat
      by_cases hlt : k < l.length
      · obtain ⟨x, hx⟩ : ∃ x, l[k]? = some x := ⟨_, List.getElem?_eq_getElem hlt⟩
        obtain ⟨A1, A2, A3, c1, c2, c3, h5⟩ := HA.out k x hx
        have hxs := HS.out x (List.mem_of_getElem? hx)
        have P5 := Lib.hid (h5.fr HF.out hb hB (by simp))
        have a0 := P5.out.k0
        have a1 := P5.out.k1
        have a2 := P5.out.k2
        have a3 := P5.out.k3
        have a4 := P5.out.k4
        have F1 := Lib.hid ((Fr.refl [] wr).alloc (.cells #[.int .i64 x.kind, .string x.text, .slice A1 x.list.length c1, .slice A2 x.pairs.length c2, .slice A3 x.scores.length c3] 26))
        have W1 := Lib.hid (Whole.new wr 26 [.int .i64 x.kind, .string x.text, .slice A1 x.list.length c1, .slice A2 x.pairs.length c2, .slice A3 x.scores.length c3])
        have RD := Lib.hid (fun W (hW : Fr [] wr W) => ready3_any x (.agg #[.int .i64 x.kind, .string x.text, .slice A1 x.list.length c1, .slice A2 x.pairs.length c2, .slice A3 x.scores.length c3]) W B hxs (Nat.le_trans hB (Nat.le_trans HF.out.size hW.size)) (P5.out.item.fr hW (Nat.le_trans hB HF.out.size) (by simp)))
        have HX := Lib.hid hx
        clear hx hxs
        by_cases ha : asCode 3 x = 0
        · rw [ha] at RD
          have X1 := Lib.hid h5.s1
          have hx24 := (setOk ha).2
          have TX := Lib.hid ((asOk_of ha).texts)
          have hkl : (allT (l.take k)).length ≤ 24 * l.length := by
            have h1 := allT_len HO.out
            have h2 : (l.take k).length ≤ l.length := by rw [List.length_take]; omega
            omega
          have OKN := Lib.hid (take_ok HO.out HX.out ha)
          have ET := Lib.hid (take_succ_allT HX.out)
          generalize allT (l.take k) = ts at *
          clear P5 h5
          obtain ⟨wo, rfl⟩ : ∃ wo, wo = wr := ⟨_, rfl⟩
          go_wp2_with fail
          refine (RD.out _ F1.out).mono ?_
          rintro e w1 ⟨rfl, f1⟩
          have F2 := Lib.hid (F1.out.trans f1)
          have W2 := Lib.hid (W1.out.fr f1 (by simp))
          clear f1 a0 a1 a2 a3 a4
          obtain ⟨a0, a1, a2, a3, a4⟩ := five W2.out
          go_wp2
          go_loopg [33] x.list.length (fun g j wi => ∃ (q : Nat) (D' : DataW Unit), g = x.list.length - q ∧ q ≤ x.list.length ∧ j = .int .i64 q ∧ OwnM wi w.heap.size (ts ++ x.list.take q).length D' ∧ Cnt D' (ts ++ x.list.take q) ∧ Fr [] w wi)
          case atStart => exact ⟨0, D, rfl, Nat.zero_le _, rfl, by rw [List.take_zero, List.append_nil]; exact HM.out.kept F2.out.grown0 (by simp), by rw [List.take_zero, List.append_nil]; exact HN.out, HF.out.trans F2.out⟩
          case round =>
            obtain ⟨q, D', rfl, hq, rfl, hm, hcn, hf⟩ := hrel
            have HFi := Lib.hid hf
            have HMi := Lib.hid hm
            have HNi := Lib.hid hcn
            clear hf hm hcn
            have hlen : (ts ++ x.list.take q).length ≤ 24 * l.length + 24 := by rw [List.length_append, List.length_take]; omega
            by_cases hlt2 : q < x.list.length
            · obtain ⟨s, hs⟩ : ∃ s, x.list[q]? = some s := ⟨_, List.getElem?_eq_getElem hlt2⟩
              obtain ⟨b1, o1, rfl, hb1, hcx, hmx1, hcell⟩ := X1.out.at_ (by omega)
              have cc := HFi.out.cell (show w.cell? ⟨b1, o1 + q, none⟩ = some (.string s) from hcell q _ (textsV_get _ q s hs)) (by simp)
              have hs60 := TX.out s (List.mem_of_getElem? hs)
              have hn := cntS_le (ts ++ x.list.take q) s
              have EA := Lib.hid (HNi.out.at_ s)
              have NX := Lib.hid (HNi.out.put s)
              have ES := Lib.hid (show ts ++ x.list.take (q + 1) = (ts ++ x.list.take q) ++ [s] from by rw [List.take_add_one, hs, ← List.append_assoc]; rfl)
              clear hcell hs
              generalize cntS (ts ++ x.list.take q) s = n at *
              rw [← ES.out] at NX
              have EL := Lib.hid (show (ts ++ x.list.take (q + 1)).length = (ts ++ x.list.take q).length + 1 from by rw [ES.out, List.length_append]; rfl)
              clear ES
              generalize hU : ts ++ x.list.take q = U at *
              generalize hU2 : ts ++ x.list.take (q + 1) = U2 at *
              go_wp2_with (first
                | (at_lookup; go_loud (refine wpList_lookup_own_int _ rfl _ _ 116 rfl 9 3 .i64 lawT Tryz.underlying116 Tryz.underlying3 (zeroT _) w.heap.size _ D' rfl HMi.out _ _ rfl (keyT s (by omega)) ?_; intro c hat hwc; obtain rfl := cnt_int (EA.out.symm.trans hat); clear hat hwc))
                | (at_mapUpdate; go_loud (refine wpList_mapUpdate_own _ rfl _ _ _ 116 rfl 9 3 lawT Tryz.underlying116 _ w.heap.size _ D' rfl HMi.out (by unfold maxLen; omega) _ _ _ rfl rfl (keyT s (by omega)) (nI (n + 1)) [] (elemN n (by omega)) ?_; intro w2 hown2 hgrow2))
                | go_in)
              go_roundg (x.list.length - (q + 1))
              case measure => omega
              case rel => exact ⟨q + 1, _, rfl, by omega, by go_num, by rw [hU2, EL.out]; exact hown2, by rw [hU2]; exact NX.out, HFi.out.grown hgrow2 (fun j hj => by cases hj; exact .inr (Nat.le_refl _))⟩
            · obtain rfl : q = x.list.length := by omega
              rw [List.take_length, ← ET.out] at HMi HNi
              clear ET hlen
              go_wp2
              go_roundg (l.length - (k + 1))
              case measure => omega
              case rel => exact ⟨k + 1, D', rfl, by omega, by go_num, OKN.out, HMi.out, HNi.out, HFi.out⟩
        · have E1 := Lib.hid (HC.out.trans (firstCode_at HO.out HX.out ha))
          have E2 := Lib.hid (show setsR p l = [] from by unfold setsR; rw [E1.out, if_neg ha])
          have q1 : (asCode 3 x != 0) = true := by simpa using ha
          rw [E1.out, E2.out]
          clear E1 E2 ha HC
          generalize asCode 3 x = r at *
          go_wp2_with fail
          refine (RD.out _ F1.out).mono ?_
          rintro e w1 ⟨rfl, f1⟩
          go_wp2
          go_ret2
          exact ⟨_, rfl, World.ownsRow_nil _ _ _ _, HF.out.trans (F1.out.trans f1)⟩
      · obtain rfl : k = l.length := by omega
        rw [List.take_length] at HO HM HN
        have EC := Lib.hid (HC.out.trans (firstCode_all HO.out))
        have ER := Lib.hid (show setsR p l = setU ((allT l).filter (pick p l)) from by unfold setsR; rw [if_pos EC.out])
        have hal := allT_len HO.out
        have CN := Lib.hid (count_all (l := l) (fun x hx => (setOk (HO.out x hx)).1))
        obtain ⟨x0, hx0⟩ : ∃ x, l[0]? = some x := ⟨_, List.getElem?_eq_getElem hpos⟩
        obtain ⟨A1, A2, A3, c1, c2, c3, h5⟩ := HA.out 0 x0 hx0
        rw [Nat.zero_mul, Nat.add_zero] at h5
        have H5 := Lib.hid h5
        have hr0 := (setOk (HO.out x0 (List.mem_of_getElem? hx0))).1
        have hl0 := (HS.out x0 (List.mem_of_getElem? hx0)).list
        have EF := Lib.hid (show firstL l = x0.list from by cases l with
          | nil => simp at hx0
          | cons y l => simp at hx0; subst hx0; rfl)
        have EP := Lib.hid (show ∀ s, pick p l s = p (hasN l s) (hasT x0.list s) from fun s => by unfold pick; rw [EF.out])
        have TS := Lib.hid (show ∀ s ∈ allT l, s.size ≤ 60 from fun s hs => by
          obtain ⟨x, hx, hsx⟩ := List.mem_flatMap.1 hs
          exact (asOk_of (HO.out x hx)).texts s hsx)
        have HR0 := Lib.hid hr0
        clear hx0 h5 hr0 HC EF HO
        generalize allT l = ts at *
        generalize pick p l = pk at *
        generalize hasN l = hn at *
        obtain ⟨wo, rfl⟩ : ∃ wo, wo = wr := ⟨_, rfl⟩
        have hlo := HM.out.lt
        go_wp2_with (first
          | (at_range; refine wpList_range_own _ rfl _ 116 rfl 9 3 lawT Tryz.underlying116 _ w.heap.size _ D rfl HM.out ?_; intro w0 hrg0 hg0 hs0)
          | go_in)
        go_frame
        have F0 := Lib.hid (HF.out.grown hg0 (fun k hk => by cases hk))
        have hs0' : wo.heap.size < w0.heap.size := by omega
        clear hs0
        go_loopg [12] (Maps.size D) (fun g v wi => ∃ (left : Lit → Bool) (d : List ByteArray), RanM wi w.heap.size wo.heap.size ts.length D left g ∧ wi.ownsRow wo.heap.size 9 1 v d.length (textsV d) ∧ Coll ts pk left d ∧ Fr [] w wi ∧ wo.heap.size < wi.heap.size)
        case atStart => exact ⟨_, [], hrg0, World.ownsRow_nil _ _ _ _, Coll.start HN.out, F0.out, hs0'⟩
        case round =>
          obtain ⟨left, d, hrg, ho, hco, hf, hz⟩ := hrel
          have HFi := Lib.hid hf
          have HOi := Lib.hid ho
          have HCo := Lib.hid hco
          have hdl := hco.le
          have hwz := hf.size
          clear hf hco
          obtain ⟨Ad, cd, rfl, -⟩ := own_slice ho
          clear ho
          go_wp2_with (first
            | (at_next; refine wpList_next_ranges _ rfl _ rfl 9 lawT (plainElem Tryz.prog 3) Value.string (Value.int .i64) keyT_inv elemI_inv w.heap.size wo.heap.size _ _ _ _ rfl hrg ?_ ?_)
            | go_in)
          · intro hc0 hl0
            have ED := Lib.hid (HCo.out.done hl0)
            clear hl0
            go_wp2_with fail
            refine (sortS_any d wo.heap.size _ _ (by omega) HOi.out).mono ?_
            rintro e w1 ⟨rfl, ho1, g1⟩
            have HO1 := Lib.hid ho1
            have G1 := Lib.hid g1
            have LO := Lib.hid (fun k hk => HOi.out.lt k hk)
            clear ho1 g1
            go_wp2
            go_ret2
            rw [EC.out, ER.out, ← ED.out]
            exact ⟨_, rfl, own_base (by rw [sortB_length]; exact HO1.out) HF.out.size, HFi.out.grown G1.out (fun k hk => .inr (by have := (LO.out k hk).1; have := HF.out.size; omega))⟩
          · intro x c' kl yd yp w2 cnt2 hkey hlk hv hat hrg2 hlt2 hg2 hs2 hen
            obtain rfl : kl = kS x := keyT_lit hkey
            have hcc : c' = (hn x : Int) := by
              obtain ⟨c'', ec, hy, _⟩ := plainElem_int_inv Tryz.underlying3 hv
              cases ec
              have h1 := hat (nI 0)
              have h2 := HN.out.at_ x
              rw [h1] at h2
              rw [← CN.out x]
              refine cnt_int ?_
              rw [← h2]
              exact congrArg Prod.fst hy
            subst hcc
            have hxt : x ∈ ts := by
              have h1 := HN.out.has x
              rw [Maps.has_true_of_atKey hat] at h1
              exact hasT_iff.1 h1.symm
            have hx60 := TS.out x hxt
            have HL := Lib.hid hlk
            have F2 := Lib.hid (HFi.out.grown hg2 (fun k hk => by cases hk; exact .inr HF.out.size))
            have HO2 := Lib.hid (HOi.out.kept hg2 (Or.inr (row_ne_iter HOi.out hrg).symm))
            have P5 := Lib.hid (H5.out.fr F2.out hb hB (by simp))
            have a2 := P5.out.k2
            have HH := Lib.hid (fun W (hW : Fr [] w2 W) => setHas_any x0.list x A1 c1 B W HR0.out hl0 (Nat.le_trans hB (Nat.le_trans F2.out.size hW.size)) (P5.out.s1.fr hW (Nat.le_trans hB F2.out.size) (by simp)))
            have EPx := Lib.hid (EP.out x)
            have HPx := Lib.hid (fun W (hW : Fr [] w2 W) => HP.out W (hn x) (hasT x0.list x) ((F2.out.trans hW).toB _))
            have hsz2 : wo.heap.size < w2.heap.size := by omega
            clear hs2 hkey hv hat hlk
            by_cases hpk : pk x = true
            · have q1 := EPx.out.symm.trans hpk
              rw [q1] at HPx
              have CT := Lib.hid (HCo.out.take hxt HL.out hpk)
              clear q1 hpk hxt
              go_wp2_with fail
              refine (HH.out _ (Fr.refl _ _)).mono ?_
              rintro e w3 ⟨rfl, f3⟩
              have F3 := Lib.hid f3
              clear f3
              go_wp2_with fail
              refine (HPx.out _ F3.out).mono ?_
              rintro e w4 ⟨rfl, f4⟩
              have F4 := Lib.hid (F3.out.trans f4)
              have HO4 := Lib.hid (own_fr HO2.out F4.out (by simp))
              have R4 := Lib.hid (hrg2.kept F4.out.grown0 (by simp) (by simp))
              have hsz4 : wo.heap.size < w4.heap.size := Nat.lt_of_lt_of_le hsz2 F4.out.size
              clear f4 hen
              go_wp2_with (at_builtin; refine wpList_append_own_at _ rfl _ _ 22 rfl wo.heap.size 9 i0 _ 1 16 Tryz.underlying22 hi hz0 hz1 hz2 rfl (by decide) _ _ _ rfl (HO4.out.alloc _) ⟨w4.heap.size, 0, none⟩ 1 1 [.string x] rfl rfl ?c1a ?c2a ?c3a ?c4a ?c5a ?_)
              case c1a => exact cell_one_new _ _ _
              case c2a => intro u hu; simp at hu; subst hu; rfl
              case c3a => unfold maxLen; omega
              case c4a => omega
              case c5a => simp; omega
              intro va w5 hown' hgrow _ hata
              have HOa := Lib.hid hown'
              have HFa := Lib.hid (((F2.out.trans F4.out).alloc (.cells #[.string x] 9)).grown hgrow (fun k hk => .inr (by have := (HO4.out.lt k hk).1; have := HF.out.size; omega)))
              have R5 := Lib.hid ((R4.out.alloc (.cells #[.string x] 9)).kept hgrow (row_ne_low HO4.out hlo) (row_ne_iter HO4.out R4.out))
              have hsz5 : wo.heap.size < w5.heap.size := Nat.lt_of_lt_of_le (by simp; omega) hgrow.size
              clear hown' hgrow hata
              go_wp2
              go_roundg cnt2
              case measure => exact hlt2
              case rel => exact ⟨_, d ++ [x], R5.out, by rw [textsV_append, List.length_append]; simpa [textsV] using HOa.out, CT.out, HFa.out, hsz5⟩
            · have q1 := EPx.out.symm.trans (show pk x = false by simpa using hpk)
              rw [q1] at HPx
              have CT := Lib.hid (HCo.out.leave (x := x) (show pk x = false by simpa using hpk))
              clear q1 hpk hxt
              go_wp2_with fail
              refine (HH.out _ (Fr.refl _ _)).mono ?_
              rintro e w3 ⟨rfl, f3⟩
              have F3 := Lib.hid f3
              clear f3
              go_wp2_with fail
              refine (HPx.out _ F3.out).mono ?_
              rintro e w4 ⟨rfl, f4⟩
              have F4 := Lib.hid (F3.out.trans f4)
              have HO4 := Lib.hid (own_fr HO2.out F4.out (by simp))
              have R4 := Lib.hid (hrg2.kept F4.out.grown0 (by simp) (by simp))
              have hsz4 : wo.heap.size < w4.heap.size := Nat.lt_of_lt_of_le hsz2 F4.out.size
              clear f4 hen
              go_wp2
              go_roundg cnt2
              case measure => exact hlt2
              case rel => exact ⟨_, d, R4.out, HO4.out, CT.out, F2.out.trans F4.out, hsz4⟩
end Go.Proofs.YtkgbgmfidkimfaaGreat
