/- What putting into a space gives (plain); the walk of space.Raw on a space of one's own. -/
import Derived.Test.YtmlmiboihjibiaaSpF
import Derived.Test.YtmlmiboihjibiaaIns
set_option linter.unusedVariables false
set_option linter.unusedSimpArgs false
namespace Go.Proofs.Ytmlmiboihjibiaa
open Go.RowKit

def offE (l : List Ent) (s : ByteArray) : List Ent := l.filter fun e => decide (e.key ≠ s)
theorem off_len (l : List Ent) (s : ByteArray) : (offE l s).length ≤ l.length := List.length_filter_le _ _
theorem off_rises {l : List Ent} (h : rises (ltK Ent.key) l = true) (s : ByteArray) : rises (ltK Ent.key) (offE l s) = true := pw_rises ((rises_pw (ltK_trans Ent.key) h).filter _)
theorem off_no {l : List Ent} (hr : rises (ltK Ent.key) l = true) {s : ByteArray} (h : hitK Ent.key l s = false) : offE l s = l := by
  unfold offE
  rw [List.filter_eq_self]
  intro e he
  refine decide_eq_true fun hk => ?_
  obtain ⟨j, hj⟩ := List.getElem?_of_mem he
  have := hit_there Ent.key hr hj
  rw [hk, h] at this
  cases this
theorem off_hit {l : List Ent} (hr : rises (ltK Ent.key) l = true) {s : ByteArray} (h : hitK Ent.key l s = true) : offE l s = l.take (lowK Ent.key l s) ++ l.drop (lowK Ent.key l s + 1) := by
  obtain ⟨e, he, rfl⟩ := (hitK_iff Ent.key).1 h
  have hk := (List.getElem?_eq_some_iff.1 he).1
  have e1 : l = l.take (lowK Ent.key l e.key) ++ e :: l.drop (lowK Ent.key l e.key + 1) := by
    have h1 : l.drop (lowK Ent.key l e.key) = e :: l.drop (lowK Ent.key l e.key + 1) := by
      rw [List.drop_eq_getElem_cons hk]
      congr 1
      rw [List.getElem?_eq_getElem hk] at he
      exact Option.some.inj he
    rw [← h1, List.take_append_drop]
  have no : ∀ (i : Nat) (a : Ent), l[i]? = some a → i ≠ lowK Ent.key l e.key → a.key ≠ e.key := fun i a ha hi hk => by
    have h1 := hit_of Ent.key hr ha
    rw [hk] at h1
    exact hi h1.symm
  generalize lowK Ent.key l e.key = k at *
  unfold offE
  conv => lhs; rw [e1]
  rw [List.filter_append, List.filter_cons, if_neg (by simp)]
  congr 1
  · rw [List.filter_eq_self]
    intro a ha
    obtain ⟨i, hi⟩ := List.getElem?_of_mem ha
    rw [List.getElem?_take] at hi
    split at hi
    · exact decide_eq_true (no i a hi (by omega))
    · cases hi
  · rw [List.filter_eq_self]
    intro a ha
    obtain ⟨i, hi⟩ := List.getElem?_of_mem ha
    rw [List.getElem?_drop] at hi
    exact decide_eq_true (no _ a hi (by omega))
/-- what is behind the place of a key, and what before it. -/
theorem low_of {l : List Ent} {s : ByteArray} {k : Nat} (h1 : ∀ (i : Nat) (a : Ent), i < k → l[i]? = some a → ordB a.key s < 0) (h2 : ∀ a, l[k]? = some a → ¬ ordB a.key s < 0) (hk : k ≤ l.length) : lowK Ent.key l s = k := by
  rcases Nat.lt_trichotomy (lowK Ent.key l s) k with h | h | h
  · obtain ⟨a, ha⟩ : ∃ a, l[lowK Ent.key l s]? = some a := ⟨_, List.getElem?_eq_getElem (by omega)⟩
    exact absurd (h1 _ a h ha) (lowK_at Ent.key ha)
  · exact h
  · have hl := lowK_le Ent.key l s
    obtain ⟨a, ha⟩ : ∃ a, l[k]? = some a := ⟨_, List.getElem?_eq_getElem (by omega)⟩
    exact absurd (lowK_lt Ent.key h ha) (h2 a ha)
theorem low_off {l : List Ent} (hr : rises (ltK Ent.key) l = true) (s : ByteArray) : lowK Ent.key (offE l s) s = lowK Ent.key l s := by
  have hle := lowK_le Ent.key l s
  rcases hh : hitK Ent.key l s with _ | _
  · rw [off_no hr hh]
  · rw [off_hit hr hh]
    obtain ⟨e, he, hk⟩ := (hitK_iff Ent.key).1 hh
    have hlt := (List.getElem?_eq_some_iff.1 he).1
    refine low_of (fun i a hi ha => ?_) (fun a ha => ?_) (by rw [List.length_append, List.length_take]; omega)
    · rw [List.getElem?_append_left (by rw [List.length_take]; omega), List.getElem?_take, if_pos hi] at ha
      exact lowK_lt Ent.key hi ha
    · rw [List.getElem?_append_right (by rw [List.length_take]; omega), List.length_take, Nat.min_eq_left hle, Nat.sub_self, List.getElem?_drop] at ha
      exact lowK_ge Ent.key hr (by omega) ha
def insE (l : List Ent) (e : Ent) : List Ent := insAt l e (lowK Ent.key l e.key)
def put2 (l : List Ent) (now : Int) (s : ByteArray) (x : Itm) (u : Int) : List Ent := if 16 < (insE (offE l s) ⟨s, x, u⟩).length then sweepL (insE (offE l s) ⟨s, x, u⟩) now else insE (offE l s) ⟨s, x, u⟩
def putC (l : List Ent) (now : Int) (s : ByteArray) (x : Itm) (u : Int) : Int := if nothingI x = true then 0 else if 16 < (put2 l now s x u).length then 2 else 0
def putE (l : List Ent) (now : Int) (s : ByteArray) (x : Itm) (u : Int) : List Ent := if nothingI x = true then offE l s else if 16 < (put2 l now s x u).length then [] else put2 l now s x u

theorem flat_all7 {w : World} {base : Nat} {rs : List (List Value)} {l : List Ent} (h : Rel (EntCO w base) rs l) : ∀ c ∈ rs, c.length = 7 := fun c hc => by
  obtain ⟨e, _, he⟩ := h.mem hc
  exact he.len
theorem flat_one {w : World} {base : Nat} {rs : List (List Value)} {l : List Ent} (h : Rel (EntCO w base) rs l) : ∀ u ∈ rs.flatten, u.oneCell' = true := fun u hu => by
  obtain ⟨c, hc, huc⟩ := List.mem_flatten.1 hu
  obtain ⟨e, _, A1, c1, A2, c2, A3, c3, rfl, _⟩ := h.mem hc
  exact ent7_one _ _ _ _ _ _ _ u huc
/-- a space that was turned: the row, or a new one. -/
def EntsPost (l : List Ent) (base : Nat) (v : Value) (w : World) (r : Ending) (w' : World) : Prop := ∃ v', r = .returned v' ∧ EntsO w' base v' l ∧ Fr (ownL v) w w' ∧ ∀ k, k ∈ ownL v' → k ∈ ownL v ∨ w.heap.size ≤ k

theorem ownL_blockE {v v' : Value} (h : v'.ownBlock = v.ownBlock) : ownL v' = ownL v := by
  unfold Value.ownBlock at h
  unfold ownL
  split at h <;> split at h <;> simp_all
theorem entsDel (l : List Ent) (k : Nat) (base : Nat) (v : Value) (w : World) (hl : l.length ≤ 1000000) (hk : k < l.length) (h : EntsO w base v l) :
    Calls Try.prog 133 #[v, .int .i64 k, .int .i64 (k + 1)] w (EntsPost (l.take k ++ l.drop (k + 1)) base v w) := by
  obtain ⟨rs, h1, h2, h3⟩ := h
  have R : Rel (EntCO w base) rs l := ⟨h1, h2⟩
  have a7 := flat_all7 R
  have D := delE_row l.length k (k + 1) rs.flatten base v w (by omega) (by omega) (by omega) h3 (flat_one R)
  rw [show ((k + 1 : Nat) : Int) = (k : Int) + 1 from by omega] at D
  refine D.mono ?_
  rintro e w1 ⟨v', rfl, ho, hg, hb⟩
  have hf := fr_ownL hg
  rw [flatN_take 7 rs k a7, flatN_drop 7 rs (k + 1) a7, ← List.flatten_append] at ho
  have R2 := ((R.take k).append (R.drop (k + 1))).imp (fun cs e he => he.row h3 entO_typesNe hf)
  refine ⟨v', rfl, ⟨_, R2.len, R2.at_, ?_⟩, hf, fun q hq => .inl (by rw [ownL_blockE hb] at hq; exact hq)⟩
  have e : (l.take k ++ l.drop (k + 1)).length = k + (l.length - (k + 1)) := by rw [List.length_append, List.length_take, List.length_drop]; omega
  rw [e]
  exact ho

theorem entsIns (l : List Ent) (e : Ent) (cs : List Value) (k gv : Nat) (base : Nat) (v : Value) (w : World) (hl : l.length ≤ 1000000) (hk : k ≤ l.length) (h : EntsO w base v l) (he : EntCO w base cs e) (hgv : Whole w gv 58 cs) (hne : v.ownBlock ≠ some gv) (hb : base ≤ w.heap.size) :
    Calls Try.prog 134 #[v, .int .i64 k, .slice (some ⟨gv, 0, none⟩) 1 1] w (EntsPost (insAt l e k) base v w) := by
  obtain ⟨rs, h1, h2, h3⟩ := h
  have R : Rel (EntCO w base) rs l := ⟨h1, h2⟩
  have a7 := flat_all7 R
  have one : ∀ u ∈ cs, u.oneCell' = true := by
    obtain ⟨A1, c1, A2, c2, A3, c3, rfl, _⟩ := he
    exact ent7_one _ _ _ _ _ _ _
  refine (insE_row l.length k rs.flatten cs base gv v w (by omega) hk h3 (flat_one R) one he.len hgv hne hb).mono ?_
  rintro r w1 ⟨v', rfl, ho, hg, hbl⟩
  have hf := fr_ownL hg
  unfold insCells at ho
  rw [flatN_take 7 rs k a7, flatN_drop 7 rs k a7, show (rs.take k).flatten ++ cs ++ (rs.drop k).flatten = (rs.take k ++ cs :: rs.drop k).flatten from by simp] at ho
  have R2 := ((R.take k).append (Rel.cons he (R.drop k))).imp (fun cs e he => he.row h3 entO_typesNe hf)
  refine ⟨v', rfl, ⟨_, R2.len, R2.at_, ?_⟩, hf, fun q hq => ?_⟩
  · rw [insAt_length l e hk]
    exact ho
  · rcases hbl with h5 | h5
    · rw [ownL_blockE h5] at hq; exact .inl hq
    · refine .inr ?_
      unfold ownL at hq
      split at hq
      · simp at hq; subst hq
        simp [Value.ownBlock] at h5
        omega
      · cases hq

def RawPost (l : List Ent) (c : Int) (base : Nat) (v : Value) (w : World) (r : Ending) (w' : World) : Prop := ∃ u, r = .returned (.tuple #[u, .int .i64 c]) ∧ EntsO w' base u l ∧ Fr (ownL v) w w'

theorem itemO_row {w w' : World} {base base' T size n : Nat} {v xv : Value} {xs : List Value} {x : Itm} (h : ItemO w base xv x) (ho : w.ownsRow base' T size v n xs) (hT : 9 ≠ T ∧ 106 ≠ T ∧ 36 ≠ T) (hf : Fr (ownL v) w w') : ItemO w' base xv x := by
  obtain ⟨L1, L2, L3, he, h1, h2, h3⟩ := h
  exact ⟨L1, L2, L3, he, own_fr h1 hf (own_ne_own h1 ho hT.1), own_fr h2 hf (own_ne_own h2 ho hT.2.1), own_fr h3 hf (own_ne_own h3 ho hT.2.2)⟩
/-- where ways meet: the space so far, the item, its box. -/
def CutR (l' : List Ent) (base : Nat) (v : Value) (xv : Value) (x : Itm) (cells : List Value) (w : World) (sv : Value) (wx : World) : Prop :=
  ∃ A c, sv = .slice A l'.length c ∧ EntsO wx base (.slice A l'.length c) l' ∧ Fr (ownL v) w wx ∧ (∀ k, k ∈ ownL (.slice A l'.length c) → k ∈ ownL v ∨ w.heap.size ≤ k) ∧ Whole wx w.heap.size 26 cells ∧ ItemO wx base xv x

def MeetR (l' : List Ent) (base : Nat) (v : Value) (w : World) (sv : Value) (wx : World) : Prop :=
  ∃ A c, sv = .slice A l'.length c ∧ EntsO wx base (.slice A l'.length c) l' ∧ Fr (ownL v) w wx

set_option maxHeartbeats 4000000 in
set_option maxRecDepth 100000 in
theorem spaceRaw_own (l : List Ent) (v : Value) (now : Int) (s : ByteArray) (x : Itm) (xv : Value) (u : Int) (base : Nat) (w : World) (hr : rises (ltK Ent.key) l = true) (hl : l.length ≤ 1000) (hsx : x.Small) (h : EntsO w base v l) (hx : ItemO w base xv x) (hb : base ≤ w.heap.size) :
    Calls Try.prog 85 #[v, .int .i64 now, .string s, xv, .int .i64 u] w (RawPost (putE l now s x u) (putC l now s x u) base v w) := by
  obtain ⟨A, c, rfl⟩ := h.form
  obtain ⟨X1, x1, X2, x2, X3, x3, rfl⟩ := hx.form
  have D0 := Lib.hid (BX.new w (.int .i64 x.kind) (.string x.text) (.slice X1 x.list.length x1) (.slice X2 x.pairs.length x2) (.slice X3 x.scores.length x3))
  have FD := Lib.hid (fun W (hW : Fr [] w W) => findE_any l s A c w.heap.size W hr (by omega) hW.size ((h.v.fr hW (Nat.le_refl _) (by simp))))
  unfold FindPost at FD
  have HO := Lib.hid h
  have HX := Lib.hid hx
  have HSX := Lib.hid hsx
  have HKL := Lib.hid (low_off hr s)
  have HKE := Lib.hid (lowK_le Ent.key (offE l s) s)
  have LOFF := off_len l s
  have HLT : ∀ k, k ∈ ownL (.slice A l.length c) → k < w.heap.size := fun k hk => by
    obtain ⟨rs0, _, _, h30⟩ := h
    exact own_low h30 k hk
  have HLT2 := Lib.hid HLT
  have HR := Lib.hid hr
  clear h hx hsx HLT hr
  go_enter Try.func85, Try.ntmps85
  go_wp2_with fail
  refine (FD.out _ D0.out.f).mono ?_
  rintro e1 w1 ⟨rfl, f1⟩
  have D1 := Lib.hid (D0.out.go f1)
  have HO1 := Lib.hid (HO.out.fr D1.out.f)
  have HX1 := Lib.hid (HX.out.go D1.out.f)
  clear f1
  go_upto_if 20 with fail
  go_cut [0, 13] (fun sv _ wx => CutR (offE l s) base (.slice A l.length c) (.agg #[.int .i64 x.kind, .string x.text, .slice X1 x.list.length x1, .slice X2 x.pairs.length x2, .slice X3 x.scores.length x3]) x [.int .i64 x.kind, .string x.text, .slice X1 x.list.length x1, .slice X2 x.pairs.length x2, .slice X3 x.scores.length x3] w sv wx)
  case first =>
    rcases hh : hitK Ent.key l s with _ | _
    · have E := Lib.hid (off_no HR.out hh)
      go_wp2
      go_meet
      case rel =>
        rw [E.out]
        exact ⟨A, c, rfl, HO1.out, D1.out.f.up, fun k hk => .inl hk, D1.out.b, HX1.out⟩
    · have E := Lib.hid (off_hit HR.out hh)
      have hkl : lowK Ent.key l s < l.length := by
        obtain ⟨e, he, _⟩ := (hitK_iff Ent.key).1 hh
        exact (List.getElem?_eq_some_iff.1 he).1
      have DE := Lib.hid (entsDel l (lowK Ent.key l s) base (.slice A l.length c) w1 (by omega) hkl HO1.out)
      rw [← E.out] at DE
      generalize lowK Ent.key l s = k at *
      go_wp2_with fail
      refine DE.out.mono ?_
      rintro e2 w2 ⟨v2, rfl, ho, f2, hb2⟩
      obtain ⟨A2, c2, hv2⟩ := ho.form
      have HH := Lib.hid (show CutR (offE l s) base (.slice A l.length c) (.agg #[.int .i64 x.kind, .string x.text, .slice X1 x.list.length x1, .slice X2 x.pairs.length x2, .slice X3 x.scores.length x3]) x [.int .i64 x.kind, .string x.text, .slice X1 x.list.length x1, .slice X2 x.pairs.length x2, .slice X3 x.scores.length x3] w v2 w2 from by
        subst hv2
        obtain ⟨rs1, _, _, hr1⟩ := HO1.out
        exact ⟨A2, c2, rfl, ho, D1.out.f.up.trans f2, fun q hq => (hb2 q hq).imp id (fun h => Nat.le_trans D1.out.f.size h), D1.out.b.fr f2 (fun hm => by have := HLT2.out _ hm; omega), itemO_row HX1.out hr1 entO_typesNe f2⟩)
      clear ho f2 hb2 hv2
      go_wp2
      go_meet
      case rel => exact HH.out
  case rest =>
    obtain ⟨A2, c2, rfl, ho, f2, hb2, hbx, hix⟩ := hcut
    have HO2 := Lib.hid ho
    have F2 := Lib.hid f2
    have HB2 := Lib.hid hb2
    have BX2 := Lib.hid hbx
    have HX2 := Lib.hid hix
    have hz2 := hbx.lt
    clear ho f2 hb2 hbx hix FD HO HO1 HX HX1 D0 D1
    obtain ⟨d0, d1, d2, d3, d4⟩ := five BX2.out
    have NO := Lib.hid (nothing_any x (.agg #[.int .i64 x.kind, .string x.text, .slice X1 x.list.length x1, .slice X2 x.pairs.length x2, .slice X3 x.scores.length x3]) _ _ HSX.out (Nat.le_refl _) HX2.out.item)
    by_cases hn : nothingI x = true
    · have E1 := Lib.hid (show putE l now s x u = offE l s from if_pos hn)
      have E2 := Lib.hid (show putC l now s x u = 0 from if_pos hn)
      rw [hn] at NO
      clear hn
      go_wp2_with fail
      refine NO.out.mono ?_
      rintro e3 w3 ⟨rfl, f3⟩
      have F3 := Lib.hid f3
      clear f3
      go_wp2
      go_ret2
      rw [E1.out, E2.out]
      exact ⟨_, rfl, HO2.out.fr F3.out, F2.out.trans F3.out.up⟩
    · have hn' : nothingI x = false := by simpa using hn
      have E1 := Lib.hid (show putE l now s x u = if 16 < (put2 l now s x u).length then [] else put2 l now s x u from if_neg hn)
      have E2 := Lib.hid (show putC l now s x u = if 16 < (put2 l now s x u).length then 2 else 0 from if_neg hn)
      rw [hn'] at NO
      clear hn hn'
      go_wp2_with fail
      refine NO.out.mono ?_
      rintro e3 w3 ⟨rfl, f3⟩
      have F3 := Lib.hid (F2.out.trans f3.up)
      have HO3 := Lib.hid (HO2.out.fr f3)
      have BX3 := Lib.hid (BX2.out.fr f3 (by simp))
      have HX3 := Lib.hid (HX2.out.go f3)
      have hz3 := f3.size
      clear f3 d0 d1 d2 d3 d4
      obtain ⟨d0, d1, d2, d3, d4⟩ := five BX3.out
      have G3 := Lib.hid ((Fr.refl [] w3).alloc (.cells #[.string s, .int .i64 x.kind, .string x.text, .slice X1 x.list.length x1, .slice X2 x.pairs.length x2, .slice X3 x.scores.length x3, .int .i64 u] 58))
      have W3 := Lib.hid (Whole.new w3 58 [.string s, .int .i64 x.kind, .string x.text, .slice X1 x.list.length x1, .slice X2 x.pairs.length x2, .slice X3 x.scores.length x3, .int .i64 u])
      have IN := Lib.hid (entsIns (offE l s) ⟨s, x, u⟩ [.string s, .int .i64 x.kind, .string x.text, .slice X1 x.list.length x1, .slice X2 x.pairs.length x2, .slice X3 x.scores.length x3, .int .i64 u] (lowK Ent.key (offE l s) s) w3.heap.size base (.slice A2 (offE l s).length c2) (w3.alloc (.cells #[.string s, .int .i64 x.kind, .string x.text, .slice X1 x.list.length x1, .slice X2 x.pairs.length x2, .slice X3 x.scores.length x3, .int .i64 u] 58)) (by omega) HKE.out (HO3.out.fr G3.out) (by
        obtain ⟨L1, L2, L3, hv, o1, o2, o3⟩ := HX3.out.go G3.out
        cases hv
        exact ⟨_, _, _, _, _, _, rfl, o1, o2, o3⟩) W3.out (by
        intro hq
        obtain ⟨rs1, _, _, hr1⟩ := HO3.out
        have := (hr1.lt _ hq).2
        omega) (by simp; omega))
      rw [show insAt (offE l s) ⟨s, x, u⟩ (lowK Ent.key (offE l s) s) = insE (offE l s) ⟨s, x, u⟩ from rfl, HKL.out] at IN
      have HL2 := Lib.hid (show (insE (offE l s) ⟨s, x, u⟩).length = (offE l s).length + 1 from insAt_length _ _ (lowK_le _ _ _))
      have EP := Lib.hid (show put2 l now s x u = if 16 < (insE (offE l s) ⟨s, x, u⟩).length then sweepL (insE (offE l s) ⟨s, x, u⟩) now else insE (offE l s) ⟨s, x, u⟩ from rfl)
      generalize lowK Ent.key l s = k at *
      generalize offE l s = lo at *
      generalize insE lo ⟨s, x, u⟩ = L2 at *
      go_wp2_with fail
      refine IN.out.mono ?_
      rintro e4 w4 ⟨v4, rfl, ho4, f4, hb4⟩
      obtain ⟨A4, c4, rfl⟩ := ho4.form
      have HO4 := Lib.hid ho4
      have F4 := Lib.hid ((F3.out.trans G3.out.up).step f4 (fun q hq => HB2.out q hq))
      have HB4 := Lib.hid (fun q hq => (hb4 q hq).elim (fun h => HB2.out q h) (fun h => Or.inr (Nat.le_trans (Nat.le_trans F3.out.size G3.out.size) h)))
      have hl2 : L2.length ≤ 1001 := by have := HL2.out; omega
      clear ho4 f4 hb4 d0 d1 d2 d3 d4 HO3 HO2
      generalize put2 l now s x u = P2 at *
      go_upto_if 39 with fail
      go_cut [0, 39] (fun sv _ wx => MeetR P2 base (.slice A l.length c) w sv wx)
      case first =>
        by_cases h16 : 16 < L2.length
        · have E3 := Lib.hid (EP.out.trans (if_pos h16))
          have SW := Lib.hid (sweep_own L2 (.slice A4 L2.length c4) now base w4 (by omega) HO4.out)
          rw [← E3.out] at SW
          have q16 : (L2.length : Int) > 16 := by omega
          clear h16 E3
          go_wp2_with fail
          refine SW.out.mono ?_
          rintro e5 w5 ⟨v5, rfl, ho5, f5⟩
          obtain ⟨A5, c5, rfl⟩ := ho5.form
          have HH := Lib.hid (show MeetR P2 base (.slice A l.length c) w (.slice A5 P2.length c5) w5 from ⟨A5, c5, rfl, ho5, F4.out.step f5 (fun q hq => HB4.out q hq)⟩)
          clear ho5 f5
          go_wp2
          go_meet
          case rel => exact HH.out
        · have E3 := Lib.hid (EP.out.trans (if_neg h16))
          have q16 : ¬ (L2.length : Int) > 16 := by omega
          clear h16
          go_wp2
          go_meet
          case rel =>
            rw [E3.out]
            exact ⟨A4, c4, rfl, HO4.out, F4.out⟩
      case rest =>
        obtain ⟨A5, c5, rfl, ho5, f5⟩ := hcut
        have HO5 := Lib.hid ho5
        have F5 := Lib.hid f5
        clear ho5 f5 EP
        by_cases h17 : 16 < P2.length
        · have E3 := Lib.hid (E1.out.trans (if_pos h17))
          have E4 := Lib.hid (E2.out.trans (if_pos h17))
          have q17 : (P2.length : Int) > 16 := by omega
          clear h17
          go_wp2
          go_ret2
          rw [E3.out, E4.out]
          exact ⟨_, rfl, EntsO.nil _ _, F5.out⟩
        · have E3 := Lib.hid (E1.out.trans (if_neg h17))
          have E4 := Lib.hid (E2.out.trans (if_neg h17))
          have q17 : ¬ (P2.length : Int) > 16 := by omega
          clear h17
          go_wp2
          go_ret2
          rw [E3.out, E4.out]
          exact ⟨_, rfl, HO5.out, F5.out⟩
end Go.Proofs.Ytmlmiboihjibiaa
