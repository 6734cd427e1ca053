/- Spaces, plain: a sweep leaves what is seen; what was put is got. No walk. -/
import Derived.Test.YtmlmiboihjibiaaSpP
set_option linter.unusedVariables false
set_option linter.unusedSimpArgs false
namespace Go.Proofs.Ytmlmiboihjibiaa
open Go.RowKit

theorem goSp_mk : ∀ {l : List Ent} {p : Option ByteArray}, (∀ e ∈ l, e.key.size ≤ 60 ∧ checkItm e.item = 0 ∧ (0 ≤ e.til ∧ e.til ≤ 1000000)) → rises (ltK Ent.key) l = true → (∀ e, l[0]? = some e → badPrev p e.key = false) → goSp p l = 0
  | [], p, _, _, _ => rfl
  | e :: l, p, h, hr, h0 => by
    obtain ⟨h1, h2, h3⟩ := h e (by simp)
    have h4 := h0 e rfl
    have hc : entCode p e = 0 := by
      have ht : timeB e.til = true := by unfold timeB; rw [decide_eq_true h3.1, decide_eq_true h3.2]; rfl
      unfold entCode
      rw [if_neg (by omega), if_neg (by simpa using h2), if_neg (by rw [ht]; decide), if_neg (by rw [h4]; decide)]
    unfold goSp
    rw [if_neg (by simpa using hc)]
    refine goSp_mk (fun x hx => h x (by simp [hx])) ?_ ?_
    · cases l with
      | nil => rfl
      | cons y l =>
        have hr' : (ltK Ent.key e y && rises (ltK Ent.key) (y :: l)) = true := hr
        rw [Bool.and_eq_true] at hr'
        exact hr'.2
    · intro x hx
      cases l with
      | nil => simp at hx
      | cons y l =>
        simp at hx
        subst hx
        have hr' : (ltK Ent.key e y && rises (ltK Ent.key) (y :: l)) = true := hr
        rw [Bool.and_eq_true] at hr'
        have : ltS e.key y.key = true := hr'.1
        show (!ltS e.key y.key) = false
        rw [this]
        rfl
theorem spOk_mk {l : List Ent} (h : SpOk l) : spCode l = 0 := by
  unfold spCode
  rw [if_neg (by have := h.le; omega)]
  exact goSp_mk (fun e he => ⟨h.keys e he, h.items e he, h.times e he⟩) h.rise (fun e _ => rfl)
theorem spOk_filter {l : List Ent} (h : SpOk l) (q : Ent → Bool) : SpOk (l.filter q) :=
  ⟨Nat.le_trans (List.length_filter_le _ _) h.le, fun e he => h.keys e (List.mem_filter.1 he).1, fun e he => h.items e (List.mem_filter.1 he).1, fun e he => h.times e (List.mem_filter.1 he).1, pw_rises ((rises_pw (ltK_trans Ent.key) h.rise).filter _)⟩
theorem atCode_ok {l : List Ent} (h : spCode l = 0) (n : Int) (s : ByteArray) : atCode l n s = if timeB n = false then 3 else if 60 < s.size then 2 else 0 := by
  unfold atCode
  rw [if_neg (by simpa using h)]
theorem atCode_two {l k : List Ent} (h : spCode l = 0) (h2 : spCode k = 0) (n : Int) (s : ByteArray) : atCode k n s = atCode l n s := by rw [atCode_ok h, atCode_ok h2]

/-- a sweep. -/
theorem gone_later {t now later : Int} (h : now ≤ later) (hg : goneB t later = false) : goneB t now = false := by
  unfold goneB at *
  by_cases h1 : t = 0
  · rw [decide_eq_false (by simpa using h1)]; rfl
  · rw [decide_eq_true h1, Bool.true_and] at *
    have : ¬ t ≤ later := of_decide_eq_false hg
    exact decide_eq_false (by omega)
theorem sweep_look {now later : Int} (h : now ≤ later) (l : List Ent) (s : ByteArray) : lookO (sweepL l now) later s = lookO l later s := by
  unfold lookO sweepL
  rw [List.find?_filter]
  congr 1
  funext e
  by_cases hg : goneB e.til later = false
  · rw [hg, gone_later h hg]; simp
  · have hg' : goneB e.til later = true := by simpa using hg
    rw [hg']
    simp
theorem sweep_keys {now later : Int} (h : now ≤ later) (l : List Ent) (p : ByteArray) : keysL (sweepL l now) later p = keysL l later p := by
  unfold keysL sweepL
  rw [List.filter_filter]
  congr 1
  congr 1
  funext e
  unfold keyM
  by_cases hg : goneB e.til later = false
  · rw [hg, gone_later h hg]; simp
  · have hg' : goneB e.til later = true := by simpa using hg
    rw [hg']
    simp
theorem sweep_twice (l : List Ent) (now : Int) : sweepL (sweepL l now) now = sweepL l now := by
  unfold sweepL
  rw [List.filter_filter]
  congr 1
  funext e
  simp
/-- what a sweep leaves. -/
structure SweptI (l : List Ent) (now later : Int) (s p : ByteArray) : Prop where
  ok : atCode (swL l now) now ⟨#[]⟩ = 0
  at_ : atCode (swL l now) later s = atCode l later s
  get : getI (swL l now) later s = getI l later s
  keys : keysR (swL l now) later p = keysR l later p
  kcode : keysC (swL l now) later p = keysC l later p
  til : untilN (swL l now) later s = untilN l later s
  tcode : untilC (swL l now) later s = untilC l later s
  again : swL (swL l now) now = swL l now
  none : swN (swL l now) now = 0
theorem sweptI {l : List Ent} {now later : Int} (h0 : atCode l now ⟨#[]⟩ = 0) (h : now ≤ later) (s p : ByteArray) : SweptI l now later s p := by
  have hw : swL l now = sweepL l now := by unfold swL; rw [if_pos h0]
  have k1 := (atOk h0).1
  have k2 : spCode (sweepL l now) = 0 := spOk_mk (spOk_filter (spOk k1) _)
  have ha := fun n s => atCode_two k1 k2 n s
  have hlo := fun s => sweep_look h l s
  have he : ∀ s, lookE (sweepL l now) later s = lookE l later s := fun s => by unfold lookE; rw [hlo]
  have hb : ∀ s, lookB (sweepL l now) later s = lookB l later s := fun s => by unfold lookB; rw [hlo]
  have hc : keysC (sweepL l now) later p = keysC l later p := by unfold keysC; rw [ha]
  refine ⟨?_, ?_, ?_, ?_, ?_, ?_, ?_, ?_, ?_⟩
  · rw [hw, ha]; exact h0
  · rw [hw, ha]
  · rw [hw]; unfold getI; rw [ha, he]
  · rw [hw]; unfold keysR; rw [hc, sweep_keys h]
  · rw [hw]; exact hc
  · rw [hw]; unfold untilN; rw [ha, he, hb]
  · rw [hw]; unfold untilC; rw [ha, hb]
  · rw [hw]; unfold swL; rw [ha, if_pos h0, sweep_twice]
  · rw [hw]; unfold swN; rw [ha, if_pos h0, sweep_twice]; omega

/-- a put. -/
theorem insE_put {l : List Ent} {e : Ent} (h : hitK Ent.key l e.key = false) : insE l e = putK Ent.key l e := by
  unfold insE putK insAt
  rw [if_neg (by rw [h]; decide)]
theorem off_hitno {l : List Ent} (hr : rises (ltK Ent.key) l = true) (s : ByteArray) : hitK Ent.key (offE l s) s = false := by
  rcases h : hitK Ent.key (offE l s) s with _ | _
  · rfl
  · obtain ⟨q, hq, hk⟩ := (hitK_iff Ent.key).1 h
    have hm := (List.mem_filter.1 (List.mem_of_getElem? hq)).2
    rw [hk] at hm
    simp at hm
theorem ins_rises {l : List Ent} (hr : rises (ltK Ent.key) l = true) (s : ByteArray) (x : Itm) (u : Int) : rises (ltK Ent.key) (insE (offE l s) ⟨s, x, u⟩) = true := by
  rw [insE_put (by exact off_hitno hr s)]
  exact putK_rises Ent.key _ (off_rises hr s)
theorem put2_rises {l : List Ent} (hr : rises (ltK Ent.key) l = true) (now : Int) (s : ByteArray) (x : Itm) (u : Int) : rises (ltK Ent.key) (put2 l now s x u) = true := by
  unfold put2
  split
  · exact pw_rises ((rises_pw (ltK_trans Ent.key) (ins_rises hr s x u)).filter _)
  · exact ins_rises hr s x u
theorem nothing_new {x : Itm} (h : nothingI x = true) : x = newI 0 := by
  rw [nothingI_iff] at h
  simp at h
  obtain ⟨h1, h2, h3⟩ := h
  unfold many at h3
  obtain ⟨k, t, a, b, c⟩ := x
  simp at h1 h2 h3
  obtain ⟨⟨rfl, rfl⟩, rfl⟩ := h3
  subst h1
  unfold newI
  congr
  
theorem mem_insE {l : List Ent} {e : Ent} : e ∈ insE l e := by
  unfold insE insAt
  simp
theorem look_of {l : List Ent} (hr : rises (ltK Ent.key) l = true) {e : Ent} (h : e ∈ l) (now : Int) : lookO l now e.key = if goneB e.til now = true then none else some e := by
  obtain ⟨i, hi⟩ := List.getElem?_of_mem h
  exact look_hit hr hi now
theorem look_nokey {l : List Ent} {s : ByteArray} (h : ∀ e ∈ l, e.key ≠ s) (now : Int) : lookO l now s = none := by
  unfold lookO
  rw [List.find?_eq_none]
  intro e he
  simp [h e he]
/-- another key's entry is what it was. -/
theorem ins_other (l : List Ent) {s o : ByteArray} (x : Itm) (u : Int) (h : o ≠ s) (now : Int) : lookO (insE (offE l s) ⟨s, x, u⟩) now o = lookO l now o := by
  have ho : lookO (offE l s) now o = lookO l now o := by
    unfold lookO offE
    rw [List.find?_filter]
    congr 1
    funext e
    by_cases he : e.key = o
    · have hq : decide (e.key ≠ s) = true := by rw [he]; exact decide_eq_true h
      rw [decide_eq_true he, hq]; simp
    · rw [decide_eq_false he]; simp
  rw [← ho]
  unfold insE insAt
  have e1 : ∀ (a b : List Ent) (e : Ent), e.key ≠ o → lookO (a ++ e :: b) now o = lookO (a ++ b) now o := fun a b e he => by
    unfold lookO
    rw [List.find?_append, List.find?_append, List.find?_cons]
    rw [decide_eq_false he]
    simp
  rw [e1 _ _ _ (by exact Ne.symm h), List.take_append_drop]
theorem put_other (l : List Ent) {s o : ByteArray} (x : Itm) (u : Int) (h : o ≠ s) (now : Int) : lookO (put2 l now s x u) now o = lookO l now o := by
  unfold put2
  split
  · rw [sweep_look (Int.le_refl _), ins_other l x u h]
  · rw [ins_other l x u h]
theorem off_other (l : List Ent) {s o : ByteArray} (h : o ≠ s) (now : Int) : lookO (offE l s) now o = lookO l now o := by
  unfold lookO offE
  rw [List.find?_filter]
  congr 1
  funext e
  by_cases he : e.key = o
  · have hq : decide (e.key ≠ s) = true := by rw [he]; exact decide_eq_true h
    rw [decide_eq_true he, hq]; simp
  · rw [decide_eq_false he]; simp
/-- what is told of a put that came about. -/
structure LastI (l : List Ent) (now : Int) (s : ByteArray) (x : Itm) (u : Int) : Prop where
  ok : spCode (putLL l now s x u) = 0
  at_ : atCode (putLL l now s x u) now s = 0
  atM : atCode (putLL l now s x u) 1000000 s = 0
  get : getI (putLL l now s x u) now s = x
  late : getI (putLL l now s x u) 1000000 s = x ∨ (u ≠ 0 ∧ nothingI (getI (putLL l now s x u) 1000000 s) = true)
  other : ∀ o, o ≠ s → atCode (putLL l now s x u) now o = atCode l now o ∧ getI (putLL l now s x u) now o = getI l now o
theorem nothing_newI : nothingI (newI 0) = true := by decide
theorem lastI {l : List Ent} {now : Int} {s : ByteArray} {x : Itm} {u : Int} (h : putCC l now s x u = 0) : LastI l now s x u := by
  have h1 : putErr l now s x u = 0 := by
    by_cases he : putErr l now s x u = 0
    · exact he
    · unfold putCC at h; rw [if_neg he] at h; exact absurd h he
  have h2 : putC l now s x u = 0 := by unfold putCC at h; rw [if_pos h1] at h; exact h
  have hl : putLL l now s x u = putE l now s x u := by unfold putLL; rw [if_pos h1]
  obtain ⟨ha, hx⟩ := putErr_zero h1
  obtain ⟨k1, k2, k3⟩ := atOk ha
  have ok := spOk k1
  have t1 : timeB now = true := by unfold timeB; rw [decide_eq_true k2.1, decide_eq_true k2.2]; rfl
  have hu : u = 0 ∨ (now < u ∧ u ≤ 1000000) := by
    have e1 : putE1 l now s x = 0 := by
      unfold putErr putE2 at h1
      split at h1
      · cases h1
      · exact h1
    unfold putErr putE2 tst2 at h1
    rw [if_pos e1] at h1
    by_cases hu : u = 0
    · exact .inl hu
    · rw [if_neg hu] at h1
      by_cases hn : u ≤ now
      · rw [if_pos hn, if_pos rfl] at h1; cases h1
      · rw [if_neg hn] at h1
        by_cases hm : 1000000 < u
        · rw [if_pos (decide_eq_true hm)] at h1; cases h1
        · exact .inr ⟨by omega, by omega⟩
  have both : ∀ a, SpOk a → atCode a now s = 0 ∧ atCode a 1000000 s = 0 ∧ ∀ o, atCode a now o = atCode l now o := fun a oa => by
    refine ⟨?_, ?_, fun o => atCode_two k1 (spOk_mk oa) _ _⟩
    · rw [atCode_two k1 (spOk_mk oa)]; exact ha
    · rw [atCode_ok (spOk_mk oa), if_neg (by decide), if_neg (by omega)]
  have got : ∀ a n, atCode a n s = 0 → getI a n s = (lookE a n s).item := fun a n hq => by unfold getI; rw [if_pos hq]
  by_cases hn : nothingI x = true
  · have hp : putLL l now s x u = offE l s := by rw [hl]; unfold putE; rw [if_pos hn]
    have oa : SpOk (offE l s) := spOk_filter ok _
    obtain ⟨b1, b2, b3⟩ := both _ oa
    have hno : ∀ n, lookO (offE l s) n s = none := fun n => look_nokey (fun e he => by simpa using (List.mem_filter.1 he).2) n
    have hE : ∀ n, (lookE (offE l s) n s).item = x := fun n => by
      unfold lookE
      rw [hno, nothing_new hn]
      rfl
    rw [hp.symm] at b1 b2 b3
    refine ⟨by rw [hp]; exact spOk_mk oa, b1, b2, by rw [got _ _ b1, hp, hE], .inl (by rw [got _ _ b2, hp, hE]), fun o ho => ⟨b3 o, ?_⟩⟩
    unfold getI
    rw [b3, hp]
    unfold lookE
    rw [off_other l ho]
  · have hlen : ¬ 16 < (put2 l now s x u).length := by
      unfold putC at h2
      rw [if_neg hn] at h2
      intro h16
      rw [if_pos h16] at h2
      cases h2
    have hp : putLL l now s x u = put2 l now s x u := by rw [hl]; unfold putE; rw [if_neg hn, if_neg hlen]
    have hx' : checkItm x = 0 := by
      rcases hx with h | h
      · exact absurd h hn
      · exact h
    have oa : SpOk (put2 l now s x u) := ⟨by omega, put2_all (P := fun e => e.key.size ≤ 60) ok.keys k3, put2_all (P := fun e => checkItm e.item = 0) ok.items hx', put2_all (P := fun e => 0 ≤ e.til ∧ e.til ≤ 1000000) ok.times (by show 0 ≤ u ∧ u ≤ 1000000; omega), put2_rises ok.rise now s x u⟩
    obtain ⟨b1, b2, b3⟩ := both _ oa
    have gn : goneB u now = false := by
      unfold goneB
      rcases hu with rfl | ⟨hu, _⟩
      · rfl
      · rw [show decide (u ≤ now) = false from decide_eq_false (by omega), Bool.and_false]
    have hm : (⟨s, x, u⟩ : Ent) ∈ put2 l now s x u := by
      unfold put2
      split
      · exact List.mem_filter.2 ⟨mem_insE, by rw [gn]; rfl⟩
      · exact mem_insE
    have hlo : ∀ n, lookO (put2 l now s x u) n s = if goneB u n = true then none else some ⟨s, x, u⟩ := fun n => look_of oa.rise hm n
    have b3' := b3
    rw [hp.symm] at b1 b2 b3
    refine ⟨by rw [hp]; exact spOk_mk oa, b1, b2, ?_, ?_, fun o ho => ⟨b3 o, ?_⟩⟩
    · rw [got _ _ b1, hp]
      unfold lookE
      rw [hlo, gn]
      rfl
    · rw [got _ _ b2, hp]
      unfold lookE
      rw [hlo]
      by_cases hu0 : u = 0
      · left
        rw [hu0]
        rfl
      · right
        refine ⟨hu0, ?_⟩
        have : goneB u 1000000 = true := by
          unfold goneB
          rw [decide_eq_true hu0, decide_eq_true (by omega)]; rfl
        rw [this]
        exact nothing_newI
    · unfold getI
      rw [b3, hp]
      unfold lookE
      rw [put_other l x u ho]
/-- .. and of one that did not. -/
theorem put_no {l : List Ent} {now : Int} {s : ByteArray} {x : Itm} {u : Int} (h : putCC l now s x u ≠ 0) : putLL l now s x u = [] := by
  unfold putCC putLL at *
  by_cases he : putErr l now s x u = 0
  · rw [if_pos he] at h ⊢
    unfold putC putE at *
    by_cases hn : nothingI x = true
    · rw [if_pos hn] at h; exact absurd rfl h
    · rw [if_neg hn] at h ⊢
      by_cases h16 : 16 < (put2 l now s x u).length
      · rw [if_pos h16]
      · rw [if_neg h16] at h; exact absurd rfl h
  · rw [if_neg he]
end Go.Proofs.Ytmlmiboihjibiaa
