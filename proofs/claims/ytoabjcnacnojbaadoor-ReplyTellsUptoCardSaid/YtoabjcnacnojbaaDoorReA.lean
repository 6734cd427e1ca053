/- Replies, plain: what is wrong with one, its bytes, which bytes tell one; what is told is read, and nothing else is. No walk. -/
import Derived.Test.YtoabjcnacnojbaaDoorFdA
import Derived.Lib.IndexMore
set_option linter.unusedVariables false
set_option linter.unusedSimpArgs false
namespace Go.Proofs.YtoabjcnacnojbaaDoor

/-- a reply of a list (of what it lists itself, how many there are); a reply. -/
structure Rp1 where
  kind : Int
  text : ByteArray
  n : Int
  sub : Nat
structure Rep where
  kind : Int
  text : ByteArray
  n : Int
  list : List Rp1
def Rep.one (r : Rep) : Rp1 := ⟨r.kind, r.text, r.n, r.list.length⟩
def zeroR : Rep := ⟨0, ⟨#[]⟩, 0, []⟩
def Rp1.rep (x : Rp1) : Rep := ⟨x.kind, x.text, x.n, []⟩

def wordB (c : Nat) : Bool := (decide (97 ≤ c) && decide (c ≤ 122)) || (decide (65 ≤ c) && decide (c ≤ 90)) || (decide (48 ≤ c) && decide (c ≤ 57)) || decide (c = 32)
def wordS (s : ByteArray) : Bool := s.data.toList.all fun c => wordB c.toNat
def oneCode (x : Rp1) : Int :=
  if ¬ (1 ≤ x.kind ∧ x.kind ≤ 5) then 7
  else if (x.kind ≠ 1 ∧ x.kind ≠ 4 ∧ x.text.size ≠ 0) ∨ (x.kind ≠ 2 ∧ x.kind ≠ 3 ∧ x.n ≠ 0) ∨ 0 < x.sub then 1
  else if x.kind = 1 then (if 20 < x.text.size then 2 else if x.text.size = 0 then 1 else if wordS x.text = true then 0 else 1)
  else if x.kind = 2 then (if 1 ≤ x.n ∧ x.n ≤ 8 then 0 else 3)
  else if x.kind = 3 then (if isInt x.n = true then 0 else 3)
  else if x.kind = 4 then (if 60 < x.text.size then 2 else 0)
  else 0
def listCode : List Rp1 → Int
  | [] => 0
  | x :: l => if oneCode x ≠ 0 then oneCode x else listCode l
def repCode (r : Rep) : Int :=
  if r.kind ≠ 6 then oneCode r.one
  else if r.text.size ≠ 0 ∨ r.n ≠ 0 then 1
  else if 300 < r.list.length then 2
  else listCode r.list
theorem listCode_step {l : List Rp1} {k : Nat} {x : Rp1} (h : l[k]? = some x) : listCode (l.drop k) = if oneCode x ≠ 0 then oneCode x else listCode (l.drop (k + 1)) := by
  have hk := (List.getElem?_eq_some_iff.1 h).1
  have e1 : l.drop k = x :: l.drop (k + 1) := by
    rw [List.drop_eq_getElem_cons hk]
    congr 1
    rw [List.getElem?_eq_getElem hk] at h
    exact Option.some.inj h
  rw [e1]
  rfl
theorem listCode_ok : ∀ {l : List Rp1}, listCode l = 0 → ∀ x ∈ l, oneCode x = 0
  | [], _, x, h => by cases h
  | y :: l, hc, x, h => by
    unfold listCode at hc
    by_cases hy : oneCode y = 0
    · rw [if_neg (by simpa using hy)] at hc
      rcases List.mem_cons.1 h with rfl | h
      · exact hy
      · exact listCode_ok hc x h
    · rw [if_pos hy] at hc; exact absurd hc hy
theorem listCode_mk : ∀ {l : List Rp1}, (∀ x ∈ l, oneCode x = 0) → listCode l = 0
  | [], _ => rfl
  | y :: l, h => by
    unfold listCode
    rw [if_neg (by simpa using h y (by simp))]
    exact listCode_mk fun x hx => h x (by simp [hx])
/-- what a right one of a list is. -/
structure Right1 (x : Rp1) : Prop where
  kind : 1 ≤ x.kind ∧ x.kind ≤ 5
  sub : x.sub = 0
  text : x.kind ≠ 1 → x.kind ≠ 4 → x.text = ⟨#[]⟩
  num : x.kind ≠ 2 → x.kind ≠ 3 → x.n = 0
  word : x.kind = 1 → x.text.size ≤ 20 ∧ x.text.size ≠ 0 ∧ wordS x.text = true
  err : x.kind = 2 → 1 ≤ x.n ∧ x.n ≤ 8
  int : x.kind = 3 → isInt x.n = true
  bytes : x.kind = 4 → x.text.size ≤ 60
theorem nilB {t : ByteArray} (h : t.size = 0) : t = ⟨#[]⟩ := by
  apply ByteArray.ext
  exact Array.eq_empty_of_size_eq_zero h
theorem right1_of {x : Rp1} (h : oneCode x = 0) : Right1 x := by
  unfold oneCode at h
  by_cases hk : 1 ≤ x.kind ∧ x.kind ≤ 5
  · rw [if_neg (fun hn => hn hk)] at h
    by_cases hb : (x.kind ≠ 1 ∧ x.kind ≠ 4 ∧ x.text.size ≠ 0) ∨ (x.kind ≠ 2 ∧ x.kind ≠ 3 ∧ x.n ≠ 0) ∨ 0 < x.sub
    · rw [if_pos hb] at h; exact absurd h (by decide)
    · rw [if_neg hb] at h
      have hs : x.sub = 0 := by
        rcases Nat.eq_zero_or_pos x.sub with h0 | h0
        · exact h0
        · exact absurd (.inr (.inr h0)) hb
      refine ⟨hk, hs, fun h1 h4 => ?_, fun h2 h3 => ?_, fun h1 => ?_, fun h2 => ?_, fun h3 => ?_, fun h4 => ?_⟩
      · apply nilB
        by_cases hz : x.text.size = 0
        · exact hz
        · exact absurd (.inl ⟨h1, h4, hz⟩) hb
      · by_cases hz : x.n = 0
        · exact hz
        · exact absurd (.inr (.inl ⟨h2, h3, hz⟩)) hb
      · rw [if_pos h1] at h
        by_cases h20 : 20 < x.text.size
        · rw [if_pos h20] at h; exact absurd h (by decide)
        · rw [if_neg h20] at h
          by_cases h0 : x.text.size = 0
          · rw [if_pos h0] at h; exact absurd h (by decide)
          · rw [if_neg h0] at h
            by_cases hw : wordS x.text = true
            · exact ⟨by omega, h0, hw⟩
            · rw [if_neg hw] at h; exact absurd h (by decide)
      · rw [if_neg (by omega), if_pos h2] at h
        by_cases hr : 1 ≤ x.n ∧ x.n ≤ 8
        · exact hr
        · rw [if_neg hr] at h; exact absurd h (by decide)
      · rw [if_neg (by omega), if_neg (by omega), if_pos h3] at h
        by_cases hr : isInt x.n = true
        · exact hr
        · rw [if_neg hr] at h; exact absurd h (by decide)
      · rw [if_neg (by omega), if_neg (by omega), if_neg (by omega), if_pos h4] at h
        by_cases hr : 60 < x.text.size
        · rw [if_pos hr] at h; exact absurd h (by decide)
        · omega
  · rw [if_pos hk] at h; exact absurd h (by decide)
/-- a right reply. -/
theorem rep_right {r : Rep} (h : repCode r = 0) : (r.kind ≠ 6 ∧ Right1 r.one ∧ r.list = []) ∨ (r.kind = 6 ∧ r.text = ⟨#[]⟩ ∧ r.n = 0 ∧ r.list.length ≤ 300 ∧ ∀ x ∈ r.list, Right1 x) := by
  unfold repCode at h
  by_cases hk : r.kind = 6
  · rw [if_neg (fun hn => hn hk)] at h
    by_cases hb : r.text.size ≠ 0 ∨ r.n ≠ 0
    · rw [if_pos hb] at h; exact absurd h (by decide)
    · rw [if_neg hb] at h
      by_cases hl : 300 < r.list.length
      · rw [if_pos hl] at h; exact absurd h (by decide)
      · rw [if_neg hl] at h
        refine .inr ⟨hk, nilB ?_, ?_, by omega, fun x hx => right1_of (listCode_ok h x hx)⟩
        · by_cases hz : r.text.size = 0
          · exact hz
          · exact absurd (.inl hz) hb
        · by_cases hz : r.n = 0
          · exact hz
          · exact absurd (.inr hz) hb
  · rw [if_pos hk] at h
    have := right1_of h
    exact .inl ⟨hk, this, List.eq_nil_of_length_eq_zero this.sub⟩

theorem rep_list {r : Rep} (h : repCode r = 0) (hk : r.kind = 6) : ∀ x ∈ r.list, oneCode x = 0 := by
  unfold repCode at h
  rw [if_neg (fun hn => hn hk)] at h
  by_cases hb : r.text.size ≠ 0 ∨ r.n ≠ 0
  · rw [if_pos hb] at h; exact absurd h (by decide)
  · rw [if_neg hb] at h
    by_cases hl : 300 < r.list.length
    · rw [if_pos hl] at h; exact absurd h (by decide)
    · rw [if_neg hl] at h
      exact listCode_ok h

/-- the bytes of one. -/
def oneBs (x : Rp1) : List UInt8 :=
  if x.kind = 1 then 43 :: (x.text.data.toList ++ [13, 10])
  else if x.kind = 2 then 45 :: (Lib.itoa x.n ++ [13, 10])
  else if x.kind = 3 then 58 :: (Lib.itoa x.n ++ [13, 10])
  else if x.kind = 4 then 36 :: (Lib.decDigits x.text.size ++ 13 :: 10 :: (x.text.data.toList ++ [13, 10]))
  else [36, 45, 49, 13, 10]
def repBs (r : Rep) : List UInt8 := if r.kind = 6 then 42 :: (Lib.decDigits r.list.length ++ 13 :: 10 :: r.list.flatMap oneBs) else oneBs r.one

/-- the first line, and what is behind it. -/
def cutC : List UInt8 → Option (List UInt8 × List UInt8)
  | [] => none
  | [_] => none
  | x :: y :: r => if x.toNat = 13 ∧ y.toNat = 10 then some ([], r) else (cutC (y :: r)).map fun p => (x :: p.1, p.2)
theorem cutC_some : ∀ {l a b : List UInt8}, cutC l = some (a, b) → l = a ++ 13 :: 10 :: b
  | [], a, b, h => by cases h
  | [_], a, b, h => by cases h
  | x :: y :: r, a, b, h => by
    unfold cutC at h
    by_cases hx : x.toNat = 13 ∧ y.toNat = 10
    · rw [if_pos hx] at h
      cases h
      have e1 : x = 13 := UInt8.toNat_inj.1 hx.1
      have e2 : y = 10 := UInt8.toNat_inj.1 hx.2
      rw [e1, e2]; rfl
    · rw [if_neg hx] at h
      obtain ⟨p, hp, he⟩ := Option.map_eq_some_iff.1 h
      cases he
      have := cutC_some (a := p.1) (b := p.2) (l := y :: r) hp
      rw [this]; rfl
theorem cutC_app : ∀ (a b : List UInt8), (∀ c ∈ a, c.toNat ≠ 13) → cutC (a ++ 13 :: 10 :: b) = some (a, b)
  | [], b, _ => by
    show (if (13 : UInt8).toNat = 13 ∧ (10 : UInt8).toNat = 10 then some ([], b) else _) = _
    rw [if_pos ⟨by decide, by decide⟩]
  | x :: a, b, h => by
    have ih := cutC_app a b (fun c hc => h c (by simp [hc]))
    have hx := h x (by simp)
    cases a with
    | nil =>
      show (if x.toNat = 13 ∧ (13 : UInt8).toNat = 10 then _ else (cutC (13 :: 10 :: b)).map _) = _
      rw [if_neg (fun h => hx h.1)]
      rw [List.nil_append] at ih
      rw [ih]; rfl
    | cons y a =>
      show (if x.toNat = 13 ∧ y.toNat = 10 then _ else (cutC (y :: (a ++ 13 :: 10 :: b))).map _) = _
      rw [if_neg (fun h => hx h.1)]
      rw [List.cons_append] at ih
      rw [ih]; rfl

theorem index_cut : ∀ (l : List UInt8), match cutC l with | none => Lib.index l [13, 10] = -1 | some p => Lib.index l [13, 10] = p.1.length
  | [] => rfl
  | [x] => by
    show Lib.index [x] [13, 10] = -1
    unfold Lib.index
    rw [if_neg (by simp [List.isPrefixOf]), if_pos (by rfl)]
  | x :: y :: r => by
    have ih := index_cut (y :: r)
    have e1 : List.isPrefixOf [13, 10] (x :: y :: r) = decide (x.toNat = 13 ∧ y.toNat = 10) := by
      show ((13 : UInt8) == x && ((10 : UInt8) == y && true)) = _
      rw [Bool.eq_iff_iff]
      simp only [Bool.and_true, Bool.and_eq_true, beq_iff_eq, decide_eq_true_eq]
      constructor
      · rintro ⟨rfl, rfl⟩; exact ⟨by decide, by decide⟩
      · rintro ⟨h1, h2⟩; exact ⟨(UInt8.toNat_inj.1 h1).symm, (UInt8.toNat_inj.1 h2).symm⟩
    by_cases h : x.toNat = 13 ∧ y.toNat = 10
    · have e2 : cutC (x :: y :: r) = some ([], r) := if_pos h
      rw [e2]
      show Lib.index (x :: y :: r) [13, 10] = 0
      unfold Lib.index
      rw [e1, if_pos (decide_eq_true h)]
    · have e2 : cutC (x :: y :: r) = (cutC (y :: r)).map fun p => (x :: p.1, p.2) := if_neg h
      have e3 : Lib.index (x :: y :: r) [13, 10] = if Lib.index (y :: r) [13, 10] == -1 then -1 else Lib.index (y :: r) [13, 10] + 1 := by
        conv => lhs; unfold Lib.index
        rw [e1, if_neg (by simpa using h)]
      rw [e2, e3]
      rcases hc : cutC (y :: r) with _ | p
      · rw [hc] at ih
        simp only at ih
        rw [ih]; rfl
      · rw [hc] at ih
        simp only at ih
        show (if Lib.index (y :: r) [13, 10] == -1 then (-1 : Int) else Lib.index (y :: r) [13, 10] + 1) = ((x :: p.1).length : Int)
        rw [ih, if_neg (by rw [beq_iff_eq]; omega), List.length_cons]
        omega
theorem lib_cut (l : List UInt8) : Lib.cut l [13, 10] = match cutC l with | none => (l, [], false) | some p => (p.1, p.2, true) := by
  have h := index_cut l
  unfold Lib.cut
  rcases hc : cutC l with _ | p
  · rw [hc] at h
    simp only at h
    rw [h, if_neg (by decide)]
  · rw [hc] at h
    simp only at h
    have hl := cutC_some (a := p.1) (b := p.2) hc
    rw [h, if_pos (by omega), Int.toNat_natCast]
    have e1 : l.take p.1.length = p.1 := by rw [hl]; exact List.take_left
    have e2 : l.drop (p.1.length + 2) = p.2 := by
      rw [hl, ← List.drop_drop, List.drop_left]
      rfl
    show (l.take p.1.length, l.drop (p.1.length + 2), true) = _
    rw [e1, e2]

/-- one that stands at a text's beginning, by its sign. -/
def dec1 : List UInt8 → Option (Rp1 × List UInt8)
  | [] => none
  | c :: r => (cutC r).bind fun p =>
    if c.toNat = 43 then some (⟨1, toB p.1, 0, 0⟩, p.2)
    else if c.toNat = 45 then (intL p.1).map fun n => (⟨2, ⟨#[]⟩, n, 0⟩, p.2)
    else if c.toNat = 58 then (intL p.1).map fun n => (⟨3, ⟨#[]⟩, n, 0⟩, p.2)
    else if c.toNat = 36 then (intL p.1).bind fun n =>
      if n = -1 then some (⟨5, ⟨#[]⟩, 0, 0⟩, p.2)
      else if n < 0 then none
      else if (lineL (p.2.take n.toNat) (p.2.drop n.toNat)).2.2 = 0 then some (⟨4, toB (p.2.take n.toNat), 0, 0⟩, (p.2.drop n.toNat).drop 2) else none
    else none
def decN : Nat → List UInt8 → List Rp1 → Option (List Rp1 × List UInt8)
  | 0, l, acc => some (acc, l)
  | k + 1, l, acc => (dec1 l).bind fun p => decN k p.2 (acc ++ [p.1])
def decI (l : List UInt8) (n : Int) : Option (Rep × List UInt8) := if n < 0 then none else (decN n.toNat l []).map fun q => (⟨6, ⟨#[]⟩, 0, q.1⟩, q.2)
def decLL (r : List UInt8) : Option (Rep × List UInt8) := (cutC r).bind fun p => (intL p.1).bind fun n => decI p.2 n
def decL : List UInt8 → Option (Rep × List UInt8)
  | [] => none
  | c :: r => if c.toNat = 42 then decLL r else (dec1 (c :: r)).map fun p => (p.1.rep, p.2)
theorem decL_42 (r : List UInt8) : decL (42 :: r) = decLL r := by
  show (if (42 : UInt8).toNat = 42 then decLL r else (dec1 (42 :: r)).map fun p => (p.1.rep, p.2)) = decLL r
  rw [if_pos (by decide)]
/-- what is handed back, and why not. -/
def wholeL (l : List UInt8) : Option Rep := match decL l with
  | some (r, []) => some r
  | _ => none
def ansC (l : List UInt8) : Int := match wholeL l with
  | none => 1
  | some r => repCode r
def ansR (l : List UInt8) : Rep := match wholeL l with
  | none => zeroR
  | some r => if repCode r = 0 then r else zeroR

theorem dig_no13 {u : Nat} : ∀ c ∈ Lib.decDigits u, c.toNat ≠ 13 := fun c hc => by
  have := dec_dig u c hc
  unfold digB at this
  simp at this
  omega
theorem itoa_no13 {n : Int} : ∀ c ∈ Lib.itoa n, c.toNat ≠ 13 := fun c hc => by
  unfold Lib.itoa at hc
  split at hc
  · rcases List.mem_cons.1 hc with rfl | hc
    · decide
    · exact dig_no13 c hc
  · exact dig_no13 c hc
theorem word_no13 {s : ByteArray} (h : wordS s = true) : ∀ c ∈ s.data.toList, c.toNat ≠ 13 := fun c hc h13 => by
  have := List.all_eq_true.1 h c hc
  rw [h13] at this
  exact absurd this (by decide)
theorem dec_itoa (n : Nat) : Lib.itoa (n : Int) = Lib.decDigits n := by
  unfold Lib.itoa
  rw [if_neg (by omega)]
  simp
theorem int_itoa {n : Int} (h : isInt n = true) : intL (Lib.itoa n) = some n := intL_iff.2 ⟨h, rfl⟩
theorem small_int {n : Int} (h : -100000 ≤ n ∧ n ≤ 100000) : isInt n = true := by
  unfold isInt
  rw [decide_eq_true (by omega), decide_eq_true (by omega)]; rfl
/-- what is told is read. -/
theorem dec1_told {x : Rp1} (h : Right1 x) (m : List UInt8) : dec1 (oneBs x ++ m) = some (x, m) := by
  obtain ⟨k, t, n, sub⟩ := x
  have hs : sub = 0 := h.sub
  subst hs
  have hk : 1 ≤ k ∧ k ≤ 5 := h.kind
  have hd : k = 1 ∨ k = 2 ∨ k = 3 ∨ k = 4 ∨ k = 5 := by omega
  rcases hd with rfl | rfl | rfl | rfl | rfl
  · have hw := h.word rfl
    have hn : n = 0 := h.num (show ¬ (1 : Int) = 2 by decide) (show ¬ (1 : Int) = 3 by decide)
    subst hn
    have e : oneBs ⟨1, t, 0, 0⟩ ++ m = 43 :: (t.data.toList ++ 13 :: 10 :: m) := by show 43 :: (t.data.toList ++ [13, 10]) ++ m = _; simp
    rw [e]
    show (cutC (t.data.toList ++ 13 :: 10 :: m)).bind _ = _
    rw [cutC_app _ _ (word_no13 hw.2.2), Option.bind_some]
    simp only
    rw [if_pos (show (43 : UInt8).toNat = 43 by decide), toB_of]
  · have ht : t = ⟨#[]⟩ := h.text (show ¬ (2 : Int) = 1 by decide) (show ¬ (2 : Int) = 4 by decide)
    subst ht
    have hr := h.err rfl
    have e : oneBs ⟨2, ⟨#[]⟩, n, 0⟩ ++ m = 45 :: (Lib.itoa n ++ 13 :: 10 :: m) := by show 45 :: (Lib.itoa n ++ [13, 10]) ++ m = _; simp
    rw [e]
    show (cutC (Lib.itoa n ++ 13 :: 10 :: m)).bind _ = _
    rw [cutC_app _ _ itoa_no13]
    rw [Option.bind_some]
    simp only
    rw [if_neg (show ¬ (45 : UInt8).toNat = 43 by decide), if_pos (show (45 : UInt8).toNat = 45 by decide), int_itoa (small_int (by have : 1 ≤ n ∧ n ≤ 8 := hr; omega))]
    rfl
  · have ht : t = ⟨#[]⟩ := h.text (show ¬ (3 : Int) = 1 by decide) (show ¬ (3 : Int) = 4 by decide)
    subst ht
    have e : oneBs ⟨3, ⟨#[]⟩, n, 0⟩ ++ m = 58 :: (Lib.itoa n ++ 13 :: 10 :: m) := by show 58 :: (Lib.itoa n ++ [13, 10]) ++ m = _; simp
    rw [e]
    show (cutC (Lib.itoa n ++ 13 :: 10 :: m)).bind _ = _
    rw [cutC_app _ _ itoa_no13]
    rw [Option.bind_some]
    simp only
    rw [if_neg (show ¬ (58 : UInt8).toNat = 43 by decide), if_neg (show ¬ (58 : UInt8).toNat = 45 by decide), if_pos (show (58 : UInt8).toNat = 58 by decide), int_itoa (h.int rfl)]
    rfl
  · have hn : n = 0 := h.num (show ¬ (4 : Int) = 2 by decide) (show ¬ (4 : Int) = 3 by decide)
    subst hn
    have h60 : t.size ≤ 60 := h.bytes rfl
    have hl : t.data.toList.length = t.size := by simp
    have e : oneBs ⟨4, t, 0, 0⟩ ++ m = 36 :: (Lib.itoa (t.size : Int) ++ 13 :: 10 :: (t.data.toList ++ 13 :: 10 :: m)) := by
      show 36 :: (Lib.decDigits t.size ++ 13 :: 10 :: (t.data.toList ++ [13, 10])) ++ m = _
      rw [dec_itoa]; simp
    rw [e]
    show (cutC (Lib.itoa (t.size : Int) ++ 13 :: 10 :: (t.data.toList ++ 13 :: 10 :: m))).bind _ = _
    rw [cutC_app _ _ itoa_no13]
    rw [Option.bind_some]
    simp only
    rw [if_neg (show ¬ (36 : UInt8).toNat = 43 by decide), if_neg (show ¬ (36 : UInt8).toNat = 45 by decide), if_neg (show ¬ (36 : UInt8).toNat = 58 by decide), if_pos (show (36 : UInt8).toNat = 36 by decide), int_itoa (small_int (by omega))]
    rw [Option.bind_some, if_neg (show ¬ (t.size : Int) = -1 by omega), if_neg (show ¬ (t.size : Int) < 0 by omega), Int.toNat_natCast]
    rw [List.take_append_of_le_length (by omega), List.take_of_length_le (by omega), List.drop_append_of_le_length (by omega), List.drop_of_length_le (by omega), List.nil_append]
    have hline : lineL t.data.toList (13 :: 10 :: m) = (t.data.toList, m, 0) := by
      show (if (13 : UInt8).toNat = 13 then (if (10 : UInt8).toNat = 10 then (t.data.toList, m, (0 : Int)) else ([], [], 1)) else ([], [], 1)) = _
      rw [if_pos (by decide), if_pos (by decide)]
    rw [hline, if_pos rfl, toB_of]
    rfl
  · have ht : t = ⟨#[]⟩ := h.text (show ¬ (5 : Int) = 1 by decide) (show ¬ (5 : Int) = 4 by decide)
    subst ht
    have hn : n = 0 := h.num (show ¬ (5 : Int) = 2 by decide) (show ¬ (5 : Int) = 3 by decide)
    subst hn
    have e1 : Lib.itoa (-1) = [45, 49] := by
      unfold Lib.itoa
      rw [if_pos (by decide)]
      show 45 :: Lib.decDigits 1 = _
      rw [Lib.decDigits, dif_pos (by decide)]; rfl
    have e : oneBs ⟨5, ⟨#[]⟩, 0, 0⟩ ++ m = 36 :: (Lib.itoa (-1) ++ 13 :: 10 :: m) := by rw [e1]; rfl
    rw [e]
    show (cutC (Lib.itoa (-1) ++ 13 :: 10 :: m)).bind _ = _
    rw [cutC_app _ _ itoa_no13]
    rw [Option.bind_some]
    simp only
    rw [if_neg (show ¬ (36 : UInt8).toNat = 43 by decide), if_neg (show ¬ (36 : UInt8).toNat = 45 by decide), if_neg (show ¬ (36 : UInt8).toNat = 58 by decide), if_pos (show (36 : UInt8).toNat = 36 by decide), int_itoa (small_int (by omega))]
    rfl
theorem decN_told : ∀ (l acc : List Rp1) (m : List UInt8), (∀ x ∈ l, Right1 x) → decN l.length (l.flatMap oneBs ++ m) acc = some (acc ++ l, m)
  | [], acc, m, _ => by simp [decN]
  | x :: l, acc, m, h => by
    have e : (x :: l).flatMap oneBs ++ m = oneBs x ++ (l.flatMap oneBs ++ m) := by simp
    rw [e, List.length_cons]
    show (dec1 (oneBs x ++ (l.flatMap oneBs ++ m))).bind _ = _
    rw [dec1_told (h x (by simp))]
    show decN l.length (l.flatMap oneBs ++ m) (acc ++ [x]) = _
    rw [decN_told l _ m (fun y hy => h y (by simp [hy]))]
    simp
theorem decL_told {r : Rep} (h : repCode r = 0) (m : List UInt8) : decL (repBs r ++ m) = some (r, m) := by
  obtain ⟨k, t, n, l⟩ := r
  rcases rep_right h with ⟨hk, h1, hl⟩ | ⟨hk, ht, hn, hl, hall⟩
  · have hk : k ≠ 6 := hk
    have hl : l = [] := hl
    subst hl
    have e : repBs ⟨k, t, n, []⟩ = oneBs ⟨k, t, n, 0⟩ := if_neg hk
    have hd := dec1_told h1 m
    have e2 : (⟨k, t, n, []⟩ : Rep).one = ⟨k, t, n, 0⟩ := rfl
    rw [e2] at hd h1
    rw [e]
    have hkk : 1 ≤ k ∧ k ≤ 5 := h1.kind
    have hne : ∃ c q, oneBs ⟨k, t, n, 0⟩ = c :: q ∧ c.toNat ≠ 42 := by
      unfold oneBs
      simp only
      split
      · exact ⟨_, _, rfl, by decide⟩
      · split
        · exact ⟨_, _, rfl, by decide⟩
        · split
          · exact ⟨_, _, rfl, by decide⟩
          · split
            · exact ⟨_, _, rfl, by decide⟩
            · exact ⟨_, _, rfl, by decide⟩
    obtain ⟨c, q, hc, h42⟩ := hne
    rw [hc] at hd ⊢
    show (if c.toNat = 42 then _ else (dec1 (c :: q ++ m)).map _) = _
    rw [if_neg h42, hd]
    rfl
  · have hk : k = 6 := hk
    have ht : t = ⟨#[]⟩ := ht
    have hn : n = 0 := hn
    subst hk ht hn
    have hl : l.length ≤ 300 := hl
    have e : repBs ⟨6, ⟨#[]⟩, 0, l⟩ ++ m = 42 :: (Lib.itoa (l.length : Int) ++ 13 :: 10 :: (l.flatMap oneBs ++ m)) := by
      show 42 :: (Lib.decDigits l.length ++ 13 :: 10 :: l.flatMap oneBs) ++ m = _
      rw [dec_itoa]; simp
    rw [e]
    rw [decL_42]
    unfold decLL
    rw [cutC_app _ _ itoa_no13, Option.bind_some]
    simp only
    rw [int_itoa (small_int (by omega)), Option.bind_some]
    unfold decI
    rw [if_neg (by omega), Int.toNat_natCast, decN_told l [] m hall]
    rfl
/-- nothing else is read. -/
theorem dec1_only {l m : List UInt8} {x : Rp1} (hd : dec1 l = some (x, m)) (hr : oneCode x = 0) : l = oneBs x ++ m := by
  cases l with
  | nil => cases hd
  | cons c r =>
    obtain ⟨p, hp, h⟩ := Option.bind_eq_some_iff.1 hd
    clear hd
    obtain ⟨a, b⟩ := p
    have hcut := cutC_some hp
    simp only at h
    by_cases h1 : c.toNat = 43
    · rw [if_pos h1] at h
      cases h
      have hc : c = 43 := UInt8.toNat_inj.1 h1
      subst hc
      rw [hcut]
      show _ = 43 :: ((toB a).data.toList ++ [13, 10]) ++ m
      rw [toB_list]; simp
    · rw [if_neg h1] at h
      by_cases h2 : c.toNat = 45
      · rw [if_pos h2] at h
        obtain ⟨n, hn, he⟩ := Option.map_eq_some_iff.1 h
        cases he
        have hc : c = 45 := UInt8.toNat_inj.1 h2
        subst hc
        rw [hcut, (intL_iff.1 hn).2]
        show _ = 45 :: (Lib.itoa n ++ [13, 10]) ++ m
        simp
      · rw [if_neg h2] at h
        by_cases h3 : c.toNat = 58
        · rw [if_pos h3] at h
          obtain ⟨n, hn, he⟩ := Option.map_eq_some_iff.1 h
          cases he
          have hc : c = 58 := UInt8.toNat_inj.1 h3
          subst hc
          rw [hcut, (intL_iff.1 hn).2]
          show _ = 58 :: (Lib.itoa n ++ [13, 10]) ++ m
          simp
        · rw [if_neg h3] at h
          by_cases h4 : c.toNat = 36
          · rw [if_pos h4] at h
            have hc : c = 36 := UInt8.toNat_inj.1 h4
            subst hc
            obtain ⟨n, hn, h⟩ := Option.bind_eq_some_iff.1 h
            have hi := (intL_iff.1 hn).2
            by_cases hm1 : n = -1
            · rw [if_pos hm1] at h
              cases h
              have e1 : Lib.itoa (-1) = [45, 49] := by
                unfold Lib.itoa
                rw [if_pos (by decide)]
                show 45 :: Lib.decDigits 1 = _
                rw [Lib.decDigits, dif_pos (by decide)]; rfl
              rw [hcut, hi, hm1, e1]
              rfl
            · rw [if_neg hm1] at h
              by_cases hneg : n < 0
              · rw [if_pos hneg] at h; cases h
              · rw [if_neg hneg] at h
                by_cases hline : (lineL (b.take n.toNat) (b.drop n.toNat)).2.2 = 0
                · rw [if_pos hline] at h
                  cases h
                  obtain ⟨k, rfl⟩ : ∃ k : Nat, n = k := ⟨n.toNat, by omega⟩
                  rw [Int.toNat_natCast] at hline ⊢
                  have hb : b = b.take k ++ 13 :: 10 :: (b.drop k).drop 2 := by
                    conv => lhs; rw [← List.take_append_drop k b]
                    congr 1
                    match hd : b.drop k with
                    | [] => rw [hd] at hline; exact absurd (show (8 : Int) = 0 from hline) (by decide)
                    | [x] =>
                      rw [hd] at hline
                      by_cases hx : x.toNat = 13
                      · have : lineL (b.take k) [x] = ([], [], 8) := if_pos hx
                        rw [this] at hline; exact absurd hline (by decide)
                      · have : lineL (b.take k) [x] = ([], [], 1) := if_neg hx
                        rw [this] at hline; exact absurd hline (by decide)
                    | x :: y :: u =>
                      rw [hd] at hline
                      by_cases hx : x.toNat = 13
                      · by_cases hy : y.toNat = 10
                        · have e1 : x = 13 := UInt8.toNat_inj.1 hx
                          have e2 : y = 10 := UInt8.toNat_inj.1 hy
                          rw [e1, e2]; rfl
                        · have : lineL (b.take k) (x :: y :: u) = ([], [], 1) := by
                            show (if x.toNat = 13 then (if y.toNat = 10 then (List.take k b, u, (0 : Int)) else ([], [], 1)) else ([], [], 1)) = _
                            rw [if_pos hx, if_neg hy]
                          rw [this] at hline; exact absurd hline (by decide)
                      · have : lineL (b.take k) (x :: y :: u) = ([], [], 1) := by
                          show (if x.toNat = 13 then (if y.toNat = 10 then (List.take k b, u, (0 : Int)) else ([], [], 1)) else ([], [], 1)) = _
                          rw [if_neg hx]
                        rw [this] at hline; exact absurd hline (by decide)
                  have hlen : (b.take k).length = k := by
                    have hne : b.drop k ≠ [] := fun h0 => by rw [h0] at hline; exact absurd (show (8 : Int) = 0 from hline) (by decide)
                    have := drop_ne hne
                    rw [List.length_take]; omega
                  rw [hcut, hi, dec_itoa]
                  show 36 :: (Lib.decDigits k ++ 13 :: 10 :: b) = 36 :: (Lib.decDigits (toB (b.take k)).size ++ 13 :: 10 :: ((toB (b.take k)).data.toList ++ [13, 10])) ++ (b.drop k).drop 2
                  rw [toB_size, toB_list, hlen]
                  conv => lhs; rw [hb]
                  simp
                · rw [if_neg hline] at h; cases h
          · rw [if_neg h4] at h; cases h
theorem decN_only : ∀ (k : Nat) (l : List UInt8) (acc out : List Rp1) (m : List UInt8), decN k l acc = some (out, m) → (∀ x ∈ out, oneCode x = 0) → ∃ more, out = acc ++ more ∧ more.length = k ∧ l = more.flatMap oneBs ++ m
  | 0, l, acc, out, m, h, _ => by
    cases h
    exact ⟨[], by simp, rfl, by simp⟩
  | k + 1, l, acc, out, m, h, hr => by
    obtain ⟨p, hp, h⟩ := Option.bind_eq_some_iff.1 h
    obtain ⟨x, b⟩ := p
    obtain ⟨more, h1, h2, h3⟩ := decN_only k b (acc ++ [x]) out m h hr
    have hx : oneCode x = 0 := hr x (by rw [h1]; simp)
    have hl := dec1_only hp hx
    refine ⟨x :: more, by rw [h1]; simp, by rw [List.length_cons, h2], ?_⟩
    rw [hl, h3]
    simp
theorem decL_only {l m : List UInt8} {r : Rep} (h : decL l = some (r, m)) (hr : repCode r = 0) : l = repBs r ++ m := by
  cases l with
  | nil => cases h
  | cons c q =>
    by_cases h42 : c.toNat = 42
    · have hc : c = 42 := UInt8.toNat_inj.1 h42
      subst hc
      have h' : decLL q = some (r, m) := by
        rw [← decL_42]; exact h
      unfold decLL at h'
      obtain ⟨p, hp, h'⟩ := Option.bind_eq_some_iff.1 h'
      obtain ⟨a, b⟩ := p
      obtain ⟨n, hn, h'⟩ := Option.bind_eq_some_iff.1 h'
      simp only at hn h'
      unfold decI at h'
      by_cases hneg : n < 0
      · rw [if_pos hneg] at h'; cases h'
      · rw [if_neg hneg] at h'
        obtain ⟨w, hw, he⟩ := Option.map_eq_some_iff.1 h'
        cases he
        obtain ⟨k, rfl⟩ : ∃ k : Nat, n = k := ⟨n.toNat, by omega⟩
        rw [Int.toNat_natCast] at hw
        rcases rep_right hr with ⟨hk, _, _⟩ | ⟨_, _, _, _, hall⟩
        · exact absurd rfl hk
        have hall' : ∀ x ∈ w.1, oneCode x = 0 := rep_list hr rfl
        obtain ⟨more, h1, h2, h3⟩ := decN_only k b [] w.1 w.2 hw hall'
        rw [List.nil_append] at h1
        rw [cutC_some hp, (intL_iff.1 hn).2, dec_itoa]
        show 42 :: (Lib.decDigits k ++ 13 :: 10 :: b) = 42 :: (Lib.decDigits w.1.length ++ 13 :: 10 :: w.1.flatMap oneBs) ++ w.2
        rw [h1, h2, h3]
        simp
    · have h' : (dec1 (c :: q)).map (fun p => (p.1.rep, p.2)) = some (r, m) := by
        have : decL (c :: q) = (dec1 (c :: q)).map (fun p => (p.1.rep, p.2)) := if_neg h42
        rw [← this]; exact h
      obtain ⟨p, hp, he⟩ := Option.map_eq_some_iff.1 h'
      obtain ⟨x, b⟩ := p
      cases he
      rcases rep_right hr with ⟨hk, h1, _⟩ | ⟨hk, _⟩
      · have hsub : x.sub = 0 := by
          obtain ⟨p2, hp2, h2⟩ := Option.bind_eq_some_iff.1 hp
          split at h2
          · cases h2; rfl
          · split at h2
            · obtain ⟨_, _, he⟩ := Option.map_eq_some_iff.1 h2; cases he; rfl
            · split at h2
              · obtain ⟨_, _, he⟩ := Option.map_eq_some_iff.1 h2; cases he; rfl
              · split at h2
                · obtain ⟨_, _, h3⟩ := Option.bind_eq_some_iff.1 h2
                  split at h3
                  · cases h3; rfl
                  · split at h3
                    · cases h3
                    · split at h3
                      · cases h3; rfl
                      · cases h3
                · cases h2
        have hone : x.rep.one = x := by
          obtain ⟨k, t, n, s⟩ := x
          have : s = 0 := hsub
          subst this; rfl
        have hk' : x.kind ≠ 6 := hk
        have hx : oneCode x = 0 := by
          unfold repCode at hr
          rw [if_pos hk, hone] at hr
          exact hr
        have e : repBs x.rep = oneBs x := by
          have : repBs x.rep = oneBs x.rep.one := if_neg hk
          rw [this, hone]
        show c :: q = repBs x.rep ++ b
        rw [e]
        exact dec1_only hp hx
      · have hk : x.kind = 6 := hk
        obtain ⟨p2, hp2, h2⟩ := Option.bind_eq_some_iff.1 hp
        exfalso
        split at h2
        · cases h2; exact absurd hk (by show ¬ (1 : Int) = 6; decide)
        · split at h2
          · obtain ⟨_, _, he⟩ := Option.map_eq_some_iff.1 h2; cases he; exact absurd hk (by show ¬ (2 : Int) = 6; decide)
          · split at h2
            · obtain ⟨_, _, he⟩ := Option.map_eq_some_iff.1 h2; cases he; exact absurd hk (by show ¬ (3 : Int) = 6; decide)
            · split at h2
              · obtain ⟨_, _, h3⟩ := Option.bind_eq_some_iff.1 h2
                split at h3
                · cases h3; exact absurd hk (by show ¬ (5 : Int) = 6; decide)
                · split at h3
                  · cases h3
                  · split at h3
                    · cases h3; exact absurd hk (by show ¬ (4 : Int) = 6; decide)
                    · cases h3
              · cases h2
/-- what is encoded is decoded; what is decoded is encoded so. -/
theorem ans_told {r : Rep} (h : repCode r = 0) : ansC (repBs r) = 0 ∧ ansR (repBs r) = r := by
  have hd := decL_told h []
  rw [List.append_nil] at hd
  have hw : wholeL (repBs r) = some r := by unfold wholeL; rw [hd]
  unfold ansC ansR
  rw [hw]
  exact ⟨h, if_pos h⟩
theorem ans_back {l : List UInt8} (h : ansC l = 0) : repCode (ansR l) = 0 ∧ repBs (ansR l) = l := by
  unfold ansC at h
  rcases hw : wholeL l with _ | r
  · rw [hw] at h; exact absurd h (by decide)
  · rw [hw] at h
    have ha : ansR l = r := by unfold ansR; rw [hw]; exact if_pos h
    rw [ha]
    refine ⟨h, ?_⟩
    unfold wholeL at hw
    split at hw
    · rename_i r' hd
      cases hw
      have := decL_only hd h
      rw [List.append_nil] at this
      exact this.symm
    · cases hw
theorem ans_no {l : List UInt8} (h : ansC l ≠ 0) : ansR l = zeroR := by
  unfold ansC at h
  unfold ansR
  rcases hw : wholeL l with _ | r
  · rfl
  · rw [hw] at h; exact if_neg h
/-- no reply's bytes are the beginning of another one's. -/
theorem rep_prefix {r q : Rep} (h : repCode r = 0) (k : repCode q = 0) {m : List UInt8} (e : repBs q = repBs r ++ m) : q = r := by
  have h1 := decL_told h m
  have h2 := decL_told k []
  rw [List.append_nil, e, h1] at h2
  cases h2
  rfl
end Go.Proofs.YtoabjcnacnojbaaDoor
