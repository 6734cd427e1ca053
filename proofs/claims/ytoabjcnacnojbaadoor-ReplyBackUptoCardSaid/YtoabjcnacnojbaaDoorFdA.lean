/- Commands as bytes, plain: what is read from a text's beginning; a stream of them; pieces of a stream; what is told is read. No walk. -/
import Derived.Test.YtoabjcnacnojbaaDoorNuA
set_option linter.unusedVariables false
set_option linter.unusedSimpArgs false
namespace Go.Proofs.YtoabjcnacnojbaaDoor

def toB (l : List UInt8) : ByteArray := ⟨l.toArray⟩
theorem toB_size (l : List UInt8) : (toB l).size = l.length := by show l.toArray.size = _; simp
theorem toB_list (l : List UInt8) : (toB l).data.toList = l := by simp [toB]
theorem toB_of (b : ByteArray) : toB b.data.toList = b := by cases b; simp [toB]
theorem toB_inj {a b : List UInt8} (h : toB a = toB b) : a = b := by rw [← toB_list a, h, toB_list]

def endL (n : Nat) : List UInt8 → Nat × List UInt8 × Int
  | [] => (0, [], 8)
  | x :: r => if x.toNat = 10 then (n, r, 0) else (0, [], 1)
def cntL (most : Nat) : List UInt8 → Nat → Nat → Nat × List UInt8 × Int
  | [], _, _ => (0, [], 8)
  | c :: r, n, d =>
    if c.toNat = 13 ∧ 0 < d then endL n r
    else if digB c = false ∨ (0 < d ∧ n = 0) then (0, [], 1)
    else if most < 10 * n + (c.toNat - 48) then (0, [], 2)
    else cntL most r (10 * n + (c.toNat - 48)) (d + 1)
def countL (sign most : Nat) : List UInt8 → Nat × List UInt8 × Int
  | [] => (0, [], 8)
  | c :: r => if c.toNat = sign then cntL most r 0 0 else (0, [], 1)
def lineL (w : List UInt8) : List UInt8 → List UInt8 × List UInt8 × Int
  | [] => ([], [], 8)
  | [x] => if x.toNat = 13 then ([], [], 8) else ([], [], 1)
  | x :: y :: u => if x.toNat = 13 then (if y.toNat = 10 then (w, u, 0) else ([], [], 1)) else ([], [], 1)
def tailL (n : Nat) (r : List UInt8) : List UInt8 × List UInt8 × Int := lineL (r.take n) (r.drop n)
def wordL (r : List UInt8) : List UInt8 × List UInt8 × Int := if (countL 36 60 r).2.2 = 0 then tailL (countL 36 60 r).1 (countL 36 60 r).2.1 else ([], [], (countL 36 60 r).2.2)
def wordsA : Nat → List UInt8 → List ByteArray → List ByteArray × List UInt8 × Int
  | 0, r, acc => (acc, r, 0)
  | k + 1, r, acc => if (wordL r).2.2 = 0 then wordsA k (wordL r).2.1 (acc ++ [toB (wordL r).1]) else ([], [], (wordL r).2.2)
def cmdL (r : List UInt8) : List ByteArray × List UInt8 × Int :=
  if (countL 42 12 r).2.2 ≠ 0 then ([], [], (countL 42 12 r).2.2) else if (countL 42 12 r).1 = 0 then ([], [], 1) else wordsA (countL 42 12 r).1 (countL 42 12 r).2.1 []
def feedF : Nat → List UInt8 → List (List ByteArray) → List (List ByteArray) × List UInt8 × Int
  | 0, l, acc => (acc, l, 0)
  | f + 1, l, acc => if (cmdL l).2.2 = 8 then (acc, l, 0) else if (cmdL l).2.2 = 0 then feedF f (cmdL l).2.1 (acc ++ [(cmdL l).1]) else (acc, [], (cmdL l).2.2)
def feedA (l : List UInt8) (acc : List (List ByteArray)) : List (List ByteArray) × List UInt8 × Int := feedF (l.length + 1) l acc
def feedL (l : List UInt8) : List (List ByteArray) × List UInt8 × Int := feedA l []

/-- an answer f(l) of three: what is short, what is right (and what is left), what is wrong, as more comes behind. -/
structure Grows {α : Type} (z : α) (f : List UInt8 → α × List UInt8 × Int) : Prop where
  code : ∀ l, (f l).2.2 = 0 ∨ (f l).2.2 = 1 ∨ (f l).2.2 = 2 ∨ (f l).2.2 = 8
  less : ∀ l, (f l).2.2 = 0 → (f l).2.1.length ≤ l.length
  good : ∀ l m, (f l).2.2 = 0 → f (l ++ m) = ((f l).1, (f l).2.1 ++ m, 0)
  bad : ∀ l m, (f l).2.2 ≠ 0 → (f l).2.2 ≠ 8 → f (l ++ m) = f l
  no : ∀ l, (f l).2.2 ≠ 0 → f l = (z, [], (f l).2.2)

theorem endG (n : Nat) : Grows 0 (endL n) := by
  have e1 : ∀ (x : UInt8) (t : List UInt8), x.toNat = 10 → endL n (x :: t) = (n, t, 0) := fun x t h => if_pos h
  have e2 : ∀ (x : UInt8) (t : List UInt8), ¬ x.toNat = 10 → endL n (x :: t) = (0, [], 1) := fun x t h => if_neg h
  refine ⟨fun l => ?_, fun l h => ?_, fun l m h => ?_, fun l m h h8 => ?_, fun l h => ?_⟩ <;> rcases l with _ | ⟨x, r⟩
  · exact .inr (.inr (.inr rfl))
  · by_cases hx : x.toNat = 10
    · rw [e1 x r hx]; exact .inl rfl
    · rw [e2 x r hx]; exact .inr (.inl rfl)
  · exact Nat.le_refl _
  · by_cases hx : x.toNat = 10
    · rw [e1 x r hx]; exact Nat.le_succ _
    · rw [e2 x r hx] at h; exact absurd h (by decide)
  · exact absurd (show (8 : Int) = 0 from h) (by decide)
  · by_cases hx : x.toNat = 10
    · rw [List.cons_append, e1 x r hx, e1 x _ hx]
    · rw [e2 x r hx] at h; exact absurd h (by decide)
  · exact absurd rfl h8
  · by_cases hx : x.toNat = 10
    · rw [e1 x r hx] at h; exact absurd rfl h
    · rw [List.cons_append, e2 x r hx, e2 x _ hx]
  · rfl
  · by_cases hx : x.toNat = 10
    · rw [e1 x r hx] at h; exact absurd rfl h
    · rw [e2 x r hx]
theorem cntG (most : Nat) : ∀ (l : List UInt8) (n d : Nat),
    ((cntL most l n d).2.2 = 0 ∨ (cntL most l n d).2.2 = 1 ∨ (cntL most l n d).2.2 = 2 ∨ (cntL most l n d).2.2 = 8) ∧
    ((cntL most l n d).2.2 = 0 → (cntL most l n d).2.1.length ≤ l.length) ∧
    (∀ m, (cntL most l n d).2.2 = 0 → cntL most (l ++ m) n d = ((cntL most l n d).1, (cntL most l n d).2.1 ++ m, 0)) ∧
    (∀ m, (cntL most l n d).2.2 ≠ 0 → (cntL most l n d).2.2 ≠ 8 → cntL most (l ++ m) n d = cntL most l n d) ∧
    ((cntL most l n d).2.2 ≠ 0 → cntL most l n d = (0, [], (cntL most l n d).2.2))
  | [], n, d => ⟨.inr (.inr (.inr rfl)), (fun h => absurd (show (8 : Int) = 0 from h) (by decide)), (fun m h => absurd (show (8 : Int) = 0 from h) (by decide)), (fun m h h8 => absurd rfl h8), fun _ => rfl⟩
  | c :: r, n, d => by
    by_cases h1 : c.toNat = 13 ∧ 0 < d
    · have e : ∀ t, cntL most (c :: t) n d = endL n t := fun t => by rw [cntL, if_pos h1]
      have G := endG n
      rw [e]
      refine ⟨G.code r, fun h => Nat.le_succ_of_le (G.less r h), fun m h => ?_, fun m h h8 => ?_, G.no r⟩
      · rw [List.cons_append, e]; exact G.good r m h
      · rw [List.cons_append, e]; exact G.bad r m h h8
    · by_cases h2 : digB c = false ∨ (0 < d ∧ n = 0)
      · have e : ∀ t, cntL most (c :: t) n d = (0, [], 1) := fun t => by rw [cntL, if_neg h1, if_pos h2]
        rw [e]
        refine ⟨.inr (.inl rfl), fun h => absurd h (by decide), fun m h => absurd h (by decide), fun m h h8 => ?_, fun _ => rfl⟩
        rw [List.cons_append, e]
      · by_cases h3 : most < 10 * n + (c.toNat - 48)
        · have e : ∀ t, cntL most (c :: t) n d = (0, [], 2) := fun t => by rw [cntL, if_neg h1, if_neg h2, if_pos h3]
          rw [e]
          refine ⟨.inr (.inr (.inl rfl)), fun h => absurd h (by decide), fun m h => absurd h (by decide), fun m h h8 => ?_, fun _ => rfl⟩
          rw [List.cons_append, e]
        · have e : ∀ t, cntL most (c :: t) n d = cntL most t (10 * n + (c.toNat - 48)) (d + 1) := fun t => by rw [cntL, if_neg h1, if_neg h2, if_neg h3]
          obtain ⟨g1, g2, g3, g4, g5⟩ := cntG most r (10 * n + (c.toNat - 48)) (d + 1)
          rw [e]
          refine ⟨g1, fun h => Nat.le_succ_of_le (g2 h), fun m h => ?_, fun m h h8 => ?_, g5⟩
          · rw [List.cons_append, e]; exact g3 m h
          · rw [List.cons_append, e]; exact g4 m h h8
theorem countG (sign most : Nat) : Grows 0 (countL sign most) := by
  have e1 : ∀ (c : UInt8) (t : List UInt8), c.toNat = sign → countL sign most (c :: t) = cntL most t 0 0 := fun c t h => if_pos h
  have e2 : ∀ (c : UInt8) (t : List UInt8), ¬ c.toNat = sign → countL sign most (c :: t) = (0, [], 1) := fun c t h => if_neg h
  refine ⟨fun l => ?_, fun l h => ?_, fun l m h => ?_, fun l m h h8 => ?_, fun l h => ?_⟩ <;> rcases l with _ | ⟨c, r⟩
  · exact .inr (.inr (.inr rfl))
  · by_cases hx : c.toNat = sign
    · rw [e1 c r hx]; exact (cntG most r 0 0).1
    · rw [e2 c r hx]; exact .inr (.inl rfl)
  · exact Nat.le_refl _
  · by_cases hx : c.toNat = sign
    · rw [e1 c r hx] at h ⊢; exact Nat.le_succ_of_le ((cntG most r 0 0).2.1 h)
    · rw [e2 c r hx] at h; exact absurd h (by decide)
  · exact absurd (show (8 : Int) = 0 from h) (by decide)
  · by_cases hx : c.toNat = sign
    · rw [e1 c r hx] at h ⊢; rw [List.cons_append, e1 c _ hx]; exact (cntG most r 0 0).2.2.1 m h
    · rw [e2 c r hx] at h; exact absurd h (by decide)
  · exact absurd rfl h8
  · by_cases hx : c.toNat = sign
    · rw [e1 c r hx] at h h8 ⊢; rw [List.cons_append, e1 c _ hx]; exact (cntG most r 0 0).2.2.2.1 m h h8
    · rw [List.cons_append, e2 c r hx, e2 c _ hx]
  · rfl
  · by_cases hx : c.toNat = sign
    · rw [e1 c r hx] at h ⊢; exact (cntG most r 0 0).2.2.2.2 h
    · rw [e2 c r hx]
theorem countLess (sign most : Nat) {l : List UInt8} (h : (countL sign most l).2.2 = 0) : (countL sign most l).2.1.length < l.length := by
  cases l with
  | nil => exact absurd (show (8 : Int) = 0 from h) (by decide)
  | cons c r =>
    by_cases hc : c.toNat = sign
    · have e : countL sign most (c :: r) = cntL most r 0 0 := by rw [countL, if_pos hc]
      rw [e] at h ⊢
      have := (cntG most r 0 0).2.1 h
      rw [List.length_cons]
      omega
    · rw [countL, if_neg hc] at h
      exact absurd h (by decide)
theorem cntMost (most : Nat) : ∀ (l : List UInt8) (n d : Nat), n ≤ most → (cntL most l n d).1 ≤ most
  | [], n, d, h => Nat.zero_le _
  | c :: r, n, d, h => by
    rw [cntL]
    split
    · cases r with
      | nil => exact Nat.zero_le _
      | cons x r =>
        show (if x.toNat = 10 then (n, r, (0 : Int)) else (0, [], 1)).1 ≤ most
        split
        · exact h
        · exact Nat.zero_le _
    · split
      · exact Nat.zero_le _
      · split
        · exact Nat.zero_le _
        · exact cntMost most r _ _ (by omega)
theorem countMost (sign most : Nat) (l : List UInt8) : (countL sign most l).1 ≤ most := by
  cases l with
  | nil => exact Nat.zero_le _
  | cons c r =>
    rw [countL]
    split
    · exact cntMost most r 0 0 (Nat.zero_le _)
    · exact Nat.zero_le _
theorem lineG (w l : List UInt8) :
    ((lineL w l).2.2 = 0 ∨ (lineL w l).2.2 = 1 ∨ (lineL w l).2.2 = 2 ∨ (lineL w l).2.2 = 8) ∧
    ((lineL w l).2.2 = 0 → (lineL w l).2.1.length < l.length ∧ (lineL w l).1 = w ∧ l ≠ []) ∧
    (∀ m, (lineL w l).2.2 = 0 → lineL w (l ++ m) = ((lineL w l).1, (lineL w l).2.1 ++ m, 0)) ∧
    (∀ m w', (lineL w l).2.2 ≠ 0 → (lineL w l).2.2 ≠ 8 → l ≠ [] ∧ lineL w' (l ++ m) = lineL w l) ∧
    ((lineL w l).2.2 ≠ 0 → lineL w l = ([], [], (lineL w l).2.2)) := by
  match l with
  | [] => exact ⟨.inr (.inr (.inr rfl)), fun h => absurd (show (8 : Int) = 0 from h) (by decide), fun m h => absurd (show (8 : Int) = 0 from h) (by decide), fun m w' h h8 => absurd rfl h8, fun _ => rfl⟩
  | [x] =>
    by_cases hx : x.toNat = 13
    · have e : lineL w [x] = ([], [], 8) := by rw [lineL, if_pos hx]
      rw [e]
      exact ⟨.inr (.inr (.inr rfl)), fun h => absurd h (by decide), fun m h => absurd h (by decide), fun m w' h h8 => absurd rfl h8, fun _ => rfl⟩
    · have e : lineL w [x] = ([], [], 1) := by rw [lineL, if_neg hx]
      rw [e]
      refine ⟨.inr (.inl rfl), fun h => absurd h (by decide), fun m h => absurd h (by decide), fun m w' h h8 => ⟨by simp, ?_⟩, fun _ => rfl⟩
      cases m with
      | nil => rw [List.append_nil, lineL, if_neg hx]
      | cons y m => rw [List.cons_append, List.nil_append, lineL, if_neg hx]
  | x :: y :: u =>
    by_cases hx : x.toNat = 13
    · by_cases hy : y.toNat = 10
      · have e : ∀ t, lineL w (x :: y :: t) = (w, t, 0) := fun t => by rw [lineL, if_pos hx, if_pos hy]
        rw [e]
        refine ⟨.inl rfl, fun _ => ⟨by simp; omega, rfl, by simp⟩, fun m h => by rw [List.cons_append, List.cons_append, e], fun m w' h h8 => absurd rfl h, fun h => absurd rfl h⟩
      · have e : ∀ v t, lineL v (x :: y :: t) = ([], [], 1) := fun v t => by rw [lineL, if_pos hx, if_neg hy]
        rw [e]
        refine ⟨.inr (.inl rfl), fun h => absurd h (by decide), fun m h => absurd h (by decide), fun m w' h h8 => ⟨by simp, ?_⟩, fun _ => rfl⟩
        rw [List.cons_append, List.cons_append, e]
    · have e : ∀ v t, lineL v (x :: y :: t) = ([], [], 1) := fun v t => by rw [lineL, if_neg hx]
      rw [e]
      refine ⟨.inr (.inl rfl), fun h => absurd h (by decide), fun m h => absurd h (by decide), fun m w' h h8 => ⟨by simp, ?_⟩, fun _ => rfl⟩
      rw [List.cons_append, List.cons_append, e]
theorem drop_ne {n : Nat} {l : List UInt8} (h : l.drop n ≠ []) : n < l.length := by
  rcases Nat.lt_or_ge n l.length with h1 | h1
  · exact h1
  · exact absurd (List.drop_of_length_le h1) h
theorem tailG (n : Nat) : Grows [] (tailL n) := by
  refine ⟨fun l => (lineG _ _).1, fun l h => ?_, fun l m h => ?_, fun l m h h8 => ?_, fun l h => (lineG _ _).2.2.2.2 h⟩
  · have h1 := ((lineG (l.take n) (l.drop n)).2.1 h).1
    rw [List.length_drop] at h1
    show (lineL (l.take n) (l.drop n)).2.1.length ≤ _
    omega
  · obtain ⟨-, h2, h3⟩ := (lineG (l.take n) (l.drop n)).2.1 h
    have hn := drop_ne h3
    unfold tailL
    rw [List.take_append_of_le_length (by omega), List.drop_append_of_le_length (by omega)]
    exact (lineG (l.take n) (l.drop n)).2.2.1 m h
  · obtain ⟨h3, h4⟩ := (lineG (l.take n) (l.drop n)).2.2.2.1 m (l.take n) h h8
    have hn := drop_ne h3
    unfold tailL
    rw [List.take_append_of_le_length (by omega), List.drop_append_of_le_length (by omega)]
    exact h4
theorem tailTake {n : Nat} {l : List UInt8} (h : (tailL n l).2.2 = 0) : (tailL n l).1 = l.take n ∧ n < l.length :=
  ⟨((lineG (l.take n) (l.drop n)).2.1 h).2.1, drop_ne ((lineG (l.take n) (l.drop n)).2.1 h).2.2⟩
theorem wordG : Grows [] wordL := by
  have C := countG 36 60
  refine ⟨fun l => ?_, fun l h => ?_, fun l m h => ?_, fun l m h h8 => ?_, fun l h => ?_⟩
  all_goals by_cases hc : (countL 36 60 l).2.2 = 0
  · unfold wordL; rw [if_pos hc]; exact (tailG _).code _
  · unfold wordL; rw [if_neg hc]; exact C.code l
  · unfold wordL at h ⊢
    rw [if_pos hc] at h ⊢
    exact Nat.le_trans ((tailG _).less _ h) (C.less l hc)
  · unfold wordL at h
    rw [if_neg hc] at h
    exact absurd h hc
  · unfold wordL at h ⊢
    rw [if_pos hc] at h ⊢
    rw [C.good l m hc, if_pos rfl]
    exact (tailG _).good _ m h
  · unfold wordL at h
    rw [if_neg hc] at h
    exact absurd h hc
  · unfold wordL at h h8 ⊢
    rw [if_pos hc] at h h8 ⊢
    rw [C.good l m hc, if_pos rfl]
    exact (tailG _).bad _ m h h8
  · unfold wordL at h h8 ⊢
    rw [if_neg hc] at h h8 ⊢
    rw [C.bad l m h h8, if_neg hc]
  · unfold wordL at h ⊢
    rw [if_pos hc] at h ⊢
    exact (tailG _).no _ h
  · unfold wordL
    rw [if_neg hc]
theorem wordLess {l : List UInt8} (h : (wordL l).2.2 = 0) : (wordL l).2.1.length < l.length ∧ (wordL l).1.length ≤ 60 := by
  unfold wordL at h ⊢
  by_cases hc : (countL 36 60 l).2.2 = 0
  · rw [if_pos hc] at h ⊢
    have h1 := countLess 36 60 hc
    have h2 := (tailG _).less _ h
    have h3 := (tailTake h).1
    have h4 := countMost 36 60 l
    refine ⟨by omega, ?_⟩
    rw [h3, List.length_take]
    omega
  · rw [if_neg hc] at h
    exact absurd h hc
theorem wordsG : ∀ (k : Nat) (acc : List ByteArray), Grows [] (fun r => wordsA k r acc)
  | 0, acc => ⟨fun l => .inl rfl, fun l _ => Nat.le_refl _, fun l m _ => rfl, fun l m h _ => absurd rfl h, fun l h => absurd rfl h⟩
  | k + 1, acc => by
    have W := wordG
    have e0 : ∀ l, (wordL l).2.2 = 0 → wordsA (k + 1) l acc = wordsA k (wordL l).2.1 (acc ++ [toB (wordL l).1]) := fun l h => by rw [wordsA, if_pos h]
    have e1 : ∀ l, (wordL l).2.2 ≠ 0 → wordsA (k + 1) l acc = ([], [], (wordL l).2.2) := fun l h => by rw [wordsA, if_neg h]
    refine ⟨fun l => ?_, fun l h => ?_, fun l m h => ?_, fun l m h h8 => ?_, fun l h => ?_⟩
    all_goals
      try simp only at *
      by_cases hc : (wordL l).2.2 = 0
    · rw [e0 l hc]; exact (wordsG k _).code _
    · rw [e1 l hc]; exact W.code l
    · rw [e0 l hc] at h ⊢
      exact Nat.le_trans ((wordsG k _).less _ h) (W.less l hc)
    · rw [e1 l hc] at h; exact absurd h hc
    · rw [e0 l hc] at h ⊢
      have hg := W.good l m hc
      rw [e0 (l ++ m) (by rw [hg]), hg]
      exact (wordsG k _).good _ m h
    · rw [e1 l hc] at h; exact absurd h hc
    · rw [e0 l hc] at h h8 ⊢
      have hg := W.good l m hc
      rw [e0 (l ++ m) (by rw [hg]), hg]
      exact (wordsG k _).bad _ m h h8
    · rw [e1 l hc] at h h8 ⊢
      have hb := W.bad l m h h8
      rw [e1 (l ++ m) (by rw [hb]; exact hc), hb]
    · rw [e0 l hc] at h ⊢
      exact (wordsG k _).no _ h
    · rw [e1 l hc]
theorem cmdG : Grows [] cmdL := by
  have C := countG 42 12
  have e0 : ∀ l, (countL 42 12 l).2.2 = 0 → (countL 42 12 l).1 ≠ 0 → cmdL l = wordsA (countL 42 12 l).1 (countL 42 12 l).2.1 [] := fun l h h1 => by unfold cmdL; rw [if_neg (by simpa using h), if_neg h1]
  have e1 : ∀ l, (countL 42 12 l).2.2 = 0 → (countL 42 12 l).1 = 0 → cmdL l = ([], [], 1) := fun l h h1 => by unfold cmdL; rw [if_neg (by simpa using h), if_pos h1]
  have e2 : ∀ l, (countL 42 12 l).2.2 ≠ 0 → cmdL l = ([], [], (countL 42 12 l).2.2) := fun l h => by unfold cmdL; rw [if_pos h]
  refine ⟨fun l => ?_, fun l h => ?_, fun l m h => ?_, fun l m h h8 => ?_, fun l h => ?_⟩
  all_goals by_cases hc : (countL 42 12 l).2.2 = 0
  · by_cases h1 : (countL 42 12 l).1 = 0
    · rw [e1 l hc h1]; exact .inr (.inl rfl)
    · rw [e0 l hc h1]; exact (wordsG _ _).code _
  · rw [e2 l hc]; exact C.code l
  · by_cases h1 : (countL 42 12 l).1 = 0
    · rw [e1 l hc h1] at h; exact absurd h (by decide)
    · rw [e0 l hc h1] at h ⊢
      exact Nat.le_trans ((wordsG _ _).less _ h) (C.less l hc)
  · rw [e2 l hc] at h; exact absurd h hc
  · by_cases h1 : (countL 42 12 l).1 = 0
    · rw [e1 l hc h1] at h; exact absurd h (by decide)
    · rw [e0 l hc h1] at h ⊢
      have hg := C.good l m hc
      rw [e0 (l ++ m) (by rw [hg]) (by rw [hg]; exact h1), hg]
      exact (wordsG _ _).good _ m h
  · rw [e2 l hc] at h; exact absurd h hc
  · have hg := C.good l m hc
    by_cases h1 : (countL 42 12 l).1 = 0
    · rw [e1 l hc h1, e1 (l ++ m) (by rw [hg]) (by rw [hg]; exact h1)]
    · rw [e0 l hc h1] at h h8 ⊢
      rw [e0 (l ++ m) (by rw [hg]) (by rw [hg]; exact h1), hg]
      exact (wordsG _ _).bad _ m h h8
  · rw [e2 l hc] at h h8 ⊢
    have hb := C.bad l m h h8
    rw [e2 (l ++ m) (by rw [hb]; exact hc), hb]
  · by_cases h1 : (countL 42 12 l).1 = 0
    · rw [e1 l hc h1]
    · rw [e0 l hc h1] at h ⊢
      exact (wordsG _ _).no _ h
  · rw [e2 l hc]
theorem cmdLess {l : List UInt8} (h : (cmdL l).2.2 = 0) : (cmdL l).2.1.length < l.length := by
  unfold cmdL at h ⊢
  by_cases hc : (countL 42 12 l).2.2 = 0
  · rw [if_neg (by simpa using hc)] at h ⊢
    by_cases h1 : (countL 42 12 l).1 = 0
    · rw [if_pos h1] at h; exact absurd h (by decide)
    · rw [if_neg h1] at h ⊢
      have := (wordsG _ _).less _ h
      have := countLess 42 12 hc
      try simp only at *
      omega
  · rw [if_pos hc] at h; exact absurd h hc
/-- words that were read: as many as told, none too long. -/
theorem wordsOk : ∀ (k : Nat) (r : List UInt8) (acc : List ByteArray), (wordsA k r acc).2.2 = 0 → (∀ s ∈ acc, s.size ≤ 60) → (wordsA k r acc).1.length = acc.length + k ∧ ∀ s ∈ (wordsA k r acc).1, s.size ≤ 60
  | 0, r, acc, _, h => ⟨rfl, h⟩
  | k + 1, r, acc, h, ha => by
    by_cases hc : (wordL r).2.2 = 0
    · rw [wordsA, if_pos hc] at h ⊢
      have := wordsOk k _ _ h (fun s hs => by
        rcases List.mem_append.1 hs with hs | hs
        · exact ha s hs
        · simp at hs; subst hs; rw [toB_size]; exact (wordLess hc).2)
      rw [List.length_append, List.length_singleton] at this
      exact ⟨by omega, this.2⟩
    · rw [wordsA, if_neg hc] at h; exact absurd h hc
theorem cmdOk {l : List UInt8} (h : (cmdL l).2.2 = 0) : 0 < (cmdL l).1.length ∧ (cmdL l).1.length ≤ 12 ∧ ∀ s ∈ (cmdL l).1, s.size ≤ 60 := by
  unfold cmdL at h ⊢
  by_cases hc : (countL 42 12 l).2.2 = 0
  · rw [if_neg (by simpa using hc)] at h ⊢
    by_cases h1 : (countL 42 12 l).1 = 0
    · rw [if_pos h1] at h; exact absurd h (by decide)
    · rw [if_neg h1] at h ⊢
      obtain ⟨g1, g2⟩ := wordsOk _ _ _ h (by simp)
      have := countMost 42 12 l
      simp only [List.length_nil] at g1
      exact ⟨by omega, by omega, g2⟩
  · rw [if_pos hc] at h; exact absurd h hc

/-- fuel does not matter. -/
theorem feedF_fuel : ∀ (f g : Nat) (l : List UInt8) (acc : List (List ByteArray)), l.length < f → l.length < g → feedF f l acc = feedF g l acc
  | 0, _, l, acc, h, _ => absurd h (Nat.not_lt_zero _)
  | _, 0, l, acc, _, h => absurd h (Nat.not_lt_zero _)
  | f + 1, g + 1, l, acc, hf, hg => by
    rw [feedF, feedF]
    by_cases h8 : (cmdL l).2.2 = 8
    · rw [if_pos h8, if_pos h8]
    · rw [if_neg h8, if_neg h8]
      by_cases h0 : (cmdL l).2.2 = 0
      · rw [if_pos h0, if_pos h0]
        have := cmdLess h0
        exact feedF_fuel f g _ _ (by omega) (by omega)
      · rw [if_neg h0, if_neg h0]
theorem feedA_step (l : List UInt8) (acc : List (List ByteArray)) : feedA l acc = if (cmdL l).2.2 = 8 then (acc, l, 0) else if (cmdL l).2.2 = 0 then feedA (cmdL l).2.1 (acc ++ [(cmdL l).1]) else (acc, [], (cmdL l).2.2) := by
  unfold feedA
  rw [feedF]
  by_cases h8 : (cmdL l).2.2 = 8
  · rw [if_pos h8, if_pos h8]
  · rw [if_neg h8, if_neg h8]
    by_cases h0 : (cmdL l).2.2 = 0
    · rw [if_pos h0, if_pos h0]
      have := cmdLess h0
      exact feedF_fuel _ _ _ _ (by omega) (by omega)
    · rw [if_neg h0, if_neg h0]
theorem feedA_acc : ∀ (n : Nat) (l : List UInt8) (acc : List (List ByteArray)), l.length ≤ n → feedA l acc = (acc ++ (feedL l).1, (feedL l).2.1, (feedL l).2.2) := by
  intro n
  induction n with
  | zero =>
    intro l acc h
    have : l = [] := List.eq_nil_of_length_eq_zero (by omega)
    subst this
    have h8 : (cmdL []).2.2 = 8 := rfl
    unfold feedL
    rw [feedA_step [] acc, feedA_step [] [], if_pos h8, if_pos h8]
    simp
  | succ n ih =>
    intro l acc h
    unfold feedL
    rw [feedA_step l acc, feedA_step l []]
    by_cases h8 : (cmdL l).2.2 = 8
    · rw [if_pos h8, if_pos h8]; simp
    · rw [if_neg h8, if_neg h8]
      by_cases h0 : (cmdL l).2.2 = 0
      · rw [if_pos h0, if_pos h0]
        have := cmdLess h0
        rw [ih _ (acc ++ [(cmdL l).1]) (by omega), ih _ ([] ++ [(cmdL l).1]) (by omega)]
        simp
      · rw [if_neg h0, if_neg h0]; simp
/-- a command, and what is behind it. -/
theorem feed_cons {l : List UInt8} (h : (cmdL l).2.2 = 0) : feedL l = ((cmdL l).1 :: (feedL (cmdL l).2.1).1, (feedL (cmdL l).2.1).2.1, (feedL (cmdL l).2.1).2.2) := by
  conv => lhs; unfold feedL
  rw [feedA_step, if_neg (by rw [h]; decide), if_pos h, feedA_acc _ _ _ (Nat.le_refl _)]
  rfl
theorem feed_short {l : List UInt8} (h : (cmdL l).2.2 = 8) : feedL l = ([], l, 0) := by
  unfold feedL
  rw [feedA_step, if_pos h]
theorem feed_bad {l : List UInt8} (h : (cmdL l).2.2 ≠ 0) (h8 : (cmdL l).2.2 ≠ 8) : feedL l = ([], [], (cmdL l).2.2) := by
  unfold feedL
  rw [feedA_step, if_neg h8, if_neg h]
/-- what an answer of a stream says. -/
theorem feed_pieces : ∀ (n : Nat) (p q : List UInt8), p.length ≤ n →
    ((feedL p).2.2 = 0 → feedL (p ++ q) = ((feedL p).1 ++ (feedL ((feedL p).2.1 ++ q)).1, (feedL ((feedL p).2.1 ++ q)).2.1, (feedL ((feedL p).2.1 ++ q)).2.2)) ∧
    ((feedL p).2.2 ≠ 0 → feedL (p ++ q) = feedL p) := by
  intro n
  have key : ∀ p q : List UInt8, (cmdL p).2.2 ≠ 0 → (feedL p).2.2 = 0 → feedL (p ++ q) = ((feedL p).1 ++ (feedL ((feedL p).2.1 ++ q)).1, (feedL ((feedL p).2.1 ++ q)).2.1, (feedL ((feedL p).2.1 ++ q)).2.2) := fun p q h0 hf => by
    by_cases h8 : (cmdL p).2.2 = 8
    · rw [feed_short h8]; rfl
    · rw [feed_bad h0 h8] at hf; exact absurd hf h0
  have key2 : ∀ p q : List UInt8, (cmdL p).2.2 ≠ 0 → (feedL p).2.2 ≠ 0 → feedL (p ++ q) = feedL p := fun p q h0 hf => by
    by_cases h8 : (cmdL p).2.2 = 8
    · rw [feed_short h8] at hf; exact absurd rfl hf
    · have hb := cmdG.bad p q h0 h8
      rw [feed_bad h0 h8, feed_bad (by rw [hb]; exact h0) (by rw [hb]; exact h8), hb]
  induction n with
  | zero =>
    intro p q h
    have : p = [] := List.eq_nil_of_length_eq_zero (by omega)
    subst this
    exact ⟨key _ _ (by decide), key2 _ _ (by decide)⟩
  | succ n ih =>
    intro p q h
    by_cases h0 : (cmdL p).2.2 = 0
    · have hl := cmdLess h0
      have hg := cmdG.good p q h0
      obtain ⟨i1, i2⟩ := ih (cmdL p).2.1 q (by omega)
      have e2 := feed_cons (l := p ++ q) (by rw [hg])
      rw [hg] at e2
      rw [feed_cons h0]
      simp only at e2 ⊢
      refine ⟨fun h => ?_, fun h => ?_⟩
      · rw [i1 h] at e2; rw [e2]; rfl
      · rw [i2 h] at e2; rw [e2]
    · exact ⟨key p q h0, key2 p q h0⟩
theorem feed_less : ∀ (n : Nat) (p : List UInt8), p.length ≤ n → (feedL p).1.length ≤ p.length ∧ (feedL p).2.1.length ≤ p.length := by
  intro n
  have key : ∀ p : List UInt8, (cmdL p).2.2 ≠ 0 → (feedL p).1.length ≤ p.length ∧ (feedL p).2.1.length ≤ p.length := fun p h0 => by
    by_cases h8 : (cmdL p).2.2 = 8
    · rw [feed_short h8]; exact ⟨Nat.zero_le _, Nat.le_refl _⟩
    · rw [feed_bad h0 h8]; exact ⟨Nat.zero_le _, Nat.zero_le _⟩
  induction n with
  | zero =>
    intro p h
    have : p = [] := List.eq_nil_of_length_eq_zero (by omega)
    subst this
    exact key _ (by decide)
  | succ n ih =>
    intro p h
    by_cases h0 : (cmdL p).2.2 = 0
    · have hl := cmdLess h0
      have := ih (cmdL p).2.1 (by omega)
      rw [feed_cons h0]
      simp only [List.length_cons]
      omega
    · exact key p h0
/-- commands that came are right. -/
def wordsR (l : List ByteArray) : Prop := 0 < l.length ∧ l.length ≤ 12 ∧ ∀ s ∈ l, s.size ≤ 60
theorem feed_right : ∀ (n : Nat) (p : List UInt8), p.length ≤ n → ∀ c ∈ (feedL p).1, wordsR c := by
  intro n
  induction n with
  | zero =>
    intro p h c hc
    have : p = [] := List.eq_nil_of_length_eq_zero (by omega)
    subst this
    rw [feed_short (by rfl)] at hc
    cases hc
  | succ n ih =>
    intro p h c hc
    by_cases h0 : (cmdL p).2.2 = 0
    · have hl := cmdLess h0
      rw [feed_cons h0] at hc
      rcases List.mem_cons.1 hc with rfl | hc
      · exact cmdOk h0
      · exact ih _ (by omega) c hc
    · by_cases h8 : (cmdL p).2.2 = 8
      · rw [feed_short h8] at hc; cases hc
      · rw [feed_bad h0 h8] at hc; cases hc

/-- a command's bytes. -/
def wordBs (s : ByteArray) : List UInt8 := 36 :: (Lib.decDigits s.size ++ 13 :: 10 :: (s.data.toList ++ [13, 10]))
def wordsBs (l : List ByteArray) : List UInt8 := 42 :: (Lib.decDigits l.length ++ 13 :: 10 :: l.flatMap wordBs)
theorem dec_two {u : Nat} (h : u < 100) : (u < 10 ∧ Lib.decDigits u = [UInt8.ofNat (48 + u)]) ∨ (10 ≤ u ∧ Lib.decDigits u = [UInt8.ofNat (48 + u / 10), UInt8.ofNat (48 + u % 10)]) := by
  by_cases h1 : u < 10
  · exact .inl ⟨h1, by rw [Lib.decDigits, dif_pos h1]⟩
  · refine .inr ⟨by omega, ?_⟩
    rw [Lib.decDigits, dif_neg h1, Lib.decDigits, dif_pos (by omega)]
    rfl
theorem digB_of {k : Nat} (h : k < 10) : digB (UInt8.ofNat (48 + k)) = true := by
  unfold digB
  rw [toNat_dig h, decide_eq_true (by omega), decide_eq_true (by omega)]
  rfl
theorem cnt_dec {most u : Nat} (r : List UInt8) (h : u ≤ most) (hm : most < 100) : cntL most (Lib.decDigits u ++ 13 :: 10 :: r) 0 0 = (u, r, 0) := by
  have step : ∀ (k n d : Nat) (t : List UInt8), k < 10 → ¬ (0 < d ∧ n = 0) → 10 * n + k ≤ most → cntL most (UInt8.ofNat (48 + k) :: t) n d = cntL most t (10 * n + k) (d + 1) := fun k n d t hk hd hle => by
    rw [cntL]
    have e := toNat_dig hk
    rw [if_neg (by rw [e]; omega), if_neg (by rw [digB_of hk]; simp; omega), if_neg (by rw [e]; omega), e]
    rw [show 48 + k - 48 = k by omega]
  have fin : ∀ n d, 0 < d → cntL most (13 :: 10 :: r) n d = (n, r, 0) := fun n d hd => by
    rw [cntL, if_pos ⟨by decide, hd⟩, endL, if_pos (by decide)]
  rcases dec_two (show u < 100 by omega) with ⟨h1, e⟩ | ⟨h1, e⟩
  · rw [e, List.cons_append, List.nil_append, step u 0 0 _ h1 (by omega) (by omega), fin _ _ (by omega)]
    simp
  · rw [e, List.cons_append, List.cons_append, List.nil_append, step (u / 10) 0 0 _ (by omega) (by omega) (by omega), step (u % 10) _ _ _ (by omega) (by omega) (by omega), fin _ _ (by omega)]
    rw [show 10 * (10 * 0 + u / 10) + u % 10 = u by omega]
theorem word_told {s : ByteArray} (r : List UInt8) (h : s.size ≤ 60) : wordL (wordBs s ++ r) = (s.data.toList, r, 0) := by
  have hl : s.data.toList.length = s.size := by simp
  have hc : countL 36 60 (wordBs s ++ r) = (s.size, s.data.toList ++ 13 :: 10 :: r, 0) := by
    unfold wordBs
    rw [List.cons_append, countL, if_pos (by decide), List.append_assoc]
    have := cnt_dec (most := 60) (u := s.size) (s.data.toList ++ 13 :: 10 :: r) h (by decide)
    simpa using this
  unfold wordL
  rw [hc, if_pos rfl]
  unfold tailL
  simp only
  rw [List.drop_append_of_le_length (by omega), List.drop_of_length_le (by omega), List.nil_append, lineL, if_pos (by decide), if_pos (by decide), List.take_append_of_le_length (by omega), List.take_of_length_le (by omega)]
theorem words_told : ∀ (l acc : List ByteArray) (r : List UInt8), (∀ s ∈ l, s.size ≤ 60) → wordsA l.length (l.flatMap wordBs ++ r) acc = (acc ++ l, r, 0)
  | [], acc, r, _ => by simp [wordsA]
  | s :: l, acc, r, h => by
    have e : (s :: l).flatMap wordBs ++ r = wordBs s ++ (l.flatMap wordBs ++ r) := by simp
    have hw := word_told (l.flatMap wordBs ++ r) (h s (by simp))
    rw [e, List.length_cons, wordsA, hw, if_pos rfl]
    simp only
    rw [words_told l _ r (fun x hx => h x (by simp [hx])), toB_of]
    simp
theorem cmd_told {l : List ByteArray} (r : List UInt8) (h : wordsR l) : cmdL (wordsBs l ++ r) = (l, r, 0) := by
  have hc : countL 42 12 (wordsBs l ++ r) = (l.length, l.flatMap wordBs ++ r, 0) := by
    unfold wordsBs
    rw [List.cons_append, countL, if_pos (by decide), List.append_assoc]
    have := cnt_dec (most := 12) (u := l.length) (l.flatMap wordBs ++ r) h.2.1 (by decide)
    simpa using this
  unfold cmdL
  rw [hc, if_neg (by simp), if_neg (by have := h.1; simp only; omega)]
  simp only
  rw [words_told l [] r h.2.2]
  rfl
/-- commands told one behind the other. -/
theorem feed_many : ∀ (l : List (List ByteArray)) (r : List UInt8), (∀ c ∈ l, wordsR c) → feedL (l.flatMap wordsBs ++ r) = (l ++ (feedL r).1, (feedL r).2.1, (feedL r).2.2)
  | [], r, _ => by simp
  | c :: l, r, h => by
    have e : (c :: l).flatMap wordsBs ++ r = wordsBs c ++ (l.flatMap wordsBs ++ r) := by simp
    have hc := cmd_told (l.flatMap wordsBs ++ r) (h c (by simp))
    rw [e, feed_cons (by rw [hc]), hc]
    simp only
    rw [feed_many l r (fun x hx => h x (by simp [hx]))]
    rfl
theorem feed_nil : feedL [] = ([], [], 0) := feed_short rfl
end Go.Proofs.YtoabjcnacnojbaaDoor
