/- Sets in plain words: what sorting and compacting leave; putting one by one; lists that rise are told by their members. No walk. -/
import Derived.Test.YtkgbgmfidkimfaaGreatMgRestItemsUpto3
import Derived.Test.YtkgbgmfidkimfaaGreatMgRestItemsUpto4
import Derived.Sort.OwnSorted
import Derived.Sort.Walk0
import Derived.Lib.SlicesCompact
import Derived.Lib.RowBridge
set_option linter.unusedVariables false
set_option linter.unusedSimpArgs false
namespace Go.Proofs.YtkgbgmfidkimfaaGreat

theorem cb_less : ∀ a b : List UInt8, Lib.compareBytes a b < 0 ↔ a < b
  | [], [] => by simp [Lib.compareBytes]
  | _ :: _, [] => by simp [Lib.compareBytes]
  | [], _ :: _ => by simp [Lib.compareBytes]
  | x :: a, y :: b => by
    have ih := cb_less a b
    simp only [Lib.compareBytes, List.cons_lt_cons_iff]
    by_cases h1 : x < y
    · simp [h1]
    · by_cases h2 : y < x
      · have h3 : x ≠ y := fun e => by subst e; exact h1 h2
        simp [h1, h2, h3]
      · have h3 : x = y := UInt8.le_antisymm (UInt8.not_lt.1 h2) (UInt8.not_lt.1 h1)
        subst h3
        simp [UInt8.lt_irrefl, ih]
theorem ordB_less (a b : ByteArray) : ordB a b < 0 ↔ a.data.toList < b.data.toList := cb_less _ _
theorem bytesL (a b : ByteArray) : Op.bytesLess a.toList b.toList = ltS a b := by
  rw [bytesLess_eq, Lib.toList_data, Lib.toList_data]
  unfold ltS
  exact decide_eq_decide.2 (ordB_less a b).symm

def unB (l : List UInt8) : ByteArray := ⟨l.toArray⟩
theorem unB_data (s : ByteArray) : unB s.data.toList = s := rfl
theorem data_unB (l : List UInt8) : (unB l).data.toList = l := rfl
def datas (l : List ByteArray) : List (List UInt8) := l.map (·.data.toList)
theorem datas_length (l : List ByteArray) : (datas l).length = l.length := by unfold datas; simp
theorem textsV_datas (l : List ByteArray) : (datas l).map encStr = textsV l := by
  unfold datas textsV encStr
  rw [List.map_map]
  rfl
theorem datas_un (l : List (List UInt8)) : datas (l.map unB) = l := by
  unfold datas
  rw [List.map_map]
  have : ((fun s : ByteArray => s.data.toList) ∘ unB) = id := rfl
  rw [this, List.map_id]

/-- what sorting leaves. -/
def sortB (l : List ByteArray) : List ByteArray := ((datas l).mergeSort fun x y => decide (x ≤ y)).map unB
theorem sortB_length (l : List ByteArray) : (sortB l).length = l.length := by unfold sortB; simp [datas_length]
theorem sortB_perm (l : List ByteArray) : (sortB l).Perm l := by
  have h := ((List.mergeSort_perm (datas l) fun x y => decide (x ≤ y)).map unB)
  have e : (datas l).map unB = l := by
    unfold datas
    rw [List.map_map]
    have : (unB ∘ fun s : ByteArray => s.data.toList) = id := rfl
    rw [this, List.map_id]
  rw [e] at h
  exact h
theorem sortB_le (l : List ByteArray) : (sortB l).Pairwise fun a b => ¬ ordB b a < 0 := by
  unfold sortB
  rw [List.pairwise_map]
  have := List.pairwise_mergeSort (le := fun x y : List UInt8 => decide (x ≤ y)) (fun a b c h1 h2 => by simpa using List.le_trans (by simpa using h1) (by simpa using h2)) (fun a b => by simpa using List.le_total a b) (datas l)
  refine this.imp fun {a b} h => ?_
  rw [ordB_less]
  have h : a ≤ b := by simpa using h
  exact List.not_lt.2 h

/-- what compacting leaves. -/
def compB (l : List ByteArray) : List ByteArray := (Lib.compact (datas l)).map unB
theorem comp_mem {zs : List (List UInt8)} {x : List UInt8} : x ∈ Lib.compact zs ↔ x ∈ zs := by
  unfold Lib.compact Lib.compactUpTo
  constructor
  · intro h
    obtain ⟨i, hi, rfl⟩ := List.mem_map.1 h
    have hi' : i < zs.length := List.mem_range.1 (List.mem_filter.1 hi).1
    simp [getElem!_pos, hi']
  · intro h
    have : ∀ (n i : Nat), i ≤ n → i < zs.length → zs.toArray[i]! ∈ ((List.range zs.length).filter (Lib.keeps zs.toArray)).map (zs.toArray[·]!) := by
      intro n
      induction n with
      | zero =>
        intro i hi hl
        have : i = 0 := by omega
        subst this
        exact List.mem_map.2 ⟨0, List.mem_filter.2 ⟨List.mem_range.2 hl, by simp [Lib.keeps]⟩, rfl⟩
      | succ n ih =>
        intro i hi hl
        by_cases hk : Lib.keeps zs.toArray i = true
        · exact List.mem_map.2 ⟨i, List.mem_filter.2 ⟨List.mem_range.2 hl, hk⟩, rfl⟩
        · have hk' : ¬ (i = 0 ∨ zs.toArray[i]! ≠ zs.toArray[i - 1]!) := by simpa [Lib.keeps] using hk
          have h0 : i ≠ 0 := fun e => hk' (.inl e)
          have he : zs.toArray[i]! = zs.toArray[i - 1]! := Classical.byContradiction fun e => hk' (.inr e)
          rw [he]
          exact ih (i - 1) (by omega) (by omega)
    obtain ⟨i, hi, rfl⟩ := List.getElem_of_mem h
    have := this i i (Nat.le_refl _) hi
    simpa [getElem!_pos, hi] using this
theorem comp_pw {zs : List (List UInt8)} (h : zs.Pairwise (· ≤ ·)) : (Lib.compact zs).Pairwise (· < ·) := by
  unfold Lib.compact Lib.compactUpTo
  rw [List.pairwise_map]
  have hp : ((List.range zs.length).filter (Lib.keeps zs.toArray)).Pairwise (· < ·) := List.Pairwise.filter _ (List.pairwise_lt_range)
  rw [List.pairwise_iff_forall_sublist] at hp ⊢
  intro a b hs
  have hab := hp hs
  have hm : ∀ c ∈ [a, b], c < zs.length ∧ Lib.keeps zs.toArray c = true := fun c hc => by
    have := List.mem_filter.1 (hs.subset hc)
    exact ⟨List.mem_range.1 this.1, this.2⟩
  obtain ⟨ha, _⟩ := hm a (by simp)
  obtain ⟨hb, hkb⟩ := hm b (by simp)
  have hkb' : b = 0 ∨ zs.toArray[b]! ≠ zs.toArray[b - 1]! := by simpa [Lib.keeps] using hkb
  have hne : zs.toArray[b]! ≠ zs.toArray[b - 1]! := by
    rcases hkb' with h0 | h0
    · omega
    · exact h0
  have e : ∀ i (hi : i < zs.length), zs.toArray[i]! = zs[i] := fun i hi => by simp [getElem!_pos, hi]
  rw [e b hb, e (b - 1) (by omega)] at hne
  rw [e a ha, e b hb]
  have pw := List.pairwise_iff_getElem.1 h
  have h1 : zs[a] ≤ zs[b - 1]'(by omega) := by
    rcases Nat.lt_or_ge a (b - 1) with hl | hl
    · exact pw a (b - 1) ha (by omega) hl
    · have : a = b - 1 := by omega
      subst this
      exact List.le_refl _
  have h2 : zs[b - 1]'(by omega) ≤ zs[b] := pw (b - 1) b (by omega) hb (by omega)
  have h3 : zs[b - 1]'(by omega) < zs[b] := Classical.byContradiction fun hn => hne (List.le_antisymm (List.not_lt.1 hn) h2)
  exact List.lt_of_le_of_lt h1 h3

def setU (l : List ByteArray) : List ByteArray := compB (sortB l)
theorem setU_mem {l : List ByteArray} {s : ByteArray} : s ∈ setU l ↔ s ∈ l := by
  unfold setU compB
  rw [List.mem_map]
  constructor
  · rintro ⟨x, hx, rfl⟩
    have := comp_mem.1 hx
    unfold datas at this
    obtain ⟨t, ht, rfl⟩ := List.mem_map.1 this
    exact (sortB_perm l).mem_iff.1 ht
  · intro h
    exact ⟨s.data.toList, comp_mem.2 (List.mem_map.2 ⟨s, (sortB_perm l).mem_iff.2 h, rfl⟩), rfl⟩
theorem ltS_tr (a b c : ByteArray) (h1 : ltS a b = true) (h2 : ltS b c = true) : ltS a c = true :=
  decide_eq_true (ordB_trans (of_decide_eq_true h1) (of_decide_eq_true h2))
theorem setU_rises (l : List ByteArray) : rises ltS (setU l) = true := by
  refine pw_rises ?_
  unfold setU compB
  rw [List.pairwise_map]
  have h : (datas (sortB l)).Pairwise (· ≤ ·) := by
    unfold datas
    rw [List.pairwise_map]
    refine (sortB_le l).imp fun {a b} h => ?_
    rw [ordB_less] at h
    exact List.not_lt.1 h
  refine (comp_pw h).imp fun {a b} h => decide_eq_true ?_
  rw [ordB_less]
  exact h

/-- lists that rise are told by their members. -/
theorem rises_ext : ∀ {a b : List ByteArray}, rises ltS a = true → rises ltS b = true → (∀ s, s ∈ a ↔ s ∈ b) → a = b := by
  intro a b ha hb h
  have irr : ∀ s : ByteArray, ltS s s = false := fun s => decide_eq_false (by rw [ordB_refl]; omega)
  have asy : ∀ s t : ByteArray, ltS s t = true → ltS t s = true → False := fun s t h1 h2 => by
    have := ltS_tr s t s h1 h2
    rw [irr] at this
    cases this
  have pa := rises_pw ltS_tr ha
  have pb := rises_pw ltS_tr hb
  clear ha hb
  induction a generalizing b with
  | nil =>
    cases b with
    | nil => rfl
    | cons y b => exact absurd ((h y).2 (by simp)) (by simp)
  | cons x a ih =>
    cases b with
    | nil => exact absurd ((h x).1 (by simp)) (by simp)
    | cons y b =>
      have pa' := List.pairwise_cons.1 pa
      have pb' := List.pairwise_cons.1 pb
      have exy : x = y := by
        rcases List.mem_cons.1 ((h x).1 (by simp)) with e | hx
        · exact e
        · rcases List.mem_cons.1 ((h y).2 (by simp)) with e | hy
          · exact e.symm
          · exact (asy x y (pa'.1 y hy) (pb'.1 x hx)).elim
      subst exy
      congr 1
      refine ih (fun s => ?_) pa'.2 pb'.2
      constructor
      · intro hs
        rcases List.mem_cons.1 ((h s).1 (List.mem_cons_of_mem _ hs)) with e | h1
        · subst e
          have := pa'.1 s hs
          rw [irr] at this
          cases this
        · exact h1
      · intro hs
        rcases List.mem_cons.1 ((h s).2 (List.mem_cons_of_mem _ hs)) with e | h1
        · subst e
          have := pb'.1 s hs
          rw [irr] at this
          cases this
        · exact h1
theorem setU_of_rises {l : List ByteArray} (h : rises ltS l = true) : setU l = l := rises_ext (setU_rises l) h (fun s => setU_mem)
theorem setU_len (l : List ByteArray) : (setU l).length ≤ l.length := by
  unfold setU compB
  rw [List.length_map]
  have h1 := Lib.compact_length_le (datas (sortB l))
  rw [datas_length, sortB_length] at h1
  exact h1
/-- a list that rises, of members of another one, is no longer. -/
theorem rises_sub {a l : List ByteArray} (ha : rises ltS a = true) (h : ∀ s ∈ a, s ∈ l) : a.length ≤ l.length := by
  have e : a = setU (l.filter fun s => hasT a s) := rises_ext ha (setU_rises _) (fun s => by
    rw [setU_mem, List.mem_filter]
    constructor
    · intro hs; exact ⟨h s hs, hasT_iff.2 hs⟩
    · intro hs; exact hasT_iff.1 hs.2)
  have h1 := setU_len (l.filter fun s => hasT a s)
  rw [← e] at h1
  exact Nat.le_trans h1 (List.length_filter_le _ _)
theorem filter_rises {l : List ByteArray} (p : ByteArray → Bool) (h : rises ltS l = true) : rises ltS (l.filter p) = true :=
  pw_rises ((rises_pw ltS_tr h).filter p)

/-- the reference's putting of one. -/
def putT (l : List ByteArray) (s : ByteArray) : List ByteArray := if hasT l s = true then l else setU (l ++ [s])
theorem putT_mem {l : List ByteArray} {s t : ByteArray} : t ∈ putT l s ↔ t ∈ l ∨ t = s := by
  unfold putT
  by_cases h : hasT l s = true
  · rw [if_pos h]
    constructor
    · exact .inl
    · rintro (h1 | rfl)
      · exact h1
      · exact hasT_iff.1 h
  · rw [if_neg h, setU_mem]
    simp
theorem putT_rises {l : List ByteArray} {s : ByteArray} (h : rises ltS l = true) : rises ltS (putT l s) = true := by
  unfold putT
  split
  · exact h
  · exact setU_rises _
theorem putT_len {l : List ByteArray} {s : ByteArray} : (putT l s).length ≤ l.length + 1 := by
  unfold putT
  split
  · omega
  · have := setU_len (l ++ [s]); simp at this; exact this
theorem putT_fold_mem : ∀ (l : List ByteArray) {a : List ByteArray} {t : ByteArray}, t ∈ l.foldl putT a ↔ t ∈ a ∨ t ∈ l
  | [], a, t => by simp
  | s :: l, a, t => by
    rw [List.foldl_cons, putT_fold_mem l, putT_mem, List.mem_cons, or_assoc]
theorem putT_fold_rises : ∀ (l : List ByteArray) {a : List ByteArray}, rises ltS a = true → rises ltS (l.foldl putT a) = true
  | [], a, h => h
  | s :: l, a, h => putT_fold_rises l (putT_rises h)
theorem putT_fold {a : List ByteArray} (l : List ByteArray) (h : rises ltS a = true) : l.foldl putT a = setU (a ++ l) :=
  rises_ext (putT_fold_rises l h) (setU_rises _) (fun s => by rw [putT_fold_mem, setU_mem, List.mem_append])
end Go.Proofs.YtkgbgmfidkimfaaGreat
