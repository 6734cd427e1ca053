/- The walks of hash.ready, hash.of, and of the functions that Put and Drop hand on. (Printed by hashes.py.) Hashes, plain: what their calls answer. No walk. -/
import Derived.Test.YtkgbgmfidkimfaaGreatMgRestItemsUpto5
import Derived.Test.YtkgbgmfidkimfaaGreatMgRestItemsUpto1
import Derived.Test.YtkgbgmfidkimfaaGreatMgRestItemsUpto25
import Derived.Test.YtkgbgmfidkimfaaGreatMgRestItemsUpto3
import Derived.Test.YtkgbgmfidkimfaaGreatMgRestItemsUpto10
set_option linter.unusedVariables false
set_option linter.unusedSimpArgs false
namespace Go.Proofs.YtkgbgmfidkimfaaGreat
open Go.RowKit

set_option maxRecDepth 100000 in
theorem ready4_any (x : Itm) (v : Value) (w : World) (B : Nat) (hs : x.Small) (hB : B ≤ w.heap.size) (h : ItemV w B v x) :
    Calls Tryz.prog 60 #[v] w fun e w' => e = .returned (.int .i64 (asCode 4 x)) ∧ Fr [] w w' := by
  have M := Lib.hid (fun W (hf : Fr [] w W) => as_any x 4 v W B hs (Nat.le_trans hB hf.size) (h.fr hf hB (by simp)))
  obtain ⟨A1, c1, A2, c2, A3, c3, rfl, h1, h2, h3⟩ := h
  have F1 : Fr [] w (w.alloc (.cells #[.int .i64 x.kind, .string x.text, .slice A1 x.list.length c1, .slice A2 x.pairs.length c2, .slice A3 x.scores.length c3] 26)) := (Fr.refl [] w).alloc _
  go_enter Tryz.func60, Tryz.ntmps60
  go_wp2_with fail
  refine (M.out _ F1).mono ?_
  rintro e w1 ⟨rfl, f1⟩
  go_wp2
  go_ret
  exact ⟨rfl, F1.trans f1⟩

def pairI (l : List (ByteArray × ByteArray)) : Itm := ⟨4, ⟨#[]⟩, [], l, []⟩

set_option maxRecDepth 100000 in
theorem hashOf_any (l : List (ByteArray × ByteArray)) (A : Option Addr) (c : Nat) (w : World) (B : Nat) (hs : (pairI l).Small) (hB : B ≤ w.heap.size) (h : Sl w B 2 (.slice A l.length c) l.length (pairsV l)) :
    Calls Tryz.prog 67 #[.slice A l.length c] w fun e w' => e = .returned (if l.length = 0 then .agg #[.int .i64 0, .string ⟨#[]⟩, .slice none 0 0, .slice none 0 0, .slice none 0 0] else .agg #[.int .i64 4, .string ⟨#[]⟩, .slice none 0 0, .slice A l.length c, .slice none 0 0]) ∧ Fr [] w w' := by
  have hv : ItemV w B (.agg #[.int .i64 4, .string ⟨#[]⟩, .slice none 0 0, .slice A l.length c, .slice none 0 0]) (pairI l) := ⟨none, 0, A, c, none, 0, rfl, Sl.nil _ _ _, h, Sl.nil _ _ _⟩
  have O := Lib.hid (fun W (hf : Fr [] w W) => (show Calls Tryz.prog 104 #[.agg #[.int .i64 4, .string ⟨#[]⟩, .slice none 0 0, .slice A l.length c, .slice none 0 0]] W fun e w' => e = .returned (if l.length = 0 then .agg #[.int .i64 0, .string ⟨#[]⟩, .slice none 0 0, .slice none 0 0, .slice none 0 0] else .agg #[.int .i64 4, .string ⟨#[]⟩, .slice none 0 0, .slice A l.length c, .slice none 0 0]) ∧ Fr [] W w' from by have := of_any (pairI l) (.agg #[.int .i64 4, .string ⟨#[]⟩, .slice none 0 0, .slice A l.length c, .slice none 0 0]) W B hs (Nat.le_trans hB hf.size) (hv.fr hf hB (by simp)) (show (4 : Int) ≠ 1 by decide); unfold ofV at this; rw [show many (pairI l) = l.length from by show 0 + l.length + 0 = l.length; omega] at this; exact this))
  have F1 : Fr [] w (w.alloc (.cells #[.int .i64 0, .string ⟨#[]⟩, .slice none 0 0, .slice none 0 0, .slice none 0 0] 26)) := (Fr.refl [] w).alloc _
  have R1 := Lib.hid (show Whole (w.alloc (.cells #[.int .i64 0, .string ⟨#[]⟩, .slice none 0 0, .slice none 0 0, .slice none 0 0] 26)) w.heap.size 26 [.int .i64 0, .string ⟨#[]⟩, .slice none 0 0, .slice none 0 0, .slice none 0 0] from Whole.new w _ _)
  clear hv h hs
  by_cases hm : l.length = 0
  · rw [if_pos hm] at O ⊢
    clear hm
    go_enter Tryz.func67, Tryz.ntmps67
    go_wp2_with fail
    refine (O.out _ F1).mono ?_
    rintro e w1 ⟨rfl, f1⟩
    have F2 := F1.trans f1
    have R2 := Lib.hid (R1.out.fr f1 (by simp))
    obtain ⟨a0, a1, a2, a3, a4⟩ := five R2.out
    obtain ⟨b0, b2, b3, b4, b5⟩ := fiveF R2.out
    go_wp2
    refine bodyPost_ret (v := .agg #[.int .i64 0, .string ⟨#[]⟩, .slice none 0 0, .slice none 0 0, .slice none 0 0]) (by simp [results, Tryz.results67, go_sem, a0, a1, a2, a3, a4]) rfl ?_
    refine ⟨rfl, fr_set5 F2 (Nat.le_refl _) _ _ _ _ _⟩
  · rw [if_neg hm] at O ⊢
    clear hm
    go_enter Tryz.func67, Tryz.ntmps67
    go_wp2_with fail
    refine (O.out _ F1).mono ?_
    rintro e w1 ⟨rfl, f1⟩
    have F2 := F1.trans f1
    have R2 := Lib.hid (R1.out.fr f1 (by simp))
    obtain ⟨a0, a1, a2, a3, a4⟩ := five R2.out
    obtain ⟨b0, b2, b3, b4, b5⟩ := fiveF R2.out
    go_wp2
    refine bodyPost_ret (v := .agg #[.int .i64 4, .string ⟨#[]⟩, .slice none 0 0, .slice A l.length c, .slice none 0 0]) (by simp [results, Tryz.results67, go_sem, a0, a1, a2, a3, a4]) rfl ?_
    refine ⟨rfl, fr_set5 F2 (Nat.le_refl _) _ _ _ _ _⟩

/-- a hash of pairs, or nothing. -/
def ofP (l : List (ByteArray × ByteArray)) : Itm := if l.length = 0 then newI 0 else pairI l
theorem pairI_small {l : List (ByteArray × ByteArray)} (hl : l.length ≤ 1000000) (ht : ∀ s ∈ l, s.1.size ≤ 281474976710656 ∧ s.2.size ≤ 281474976710656) : (pairI l).Small :=
  ⟨by show -9223372036854775808 ≤ (4 : Int) ∧ (4 : Int) ≤ 9223372036854775807; omega, by show (⟨#[]⟩ : ByteArray).size ≤ _; decide, by show 0 ≤ _; omega, by show l.length ≤ _; omega, by show 0 ≤ _; omega, (fun p hp => by cases hp), ht, (fun p hp => by cases hp)⟩
def OwnI4 (base : Nat) (x : Itm) (w : World) (e : Ending) (w' : World) : Prop := ∃ u, e = .returned u ∧ ItemO w' base u x ∧ Fr [] w w'

theorem hashOf_own (l : List (ByteArray × ByteArray)) (base : Nat) (v : Value) (w : World) (hl : l.length ≤ 1000000) (ht : ∀ s ∈ l, s.1.size ≤ 281474976710656 ∧ s.2.size ≤ 281474976710656) (h : w.ownsRow base 57 2 v l.length (pairsV l)) :
    Calls Tryz.prog 67 #[v] w (OwnI4 base (ofP l) w) := by
  obtain ⟨A, c, rfl, -⟩ := own_slice h
  refine (hashOf_any l A c w w.heap.size (pairI_small hl ht) (Nat.le_refl _) (own_sl h)).mono ?_
  rintro e w' ⟨rfl, hf⟩
  unfold ofP
  by_cases h0 : l.length = 0
  · rw [if_pos h0, if_pos h0]
    exact ⟨_, rfl, ItemO.nothing _ _, hf⟩
  · rw [if_neg h0, if_neg h0]
    exact ⟨_, rfl, ⟨_, _, _, rfl, ⟨rfl, .inl ⟨rfl, rfl⟩⟩, own_fr h hf (by simp), ⟨rfl, .inl ⟨rfl, rfl⟩⟩⟩, hf⟩

theorem put1_any (a b : ByteArray) (w : World) : Calls Tryz.prog 62 #[.agg #[.string a, .string b]] w fun e w' => e = .returned (.bool (decide (60 < a.size) || decide (60 < b.size))) ∧ Fr [] w w' := by
  have L1 := Lib.hid (fun W => long_any a W)
  have L2 := Lib.hid (fun W => long_any b W)
  by_cases h : 60 < a.size
  · rw [decide_eq_true h] at L1 ⊢
    go_enter Tryz.func62, Tryz.ntmps62
    go_wp2_with fail
    refine (L1.out _).mono ?_
    rintro e w1 ⟨rfl, rfl⟩
    go_wp2
    go_ret
    exact ⟨rfl, (Fr.refl [] w).alloc _⟩
  · rw [decide_eq_false h] at L1 ⊢
    go_enter Tryz.func62, Tryz.ntmps62
    go_wp2_with fail
    refine (L1.out _).mono ?_
    rintro e w1 ⟨rfl, rfl⟩
    go_wp2_with fail
    refine (L2.out _).mono ?_
    rintro e w1 ⟨rfl, rfl⟩
    go_wp2
    go_ret
    exact ⟨rfl, (Fr.refl [] w).alloc _⟩

theorem put1_pred (D : Nat) (w : World) : PredP 62 #[] longP D w := fun W x hW => put1_any x.1 x.2 W

/-- slices.ContainsFunc at pairs, whatever the function. -/
theorem conFP_any (g : Nat) (lb : Array Value) (eg : ∀ args w, (callFunc g args).run Tryz.prog w = .ok (.enter g args) w) (p : (ByteArray × ByteArray) → Bool) (D : Nat) (l : List (ByteArray × ByteArray)) (A : Option Addr) (c B : Nat) (w : World) (hp : PredP g lb p D w) (hl : l.length ≤ 281474976710656) (hB : B ≤ w.heap.size)
    (hsl : Sl w B 2 (.slice A l.length c) l.length (pairsV l)) :
    Calls Tryz.prog 61 #[.slice A l.length c, .func (Fn.func g) #[] lb] w fun e w' => e = .returned (.bool (l.any p)) ∧ Fr [] w w' := by
  have I := Lib.hid (idxP_any g lb eg p D l A c B w hp hl hB hsl)
  have h := idxOf_any p l
  clear hsl hp
  generalize idxOf p l = r at *
  generalize l.any p = b at *
  generalize l.length = n at *
  cases b
  · have hr : r < 0 := by simpa using h
    clear h
    go_enter Tryz.func61, Tryz.ntmps61
    go_wp2_with fail
    refine I.out.mono ?_
    rintro e w1 ⟨rfl, h1⟩
    go_wp2
    go_ret
    exact ⟨by simp <;> omega, h1⟩
  · have hr : 0 ≤ r := by simpa using h
    clear h
    go_enter Tryz.func61, Tryz.ntmps61
    go_wp2_with fail
    refine I.out.mono ?_
    rintro e w1 ⟨rfl, h1⟩
    go_wp2
    go_ret
    exact ⟨by simp <;> omega, h1⟩

set_option maxHeartbeats 400000 in
set_option maxRecDepth 100000 in
theorem drop1_any (x : ByteArray × ByteArray) (l : List ByteArray) (A : Option Addr) (c g B : Nat) (w : World) (hl : l.length ≤ 281474976710656) (hB : B ≤ w.heap.size) (h : Sl w B 1 (.slice A l.length c) l.length (textsV l)) (hg : w.cell? ⟨g, 0, none⟩ = some (.slice A l.length c)) :
    Calls Tryz.prog 69 (#[.agg #[.string x.1, .string x.2]] ++ #[.pointer (some ⟨g, 0, none⟩)]) w fun e w' => e = .returned (.bool (l.any fun y => decide (y = x.1))) ∧ Fr [] w w' := by
  have F1 : Fr [] w (w.alloc (.cells #[.string x.1, .string x.2] 57)) := (Fr.refl [] w).alloc _
  have V1 := Lib.hid (show Whole (w.alloc (.cells #[.string x.1, .string x.2] 57)) w.heap.size 57 [.string x.1, .string x.2] from Whole.new w _ _)
  have CT := Lib.hid (fun W (hf : Fr [] w W) => containsS_any l x.1 A c B W hl (Nat.le_trans hB hf.size) (h.fr hf hB (by simp)))
  have hgl : g < w.heap.size := World.block_lt_of_cell? w _ hg
  have hg1 : (w.alloc (.cells #[.string x.1, .string x.2] 57)).cell? ⟨g, 0, none⟩ = some (.slice A l.length c) := F1.cell hg (by simp)
  have c0 : (w.alloc (.cells #[.string x.1, .string x.2] 57)).cell? ⟨w.heap.size, 0, none⟩ = some (.string x.1) := V1.out.cell 0
  generalize (l.any fun y => decide (y = x.1)) = b at *
  clear h hg
  go_enter Tryz.func69, Tryz.ntmps69
  go_wp2_with fail
  refine (CT.out _ F1).mono ?_
  rintro e w1 ⟨rfl, rfl⟩
  go_wp2
  go_ret
  exact ⟨rfl, F1⟩

theorem drop1_pred (l : List ByteArray) (A : Option Addr) (c g D : Nat) (w : World) (hl : l.length ≤ 281474976710656) (hD : D ≤ w.heap.size) (h : Sl w D 1 (.slice A l.length c) l.length (textsV l)) (hc : w.cell? ⟨g, 0, none⟩ = some (.slice A l.length c)) (hg : g < D) :
    PredP 69 #[.pointer (some ⟨g, 0, none⟩)] (fun x => l.any fun y => decide (y = x.1)) D w :=
  fun W x hW => drop1_any x l A c g D W hl (Nat.le_trans hD hW.size) (sl_frB h hW (Nat.le_refl _)) (frB_cell hW hc hg (by simp))

end Go.Proofs.YtkgbgmfidkimfaaGreat

namespace Go.Proofs.YtkgbgmfidkimfaaGreat

section
variable {α : Type} (key : α → ByteArray)
/-- the one that has a key. -/
def getK (l : List α) (f : ByteArray) : Option α := l.find? fun q => decide (key q = f)
theorem eq_low {l : List α} {f : ByteArray} {m : Nat} {q : α} (hr : rises (ltK key) l = true) (hq : l[m]? = some q) : key q = f ↔ hitK key l f = true ∧ m = lowK key l f := by
  constructor
  · rintro rfl
    exact ⟨hit_there key hr hq, (hit_of key hr hq).symm⟩
  · rintro ⟨h, rfl⟩
    obtain ⟨q', hq', he⟩ := (hitK_iff key).1 h
    rw [hq] at hq'
    cases hq'
    exact he
theorem getK_mem {l : List α} {f : ByteArray} {q : α} (h : getK key l f = some q) : q ∈ l ∧ key q = f := ⟨List.mem_of_find?_eq_some h, by have := List.find?_some h; simpa using this⟩
theorem getK_none {l : List α} {f : ByteArray} (h : getK key l f = none) : ∀ q ∈ l, key q ≠ f := fun q hq => by
  have := List.find?_eq_none.1 h q hq
  simpa using this
theorem getK_hit {l : List α} {f : ByteArray} (hr : rises (ltK key) l = true) (h : hitK key l f = true) : l[lowK key l f]? = getK key l f ∧ (getK key l f).isSome = true := by
  obtain ⟨q, hq, he⟩ := (hitK_iff key).1 h
  have hm := List.mem_of_getElem? hq
  cases hg : getK key l f with
  | none => exact absurd he (getK_none key hg q hm)
  | some q' =>
    obtain ⟨hm', he'⟩ := getK_mem key hg
    obtain ⟨k, hk⟩ := List.getElem?_of_mem hm'
    have e1 := hit_of key hr hk
    rw [he'] at e1
    rw [e1, hk]
    exact ⟨rfl, rfl⟩
theorem getK_miss {l : List α} {f : ByteArray} (hr : rises (ltK key) l = true) (h : hitK key l f = false) : getK key l f = none := by
  cases hg : getK key l f with
  | none => rfl
  | some q' =>
    obtain ⟨hm', he'⟩ := getK_mem key hg
    obtain ⟨k, hk⟩ := List.getElem?_of_mem hm'
    have := hit_there key hr hk
    rw [he', h] at this
    cases this
theorem getK_some {l : List α} {q : α} (hr : rises (ltK key) l = true) (h : q ∈ l) : getK key l (key q) = some q := by
  obtain ⟨k, hk⟩ := List.getElem?_of_mem h
  have h1 := hit_there key hr hk
  have h2 := getK_hit key hr h1
  rw [← h2.1, hit_of key hr hk]
  exact hk
theorem putK_in {l : List α} (p : α) : p ∈ putK key l p := by
  unfold putK
  by_cases h : hitK key l (key p) = true
  · rw [if_pos h]
    obtain ⟨q, hq, _⟩ := (hitK_iff key).1 h
    exact List.mem_iff_getElem?.2 ⟨lowK key l (key p), List.getElem?_set_self (List.getElem?_eq_some_iff.1 hq).1⟩
  · rw [if_neg h]
    simp
theorem putK_keep {l : List α} {p q : α} (hr : rises (ltK key) l = true) (hq : q ∈ l) (hne : key q ≠ key p) : q ∈ putK key l p := by
  obtain ⟨k, hk⟩ := List.getElem?_of_mem hq
  unfold putK
  by_cases h : hitK key l (key p) = true
  · rw [if_pos h]
    refine List.mem_iff_getElem?.2 ⟨k, ?_⟩
    rw [List.getElem?_set_ne]
    · exact hk
    · intro e
      exact hne ((eq_low key hr hk).2 ⟨h, e.symm⟩)
  · rw [if_neg h]
    have : q ∈ l.take (lowK key l (key p)) ++ l.drop (lowK key l (key p)) := by rw [List.take_append_drop]; exact hq
    rcases List.mem_append.1 this with h | h
    · exact List.mem_append.2 (.inl h)
    · exact List.mem_append.2 (.inr (.tail _ h))
theorem getK_put {l : List α} (p : α) (f : ByteArray) (hr : rises (ltK key) l = true) : getK key (putK key l p) f = if key p = f then some p else getK key l f := by
  have hr2 := putK_rises key p hr
  by_cases h : key p = f
  · rw [if_pos h, ← h]
    exact getK_some key hr2 (putK_in key p)
  · rw [if_neg h]
    cases hg : getK key l f with
    | some q =>
      obtain ⟨hm, he⟩ := getK_mem key hg
      have := getK_some key hr2 (putK_keep key (p := p) hr hm (by rw [he]; exact fun e => h e.symm))
      rw [he] at this
      exact this
    | none =>
      cases hg2 : getK key (putK key l p) f with
      | none => rfl
      | some q =>
        obtain ⟨hm, he⟩ := getK_mem key hg2
        rcases putK_mem key hm with rfl | hm
        · exact absurd he h
        · exact absurd he (getK_none key hg q hm)
theorem fold_rises : ∀ (l : List α) {xs : List α}, rises (ltK key) xs = true → rises (ltK key) (l.foldl (putK key) xs) = true
  | [], _, h => h
  | p :: r, _, h => fold_rises r (putK_rises key p h)
theorem fold_mem : ∀ (l : List α) {xs : List α} {q : α}, q ∈ l.foldl (putK key) xs → q ∈ l ∨ q ∈ xs
  | [], _, _, h => .inr h
  | p :: r, _, _, h => by
    rcases fold_mem r h with h | h
    · exact .inl (.tail _ h)
    · rcases putK_mem key h with rfl | h
      · exact .inl (.head _)
      · exact .inr h
theorem putK_len (l : List α) (p : α) : l.length ≤ (putK key l p).length ∧ (putK key l p).length ≤ l.length + 1 := by
  rw [putK_length]
  split <;> omega
theorem fold_len : ∀ (l xs : List α), (l.foldl (putK key) xs).length ≤ xs.length + l.length ∧ xs.length ≤ (l.foldl (putK key) xs).length
  | [], xs => ⟨Nat.le_refl _, Nat.le_refl _⟩
  | p :: r, xs => by
    have h1 := fold_len r (putK key xs p)
    have h2 := putK_len key xs p
    rw [List.foldl_cons, List.length_cons]
    omega
/-- the last of some that has a key. -/
def lastK (l : List α) (f : ByteArray) : Option α := l.foldl (fun a p => if key p = f then some p else a) none
theorem lastK_acc (f : ByteArray) : ∀ (l : List α) (a : Option α), l.foldl (fun a p => if key p = f then some p else a) a = (match lastK key l f with | some q => some q | none => a)
  | [], a => rfl
  | p :: r, a => by
    unfold lastK
    rw [List.foldl_cons, List.foldl_cons, lastK_acc f r, lastK_acc f r (if key p = f then some p else none)]
    cases lastK key r f with
    | some q => rfl
    | none =>
      by_cases h : key p = f
      · simp [h]
      · simp [h]
theorem getK_fold (f : ByteArray) : ∀ (l : List α) {xs : List α}, rises (ltK key) xs = true → getK key (l.foldl (putK key) xs) f = (match lastK key l f with | some q => some q | none => getK key xs f)
  | [], xs, h => rfl
  | p :: r, xs, h => by
    rw [List.foldl_cons, getK_fold f r (putK_rises key p h), getK_put key p f h]
    have : lastK key (p :: r) f = (match lastK key r f with | some q => some q | none => if key p = f then some p else none) := by
      unfold lastK
      rw [List.foldl_cons]
      exact lastK_acc key f r _
    rw [this]
    cases lastK key r f with
    | some q => rfl
    | none =>
      by_cases h2 : key p = f
      · simp [h2]
      · simp [h2]
end

def putF (x : Itm) (l : List (ByteArray × ByteArray)) : List (ByteArray × ByteArray) := l.foldl (putK Prod.fst) x.pairs
def pairsCode (x : Itm) (l : List (ByteArray × ByteArray)) : Int := if asCode 4 x ≠ 0 then asCode 4 x else if l.length = 0 then 1 else if l.any longP = true then 2 else 0
def putCode (x : Itm) (l : List (ByteArray × ByteArray)) : Int := if pairsCode x l ≠ 0 then pairsCode x l else if 24 < (putF x l).length then 2 else 0
def putY (x : Itm) (l : List (ByteArray × ByteArray)) : Itm := if putCode x l = 0 then ofP (putF x l) else newI 0
def putN (x : Itm) (l : List (ByteArray × ByteArray)) : Int := if putCode x l = 0 then ((putF x l).length : Int) - x.pairs.length else 0
def getCode (x : Itm) (f : ByteArray) : Int := if asCode 4 x ≠ 0 then asCode 4 x else match getK Prod.fst x.pairs f with | some _ => 0 | none => 5
def getS (x : Itm) (f : ByteArray) : ByteArray := if asCode 4 x ≠ 0 then ⟨#[]⟩ else match getK Prod.fst x.pairs f with | some q => q.2 | none => ⟨#[]⟩
def dropP (x : Itm) (l : List ByteArray) : List (ByteArray × ByteArray) := x.pairs.filter fun p => !(l.any fun y => decide (y = p.1))
def dropY (x : Itm) (l : List ByteArray) : Itm := if asCode 4 x = 0 then ofP (dropP x l) else newI 0
def dropN (x : Itm) (l : List ByteArray) : Int := if asCode 4 x = 0 then (x.pairs.length : Int) - (dropP x l).length else 0

/-- a hash's pairs stand in order. -/
theorem pairs_rise {x : Itm} (h : asCode 4 x = 0) : rises (ltK Prod.fst) x.pairs = true := by
  have hok := asOk_of h
  rcases hok.kind with h0 | h4
  · have hm := hok.none h0
    unfold many at hm
    have : x.pairs = [] := List.eq_nil_of_length_eq_zero (by omega)
    rw [this]
    rfl
  · have hc := hok.some (by omega)
    have hb := hok.bare
    unfold checkItm at hc
    rw [if_neg (by omega), if_neg (by rw [hb]; decide), if_neg (by omega)] at hc
    by_cases hm : many x = 0
    · rw [if_pos hm] at hc; cases hc
    · rw [if_neg hm] at hc
      by_cases h2 : 24 < many x ∨ longI x = true
      · rw [if_pos h2] at hc; cases hc
      · rw [if_neg h2] at hc
        by_cases h3 : (x.kind = 3 ∧ rises ltS x.list = false) ∨ (x.kind = 4 ∧ rises ltP x.pairs = false)
        · rw [if_pos h3] at hc; cases hc
        · have : ¬ rises ltP x.pairs = false := fun e => h3 (.inr ⟨h4, e⟩)
          have : rises ltP x.pairs = true := by simpa using this
          exact this
theorem ok_pairs {x : Itm} (h : asCode 4 x = 0) : x.pairs.length ≤ 24 ∧ ∀ p ∈ x.pairs, p.1.size ≤ 60 ∧ p.2.size ≤ 60 := by
  have hok := asOk_of h
  have := hok.le24
  unfold many at this
  exact ⟨by omega, hok.fields⟩
theorem not_long {l : List (ByteArray × ByteArray)} (h : ¬ l.any longP = true) : ∀ p ∈ l, p.1.size ≤ 60 ∧ p.2.size ≤ 60 := by
  intro p hp
  rw [Bool.not_eq_true, List.any_eq_false] at h
  have := h p hp
  unfold longP at this
  simp at this
  omega
end Go.Proofs.YtkgbgmfidkimfaaGreat
