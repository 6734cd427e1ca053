/- The walks of hash.ready, hash.of, and of the functions that Put and Drop hand on. (Printed by hashes.py.) -/
import Derived.Test.YtfkfdmonnebmmaaBo
import Derived.Test.YtfkfdmonnebmmaaHwA
import Derived.Test.YtfkfdmonnebmmaaHpA
import Derived.Test.YtfkfdmonnebmmaaLs
import Derived.Test.YtfkfdmonnebmmaaLpA
import Derived.Test.YtfkfdmonnebmmaaDelFP
import Derived.Test.YtfkfdmonnebmmaaIdxP
set_option linter.unusedVariables false
set_option linter.unusedSimpArgs false
namespace Go.Proofs.Ytfkfdmonnebmmaa
open Go.RowKit

set_option maxRecDepth 100000 in
theorem ready4_any (x : Itm) (v : Value) (w : World) (B : Nat) (hs : x.Small) (hB : B ≤ w.heap.size) (h : ItemV w B v x) :
    Calls Try.prog 90 #[v] w fun e w' => e = .returned (.int .i64 (asCode 4 x)) ∧ Fr [] w w' := by
  have M := Lib.hid (fun W (hf : Fr [] w W) => as_any x 4 v W B hs (Nat.le_trans hB hf.size) (h.fr hf hB (by simp)))
  obtain ⟨A1, c1, A2, c2, A3, c3, rfl, h1, h2, h3⟩ := h
  have F1 : Fr [] w (w.alloc (.cells #[.int .i64 x.kind, .string x.text, .slice A1 x.list.length c1, .slice A2 x.pairs.length c2, .slice A3 x.scores.length c3] 33)) := (Fr.refl [] w).alloc _
  go_enter Try.func90, Try.ntmps90
  go_wp2_with fail
  refine (M.out _ F1).mono ?_
  rintro e w1 ⟨rfl, f1⟩
  go_wp2
  go_ret
  exact ⟨rfl, F1.trans f1⟩

def pairI (l : List (ByteArray × ByteArray)) : Itm := ⟨4, ⟨#[]⟩, [], l, []⟩

set_option maxRecDepth 100000 in
theorem hashOf_any (l : List (ByteArray × ByteArray)) (A : Option Addr) (c : Nat) (w : World) (B : Nat) (hs : (pairI l).Small) (hB : B ≤ w.heap.size) (h : Sl w B 2 (.slice A l.length c) l.length (pairsV l)) :
    Calls Try.prog 96 #[.slice A l.length c] w fun e w' => e = .returned (if l.length = 0 then .agg #[.int .i64 0, .string ⟨#[]⟩, .slice none 0 0, .slice none 0 0, .slice none 0 0] else .agg #[.int .i64 4, .string ⟨#[]⟩, .slice none 0 0, .slice A l.length c, .slice none 0 0]) ∧ Fr [] w w' := by
  have hv : ItemV w B (.agg #[.int .i64 4, .string ⟨#[]⟩, .slice none 0 0, .slice A l.length c, .slice none 0 0]) (pairI l) := ⟨none, 0, A, c, none, 0, rfl, Sl.nil _ _ _, h, Sl.nil _ _ _⟩
  have O := Lib.hid (fun W (hf : Fr [] w W) => (show Calls Try.prog 119 #[.agg #[.int .i64 4, .string ⟨#[]⟩, .slice none 0 0, .slice A l.length c, .slice none 0 0]] W fun e w' => e = .returned (if l.length = 0 then .agg #[.int .i64 0, .string ⟨#[]⟩, .slice none 0 0, .slice none 0 0, .slice none 0 0] else .agg #[.int .i64 4, .string ⟨#[]⟩, .slice none 0 0, .slice A l.length c, .slice none 0 0]) ∧ Fr [] W w' from by have := of_any (pairI l) (.agg #[.int .i64 4, .string ⟨#[]⟩, .slice none 0 0, .slice A l.length c, .slice none 0 0]) W B hs (Nat.le_trans hB hf.size) (hv.fr hf hB (by simp)) (show (4 : Int) ≠ 1 by decide); unfold ofV at this; rw [show many (pairI l) = l.length from by show 0 + l.length + 0 = l.length; omega] at this; exact this))
  have F1 : Fr [] w (w.alloc (.cells #[.int .i64 0, .string ⟨#[]⟩, .slice none 0 0, .slice none 0 0, .slice none 0 0] 33)) := (Fr.refl [] w).alloc _
  have R1 := Lib.hid (show Whole (w.alloc (.cells #[.int .i64 0, .string ⟨#[]⟩, .slice none 0 0, .slice none 0 0, .slice none 0 0] 33)) w.heap.size 33 [.int .i64 0, .string ⟨#[]⟩, .slice none 0 0, .slice none 0 0, .slice none 0 0] from Whole.new w _ _)
  clear hv h hs
  by_cases hm : l.length = 0
  · rw [if_pos hm] at O ⊢
    clear hm
    go_enter Try.func96, Try.ntmps96
    go_wp2_with fail
    refine (O.out _ F1).mono ?_
    rintro e w1 ⟨rfl, f1⟩
    have F2 := F1.trans f1
    have R2 := Lib.hid (R1.out.fr f1 (by simp))
    obtain ⟨a0, a1, a2, a3, a4⟩ := five R2.out
    obtain ⟨b0, b2, b3, b4, b5⟩ := fiveF R2.out
    go_wp2
    refine bodyPost_ret (v := .agg #[.int .i64 0, .string ⟨#[]⟩, .slice none 0 0, .slice none 0 0, .slice none 0 0]) (by simp [results, Try.results96, go_sem, a0, a1, a2, a3, a4]) rfl ?_
    refine ⟨rfl, fr_set5 F2 (Nat.le_refl _) _ _ _ _ _⟩
  · rw [if_neg hm] at O ⊢
    clear hm
    go_enter Try.func96, Try.ntmps96
    go_wp2_with fail
    refine (O.out _ F1).mono ?_
    rintro e w1 ⟨rfl, f1⟩
    have F2 := F1.trans f1
    have R2 := Lib.hid (R1.out.fr f1 (by simp))
    obtain ⟨a0, a1, a2, a3, a4⟩ := five R2.out
    obtain ⟨b0, b2, b3, b4, b5⟩ := fiveF R2.out
    go_wp2
    refine bodyPost_ret (v := .agg #[.int .i64 4, .string ⟨#[]⟩, .slice none 0 0, .slice A l.length c, .slice none 0 0]) (by simp [results, Try.results96, go_sem, a0, a1, a2, a3, a4]) rfl ?_
    refine ⟨rfl, fr_set5 F2 (Nat.le_refl _) _ _ _ _ _⟩

/-- a hash of pairs, or nothing. -/
def ofP (l : List (ByteArray × ByteArray)) : Itm := if l.length = 0 then newI 0 else pairI l
theorem pairI_small {l : List (ByteArray × ByteArray)} (hl : l.length ≤ 1000000) (ht : ∀ s ∈ l, s.1.size ≤ 281474976710656 ∧ s.2.size ≤ 281474976710656) : (pairI l).Small :=
  ⟨by show -9223372036854775808 ≤ (4 : Int) ∧ (4 : Int) ≤ 9223372036854775807; omega, by show (⟨#[]⟩ : ByteArray).size ≤ _; decide, by show 0 ≤ _; omega, by show l.length ≤ _; omega, by show 0 ≤ _; omega, (fun p hp => by cases hp), ht, (fun p hp => by cases hp)⟩
def OwnI4 (base : Nat) (x : Itm) (w : World) (e : Ending) (w' : World) : Prop := ∃ u, e = .returned u ∧ ItemO w' base u x ∧ Fr [] w w'

theorem hashOf_own (l : List (ByteArray × ByteArray)) (base : Nat) (v : Value) (w : World) (hl : l.length ≤ 1000000) (ht : ∀ s ∈ l, s.1.size ≤ 281474976710656 ∧ s.2.size ≤ 281474976710656) (h : w.ownsRow base 64 2 v l.length (pairsV l)) :
    Calls Try.prog 96 #[v] w (OwnI4 base (ofP l) w) := by
  obtain ⟨A, c, rfl, -⟩ := own_slice h
  refine (hashOf_any l A c w w.heap.size (pairI_small hl ht) (Nat.le_refl _) (own_sl h)).mono ?_
  rintro e w' ⟨rfl, hf⟩
  unfold ofP
  by_cases h0 : l.length = 0
  · rw [if_pos h0, if_pos h0]
    exact ⟨_, rfl, ItemO.nothing _ _, hf⟩
  · rw [if_neg h0, if_neg h0]
    exact ⟨_, rfl, ⟨_, _, _, rfl, ⟨rfl, .inl ⟨rfl, rfl⟩⟩, own_fr h hf (by simp), ⟨rfl, .inl ⟨rfl, rfl⟩⟩⟩, hf⟩

theorem put1_any (a b : ByteArray) (w : World) : Calls Try.prog 92 #[.agg #[.string a, .string b]] w fun e w' => e = .returned (.bool (decide (60 < a.size) || decide (60 < b.size))) ∧ Fr [] w w' := by
  have L1 := Lib.hid (fun W => long_any a W)
  have L2 := Lib.hid (fun W => long_any b W)
  by_cases h : 60 < a.size
  · rw [decide_eq_true h] at L1 ⊢
    go_enter Try.func92, Try.ntmps92
    go_wp2_with fail
    refine (L1.out _).mono ?_
    rintro e w1 ⟨rfl, rfl⟩
    go_wp2
    go_ret
    exact ⟨rfl, (Fr.refl [] w).alloc _⟩
  · rw [decide_eq_false h] at L1 ⊢
    go_enter Try.func92, Try.ntmps92
    go_wp2_with fail
    refine (L1.out _).mono ?_
    rintro e w1 ⟨rfl, rfl⟩
    go_wp2_with fail
    refine (L2.out _).mono ?_
    rintro e w1 ⟨rfl, rfl⟩
    go_wp2
    go_ret
    exact ⟨rfl, (Fr.refl [] w).alloc _⟩

theorem frB_cell {S : List Nat} {B : Nat} {a b : World} (h : FrB S B a b) {p : Addr} {v : Value} (hc : a.cell? p = some v) (hB : p.block < B) (hS : p.block ∉ S) : b.cell? p = some v :=
  (World.cell?_of_block (h.block _ (World.block_lt_of_cell? a p hc) hB hS)).trans hc
theorem sl_frB {w w' : World} {B D size n : Nat} {v : Value} {xs : List Value} (h : Sl w B size v n xs) (hf : FrB [] D w w') (hD : B ≤ D) : Sl w' B size v n xs := by
  obtain ⟨A, c, e, hl, hc, hm, hr⟩ := h
  refine ⟨A, c, e, hl, hc, hm, fun hn => ?_⟩
  obtain ⟨g, off, e2, hg, hcell⟩ := hr hn
  exact ⟨g, off, e2, hg, fun j u hu => frB_cell hf (hcell j u hu) (Nat.lt_of_lt_of_le hg hD) (by simp)⟩
theorem put1_pred (D : Nat) (w : World) : PredP 92 #[] longP D w := fun W x hW => put1_any x.1 x.2 W

/-- slices.ContainsFunc at pairs, whatever the function. -/
theorem conFP_any (g : Nat) (lb : Array Value) (eg : ∀ args w, (callFunc g args).run Try.prog w = .ok (.enter g args) w) (p : (ByteArray × ByteArray) → Bool) (D : Nat) (l : List (ByteArray × ByteArray)) (A : Option Addr) (c B : Nat) (w : World) (hp : PredP g lb p D w) (hl : l.length ≤ 281474976710656) (hB : B ≤ w.heap.size)
    (hsl : Sl w B 2 (.slice A l.length c) l.length (pairsV l)) :
    Calls Try.prog 91 #[.slice A l.length c, .func (Fn.func g) #[] lb] w fun e w' => e = .returned (.bool (l.any p)) ∧ Fr [] w w' := by
  have I := Lib.hid (idxP_any g lb eg p D l A c B w hp hl hB hsl)
  have h := idxOf_any p l
  clear hsl hp
  generalize idxOf p l = r at *
  generalize l.any p = b at *
  generalize l.length = n at *
  cases b
  · have hr : r < 0 := by simpa using h
    clear h
    go_enter Try.func91, Try.ntmps91
    go_wp2_with fail
    refine I.out.mono ?_
    rintro e w1 ⟨rfl, h1⟩
    go_wp2
    go_ret
    exact ⟨by simp <;> omega, h1⟩
  · have hr : 0 ≤ r := by simpa using h
    clear h
    go_enter Try.func91, Try.ntmps91
    go_wp2_with fail
    refine I.out.mono ?_
    rintro e w1 ⟨rfl, h1⟩
    go_wp2
    go_ret
    exact ⟨by simp <;> omega, h1⟩

set_option maxHeartbeats 400000 in
set_option maxRecDepth 100000 in
theorem drop1_any (x : ByteArray × ByteArray) (l : List ByteArray) (A : Option Addr) (c g B : Nat) (w : World) (hl : l.length ≤ 281474976710656) (hB : B ≤ w.heap.size) (h : Sl w B 1 (.slice A l.length c) l.length (textsV l)) (hg : w.cell? ⟨g, 0, none⟩ = some (.slice A l.length c)) :
    Calls Try.prog 98 (#[.agg #[.string x.1, .string x.2]] ++ #[.pointer (some ⟨g, 0, none⟩)]) w fun e w' => e = .returned (.bool (l.any fun y => decide (y = x.1))) ∧ Fr [] w w' := by
  have F1 : Fr [] w (w.alloc (.cells #[.string x.1, .string x.2] 64)) := (Fr.refl [] w).alloc _
  have V1 := Lib.hid (show Whole (w.alloc (.cells #[.string x.1, .string x.2] 64)) w.heap.size 64 [.string x.1, .string x.2] from Whole.new w _ _)
  have CT := Lib.hid (fun W (hf : Fr [] w W) => containsS_any l x.1 A c B W hl (Nat.le_trans hB hf.size) (h.fr hf hB (by simp)))
  have hgl : g < w.heap.size := World.block_lt_of_cell? w _ hg
  have hg1 : (w.alloc (.cells #[.string x.1, .string x.2] 64)).cell? ⟨g, 0, none⟩ = some (.slice A l.length c) := F1.cell hg (by simp)
  have c0 : (w.alloc (.cells #[.string x.1, .string x.2] 64)).cell? ⟨w.heap.size, 0, none⟩ = some (.string x.1) := V1.out.cell 0
  generalize (l.any fun y => decide (y = x.1)) = b at *
  clear h hg
  go_enter Try.func98, Try.ntmps98
  go_wp2_with fail
  refine (CT.out _ F1).mono ?_
  rintro e w1 ⟨rfl, rfl⟩
  go_wp2
  go_ret
  exact ⟨rfl, F1⟩

theorem drop1_pred (l : List ByteArray) (A : Option Addr) (c g D : Nat) (w : World) (hl : l.length ≤ 281474976710656) (hD : D ≤ w.heap.size) (h : Sl w D 1 (.slice A l.length c) l.length (textsV l)) (hc : w.cell? ⟨g, 0, none⟩ = some (.slice A l.length c)) (hg : g < D) :
    PredP 98 #[.pointer (some ⟨g, 0, none⟩)] (fun x => l.any fun y => decide (y = x.1)) D w :=
  fun W x hW => drop1_any x l A c g D W hl (Nat.le_trans hD hW.size) (sl_frB h hW (Nat.le_refl _)) (frB_cell hW hc hg (by simp))

end Go.Proofs.Ytfkfdmonnebmmaa
