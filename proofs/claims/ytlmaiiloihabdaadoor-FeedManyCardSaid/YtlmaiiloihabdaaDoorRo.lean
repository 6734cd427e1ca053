/- Rows of rows of texts: what they read as. No walk. -/
import Derived.Test.YtlmaiiloihabdaaDoorItf
import Derived.Test.YtlmaiiloihabdaaDoorSlA
set_option linter.unusedVariables false
set_option linter.unusedSimpArgs false
namespace Go.Proofs.YtlmaiiloihabdaaDoor
open Go.RowKit

/-- values tell a list, one by one. -/
structure RelV {α : Type} (P : Value → α → Prop) (vs : List Value) (l : List α) : Prop where
  len : vs.length = l.length
  at_ : ∀ (i : Nat) (x : α), l[i]? = some x → ∃ v, vs[i]? = some v ∧ P v x
theorem RelV.nil {α : Type} {P : Value → α → Prop} : RelV P [] [] := ⟨rfl, fun i x h => by simp at h⟩
theorem RelV.imp {α : Type} {P Q : Value → α → Prop} {vs : List Value} {l : List α} (h : RelV P vs l) (hi : ∀ v x, P v x → Q v x) : RelV Q vs l :=
  ⟨h.len, fun i x hx => by
    obtain ⟨v, h1, h2⟩ := h.at_ i x hx
    exact ⟨v, h1, hi _ _ h2⟩⟩
theorem RelV.append {α : Type} {P : Value → α → Prop} {vs us : List Value} {l m : List α} (h : RelV P vs l) (k : RelV P us m) : RelV P (vs ++ us) (l ++ m) :=
  ⟨by simp [h.len, k.len], fun i x hx => by
    rcases Nat.lt_or_ge i l.length with h1 | h1
    · rw [List.getElem?_append_left h1] at hx
      obtain ⟨v, h2, h3⟩ := h.at_ i x hx
      exact ⟨v, by rw [List.getElem?_append_left (by rw [h.len]; exact h1)]; exact h2, h3⟩
    · rw [List.getElem?_append_right h1] at hx
      obtain ⟨v, h2, h3⟩ := k.at_ _ x hx
      exact ⟨v, by rw [List.getElem?_append_right (by rw [h.len]; exact h1), h.len]; exact h2, h3⟩⟩
theorem RelV.one {α : Type} {P : Value → α → Prop} {v : Value} {x : α} (h : P v x) : RelV P [v] [x] :=
  ⟨rfl, fun i y hy => by
    cases i with
    | zero => simp at hy; subst hy; exact ⟨v, rfl, h⟩
    | succ i => simp at hy⟩
theorem RelV.snoc {α : Type} {P : Value → α → Prop} {vs : List Value} {l : List α} {v : Value} {x : α} (h : RelV P vs l) (hv : P v x) : RelV P (vs ++ [v]) (l ++ [x]) := h.append (RelV.one hv)
theorem RelV.mem {α : Type} {P : Value → α → Prop} {vs : List Value} {l : List α} (h : RelV P vs l) {v : Value} (hv : v ∈ vs) : ∃ x, x ∈ l ∧ P v x := by
  obtain ⟨i, hi⟩ := List.getElem?_of_mem hv
  have hlt := (List.getElem?_eq_some_iff.1 hi).1
  obtain ⟨u, h1, h2⟩ := h.at_ i _ (List.getElem?_eq_getElem (show i < l.length by rw [← h.len]; exact hlt))
  rw [hi] at h1
  cases h1
  exact ⟨_, List.getElem_mem _, h2⟩

/-- a row of texts, to be read; one's own. -/
def TxV (w : World) (B : Nat) (v : Value) (l : List ByteArray) : Prop := ∃ A c, v = .slice A l.length c ∧ Sl w B 1 (.slice A l.length c) l.length (textsV l)
def TxO (w : World) (base : Nat) (v : Value) (l : List ByteArray) : Prop := w.ownsRow base 9 1 v l.length (textsV l)
theorem TxV.fr {w w' : World} {B : Nat} {S : List Nat} {v : Value} {l : List ByteArray} (h : TxV w B v l) (hf : Fr S w w') (hB : B ≤ w.heap.size) (hS : ∀ k, k ∈ S → B ≤ k) : TxV w' B v l := by
  obtain ⟨A, c, e, h⟩ := h
  exact ⟨A, c, e, h.fr hf hB hS⟩
theorem TxV.more {w : World} {B B' : Nat} {v : Value} {l : List ByteArray} (h : TxV w B v l) (hB : B ≤ B') : TxV w B' v l := by
  obtain ⟨A, c, e, h⟩ := h
  exact ⟨A, c, e, h.more hB⟩
theorem TxO.v {w : World} {base : Nat} {v : Value} {l : List ByteArray} (h : TxO w base v l) : TxV w w.heap.size v l := by
  obtain ⟨A, c, rfl, -⟩ := own_slice h
  exact ⟨A, c, rfl, own_sl h⟩
theorem TxV.one {w : World} {B : Nat} {v : Value} {l : List ByteArray} (h : TxV w B v l) : v.oneCell' = true := by obtain ⟨A, c, rfl, -⟩ := h; rfl
theorem TxO.one {w : World} {B : Nat} {v : Value} {l : List ByteArray} (h : TxO w B v l) : v.oneCell' = true := h.v.one

def RowsV (w : World) (B : Nat) (v : Value) (ls : List (List ByteArray)) : Prop := ∃ A c, ∃ vs : List Value, v = .slice A ls.length c ∧ RelV (TxV w B) vs ls ∧ Sl w B 1 v ls.length vs
def RowsR (w : World) (base B : Nat) (v : Value) (ls : List (List ByteArray)) : Prop := ∃ vs : List Value, RelV (TxV w B) vs ls ∧ w.ownsRow base 22 1 v ls.length vs
def RowsO (w : World) (base : Nat) (v : Value) (ls : List (List ByteArray)) : Prop := ∃ vs : List Value, RelV (TxO w base) vs ls ∧ w.ownsRow base 22 1 v ls.length vs
theorem RowsV.form {w : World} {B : Nat} {v : Value} {ls : List (List ByteArray)} (h : RowsV w B v ls) : ∃ A c, v = .slice A ls.length c := by obtain ⟨A, c, vs, rfl, _⟩ := h; exact ⟨A, c, rfl⟩
theorem RowsR.form {w : World} {base B : Nat} {v : Value} {ls : List (List ByteArray)} (h : RowsR w base B v ls) : ∃ A c, v = .slice A ls.length c := by
  obtain ⟨vs, _, ho⟩ := h
  obtain ⟨A, c, rfl, -⟩ := own_slice ho
  exact ⟨A, c, rfl⟩
theorem RowsO.form {w : World} {base : Nat} {v : Value} {ls : List (List ByteArray)} (h : RowsO w base v ls) : ∃ A c, v = .slice A ls.length c := by
  obtain ⟨vs, _, ho⟩ := h
  obtain ⟨A, c, rfl, -⟩ := own_slice ho
  exact ⟨A, c, rfl⟩
theorem RowsO.v {w : World} {base : Nat} {v : Value} {ls : List (List ByteArray)} (h : RowsO w base v ls) : RowsV w w.heap.size v ls := by
  obtain ⟨vs, hr, ho⟩ := h
  obtain ⟨A, c, rfl, -⟩ := own_slice ho
  exact ⟨A, c, vs, rfl, hr.imp (fun _ _ h => h.v), own_sl ho⟩
theorem RowsR.v {w : World} {base B : Nat} {v : Value} {ls : List (List ByteArray)} (h : RowsR w base B v ls) (hB : B ≤ w.heap.size) : RowsV w w.heap.size v ls := by
  obtain ⟨vs, hr, ho⟩ := h
  obtain ⟨A, c, rfl, -⟩ := own_slice ho
  exact ⟨A, c, vs, rfl, hr.imp (fun _ _ h => h.more hB), own_sl ho⟩
theorem RowsV.fr {w w' : World} {B : Nat} {S : List Nat} {v : Value} {ls : List (List ByteArray)} (h : RowsV w B v ls) (hf : Fr S w w') (hB : B ≤ w.heap.size) (hS : ∀ k, k ∈ S → B ≤ k) : RowsV w' B v ls := by
  obtain ⟨A, c, vs, e, hr, hs⟩ := h
  exact ⟨A, c, vs, e, hr.imp (fun _ _ h => h.fr hf hB hS), hs.fr hf hB hS⟩
theorem RowsV.more {w : World} {B B' : Nat} {v : Value} {ls : List (List ByteArray)} (h : RowsV w B v ls) (hB : B ≤ B') : RowsV w B' v ls := by
  obtain ⟨A, c, vs, e, hr, hs⟩ := h
  exact ⟨A, c, vs, e, hr.imp (fun _ _ h => h.more hB), hs.more hB⟩
theorem RowsV.go {w w' : World} {v : Value} {ls : List (List ByteArray)} (h : RowsV w w.heap.size v ls) (hf : Fr [] w w') : RowsV w' w'.heap.size v ls := (h.fr hf (Nat.le_refl _) (by simp)).more hf.size
theorem RowsO.fr {w w' : World} {base : Nat} {v : Value} {ls : List (List ByteArray)} (h : RowsO w base v ls) (hf : Fr [] w w') : RowsO w' base v ls := by
  obtain ⟨vs, hr, ho⟩ := h
  exact ⟨vs, hr.imp (fun _ _ h => own_fr h hf (by simp)), own_fr ho hf (by simp)⟩
theorem RowsO.base {w : World} {base base' : Nat} {v : Value} {ls : List (List ByteArray)} (h : RowsO w base v ls) (hb : base' ≤ base) : RowsO w base' v ls := by
  obtain ⟨vs, hr, ho⟩ := h
  exact ⟨vs, hr.imp (fun _ _ h => own_base h hb), own_base ho hb⟩
theorem RowsR.fr {w w' : World} {base B : Nat} {v : Value} {ls : List (List ByteArray)} (h : RowsR w base B v ls) (hf : Fr [] w w') (hB : B ≤ w.heap.size) : RowsR w' base B v ls := by
  obtain ⟨vs, hr, ho⟩ := h
  exact ⟨vs, hr.imp (fun _ _ h => h.fr hf hB (by simp)), own_fr ho hf (by simp)⟩
theorem RowsR.base {w : World} {base base' B : Nat} {v : Value} {ls : List (List ByteArray)} (h : RowsR w base B v ls) (hb : base' ≤ base) : RowsR w base' B v ls := by
  obtain ⟨vs, hr, ho⟩ := h
  exact ⟨vs, hr, own_base ho hb⟩
theorem RowsV.nil (w : World) (B : Nat) : RowsV w B (.slice none 0 0) [] := ⟨none, 0, [], rfl, RelV.nil, Sl.nil _ _ _⟩
theorem RowsO.nil (w : World) (base : Nat) : RowsO w base (.slice none 0 0) [] := ⟨[], RelV.nil, World.ownsRow_nil _ _ _ _⟩
theorem RowsR.nil (w : World) (base B : Nat) : RowsR w base B (.slice none 0 0) [] := ⟨[], RelV.nil, World.ownsRow_nil _ _ _ _⟩
theorem txTypes : 9 ≠ 22 := by decide
theorem TxO.grown {w w' : World} {base base' n : Nat} {v x : Value} {l : List ByteArray} {xs : List Value} (h : TxO w base x l) (ho : w.ownsRow base' 22 1 v n xs) (hg : w.grownBy w' v.ownBlock) : TxO w' base x l :=
  own_fr h (fr_ownL hg) (fun k hk hm => by
    rcases own_own h ho txTypes with h1 | h1
    · rw [h1] at hk; cases hk
    · refine h1 ?_
      rw [hk]
      unfold ownL at hm
      split at hm
      · simp at hm; subst hm; rfl
      · cases hm)
theorem RowsO.snoc {w w' : World} {base n : Nat} {v v' x : Value} {l : List ByteArray} {ls : List (List ByteArray)} {vs : List Value} (hr : RelV (TxO w base) vs ls) (hx : TxO w base x l) (hn : ls.length = n) (ho : w.ownsRow base 22 1 v n vs) (hg : w.grownBy w' v.ownBlock) (ho' : w'.ownsRow base 22 1 v' (n + 1) (vs ++ [x])) : RowsO w' base v' (ls ++ [l]) :=
  ⟨vs ++ [x], (hr.imp (fun _ _ h => h.grown ho hg)).snoc (hx.grown ho hg), by rw [List.length_append, hn]; exact ho'⟩
theorem RowsR.snoc {w w' : World} {base B n : Nat} {v v' x : Value} {l : List ByteArray} {ls : List (List ByteArray)} {vs : List Value} (hr : RelV (TxV w B) vs ls) (hx : TxV w B x l) (hn : ls.length = n) (hB : B ≤ w.heap.size) (hb : B ≤ base) (ho : w.ownsRow base 22 1 v n vs) (hg : w.grownBy w' v.ownBlock) (ho' : w'.ownsRow base 22 1 v' (n + 1) (vs ++ [x])) : RowsR w' base B v' (ls ++ [l]) :=
  ⟨vs ++ [x], (hr.imp (fun _ _ h => h.fr (fr_ownL hg) hB (fun k hk => Nat.le_trans hb (ownL_base ho hk)))).snoc (hx.fr (fr_ownL hg) hB (fun k hk => Nat.le_trans hb (ownL_base ho hk))), by rw [List.length_append, hn]; exact ho'⟩
/-- an element's cell, and what it reads as. -/
theorem RowsV.at_ {w : World} {B : Nat} {A : Option Addr} {c : Nat} {ls : List (List ByteArray)} (h : RowsV w B (.slice A ls.length c) ls) (hn : 0 < ls.length) :
    ∃ b off, A = some ⟨b, off, none⟩ ∧ b < B ∧ ls.length ≤ c ∧ c ≤ maxLen ∧ ∀ (i : Nat) (l : List ByteArray), ls[i]? = some l → ∃ A1 c1, w.cell? ⟨b, off + i, none⟩ = some (.slice A1 l.length c1) ∧ Sl w B 1 (.slice A1 l.length c1) l.length (textsV l) := by
  obtain ⟨A', c', vs, hv, hr, hs⟩ := h
  cases hv
  obtain ⟨b, off, rfl, hb, hc, hm, hcell⟩ := hs.at_ hn
  refine ⟨b, off, rfl, hb, hc, hm, fun i l hl => ?_⟩
  obtain ⟨v, h1, A1, c1, rfl, h2⟩ := hr.at_ i l hl
  exact ⟨A1, c1, hcell i _ h1, h2⟩
theorem rowsInfo : (Tryd.prog.info? 22).map (fun i => (i.zero, i.size, i.bytes)) = some (some (.slice none 0 0), 1, 24) := by kernel_rfl
end Go.Proofs.YtlmaiiloihabdaaDoor
