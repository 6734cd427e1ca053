/- Spaces: entries, and what a row of entries reads as; what Check says of one. No walk. -/
import Derived.Test.YtoabjcnacnojbaaDoorItf
import Derived.Test.YtoabjcnacnojbaaDoorLs
import Derived.Test.YtoabjcnacnojbaaDoorHpA
import Derived.Test.YtoabjcnacnojbaaDoorSlA
set_option linter.unusedVariables false
set_option linter.unusedSimpArgs false
namespace Go.Proofs.YtoabjcnacnojbaaDoor
open Go.RowKit

theorem flatN (n : Nat) : ∀ (rs : List (List Value)) (i j : Nat) (cs : List Value), (∀ c ∈ rs, c.length = n) → rs[i]? = some cs → j < n → rs.flatten[i * n + j]? = cs[j]?
  | [], i, j, cs, _, h, _ => by simp at h
  | r :: rs, 0, j, cs, hl, h, hj => by
    simp at h
    subst h
    rw [Nat.zero_mul, Nat.zero_add, List.flatten_cons, List.getElem?_append_left (by rw [hl r (by simp)]; exact hj)]
  | r :: rs, i + 1, j, cs, hl, h, hj => by
    have hr := hl r (by simp)
    have e : (i + 1) * n = i * n + n := Nat.succ_mul i n
    rw [List.flatten_cons, List.getElem?_append_right (by omega), hr, show (i + 1) * n + j - n = i * n + j from by omega]
    exact flatN n rs i j cs (fun c hc => hl c (by simp [hc])) (by simpa using h) hj
theorem flatN_len (n : Nat) : ∀ (rs : List (List Value)), (∀ c ∈ rs, c.length = n) → rs.flatten.length = rs.length * n
  | [], _ => by simp
  | r :: rs, hl => by
    have e : (rs.length + 1) * n = rs.length * n + n := Nat.succ_mul _ n
    rw [List.flatten_cons, List.length_append, hl r (by simp), flatN_len n rs (fun c hc => hl c (by simp [hc])), List.length_cons, e]
    omega
theorem flatN_take (n : Nat) : ∀ (rs : List (List Value)) (i : Nat), (∀ c ∈ rs, c.length = n) → rs.flatten.take (i * n) = (rs.take i).flatten
  | [], i, _ => by simp
  | r :: rs, 0, _ => by simp
  | r :: rs, i + 1, hl => by
    have hr := hl r (by simp)
    have e : (i + 1) * n = n + i * n := by rw [Nat.succ_mul, Nat.add_comm]
    rw [List.flatten_cons, List.take_succ_cons, List.flatten_cons, e, List.take_append, hr, List.take_of_length_le (by omega), Nat.add_sub_cancel_left, flatN_take n rs i (fun c hc => hl c (by simp [hc]))]
theorem flatN_drop (n : Nat) : ∀ (rs : List (List Value)) (i : Nat), (∀ c ∈ rs, c.length = n) → rs.flatten.drop (i * n) = (rs.drop i).flatten
  | [], i, _ => by simp
  | r :: rs, 0, _ => by simp
  | r :: rs, i + 1, hl => by
    have hr := hl r (by simp)
    have e : (i + 1) * n = n + i * n := by rw [Nat.succ_mul, Nat.add_comm]
    rw [List.flatten_cons, List.drop_succ_cons, e, List.drop_append, hr, List.drop_of_length_le (by omega), Nat.add_sub_cancel_left, List.nil_append, flatN_drop n rs i (fun c hc => hl c (by simp [hc]))]

/-- an entry of a space. -/
structure Ent where
  key : ByteArray
  item : Itm
  til : Int
def newE : Ent := ⟨⟨#[]⟩, newI 0, 0⟩
structure Ent.Small (e : Ent) : Prop where
  key : e.key.size ≤ 281474976710656
  item : e.item.Small
  til : -9223372036854775808 ≤ e.til ∧ e.til ≤ 9223372036854775807

def ent7 (e : Ent) (A1 : Option Addr) (c1 : Nat) (A2 : Option Addr) (c2 : Nat) (A3 : Option Addr) (c3 : Nat) : List Value :=
  [.string e.key, .int .i64 e.item.kind, .string e.item.text, .slice A1 e.item.list.length c1, .slice A2 e.item.pairs.length c2, .slice A3 e.item.scores.length c3, .int .i64 e.til]
/-- seven cells read as an entry. -/
def EntC (w : World) (B : Nat) (cs : List Value) (e : Ent) : Prop :=
  ∃ A1 c1 A2 c2 A3 c3, cs = ent7 e A1 c1 A2 c2 A3 c3 ∧ Sl w B 1 (.slice A1 e.item.list.length c1) e.item.list.length (textsV e.item.list) ∧ Sl w B 2 (.slice A2 e.item.pairs.length c2) e.item.pairs.length (pairsV e.item.pairs) ∧ Sl w B 2 (.slice A3 e.item.scores.length c3) e.item.scores.length (scoresV e.item.scores)
theorem EntC.len {w : World} {B : Nat} {cs : List Value} {e : Ent} (h : EntC w B cs e) : cs.length = 7 := by obtain ⟨_, _, _, _, _, _, rfl, _⟩ := h; rfl
theorem EntC.fr {w w' : World} {B : Nat} {S : List Nat} {cs : List Value} {e : Ent} (h : EntC w B cs e) (hf : Fr S w w') (hB : B ≤ w.heap.size) (hS : ∀ k, k ∈ S → B ≤ k) : EntC w' B cs e := by
  obtain ⟨A1, c1, A2, c2, A3, c3, he, h1, h2, h3⟩ := h
  exact ⟨A1, c1, A2, c2, A3, c3, he, h1.fr hf hB hS, h2.fr hf hB hS, h3.fr hf hB hS⟩
theorem EntC.more {w : World} {B B' : Nat} {cs : List Value} {e : Ent} (h : EntC w B cs e) (hB : B ≤ B') : EntC w B' cs e := by
  obtain ⟨A1, c1, A2, c2, A3, c3, he, h1, h2, h3⟩ := h
  exact ⟨A1, c1, A2, c2, A3, c3, he, h1.more hB, h2.more hB, h3.more hB⟩
theorem own_ne_own {w : World} {base base' e e' size size' n n' : Nat} {v v' : Value} {xs xs' : List Value} (h : w.ownsRow base e size v n xs) (h' : w.ownsRow base' e' size' v' n' xs') (hT : e ≠ e') : ∀ k, v.ownBlock = some k → k ∉ ownL v' := fun k hk hm => by
  rcases own_own h h' hT with h1 | h1
  · rw [h1] at hk; cases hk
  · refine h1 ?_
    rw [hk]
    unfold ownL at hm
    split at hm
    · simp at hm; subst hm; rfl
    · cases hm
/-- an entry as a value. -/
def EntV (w : World) (B : Nat) (v : Value) (e : Ent) : Prop := ∃ cs, v = .agg cs.toArray ∧ EntC w B cs e
theorem EntC.item {w : World} {B : Nat} {e : Ent} {A1 A2 A3 : Option Addr} {c1 c2 c3 : Nat} (h : EntC w B (ent7 e A1 c1 A2 c2 A3 c3) e) :
    ItemV w B (.agg #[.int .i64 e.item.kind, .string e.item.text, .slice A1 e.item.list.length c1, .slice A2 e.item.pairs.length c2, .slice A3 e.item.scores.length c3]) e.item := by
  obtain ⟨B1, d1, B2, d2, B3, d3, he, h1, h2, h3⟩ := h
  simp only [ent7, List.cons.injEq, Value.slice.injEq] at he
  obtain ⟨-, -, -, ⟨rfl, -, rfl⟩, ⟨rfl, -, rfl⟩, ⟨rfl, -, rfl⟩, -⟩ := he
  exact ⟨_, _, _, _, _, _, rfl, h1, h2, h3⟩
/-- a space, to be read. -/
def EntsV (w : World) (B : Nat) (v : Value) (l : List Ent) : Prop :=
  ∃ A c, ∃ rs : List (List Value), v = .slice A l.length c ∧ rs.length = l.length ∧ (∀ (i : Nat) (e : Ent), l[i]? = some e → ∃ cs : List Value, rs[i]? = some cs ∧ EntC w B cs e) ∧ Sl w B 7 v l.length rs.flatten
theorem EntsV.form {w : World} {B : Nat} {v : Value} {l : List Ent} (h : EntsV w B v l) : ∃ A c, v = .slice A l.length c := by
  obtain ⟨A, c, rs, rfl, _⟩ := h
  exact ⟨A, c, rfl⟩
theorem EntsV.fr {w w' : World} {B : Nat} {S : List Nat} {v : Value} {l : List Ent} (h : EntsV w B v l) (hf : Fr S w w') (hB : B ≤ w.heap.size) (hS : ∀ k, k ∈ S → B ≤ k) : EntsV w' B v l := by
  obtain ⟨A, c, rs, rfl, hl, hi, hs⟩ := h
  exact ⟨A, c, rs, rfl, hl, fun i x hx => by
    obtain ⟨cs, h1, h2⟩ := hi i x hx
    exact ⟨cs, h1, h2.fr hf hB hS⟩, hs.fr hf hB hS⟩
theorem EntsV.more {w : World} {B B' : Nat} {v : Value} {l : List Ent} (h : EntsV w B v l) (hB : B ≤ B') : EntsV w B' v l := by
  obtain ⟨A, c, rs, rfl, hl, hi, hs⟩ := h
  exact ⟨A, c, rs, rfl, hl, fun i x hx => by
    obtain ⟨cs, h1, h2⟩ := hi i x hx
    exact ⟨cs, h1, h2.more hB⟩, hs.more hB⟩
theorem EntsV.nil (w : World) (B : Nat) : EntsV w B (.slice none 0 0) [] := ⟨none, 0, [], rfl, rfl, fun i x h => by simp at h, Sl.nil _ _ _⟩
theorem ents_all7 {P : List Value → Ent → Prop} {l : List Ent} {rs : List (List Value)} (hl : rs.length = l.length) (hP : ∀ cs e, P cs e → cs.length = 7) (h : ∀ (i : Nat) (e : Ent), l[i]? = some e → ∃ cs : List Value, rs[i]? = some cs ∧ P cs e) : ∀ c ∈ rs, c.length = 7 := fun c hc => by
  obtain ⟨j, hj, rfl⟩ := List.getElem_of_mem hc
  obtain ⟨d, hd, h5⟩ := h j _ (List.getElem?_eq_getElem (show j < l.length by omega))
  rw [List.getElem?_eq_getElem hj] at hd
  cases hd
  exact hP _ _ h5

/-- the seven cells of an entry at a place. -/
structure At7 (w : World) (B b o : Nat) (e : Ent) (A1 A2 A3 : Option Addr) (c1 c2 c3 : Nat) : Prop where
  k0 : w.cell? ⟨b, o, none⟩ = some (.string e.key)
  k1 : w.cell? ⟨b, o + 1, none⟩ = some (.int .i64 e.item.kind)
  k2 : w.cell? ⟨b, o + 2, none⟩ = some (.string e.item.text)
  k3 : w.cell? ⟨b, o + 3, none⟩ = some (.slice A1 e.item.list.length c1)
  k4 : w.cell? ⟨b, o + 4, none⟩ = some (.slice A2 e.item.pairs.length c2)
  k5 : w.cell? ⟨b, o + 5, none⟩ = some (.slice A3 e.item.scores.length c3)
  k6 : w.cell? ⟨b, o + 6, none⟩ = some (.int .i64 e.til)
  ent : EntC w B (ent7 e A1 c1 A2 c2 A3 c3) e
theorem At7.fr {w w' : World} {B b o : Nat} {e : Ent} {A1 A2 A3 : Option Addr} {c1 c2 c3 : Nat} {S : List Nat} (h : At7 w B b o e A1 A2 A3 c1 c2 c3) (hf : Fr S w w') (hb : b < B) (hB : B ≤ w.heap.size) (hS : ∀ k, k ∈ S → B ≤ k) : At7 w' B b o e A1 A2 A3 c1 c2 c3 := by
  have hn : b ∉ S := fun hm => by have := hS b hm; omega
  exact ⟨hf.cell h.k0 hn, hf.cell h.k1 hn, hf.cell h.k2 hn, hf.cell h.k3 hn, hf.cell h.k4 hn, hf.cell h.k5 hn, hf.cell h.k6 hn, h.ent.fr hf hB hS⟩
theorem EntsV.at_ {w : World} {B : Nat} {A : Option Addr} {c : Nat} {l : List Ent} (h : EntsV w B (.slice A l.length c) l) (hn : 0 < l.length) :
    ∃ b off, A = some ⟨b, off, none⟩ ∧ b < B ∧ l.length ≤ c ∧ c ≤ maxLen ∧ ∀ (i : Nat) (e : Ent), l[i]? = some e → ∃ A1 A2 A3 c1 c2 c3, At7 w B b (off + i * 7) e A1 A2 A3 c1 c2 c3 := by
  obtain ⟨A', c', rs, hv, hl, hi, hs⟩ := h
  cases hv
  obtain ⟨b, off, rfl, hb, hc, hm, hcell⟩ := hs.at_ hn
  refine ⟨b, off, rfl, hb, hc, hm, fun i e he => ?_⟩
  obtain ⟨cs, hcs, hE⟩ := hi i e he
  have all7 := ents_all7 hl (fun cs e h => EntC.len h) hi
  obtain ⟨A1, c1, A2, c2, A3, c3, rfl, s1, s2, s3⟩ := hE
  have g : ∀ j u, j < 7 → (ent7 e A1 c1 A2 c2 A3 c3)[j]? = some u → w.cell? ⟨b, off + (i * 7 + j), none⟩ = some u := fun j u hj hu =>
    hcell _ _ (by rw [flatN 7 rs i j _ all7 hcs hj]; exact hu)
  exact ⟨A1, A2, A3, c1, c2, c3, g 0 _ (by decide) rfl, by rw [Nat.add_assoc]; exact g 1 _ (by decide) rfl, by rw [Nat.add_assoc]; exact g 2 _ (by decide) rfl, by rw [Nat.add_assoc]; exact g 3 _ (by decide) rfl, by rw [Nat.add_assoc]; exact g 4 _ (by decide) rfl, by rw [Nat.add_assoc]; exact g 5 _ (by decide) rfl, by rw [Nat.add_assoc]; exact g 6 _ (by decide) rfl, ⟨A1, c1, A2, c2, A3, c3, rfl, s1, s2, s3⟩⟩

/-- is there such a time? -/
def timeB (n : Int) : Bool := decide (0 ≤ n) && decide (n ≤ 1000000)
def goneB (til now : Int) : Bool := decide (til ≠ 0) && decide (til ≤ now)
def badPrev : Option ByteArray → ByteArray → Bool
  | none, _ => false
  | some k, s => !ltS k s
def entCode (p : Option ByteArray) (e : Ent) : Int :=
  if 60 < e.key.size then 2 else if checkItm e.item ≠ 0 then checkItm e.item else if timeB e.til = false then 3 else if badPrev p e.key = true then 4 else 0
def goSp : Option ByteArray → List Ent → Int
  | _, [] => 0
  | p, e :: l => if entCode p e ≠ 0 then entCode p e else goSp (some e.key) l
def spCode (l : List Ent) : Int := if 16 < l.length then 2 else goSp none l
def prevK (l : List Ent) (k : Nat) : Option ByteArray := if k = 0 then none else (l[k - 1]?).map (·.key)
theorem goSp_step {l : List Ent} {k : Nat} {e : Ent} (h : l[k]? = some e) : goSp (prevK l k) (l.drop k) = if entCode (prevK l k) e ≠ 0 then entCode (prevK l k) e else goSp (prevK l (k + 1)) (l.drop (k + 1)) := by
  have hk := (List.getElem?_eq_some_iff.1 h).1
  have e1 : l.drop k = e :: l.drop (k + 1) := by
    rw [List.drop_eq_getElem_cons hk]
    congr 1
    rw [List.getElem?_eq_getElem hk] at h
    exact Option.some.inj h
  have e2 : prevK l (k + 1) = some e.key := by unfold prevK; rw [if_neg (by omega), Nat.add_sub_cancel, h]; rfl
  rw [e1, e2]
  rfl
theorem prevK_zero (l : List Ent) : prevK l 0 = none := rfl

/-- what holds of a space that is right. -/
structure SpOk (l : List Ent) : Prop where
  le : l.length ≤ 16
  keys : ∀ e ∈ l, e.key.size ≤ 60
  items : ∀ e ∈ l, checkItm e.item = 0
  times : ∀ e ∈ l, 0 ≤ e.til ∧ e.til ≤ 1000000
  rise : rises (ltK Ent.key) l = true
theorem entCode_ok {p : Option ByteArray} {e : Ent} (h : entCode p e = 0) : e.key.size ≤ 60 ∧ checkItm e.item = 0 ∧ (0 ≤ e.til ∧ e.til ≤ 1000000) ∧ badPrev p e.key = false := by
  unfold entCode at h
  split at h
  · cases h
  · rename_i h1
    split at h
    · rename_i h2; exact absurd h h2
    · rename_i h2
      split at h
      · cases h
      · rename_i h3
        split at h
        · cases h
        · rename_i h4
          refine ⟨by omega, by simpa using h2, ?_, by simpa using h4⟩
          have : timeB e.til = true := by simpa using h3
          unfold timeB at this
          simpa using this
theorem goSp_rise : ∀ {l : List Ent} {p : Option ByteArray}, goSp p l = 0 → (∀ e ∈ l, e.key.size ≤ 60 ∧ checkItm e.item = 0 ∧ (0 ≤ e.til ∧ e.til ≤ 1000000)) ∧ rises ltS (l.map (·.key)) = true ∧ (∀ e, l[0]? = some e → badPrev p e.key = false)
  | [], p, _ => ⟨(fun e he => by cases he), rfl, (fun e he => by simp at he)⟩
  | e :: l, p, h => by
    unfold goSp at h
    by_cases hc : entCode p e = 0
    · rw [if_neg (by simpa using hc)] at h
      obtain ⟨h1, h2, h3⟩ := goSp_rise h
      obtain ⟨k1, k2, k3, k4⟩ := entCode_ok hc
      refine ⟨fun x hx => ?_, ?_, fun x hx => by simp at hx; subst hx; exact k4⟩
      · rcases List.mem_cons.1 hx with rfl | hx
        · exact ⟨k1, k2, k3⟩
        · exact h1 x hx
      · cases l with
        | nil => rfl
        | cons y l =>
          have := h3 y rfl
          unfold badPrev at this
          rw [List.map_cons, List.map_cons]
          rw [List.map_cons] at h2
          unfold rises
          rw [Bool.and_eq_true]
          exact ⟨by simpa using this, h2⟩
    · rw [if_pos hc] at h
      exact absurd h hc
theorem spOk {l : List Ent} (h : spCode l = 0) : SpOk l := by
  unfold spCode at h
  split at h
  · cases h
  · rename_i hl
    obtain ⟨h1, h2, _⟩ := goSp_rise h
    refine ⟨by omega, fun e he => (h1 e he).1, fun e he => (h1 e he).2.1, fun e he => (h1 e he).2.2, ?_⟩
    refine pw_rises ?_
    have := rises_pw (lt := ltS) (fun a b c h1 h2 => decide_eq_true (ordB_trans (of_decide_eq_true h1) (of_decide_eq_true h2))) h2
    rw [List.pairwise_map] at this
    exact this
end Go.Proofs.YtoabjcnacnojbaaDoor
