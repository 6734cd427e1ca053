/- Replies as they lie in memory. No walk. -/
import Derived.Test.YtoabjcnacnojbaaDoorReA
import Derived.Test.YtoabjcnacnojbaaDoorEnt
import Derived.Test.YtoabjcnacnojbaaDoorItf
import Derived.Test.YtoabjcnacnojbaaDoorSlA
set_option linter.unusedVariables false
set_option linter.unusedSimpArgs false
namespace Go.Proofs.YtoabjcnacnojbaaDoor
open Go.RowKit

/-- rows of cells tell a list, one by one. -/
structure RelL {α : Type} (P : List Value → α → Prop) (rs : List (List Value)) (l : List α) : Prop where
  len : rs.length = l.length
  at_ : ∀ (i : Nat) (x : α), l[i]? = some x → ∃ cs : List Value, rs[i]? = some cs ∧ P cs x
theorem RelL.imp {α : Type} {P Q : List Value → α → Prop} {rs : List (List Value)} {l : List α} (h : RelL P rs l) (hi : ∀ cs x, P cs x → Q cs x) : RelL Q rs l :=
  ⟨h.len, fun i x hx => by
    obtain ⟨cs, h1, h2⟩ := h.at_ i x hx
    exact ⟨cs, h1, hi _ _ h2⟩⟩
theorem RelL.nil {α : Type} {P : List Value → α → Prop} : RelL P [] [] := ⟨rfl, fun i x h => by simp at h⟩
theorem RelL.mem {α : Type} {P : List Value → α → Prop} {rs : List (List Value)} {l : List α} (h : RelL P rs l) {c : List Value} (hc : c ∈ rs) : ∃ x, x ∈ l ∧ P c x := by
  obtain ⟨i, hi⟩ := List.getElem?_of_mem hc
  have hlt := (List.getElem?_eq_some_iff.1 hi).1
  obtain ⟨d, h1, h2⟩ := h.at_ i _ (List.getElem?_eq_getElem (show i < l.length by rw [← h.len]; exact hlt))
  rw [hi] at h1
  cases h1
  exact ⟨_, List.getElem_mem _, h2⟩

def rp4 (x : Rp1) (A : Option Addr) (c : Nat) : List Value := [.int .i64 x.kind, .string x.text, .int .i64 x.n, .slice A x.sub c]
def RpC (cs : List Value) (x : Rp1) : Prop := ∃ A c, cs = rp4 x A c
/-- a reply, to be read. -/
def RepV (w : World) (B : Nat) (v : Value) (r : Rep) : Prop :=
  ∃ A c, ∃ rs : List (List Value), v = .agg #[.int .i64 r.kind, .string r.text, .int .i64 r.n, .slice A r.list.length c] ∧ RelL RpC rs r.list ∧ Sl w B 4 (.slice A r.list.length c) r.list.length rs.flatten
structure Rp1.Small (x : Rp1) : Prop where
  kind : -9223372036854775808 ≤ x.kind ∧ x.kind ≤ 9223372036854775807
  text : x.text.size ≤ 281474976710656
  n : -9223372036854775808 ≤ x.n ∧ x.n ≤ 9223372036854775807
  sub : x.sub ≤ 281474976710656
structure Rep.Small (r : Rep) : Prop where
  one : r.one.Small
  list : ∀ x ∈ r.list, x.Small
theorem RepV.fr {w w' : World} {B : Nat} {S : List Nat} {v : Value} {r : Rep} (h : RepV w B v r) (hf : Fr S w w') (hB : B ≤ w.heap.size) (hS : ∀ k, k ∈ S → B ≤ k) : RepV w' B v r := by
  obtain ⟨A, c, rs, e, hr, hs⟩ := h
  exact ⟨A, c, rs, e, hr, hs.fr hf hB hS⟩
theorem RepV.more {w : World} {B B' : Nat} {v : Value} {r : Rep} (h : RepV w B v r) (hB : B ≤ B') : RepV w B' v r := by
  obtain ⟨A, c, rs, e, hr, hs⟩ := h
  exact ⟨A, c, rs, e, hr, hs.more hB⟩
theorem RepV.go {w w' : World} {v : Value} {r : Rep} (h : RepV w w.heap.size v r) (hf : Fr [] w w') : RepV w' w'.heap.size v r := (h.fr hf (Nat.le_refl _) (by simp)).more hf.size
theorem RepV.form {w : World} {B : Nat} {v : Value} {r : Rep} (h : RepV w B v r) : ∃ A c, v = .agg #[.int .i64 r.kind, .string r.text, .int .i64 r.n, .slice A r.list.length c] := by
  obtain ⟨A, c, rs, e, _⟩ := h
  exact ⟨A, c, e⟩
/-- the four cells of one of the list. -/
structure At4 (w : World) (b o : Nat) (x : Rp1) (A : Option Addr) (c : Nat) : Prop where
  k0 : w.cell? ⟨b, o, none⟩ = some (.int .i64 x.kind)
  k1 : w.cell? ⟨b, o + 1, none⟩ = some (.string x.text)
  k2 : w.cell? ⟨b, o + 2, none⟩ = some (.int .i64 x.n)
  k3 : w.cell? ⟨b, o + 3, none⟩ = some (.slice A x.sub c)
theorem At4.fr {w w' : World} {b o : Nat} {x : Rp1} {A : Option Addr} {c : Nat} {S : List Nat} (h : At4 w b o x A c) (hf : Fr S w w') (hn : b ∉ S) : At4 w' b o x A c :=
  ⟨hf.cell h.k0 hn, hf.cell h.k1 hn, hf.cell h.k2 hn, hf.cell h.k3 hn⟩
theorem RepV.at_ {w : World} {B : Nat} {A : Option Addr} {c : Nat} {r : Rep} (h : RepV w B (.agg #[.int .i64 r.kind, .string r.text, .int .i64 r.n, .slice A r.list.length c]) r) (hn : 0 < r.list.length) :
    ∃ b off, A = some ⟨b, off, none⟩ ∧ b < B ∧ r.list.length ≤ c ∧ c ≤ maxLen ∧ ∀ (i : Nat) (x : Rp1), r.list[i]? = some x → ∃ A1 c1, At4 w b (off + i * 4) x A1 c1 := by
  obtain ⟨A', c', rs, hv, hr, hs⟩ := h
  simp at hv
  obtain ⟨rfl, rfl⟩ := hv
  obtain ⟨b, off, rfl, hb, hc, hm, hcell⟩ := hs.at_ hn
  refine ⟨b, off, rfl, hb, hc, hm, fun i x hx => ?_⟩
  obtain ⟨cs, hcs, A1, c1, rfl⟩ := hr.at_ i x hx
  have all4 : ∀ c ∈ rs, c.length = 4 := fun c hc => by
    obtain ⟨y, _, A2, c2, rfl⟩ := hr.mem hc
    rfl
  have g : ∀ j u, j < 4 → (rp4 x A1 c1)[j]? = some u → w.cell? ⟨b, off + (i * 4 + j), none⟩ = some u := fun j u hj hu =>
    hcell _ _ (by rw [flatN 4 rs i j _ all4 hcs hj]; exact hu)
  exact ⟨A1, c1, g 0 _ (by decide) rfl, by rw [Nat.add_assoc]; exact g 1 _ (by decide) rfl, by rw [Nat.add_assoc]; exact g 2 _ (by decide) rfl, by rw [Nat.add_assoc]; exact g 3 _ (by decide) rfl⟩
/-- a reply whose list is of one's own, and lists nothing that has a list. -/
def rpCells (l : List Rp1) : List Value := l.flatMap fun x => rp4 x none 0
def RepO (w : World) (base : Nat) (v : Value) (r : Rep) : Prop := (∀ x ∈ r.list, x.sub = 0) ∧ ∃ u, v = .agg #[.int .i64 r.kind, .string r.text, .int .i64 r.n, u] ∧ w.ownsRow base 24 4 u r.list.length (rpCells r.list)
theorem RepO.v {w : World} {base : Nat} {v : Value} {r : Rep} (h : RepO w base v r) : RepV w w.heap.size v r := by
  obtain ⟨h0, u, rfl, ho⟩ := h
  obtain ⟨A, c, rfl, -⟩ := own_slice ho
  refine ⟨A, c, r.list.map fun x => rp4 x none 0, rfl, ⟨by simp, fun i x hx => ⟨rp4 x none 0, by rw [List.getElem?_map, hx]; rfl, none, 0, rfl⟩⟩, ?_⟩
  have := own_sl ho
  unfold rpCells at this
  rw [List.flatMap_def] at this
  exact this
theorem RepO.form {w : World} {base : Nat} {v : Value} {r : Rep} (h : RepO w base v r) : ∃ A c, v = .agg #[.int .i64 r.kind, .string r.text, .int .i64 r.n, .slice A r.list.length c] := h.v.form
theorem RepO.fr {w w' : World} {base : Nat} {v : Value} {r : Rep} (h : RepO w base v r) (hf : Fr [] w w') : RepO w' base v r := by
  obtain ⟨h0, u, rfl, ho⟩ := h
  exact ⟨h0, u, rfl, own_fr ho hf (by simp)⟩
theorem RepO.base {w : World} {base base' : Nat} {v : Value} {r : Rep} (h : RepO w base v r) (hb : base' ≤ base) : RepO w base' v r := by
  obtain ⟨h0, u, rfl, ho⟩ := h
  exact ⟨h0, u, rfl, own_base ho hb⟩
theorem RepO.bare (w : World) (base : Nat) (k n : Int) (t : ByteArray) : RepO w base (.agg #[.int .i64 k, .string t, .int .i64 n, .slice none 0 0]) ⟨k, t, n, []⟩ :=
  ⟨(fun x hx => by cases hx), _, rfl, World.ownsRow_nil _ _ _ _⟩
theorem four {w : World} {g t : Nat} {a b c d : Value} (hw : Whole w g t [a, b, c, d]) :
    w.cell? ⟨g, 0, none⟩ = some a ∧ w.cell? ⟨g, 1, none⟩ = some b ∧ w.cell? ⟨g, 2, none⟩ = some c ∧ w.cell? ⟨g, 3, none⟩ = some d := ⟨hw.cell 0, hw.cell 1, hw.cell 2, hw.cell 3⟩
theorem fourF {w : World} {g t : Nat} {a b c d : Value} (hw : Whole w g t [a, b, c, d]) :
    w.frozen? ⟨g, 0, none⟩ = false ∧ w.frozen? ⟨g, 1, none⟩ = false ∧ w.frozen? ⟨g, 2, none⟩ = false ∧ w.frozen? ⟨g, 3, none⟩ = false := ⟨hw.frozen 0, hw.frozen 1, hw.frozen 2, hw.frozen 3⟩
theorem replyInfo : (Tryd.prog.info? 24).map (fun i => (i.zero, i.size, i.bytes)) = some (some (.agg #[.int .i64 0, .string ⟨#[]⟩, .int .i64 0, .slice none 0 0]), 4, 56) := by kernel_rfl
end Go.Proofs.YtoabjcnacnojbaaDoor
