/- Rows: copy of elements of several cells; an element put into a row. No program in sight. -/
import Derived.Test.YtkgbgmfidkimfaaGreatSlA
import Derived.Laws.IdiomCopy
set_option linter.unusedVariables false
set_option linter.unusedSimpArgs false
namespace Go.Proofs.YtkgbgmfidkimfaaGreat
open Go.RowKit

section
variable {P : Program}
/-- copy: all is read before anything is written. -/
theorem run_copy_k (w : World) (dT sT ty elem : TypeId) (i : TypeInfo) (k b o dLen dCap : Nat) (a : Addr) (sLen sCap m : Nat) (cs : List Value)
    (hu : P.underlying dT = some (.slice elem)) (hi : P.info? elem = some i) (hs : i.size = k) (hm : Nat.min sLen dLen = m) (hn : cs.length = m * k)
    (hsrc : ∀ j v, cs[j]? = some v → w.cell? (a.add j) = some v) (hc : ∀ j, j < cs.length → (w.cell? ⟨b, o + j, none⟩).isSome = true ∧ w.frozen? ⟨b, o + j, none⟩ = false) (h1 : ∀ v ∈ cs, v.oneCell' = true) :
    (Builtin.copy_ #[dT, sT] ty #[.slice (some ⟨b, o, none⟩) dLen dCap, .slice (some a) sLen sCap]).run P w = .ok (goInt m) (w.setCells b o cs) := by
  have hl := run_loadCells_list (P := P) w a cs hsrc
  have hst := run_storeCells_cells (P := P) b o cs 0 w (by simpa using fun j hj => (hc j hj).1) (by simpa using fun j hj => (hc j hj).2) h1
  rw [hn] at hl
  simp [Builtin.copy_, run_underlying hu, Builtin.lenOf, Builtin.firstCells, sizeOf, typeInfo, hi, hs, hm, hl, hst]
end

section
variable {w : World} {g base e k n cap i : Nat} {xs vs : List Value}
/-- the cells with vs put in at i. -/
def insCells (xs vs : List Value) (o : Nat) : List Value := xs.take o ++ vs ++ xs.drop o

/-- an element put into a row that has room: what stands from i on goes one further, then the element. -/
theorem ins_own (h : w.ownsRow base e k (.slice (some ⟨g, 0, none⟩) n cap) n xs) (hi : i ≤ n) (hr : n + 1 ≤ cap) (hv : vs.length = k) :
    ∃ cur0 cur, Whole w g e cur0 ∧ cur0.length = cap * k ∧ Whole (w.setCells g ((i + 1) * k) (xs.drop (i * k))) g e cur ∧ cur.length = cap * k ∧
      ((w.setCells g ((i + 1) * k) (xs.drop (i * k))).setCells g (i * k) vs).ownsRow base e k (.slice (some ⟨g, 0, none⟩) (n + 1) cap) (n + 1) (insCells xs vs (i * k)) := by
  obtain ⟨cur, hw, hl, ht, hb, hn, hm, hxl⟩ := own_whole h
  have hik : i * k ≤ n * k := Nat.mul_le_mul_right _ hi
  have e1 : (i + 1) * k = i * k + k := Nat.succ_mul i k
  have e2 : (n + 1) * k = n * k + k := Nat.succ_mul n k
  have b1 : (n + 1) * k ≤ cap * k := Nat.mul_le_mul_right _ hr
  have hdl : (xs.drop (i * k)).length = n * k - i * k := by rw [List.length_drop, hxl]
  have W1 := setCells_whole (xs.drop (i * k)) ((i + 1) * k) w cur hw (by rw [hdl, hl, e1]; omega)
  have l1 : (cur.take ((i + 1) * k) ++ xs.drop (i * k) ++ cur.drop ((i + 1) * k + (xs.drop (i * k)).length)).length = cap * k := by
    simp only [List.length_append, List.length_take, List.length_drop, hl] at hdl ⊢
    omega
  refine ⟨cur, _, hw, hl, W1, l1, ?_⟩
  have W2 := setCells_whole vs (i * k) _ _ W1 (by rw [l1, hv]; omega)
  have l2 : ∀ c1 : List Value, c1.length = cap * k → (c1.take (i * k) ++ vs ++ c1.drop (i * k + vs.length)).length = cap * k := by
    intro c1 hc1
    simp only [List.length_append, List.length_take, List.length_drop, hv, hc1]
    omega
  have := own_of_whole (cap := cap) (k := k) (n := n + 1) (base := base) W2 (l2 _ l1) hb hr hm
  have t1 : (cur.take ((i + 1) * k)).length = (i + 1) * k := by rw [List.length_take, hl]; omega
  have e3 : (cur.take ((i + 1) * k) ++ xs.drop (i * k) ++ cur.drop ((i + 1) * k + (xs.drop (i * k)).length)).take (i * k) = xs.take (i * k) := by
    rw [List.append_assoc, List.take_append_of_le_length (by omega), List.take_take, Nat.min_eq_left (by omega), ← ht, List.take_take, Nat.min_eq_left (by omega)]
  have e4 : (cur.take ((i + 1) * k) ++ xs.drop (i * k) ++ cur.drop ((i + 1) * k + (xs.drop (i * k)).length)).drop (i * k + vs.length) = xs.drop (i * k) ++ cur.drop ((i + 1) * k + (xs.drop (i * k)).length) := by
    rw [hv, ← e1, List.append_assoc, List.drop_append_of_le_length (by omega), List.drop_of_length_le (by omega), List.nil_append]
  have e5 : ((cur.take ((i + 1) * k) ++ xs.drop (i * k) ++ cur.drop ((i + 1) * k + (xs.drop (i * k)).length)).take (i * k) ++ vs ++ (cur.take ((i + 1) * k) ++ xs.drop (i * k) ++ cur.drop ((i + 1) * k + (xs.drop (i * k)).length)).drop (i * k + vs.length)).take ((n + 1) * k) = insCells xs vs (i * k) := by
    rw [e3, e4, ← List.append_assoc]
    unfold insCells
    have hlen : (xs.take (i * k) ++ vs ++ xs.drop (i * k)).length = (n + 1) * k := by
      simp only [List.length_append, List.length_take, List.length_drop, hxl, hv]
      omega
    rw [List.take_append_of_le_length (by omega), List.take_of_length_le (by omega)]
  rw [e5] at this
  exact this

/-- an element put into a new row. -/
theorem ins_new {G : Nat} {zs : List Value} (hx : xs.length = n * k) (hi : i ≤ n) (hv : vs.length = k) (hG : n + 1 ≤ G) (hm : G ≤ maxLen) (hb : base ≤ g) (hw : Whole w g e (xs.take (i * k) ++ zs)) (hz : (xs.take (i * k) ++ zs).length = G * k) :
    ∃ cur, Whole (w.setCells g (i * k) vs) g e cur ∧ cur.length = G * k ∧
      ((w.setCells g (i * k) vs).setCells g ((i + 1) * k) (xs.drop (i * k))).ownsRow base e k (.slice (some ⟨g, 0, none⟩) (n + 1) G) (n + 1) (insCells xs vs (i * k)) := by
  have hik : i * k ≤ n * k := Nat.mul_le_mul_right _ hi
  have e1 : (i + 1) * k = i * k + k := Nat.succ_mul i k
  have e2 : (n + 1) * k = n * k + k := Nat.succ_mul n k
  have b1 : (n + 1) * k ≤ G * k := Nat.mul_le_mul_right _ hG
  have hdl : (xs.drop (i * k)).length = n * k - i * k := by rw [List.length_drop, hx]
  have tl : (xs.take (i * k)).length = i * k := by rw [List.length_take]; omega
  have W1 := setCells_whole vs (i * k) w _ hw (by rw [hz, hv]; omega)
  have e3 : (xs.take (i * k) ++ zs).take (i * k) = xs.take (i * k) := by
    rw [List.take_append_of_le_length (by omega), List.take_of_length_le (by omega)]
  rw [e3] at W1
  have l1 : (xs.take (i * k) ++ vs ++ (xs.take (i * k) ++ zs).drop (i * k + vs.length)).length = G * k := by
    rw [List.length_append, List.length_drop, hz, List.length_append, tl, hv]; omega
  refine ⟨_, W1, l1, ?_⟩
  have W2 := setCells_whole (xs.drop (i * k)) ((i + 1) * k) _ _ W1 (by rw [l1, hdl]; omega)
  have e4 : (xs.take (i * k) ++ vs ++ (xs.take (i * k) ++ zs).drop (i * k + vs.length)).take ((i + 1) * k) = xs.take (i * k) ++ vs := by
    rw [List.take_append_of_le_length (by rw [List.length_append, tl, hv]; omega), List.take_of_length_le (by rw [List.length_append, tl, hv]; omega)]
  rw [e4] at W2
  have l2 : ∀ c1 : List Value, c1.length = G * k → (xs.take (i * k) ++ vs ++ xs.drop (i * k) ++ c1.drop ((i + 1) * k + (xs.drop (i * k)).length)).length = G * k := by
    intro c1 hc1
    simp only [List.length_append, List.length_take, List.length_drop, hv, hc1, hx]
    omega
  have := own_of_whole (cap := G) (k := k) (n := n + 1) (base := base) W2 (l2 _ l1) hb hG hm
  have hlen : (xs.take (i * k) ++ vs ++ xs.drop (i * k)).length = (n + 1) * k := by
    simp only [List.length_append, List.length_take, List.length_drop, hx, hv]
    omega
  rw [List.take_append_of_le_length (by omega), List.take_of_length_le (by omega)] at this
  exact this
end

theorem setCells_drew (b : Nat) : ∀ (vs : List Value) (o : Nat) (w : World), w.drew.setCells b o vs = (w.setCells b o vs).drew
  | [], _, _ => rfl
  | v :: r, o, w => by
    rw [World.setCells, World.setCells]
    exact setCells_drew b r (o + 1) (w.setCell ⟨b, o, none⟩ v)
theorem grown_fresh {w w1 w2 : World} {r : Option Nat} {g : Nat} (h : w.grownBy w1 r) (h2 : w1.grownBy w2 (some g)) (hg : w.heap.size ≤ g) : w.grownBy w2 r :=
  ⟨h2.os.trans h.os, h2.tape.trans h.tape, h2.output.trans h.output, Nat.le_trans h.size h2.size, fun j hj hne => (h2.block j (Nat.lt_of_lt_of_le hj h.size) (by intro e; injection e with e; omega)).trans (h.block j hj hne)⟩
theorem grown_alloc (w : World) (o : Obj) (r : Option Nat) : w.grownBy (w.alloc o) r :=
  ⟨rfl, rfl, rfl, by show _ ≤ (w.heap.push o).size; simp, fun j hj _ => Below.heap_alloc w o j hj⟩

section
variable {P : Program}
/-- copy whose run is known by an equation, for the walk. -/
theorem wp_copy_eq (w : World) {o : Oper} {a : Act} {K : Act → World → Prop} {Q : Exit → Act → World → Prop} (d s : Operand) (t t' : TypeId)
    (ho : o.op = .call { callee := .builtin .copy, args := #[d, s], argTypes := #[t, t'] }) (v u : Value) (hd : a.eval d = v) (hs : a.eval s = u) {v' : Value} {w' : World}
    (hr : (Builtin.copy_ #[t, t'] o.type #[v, u]).run P w = .ok v' w') (h : K (a.put o.dst v') w') : o.wp P a w K Q := by
  unfold Oper.wp execOp
  simp only [ho, resolve, invoke, builtin, Sem.run_bind, Sem.run_pure, Result.andThen_ok, List.map_toArray, List.map_cons, List.map_nil, hd, hs, hr]
  exact h
theorem wpList_copy_eq (w : World) {ops : Array Oper} {rest : List Oper} {o : Oper} {a : Act} {Q : Exit → Act → World → Prop} (hgd : o.guard = none) (d s : Operand) (t t' : TypeId)
    (ho : o.op = .call { callee := .builtin .copy, args := #[d, s], argTypes := #[t, t'] }) (v u : Value) (hd : a.eval d = v) (hs : a.eval s = u) {v' : Value} {w' : World}
    (hr : (Builtin.copy_ #[t, t'] o.type #[v, u]).run P w = .ok v' w') (h : wpList P ops Q rest (a.put o.dst v') w') : wpList P ops Q (o :: rest) a w :=
  wpList_plain hgd fun _ hK => wp_copy_eq w d s t t' ho v u hd hs hr (hK _ _ h)
theorem step_copy_eq {ops : Array Oper} {o : Oper} {a : Act} {w : World} {K : Act → World → Prop} {Q : Exit → Act → World → Prop} {E : Prop} (hgd : o.guard = none) (d s : Operand) (t t' : TypeId)
    (ho : o.op = .call { callee := .builtin .copy, args := #[d, s], argTypes := #[t, t'] }) (v u : Value) (hd : a.eval d = v) (hs : a.eval s = u) {v' : Value} {w' : World}
    (hr : (Builtin.copy_ #[t, t'] o.type #[v, u]).run P w = .ok v' w') (h : K (a.put o.dst v') w') :
    if Region.wanted o (yielded ops a.tmps) = true then Oper.wp P o a w K Q else E := by
  have hw : Region.wanted o (yielded ops a.tmps) = true := by simp [Region.wanted, hgd]
  rw [if_pos hw]
  exact wp_copy_eq w d s t t' ho v u hd hs hr h
end
end Go.Proofs.YtkgbgmfidkimfaaGreat
