/- The walk of space.sweep on a space of one's own; what Delete, Insert and DeleteFunc make of such a row. -/
import Derived.Test.YtmlmiboihjibiaaSpE
import Derived.Test.YtmlmiboihjibiaaInsE
set_option linter.unusedVariables false
set_option linter.unusedSimpArgs false
namespace Go.Proofs.Ytmlmiboihjibiaa
open Go.RowKit

/-- a row of cells tells a list, one by one. -/
structure Rel (P : List Value → Ent → Prop) (rs : List (List Value)) (l : List Ent) : Prop where
  len : rs.length = l.length
  at_ : ∀ (i : Nat) (e : Ent), l[i]? = some e → ∃ cs : List Value, rs[i]? = some cs ∧ P cs e
theorem Rel.nil {P : List Value → Ent → Prop} : Rel P [] [] := ⟨rfl, fun i e h => by simp at h⟩
theorem Rel.cons {P : List Value → Ent → Prop} {c : List Value} {e : Ent} {rs : List (List Value)} {l : List Ent} (h : P c e) (hr : Rel P rs l) : Rel P (c :: rs) (e :: l) :=
  ⟨by simp [hr.len], fun i x hx => by
    cases i with
    | zero => simp at hx; subst hx; exact ⟨c, rfl, h⟩
    | succ i => exact hr.at_ i x (by simpa using hx)⟩
theorem Rel.inv {P : List Value → Ent → Prop} {c : List Value} {e : Ent} {rs : List (List Value)} {l : List Ent} (h : Rel P (c :: rs) (e :: l)) : P c e ∧ Rel P rs l := by
  obtain ⟨d, h1, h2⟩ := h.at_ 0 e rfl
  simp at h1
  subst h1
  exact ⟨h2, ⟨by simpa using h.len, fun i x hx => h.at_ (i + 1) x (by simpa using hx)⟩⟩
theorem Rel.filter {P : List Value → Ent → Prop} (q : List Value → Bool) (r : Ent → Bool) (hq : ∀ cs e, P cs e → q cs = r e) : ∀ {rs : List (List Value)} {l : List Ent}, Rel P rs l → Rel P (rs.filter q) (l.filter r)
  | [], [], _ => Rel.nil
  | [], e :: l, h => absurd h.len (by simp)
  | c :: rs, [], h => absurd h.len (by simp)
  | c :: rs, e :: l, h => by
    obtain ⟨h1, h2⟩ := h.inv
    have ih := Rel.filter q r hq h2
    rw [List.filter_cons, List.filter_cons, hq c e h1]
    split
    · exact Rel.cons h1 ih
    · exact ih
theorem Rel.append {P : List Value → Ent → Prop} : ∀ {rs : List (List Value)} {l : List Ent} {rs' : List (List Value)} {l' : List Ent}, Rel P rs l → Rel P rs' l' → Rel P (rs ++ rs') (l ++ l')
  | [], [], _, _, _, h => h
  | [], e :: l, _, _, h, _ => absurd h.len (by simp)
  | c :: rs, [], _, _, h, _ => absurd h.len (by simp)
  | c :: rs, e :: l, _, _, h, h' => Rel.cons h.inv.1 (Rel.append h.inv.2 h')
theorem Rel.take {P : List Value → Ent → Prop} (n : Nat) {rs : List (List Value)} {l : List Ent} (h : Rel P rs l) : Rel P (rs.take n) (l.take n) :=
  ⟨by simp [h.len], fun i e he => by
    rw [List.getElem?_take] at he
    split at he
    · rename_i hi
      obtain ⟨cs, h1, h2⟩ := h.at_ i e he
      exact ⟨cs, by rw [List.getElem?_take_of_lt hi]; exact h1, h2⟩
    · cases he⟩
theorem Rel.drop {P : List Value → Ent → Prop} (n : Nat) {rs : List (List Value)} {l : List Ent} (h : Rel P rs l) : Rel P (rs.drop n) (l.drop n) :=
  ⟨by simp [h.len], fun i e he => by
    rw [List.getElem?_drop] at he
    obtain ⟨cs, h1, h2⟩ := h.at_ _ e he
    exact ⟨cs, by rw [List.getElem?_drop]; exact h1, h2⟩⟩
theorem Rel.imp {P Q : List Value → Ent → Prop} {rs : List (List Value)} {l : List Ent} (h : Rel P rs l) (hi : ∀ cs e, P cs e → Q cs e) : Rel Q rs l :=
  ⟨h.len, fun i e he => by
    obtain ⟨cs, h1, h2⟩ := h.at_ i e he
    exact ⟨cs, h1, hi _ _ h2⟩⟩
theorem Rel.mem {P : List Value → Ent → Prop} {rs : List (List Value)} {l : List Ent} (h : Rel P rs l) {c : List Value} (hc : c ∈ rs) : ∃ e, e ∈ l ∧ P c e := by
  obtain ⟨i, hi⟩ := List.getElem?_of_mem hc
  have hlt := (List.getElem?_eq_some_iff.1 hi).1
  obtain ⟨d, h1, h2⟩ := h.at_ i _ (List.getElem?_eq_getElem (show i < l.length by rw [← h.len]; exact hlt))
  rw [hi] at h1
  cases h1
  exact ⟨_, List.getElem_mem _, h2⟩

theorem own_low {w : World} {base e size n : Nat} {v : Value} {xs : List Value} (h : w.ownsRow base e size v n xs) : ∀ k, k ∈ ownL v → k < w.heap.size := fun k hk => by
  unfold ownL at hk
  split at hk
  · simp at hk; subst hk; exact (h.lt _ rfl).2
  · cases hk
def tilC (cs : List Value) : Int := match cs[6]? with | some (Value.int _ n) => n | _ => 0
theorem tilC_of {w : World} {base : Nat} {cs : List Value} {e : Ent} (h : EntCO w base cs e) : tilC cs = e.til := by obtain ⟨_, _, _, _, _, _, rfl, _⟩ := h; rfl
theorem shapeE_of {w : World} {base : Nat} {cs : List Value} {e : Ent} (h : EntCO w base cs e) : ShapeE cs := by obtain ⟨_, _, _, _, _, _, rfl, _⟩ := h; exact ⟨_, _, _, _, _, _, _, _, _, _, _, _, _, rfl⟩
/-- those that are not gone. -/
def sweepL (l : List Ent) (now : Int) : List Ent := l.filter fun e => !goneB e.til now
def SweepPost (l : List Ent) (base : Nat) (v : Value) (w : World) (r : Ending) (w' : World) : Prop := ∃ v', r = .returned v' ∧ EntsO w' base v' l ∧ Fr (ownL v) w w'

set_option maxRecDepth 100000 in
theorem sweep1_any (x : List Value) (hx : ShapeE x) (now : Int) (g : Nat) (w : World) (hg : w.cell? ⟨g, 0, none⟩ = some (.int .i64 now)) :
    Calls Try.prog 138 (#[.agg x.toArray] ++ #[.pointer (some ⟨g, 0, none⟩)]) w fun e w' => e = .returned (.bool (goneB (tilC x) now)) ∧ Fr [] w w' := by
  obtain ⟨sk, sn, st, A1, n1, d1, A2, n2, d2, A3, n3, d3, su, rfl⟩ := hx
  have hgl := World.block_lt_of_cell? w _ hg
  have F1 := Lib.hid ((Fr.refl [] w).alloc (.cells #[.string sk, .int .i64 sn, .string st, .slice A1 n1 d1, .slice A2 n2 d2, .slice A3 n3 d3, .int .i64 su] 58))
  have c1 := F1.out.cell hg (by simp)
  have GO := Lib.hid (fun W => gone_any su now W)
  rw [show tilC [.string sk, .int .i64 sn, .string st, .slice A1 n1 d1, .slice A2 n2 d2, .slice A3 n3 d3, .int .i64 su] = su from rfl]
  generalize goneB su now = b at *
  go_enter Try.func138, Try.ntmps138
  go_wp2_with fail
  refine (GO.out _).mono ?_
  rintro e w1 ⟨rfl, rfl⟩
  go_wp2
  go_ret
  exact ⟨rfl, F1.out⟩

set_option maxRecDepth 100000 in
theorem sweep_own (l : List Ent) (v : Value) (now : Int) (base : Nat) (w : World) (hl : l.length ≤ 1000000) (h : EntsO w base v l) :
    Calls Try.prog 90 #[v, .int .i64 now] w (SweepPost (sweepL l now) base v w) := by
  have F1 := Lib.hid ((Fr.refl [] w).alloc (.cells #[.int .i64 now] 3))
  have W1 := Lib.hid (Whole.new w 3 [.int .i64 now])
  obtain ⟨rs, h1, h2, h3⟩ := h.fr F1.out
  obtain ⟨A, c, rfl, -⟩ := own_slice h3
  have R := Lib.hid (show Rel (EntCO (w.alloc (.cells #[.int .i64 now] 3)) base) rs l from ⟨h1, h2⟩)
  have hgl : ∀ k, k ∈ ownL (.slice A l.length c) → k < w.heap.size := fun k hk => by
    obtain ⟨rs0, _, _, h30⟩ := h
    exact own_low h30 k hk
  have DF := Lib.hid (delFE_any 138 #[.pointer (some ⟨w.heap.size, 0, none⟩)] (enters_any Try.func138 (by kernel_rfl) rfl) (fun x => goneB (tilC x) now) rs base (.slice A l.length c) (w.alloc (.cells #[.int .i64 now] 3)) (fun c hc => by
      obtain ⟨e, _, he⟩ := R.out.mem hc
      exact shapeE_of he) (fun W x hx hW => by
      obtain ⟨e, _, he⟩ := R.out.mem hx
      exact sweep1_any x (shapeE_of he) now w.heap.size W (hW.cell (W1.out.cell 0) (fun hm => by have := hgl _ hm; simp at this))) (by omega) (by rw [h1]; exact h3))
  have H3 := Lib.hid h3
  clear h h1 h2 h3
  go_enter Try.func90, Try.ntmps90
  go_wp2_with fail
  refine DF.out.mono ?_
  rintro e w1 ⟨v', rfl, ho, f1, hb⟩
  have HO := Lib.hid ho
  have F2 := Lib.hid f1
  clear ho f1 hb
  go_wp2
  go_ret
  have R2 := Rel.filter (fun x => !goneB (tilC x) now) (fun e => !goneB e.til now) (fun cs e h => by rw [tilC_of h]) R.out
  have R3 := R2.imp (fun cs e h => h.row H3.out entO_typesNe F2.out)
  refine ⟨_, rfl, ⟨_, R3.len, R3.at_, ?_⟩, F1.out.up.trans F2.out⟩
  have := HO.out
  rw [R3.len] at this
  exact this
end Go.Proofs.Ytmlmiboihjibiaa
