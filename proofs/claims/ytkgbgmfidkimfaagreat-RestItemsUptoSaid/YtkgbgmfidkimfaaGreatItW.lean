/- Builders of bytes. -/
import Derived.Test.YtkgbgmfidkimfaaGreatProg
import Derived.Test.YtkgbgmfidkimfaaGreatBase
import Derived.Laws.AppendOwn
import Derived.Maps.AppendAt
import Derived.Lib.Builder
import Derived.Lib.AppendStr
import Derived.Lib.UnsafeStr
import Derived.Lib.Strings
import Derived.RegionTactic
import Derived.Laws.Externs
import Derived.Lib.ConvBytes
import Derived.Laws.BitsAllLaws
import Derived.Laws.BitsLemmas
import Derived.Deep.RegionHeld3
import Derived.Deep.DrawnRows
import Derived.Deep.RegionLaw
import Derived.Test.YtkgbgmfidkimfaaGreatItC
set_option linter.unusedVariables false
set_option linter.unusedSimpArgs false
namespace Go.Proofs.YtkgbgmfidkimfaaGreat
open Go.RowKit

theorem builderInfo : (Tryz.prog.info? 130).map (fun i => (i.zero, i.size, i.bytes)) = some (some (.agg #[.pointer none, .slice none 0 0]), 2, 32) := by kernel_rfl
theorem byteInfo : (Tryz.prog.info? 5).map (fun i => (i.zero, i.size, i.bytes)) = some (some (.int .u8 0), 1, 1) := by kernel_rfl

section
variable {P : Program} (w : World)
/-- appending a string's bytes: where the new row lies. -/
theorem appendStr_at (base : Nat) (t u ty e : TypeId) (i : TypeInfo) (ht : P.underlying t = some (.slice e)) (hu : P.underlying u = some .string) (hi : P.info? e = some i) (hz : i.zero = some (.int .u8 0))
    (hsize : i.size = 1) (hby : i.bytes = 1) (v : Value) (n : Nat) (xs : List Value) (hown : w.ownsRow base e 1 v n xs) (s : ByteArray)
    (h63 : n + s.size ≤ maxLen) (hbytes : n + s.size ≤ 140737488355328) {v' : Value} {w' : World} (hr : (Builtin.append_ #[t, u] ty #[v, .string s]).run P w = .ok v' w') :
    v'.ownBlock = v.ownBlock ∨ v'.ownBlock = some w.heap.size := by
  have hsmall : n + s.size ≤ 9223372036854775807 := by simp only [maxLen] at h63; omega
  have hxl : xs.length = n := by simpa using hown.1
  rcases hown.2 with ⟨rfl, rfl⟩ | ⟨g, cap, cur, rfl, hbg, hg, hnc, hcm, hcs, htake⟩
  · by_cases hm : s.size = 0
    · have hf := Lib.run_firstCells_string (P := P) w 1 s
      rw [hm] at hf
      simp [Builtin.append_, run_underlying ht, run_underlying hu, sizeOf, typeInfo, hi, hsize, Builtin.lenOf, hm, hf] at hr
      rw [← hr.1]
      exact .inl rfl
    · rw [run_append_nil_string (P := P) w t u ty e i (.int .u8 0) ht hu hi hz s (by omega) (by omega) (by rw [hby]; omega)] at hr
      cases hr
      exact .inr rfl
  · by_cases hroom : n + s.size ≤ cap
    · have hcs' : cur.size = cap := by simpa using hcs
      rw [Lib.run_append_room_string (P := P) w t u ty e i ht hu hi hsize g n cap cur hg s hroom (by omega)] at hr
      cases hr
      exact .inl rfl
    · rw [Lib.run_append_grow_string (P := P) w t u ty e i (.int .u8 0) ht hu hi hz ⟨g, 0, none⟩ n cap xs (by rw [hsize]; simpa using hxl) (hown.cells (g := g) rfl) s (by omega) (by omega) (by rw [hby]; exact growslice_fits (by omega) (by omega))] at hr
      cases hr
      exact .inr rfl

theorem wpList_append_str {ops : Array Oper} {rest : List Oper} {o : Oper} {a : Act} {Q : Exit → Act → World → Prop} (hgd : o.guard = none) (sl x : Operand) (t u : TypeId)
    (ho : o.op = .call { callee := .builtin .append, args := #[sl, x], argTypes := #[t, u] })
    (base : Nat) (e : TypeId) (i : TypeInfo) (ht : P.underlying t = some (.slice e)) (hu : P.underlying u = some .string) (hi : P.info? e = some i) (hz : i.zero = some (.int .u8 0))
    (hsize : i.size = 1) (hby : i.bytes = 1)
    (v : Value) (n : Nat) (xs : List Value) (hs : a.eval sl = v) (hown : w.ownsRow base e 1 v n xs) (s : ByteArray) (hx : a.eval x = .string s)
    (h63 : n + s.size ≤ maxLen) (hbytes : n + s.size ≤ 140737488355328) (hbase : base ≤ w.heap.size)
    (h : ∀ v' w', w'.ownsRow base e 1 v' (n + s.size) (xs ++ Lib.strCells s) → w.grownBy w' v.ownBlock → (v'.ownBlock = v.ownBlock ∨ v'.ownBlock = some w.heap.size) → wpList P ops Q rest (a.put o.dst v') w') : wpList P ops Q (o :: rest) a w := by
  refine wpList_plain hgd fun K hK => ?_
  obtain ⟨v', w', hr, h2, h3, h4⟩ := Lib.run_append_own_string (P := P) w base t u o.type e i ht hu hi hz hsize hby v n xs hown s h63 hbytes hbase
  have h5 := appendStr_at w base t u o.type e i ht hu hi hz hsize hby v n xs hown s h63 hbytes hr
  unfold Oper.wp execOp
  simp only [ho, resolve, invoke, builtin, Sem.run_bind, Sem.run_pure, Result.andThen_ok, List.map_toArray, List.map_cons, List.map_nil, hs, hx, hr]
  exact hK _ _ (h v' w' h2 h3 h5)
end

theorem frFreeze {S : List Nat} {a b : World} (h : Fr S a b) {p : Addr} (hp : p.block ∈ S) (n : Nat) : Fr S a (b.freeze p n) := by
  unfold World.freeze
  split
  · exact h
  · refine ⟨h.os, h.tape, h.output, by simpa using h.size, fun i hi hn => ?_⟩
    rw [← h.block i hi hn]
    have : p.block ≠ i := fun e => hn (e ▸ hp)
    simp [Array.getElem?_modify, this]

/-- a builder in block g, at cells off and off + 1 of a row of type T; its own row lies in block own. -/
structure BldIn (T : TypeId) (g off base : Nat) (own : Option Nat) (cs : List Value) (l : List UInt8) (w : World) : Prop where
  whole : Whole w g T cs
  addr : cs[off]? = some (.pointer none) ∨ cs[off]? = some (.pointer (some ⟨g, off, none⟩))
  buf : ∃ v, cs[off + 1]? = some v ∧ w.ownsRow base 5 1 v l.length (Lib.byteCells l) ∧ v.ownBlock = own
  base : base ≤ g
  ne : T ≠ 5
  lies : liesAt Tryz.prog Tryz.prog.depth T (cs.length / Tryz.prog.cellsOf T) off 130 1 = true

theorem setList_same {cs : List Value} {i : Nat} {v : Value} (h : cs[i]? = some v) : cs.set i v = cs := by
  obtain ⟨hlt, e⟩ := List.getElem?_eq_some_iff.1 h
  rw [← e]
  exact List.set_getElem_self hlt

set_option maxRecDepth 100000 in
theorem copyCheck_used (T g off : Nat) (cs : List Value) (w : World) (hw : Whole w g T cs) (h0 : cs[off]? = some (.pointer (some ⟨g, off, none⟩))) :
    Calls Tryz.prog 139 #[.pointer (some ⟨g, off, none⟩)] w fun e w' => e = .returned (.tuple #[]) ∧ w' = w := by
  obtain ⟨j, hj, _⟩ := Option.map_eq_some_iff.1 builderInfo
  have hc : w.cell? ⟨g, off, none⟩ = some (.pointer (some ⟨g, off, none⟩)) := (hw.cell off).trans h0
  clear hw h0
  go_enter Tryz.func139, Tryz.ntmps139
  go_wp2
  rw [Lib.run_neq_ptr_same w _ Tryz.underlying127 hj]
  go_wp2
  go_end0
  exact ⟨rfl, rfl⟩

set_option maxRecDepth 100000 in
theorem copyCheck_fresh (T g off : Nat) (cs : List Value) (w : World) (hw : Whole w g T cs) (h0 : cs[off]? = some (.pointer none))
    (hlies : liesAt Tryz.prog Tryz.prog.depth T (cs.length / Tryz.prog.cellsOf T) off 130 1 = true) :
    Calls Tryz.prog 139 #[.pointer (some ⟨g, off, none⟩)] w fun e w' => e = .returned (.tuple #[]) ∧ w' = w.setCell ⟨g, off, none⟩ (.pointer (some ⟨g, off, none⟩)) := by
  obtain ⟨j, hj, hjs⟩ := Option.map_eq_some_iff.1 builderInfo
  have hjz : j.size ≠ 0 := by
    have : j.size = 2 := by
      injection hjs with _ h
      injection h
    omega
  have hc : w.cell? ⟨g, off, none⟩ = some (.pointer none) := (hw.cell off).trans h0
  have hfz : w.frozen? ⟨g, off, none⟩ = false := hw.frozen off
  have hlt : off < cs.length := (List.getElem?_eq_some_iff.1 h0).1
  have hsh : w.shape? (⟨g, off, none⟩ : Addr).block = some (T, cs.length) := by
    unfold Whole at hw
    simp [World.shape?, hw]
  have HS := Lib.hid hsh
  have HL := Lib.hid hlies
  have HJ := Lib.hid hjs
  clear hw h0 hsh hlies hjs
  go_enter Tryz.func139, Tryz.ntmps139
  go_wp2
  rw [Lib.run_to_unsafe w ⟨g, off, none⟩ Tryz.underlying127 Tryz.underlying162 hj hjz HS.out hlt]
  simp only [Result.andThen]
  rw [Oper.upon_value]
  go_wp2
  rw [run_callFunc_extern Tryz.func155 (by kernel_rfl) (by kernel_rfl) (by kernel_rfl) (e := Extern.AbiNoEscape.same) (by kernel_rfl)]
  rw [Lib.run_noEscape]
  simp only [Result.andThen]
  rw [Oper.upon_value]
  go_wp2
  rw [Lib.run_from_unsafe w ⟨g, off, none⟩ Tryz.underlying162 Tryz.underlying127 hj HS.out HL.out]
  simp only [Result.andThen]
  rw [Oper.upon_value]
  go_wp2
  go_end0
  exact ⟨rfl, rfl⟩

/-- behind copyCheck the builder is used. -/
theorem copyCheck_any {T g off base : Nat} {own : Option Nat} {cs : List Value} {l : List UInt8} {w : World} (h : BldIn T g off base own cs l w) :
    Calls Tryz.prog 139 #[.pointer (some ⟨g, off, none⟩)] w fun e w' => e = .returned (.tuple #[]) ∧ BldIn T g off base own (cs.set off (.pointer (some ⟨g, off, none⟩))) l w' ∧ Fr [g] w w' := by
  obtain ⟨v, hv, hown, hob⟩ := h.buf
  have hoff : off + 1 < cs.length := (List.getElem?_eq_some_iff.1 hv).1
  rcases h.addr with h0 | h0
  · refine (copyCheck_fresh T g off cs w h.whole h0 h.lies).mono ?_
    rintro e w' ⟨rfl, rfl⟩
    have hne := Lib.ownBlock_ne hown h.whole h.ne
    exact ⟨rfl, ⟨h.whole.set_ off _, .inr (List.getElem?_set_self (by omega)), ⟨v, by rw [List.getElem?_set_ne (by omega)]; exact hv, hown.kept (row := some g) ⟨rfl, rfl, rfl, by simp [World.setCell], fun k _ hk => Below.heap_setCell _ _ _ _ (fun e => hk (by simp [e]))⟩ (Or.inr hne), hob⟩, h.base, h.ne, by rw [List.length_set]; exact h.lies⟩, (Fr.refl [g] w).setCell (p := ⟨g, off, none⟩) (.inl (by simp)) _⟩
  · refine (copyCheck_used T g off cs w h.whole h0).mono ?_
    rintro e w' ⟨rfl, rfl⟩
    rw [setList_same h0]
    exact ⟨rfl, h, Fr.refl _ _⟩

/-- what a write leaves. -/
def Wrote (T g off base : Nat) (own : Option Nat) (cs : List Value) (l : List UInt8) (w w' : World) : Prop :=
  ∃ own' cs', BldIn T g off base own' cs' l w' ∧ cs'.length = cs.length ∧ (∀ i, i ≠ off → i ≠ off + 1 → cs'[i]? = cs[i]?) ∧ (own' = own ∨ ∃ k, own' = some k ∧ w.heap.size ≤ k) ∧ Fr (g :: own.toList) w w'

theorem Wrote.of_base {T g off base : Nat} {own : Option Nat} {cs : List Value} {l : List UInt8} {w : World} (h : BldIn T g off base own cs l w) : ∀ k, k ∈ g :: own.toList → base ≤ k := by
  intro k hk
  obtain ⟨v, _, hown, hob⟩ := h.buf
  rcases List.mem_cons.1 hk with rfl | hk
  · exact h.base
  · exact (hown.lt k (by rw [hob]; simpa using hk)).1

/-- a block of another type is as it was. -/
theorem BldIn.keep {T g off base : Nat} {own : Option Nat} {cs : List Value} {l : List UInt8} {w w' : World} (h : BldIn T g off base own cs l w) (hf : Fr (g :: own.toList) w w') {b T' : Nat} {ds : List Value} (hw : Whole w b T' ds) (h1 : T' ≠ T) (h2 : T' ≠ 5) : Whole w' b T' ds := by
  refine hw.fr hf ?_
  intro hm
  rcases List.mem_cons.1 hm with rfl | hm
  · exact hw.ne_ h.whole h1 rfl
  · obtain ⟨v, _, hown, hob⟩ := h.buf
    exact Lib.ownBlock_ne hown hw h2 (by rw [hob]; simpa using hm)

theorem Wrote.trans {T g off base : Nat} {own : Option Nat} {cs : List Value} {l m : List UInt8} {w w1 w2 : World} (h : Wrote T g off base own cs l w w1)
    (k : ∀ own' cs', BldIn T g off base own' cs' l w1 → Wrote T g off base own' cs' m w1 w2) : Wrote T g off base own cs m w w2 := by
  obtain ⟨o1, c1, b1, l1, e1, h1, f1⟩ := h
  obtain ⟨o2, c2, b2, l2, e2, h2, f2⟩ := k o1 c1 b1
  refine ⟨o2, c2, b2, l2.trans l1, fun i hi hj => (e2 i hi hj).trans (e1 i hi hj), ?_, ?_⟩
  · rcases h2 with rfl | ⟨k2, rfl, hk2⟩
    · exact h1
    · exact .inr ⟨k2, rfl, Nat.le_trans f1.size hk2⟩
  · refine f1.step f2 ?_
    intro x hx
    rcases List.mem_cons.1 hx with rfl | hx
    · exact .inl (by simp)
    · rcases h1 with rfl | ⟨k1, rfl, hk1⟩
      · exact .inl (by simp [hx])
      · simp at hx; subst hx; exact .inr hk1

theorem byteCells_snoc (l : List UInt8) (c : UInt8) : Lib.byteCells (l ++ [c]) = Lib.byteCells l ++ [.int .u8 c.toNat] := by simp [Lib.byteCells]
theorem byteCells_app (l m : List UInt8) : Lib.byteCells (l ++ m) = Lib.byteCells l ++ Lib.byteCells m := by simp [Lib.byteCells]
theorem strCells_eq (s : ByteArray) : Lib.strCells s = Lib.byteCells s.data.toList := rfl

set_option maxHeartbeats 1000000 in
set_option maxRecDepth 100000 in
theorem writeByte_any {T g off base : Nat} {own : Option Nat} {cs : List Value} {l : List UInt8} (c : UInt8) {w : World} (h : BldIn T g off base own cs l w) (hlen : l.length + 1 ≤ 140737488355328) (hB : base ≤ w.heap.size) :
    Calls Tryz.prog 118 #[.pointer (some ⟨g, off, none⟩), .int .u8 c.toNat] w fun e w' => e = .returned .nilIface ∧ Wrote T g off base own cs (l ++ [c]) w w' := by
  obtain ⟨i0, hi, hz0, hz1, hz2⟩ := info_parts byteInfo
  have HH := Lib.hid h
  clear h
  go_enter Tryz.func118, Tryz.ntmps118
  go_wp2_with fail
  refine (copyCheck_any HH.out).mono ?_
  rintro e w1 ⟨rfl, h1, f1⟩
  obtain ⟨v, hv, hown, hob⟩ := h1.buf
  have hn1 : off + 1 < cs.length := by simpa using (List.getElem?_eq_some_iff.1 hv).1
  have c1 : w1.cell? ⟨g, off + 1, none⟩ = some v := (h1.whole.cell _).trans hv
  have H1 := Lib.hid h1
  have HO := Lib.hid hob
  have HV := Lib.hid hv
  have hsz := f1.size
  clear h1 hob hv
  go_wp2_with (at_builtin; refine wpList_append_own_at _ rfl _ _ 128 rfl base 5 i0 (.int .u8 0) 1 1 Tryz.underlying128 hi hz0 hz1 hz2 rfl (by decide) _ _ _ rfl (hown.alloc _) ⟨w1.heap.size, 0, none⟩ 1 1 [.int .u8 c.toNat] rfl rfl ?c1 ?c2 ?c3 ?c4 ?c5 ?_)
  case c1 =>
    intro j u hj
    match j, hj with
    | 0, hj => simp at hj; subst hj; simp [Addr.add]
  case c2 => intro u hu; simp at hu; subst hu; rfl
  case c3 => unfold maxLen; omega
  case c4 => omega
  case c5 => simp; omega
  intro v' w2 hown' hgrow _ hat
  have hne : v.ownBlock ≠ some g := Lib.ownBlock_ne hown H1.out.whole H1.out.ne
  have W2 : Whole w2 g T (cs.set off (.pointer (some ⟨g, off, none⟩))) := (H1.out.whole.alloc _).grown hgrow (fun e => hne e.symm)
  have d1 : w2.cell? ⟨g, off + 1, none⟩ = some v := (W2.cell _).trans HV.out
  have f2 : w2.frozen? ⟨g, off + 1, none⟩ = false := W2.frozen _
  obtain ⟨g', cap, rfl⟩ : ∃ g' cap, v' = .slice (some ⟨g', 0, none⟩) (l.length + 1) cap := by
    rcases hown'.2 with ⟨_, h0⟩ | ⟨g', cap, cur, hv, _⟩
    · omega
    · exact ⟨g', cap, hv⟩
  have HW2 := Lib.hid W2
  clear W2
  have hat' : (Value.slice (some ⟨g', 0, none⟩) (l.length + 1) cap).ownBlock = own ∨ ∃ k, (Value.slice (some ⟨g', 0, none⟩) (l.length + 1) cap).ownBlock = some k ∧ w.heap.size ≤ k := by
    rcases hat with e | e
    · exact .inl (e.trans HO.out)
    · exact .inr ⟨_, e, by first | omega | (simp; omega)⟩
  have HA := Lib.hid hat'
  clear hat hat'
  go_wp2
  go_ret
  have hn2 := Lib.ownBlock_ne hown' HW2.out H1.out.ne
  refine ⟨rfl, _, _, ⟨HW2.out.set_ (off + 1) _, .inr ?_, ⟨_, ?_, ?_, rfl⟩, H1.out.base, H1.out.ne, ?_⟩, ?_, ?_, HA.out, ?_⟩
  · rw [List.getElem?_set_ne (by omega)]
    exact List.getElem?_set_self (by omega)
  · rw [List.getElem?_set_self (by simp; omega)]
  · rw [byteCells_snoc]
    have := hown'.kept (row := some g) (w' := w2.setCell ⟨g, off + 1, none⟩ (.slice (some ⟨g', 0, none⟩) (l.length + 1) cap)) ⟨rfl, rfl, rfl, by simp [World.setCell], fun k _ hk => Below.heap_setCell _ _ _ _ (fun e => hk (by simp [e]))⟩ (Or.inr hn2)
    simpa using this
  · simpa using H1.out.lies
  · simp
  · intro i h1 h2
    rw [List.getElem?_set_ne (fun e => h2 e.symm), List.getElem?_set_ne (fun e => h1 e.symm)]
  · refine Fr.setCell (p := ⟨g, off + 1, none⟩) ?_ (.inl (by simp)) _
    refine Fr.grown ((f1.more (T := g :: own.toList) (by intro k hk; simp at hk; exact .inl (by simp [hk]))).alloc _) hgrow ?_
    intro k hk
    rw [HO.out] at hk
    exact .inl (by simp [hk])

set_option maxHeartbeats 1000000 in
set_option maxRecDepth 100000 in
theorem writeString_any {T g off base : Nat} {own : Option Nat} {cs : List Value} {l : List UInt8} (s : ByteArray) {w : World} (h : BldIn T g off base own cs l w) (hlen : l.length + s.size ≤ 140737488355328) (hB : base ≤ w.heap.size) :
    Calls Tryz.prog 119 #[.pointer (some ⟨g, off, none⟩), .string s] w fun e w' => e = .returned (.tuple #[.int .i64 s.size, .nilIface]) ∧ Wrote T g off base own cs (l ++ s.data.toList) w w' := by
  obtain ⟨i0, hi, hz0, hz1, hz2⟩ := info_parts byteInfo
  have HH := Lib.hid h
  clear h
  go_enter Tryz.func119, Tryz.ntmps119
  go_wp2_with fail
  refine (copyCheck_any HH.out).mono ?_
  rintro e w1 ⟨rfl, h1, f1⟩
  obtain ⟨v, hv, hown, hob⟩ := h1.buf
  have hn1 : off + 1 < cs.length := by simpa using (List.getElem?_eq_some_iff.1 hv).1
  have c1 : w1.cell? ⟨g, off + 1, none⟩ = some v := (h1.whole.cell _).trans hv
  have H1 := Lib.hid h1
  have HO := Lib.hid hob
  have HV := Lib.hid hv
  have hsz := f1.size
  clear h1 hob hv
  go_wp2_with (at_builtin; refine wpList_append_str _ rfl _ _ 128 9 rfl base 5 i0 Tryz.underlying128 Tryz.underlying9 hi hz0 hz1 hz2 _ _ _ rfl hown s rfl ?c3 ?c4 ?c5 ?_)
  case c3 => unfold maxLen; omega
  case c4 => omega
  case c5 => omega
  intro v' w2 hown' hgrow hat
  have hne : v.ownBlock ≠ some g := Lib.ownBlock_ne hown H1.out.whole H1.out.ne
  have W2 : Whole w2 g T (cs.set off (.pointer (some ⟨g, off, none⟩))) := H1.out.whole.grown hgrow (fun e => hne e.symm)
  have d1 : w2.cell? ⟨g, off + 1, none⟩ = some v := (W2.cell _).trans HV.out
  have f2 : w2.frozen? ⟨g, off + 1, none⟩ = false := W2.frozen _
  obtain ⟨ao, n', cap, rfl⟩ : ∃ ao n' cap, v' = .slice ao n' cap := by
    rcases hown'.2 with ⟨hv, _⟩ | ⟨g, cap, cur, hv, _⟩
    · exact ⟨_, _, _, hv⟩
    · exact ⟨_, _, _, hv⟩
  have HW2 := Lib.hid W2
  clear W2
  have hat' : (Value.slice ao n' cap).ownBlock = own ∨ ∃ k, (Value.slice ao n' cap).ownBlock = some k ∧ w.heap.size ≤ k := by
    rcases hat with e | e
    · exact .inl (e.trans HO.out)
    · exact .inr ⟨_, e, by omega⟩
  have HA := Lib.hid hat'
  clear hat hat'
  go_wp2
  go_ret2
  have hn2 := Lib.ownBlock_ne hown' HW2.out H1.out.ne
  refine ⟨rfl, _, _, ⟨HW2.out.set_ (off + 1) _, .inr ?_, ⟨_, ?_, ?_, rfl⟩, H1.out.base, H1.out.ne, ?_⟩, ?_, ?_, HA.out, ?_⟩
  · rw [List.getElem?_set_ne (by omega)]
    exact List.getElem?_set_self (by omega)
  · rw [List.getElem?_set_self (by simp; omega)]
  · rw [byteCells_app, ← strCells_eq]
    have := hown'.kept (row := some g) (w' := w2.setCell ⟨g, off + 1, none⟩ (.slice ao n' cap)) ⟨rfl, rfl, rfl, by simp [World.setCell], fun k _ hk => Below.heap_setCell _ _ _ _ (fun e => hk (by simp [e]))⟩ (Or.inr hn2)
    simpa using this
  · simpa using H1.out.lies
  · simp
  · intro i h1 h2
    rw [List.getElem?_set_ne (fun e => h2 e.symm), List.getElem?_set_ne (fun e => h1 e.symm)]
  · refine Fr.setCell (p := ⟨g, off + 1, none⟩) ?_ (.inl (by simp)) _
    refine Fr.grown (f1.more (T := g :: own.toList) (by intro k hk; simp at hk; exact .inl (by simp [hk]))) hgrow ?_
    intro k hk
    rw [HO.out] at hk
    exact .inl (by simp [hk])

set_option maxHeartbeats 1000000 in
set_option maxRecDepth 100000 in
/-- String: the bytes, if there are some. -/
theorem string_any {T g off base : Nat} {own : Option Nat} {cs : List Value} {l : List UInt8} {w : World} (h : BldIn T g off base own cs l w) (h0 : l ≠ []) :
    Calls Tryz.prog 120 #[.pointer (some ⟨g, off, none⟩)] w fun e w' => e = .returned (.string ⟨l.toArray⟩) ∧ Fr own.toList w w' := by
  obtain ⟨v, hv, hown, hob⟩ := h.buf
  have hl0 : l.length ≠ 0 := by simpa using h0
  obtain ⟨gb, cap, cur, rfl, hbg, hg, hnc, hcm, hcs, htake⟩ : ∃ gb cap cur, v = .slice (some ⟨gb, 0, none⟩) l.length cap ∧ base ≤ gb ∧ w.heap[gb]? = some (.cells cur 5 (0, 0)) ∧ l.length ≤ cap ∧ cap ≤ maxLen ∧ cur.size = cap * 1 ∧ cur.toList.take (l.length * 1) = Lib.byteCells l := by
    rcases hown.2 with ⟨_, hz⟩ | ⟨gb, cap, cur, hv, r⟩
    · exact absurd hz hl0
    · exact ⟨gb, cap, cur, hv, r⟩
  have c1 : w.drew.cell? ⟨g, off + 1, none⟩ = some (.slice (some ⟨gb, 0, none⟩) l.length cap) := (h.whole.drew.cell _).trans hv
  have c2 : w.cell? ⟨g, off + 1, none⟩ = some (.slice (some ⟨gb, 0, none⟩) l.length cap) := (h.whole.cell _).trans hv
  have hSD : (Builtin.unsafeSliceData_ #[128] 147 #[.slice (some ⟨gb, 0, none⟩) l.length cap]).run Tryz.prog w.drew = .ok (.pointer (some ⟨gb, 0, none⟩)) w.drew :=
    Lib.run_unsafeSliceData_row _ _ _ _ _ _ (by omega)
  have hUS : (Builtin.unsafeString_ #[147, 3] 9 #[.pointer (some ⟨gb, 0, none⟩), .int .i64 l.length]).run Tryz.prog w.drew = .ok (.string ⟨l.toArray⟩) (w.drew.freeze ⟨gb, 0, none⟩ l.length) := by
    refine Lib.run_unsafeString_row w.drew 147 3 9 5 Tryz.underlying147 (by kernel_rfl) gb cur.size (by have hg' : w.drew.heap[gb]? = some (.cells cur 5 (0, 0)) := hg; simp [World.shape?, hg']) l h0 (by omega) (by unfold maxLen at hcm; omega) ?_
    intro j x hx
    have := hown.cells (g := gb) rfl j (.int .u8 x.toNat) (by simp [Lib.byteCells, hx])
    exact this
  have HO := Lib.hid hob
  clear hob h hv hown hg hcs htake h0
  go_enter Tryz.func120, Tryz.ntmps120
  go_wp2
  go_region
  all_goals
    go_wp2
    go_ret
    refine ⟨rfl, ?_⟩
    rw [← HO.out]
    exact frFreeze (Fr.refl _ _).drew (by simp [Value.ownBlock]) _
end Go.Proofs.YtkgbgmfidkimfaaGreat
