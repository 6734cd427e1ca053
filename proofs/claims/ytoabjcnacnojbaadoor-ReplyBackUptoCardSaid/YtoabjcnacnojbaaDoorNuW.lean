/- Numbers as texts: the walks of the reference's Digits and IntOf, of text.Int; which package-level variables the library reads. -/
import Derived.Test.YtoabjcnacnojbaaDoorNuA
import Derived.Test.YtoabjcnacnojbaaDoorItB
import Derived.Test.YtoabjcnacnojbaaDoorSh
import Derived.Lib.ConvBytes
import Derived.Deep.RegionHeld3
import Derived.IntWalk
set_option linter.unusedVariables false
set_option linter.unusedSimpArgs false
namespace Go.Proofs.YtoabjcnacnojbaaDoor
open Go.RowKit

theorem fr_grow (w : World) (k : Nat) (os : Array Obj) : Fr [] w (Sort.grow (w.drewN k) os) :=
  ⟨rfl, rfl, rfl, by show w.heap.size ≤ (w.heap ++ os).size; simp, fun j hj _ => by
    show (w.heap ++ os)[j]? = w.heap[j]?
    rw [Array.getElem?_append_left hj]⟩
theorem fr_bytes (w : World) (e : TypeId) (s : ByteArray) : Fr [] w (Lib.bytesWorld w e s) := by
  unfold Lib.bytesWorld
  refine ⟨rfl, rfl, rfl, by simp [World.freeze], fun j hj _ => ?_⟩
  have h1 : (w.drew.alloc (.cells (Lib.bytesCells w e s) e)).heap[j]? = w.heap[j]? := Below.heap_alloc w.drew _ j hj
  have hne : w.heap.size ≠ j := by omega
  simpa [World.freeze, Array.getElem?_modify, hne] using h1

/-- what the library's variables hold. -/
structure Vars (w : World) : Prop where
  tab : Lib.TabIs Tryd.prog w "internal/strconv.uint64pow10" .u64 Lib.pow10Tab
  syn : ∃ tp p, w.var? Tryd.prog "strconv.ErrSyntax" = some #[.iface tp p]
  rng : ∃ tp p, w.var? Tryd.prog "strconv.ErrRange" = some #[.iface tp p]
theorem var_fr {P : Program} {w w' : World} {n : String} {cs : Array Value} (h : w.var? P n = some cs) (hf : Fr [] w w') : w'.var? P n = some cs := by
  unfold World.var? at h ⊢
  cases hg : P.globalNamed n with
  | none => rw [hg] at h; cases h
  | some g =>
    rw [hg] at h
    simp only [Option.bind_some] at h ⊢
    cases hb : w.heap[g]? with
    | none => rw [hb] at h; cases h
    | some o =>
      have hlt : g < w.heap.size := (Array.getElem?_eq_some_iff.1 hb).1
      rw [hf.block g hlt (by simp), hb]
      rw [hb] at h
      exact h
theorem Vars.fr {w w' : World} (h : Vars w) (hf : Fr [] w w') : Vars w' :=
  ⟨var_fr h.tab hf, h.syn.imp fun _ ⟨p, hp⟩ => ⟨p, var_fr hp hf⟩, h.rng.imp fun _ ⟨p, hp⟩ => ⟨p, var_fr hp hf⟩⟩

/-- the table that Itoa reads. -/
def Tab (w : World) : Prop := Lib.TabIs Tryd.prog w "internal/strconv.uint64pow10" .u64 Lib.pow10Tab
theorem Tab.fr {w w' : World} (h : Tab w) (hf : Fr [] w w') : Tab w' := var_fr h hf
theorem itoaT_any (n : Int) (w : World) (hv : Tab w) (h : -9223372036854775808 ≤ n ∧ n ≤ 9223372036854775807) :
    Calls Tryd.prog 20 #[.int .i64 n] w fun e w' => e = .returned (.string ⟨(Lib.itoa n).toArray⟩) ∧ Fr [] w w' :=
  (Tryd.strconv_Itoa n h.1 h.2 w hv).mono fun e w' ⟨he, k, os, hw⟩ => ⟨he, by rw [hw]; exact fr_grow w k os⟩
theorem itoa_any (n : Int) (w : World) (hv : Vars w) (h : -9223372036854775808 ≤ n ∧ n ≤ 9223372036854775807) :
    Calls Tryd.prog 20 #[.int .i64 n] w fun e w' => e = .returned (.string ⟨(Lib.itoa n).toArray⟩) ∧ Fr [] w w' :=
  (Tryd.strconv_Itoa n h.1 h.2 w hv.tab).mono fun e w' ⟨he, k, os, hw⟩ => ⟨he, by rw [hw]; exact fr_grow w k os⟩

/-- how Atoi answers. -/
def AtoiPost (s : ByteArray) (w : World) (e : Ending) (w' : World) : Prop := ∃ (n : Int) (v : Value), e = .returned (.tuple #[.int .i64 n, v]) ∧ (-9223372036854775808 ≤ n ∧ n ≤ 9223372036854775807) ∧
  ((v = .nilIface ∧ Lib.atoiAll s.data.toList = .ok n) ∨ ((∃ t N, v = .iface t (.pointer (some ⟨N, 0, none⟩))) ∧ intL s.data.toList = none)) ∧ Fr [] w w'
theorem atoi_bounds {l : List UInt8} {v : Int} (h : Lib.atoiAll l = .ok v) : -9223372036854775808 ≤ v ∧ v ≤ 9223372036854775807 := by
  unfold Lib.atoiAll at h
  split at h
  · cases h
  · simp only at h
    split at h
    · cases h
    · cases h
    · split at h
      · cases h
      · rename_i h1
        split at h
        · cases h
        · rename_i h2
          injection h with h
          subst h
          split <;> omega
theorem atoi_any (s : ByteArray) (w : World) (hv : Vars w) (hs : s.size ≤ 281474976710656) :
    Calls Tryd.prog 36 #[.string s] w (AtoiPost s w) := by
  rcases h : Lib.atoiAll s.data.toList with v | _ | _
  · refine (Tryd.strconv_Atoi_ok s (by omega) v h w).mono fun e w' ⟨he, hw⟩ => ⟨v, _, he, atoi_bounds h, .inl ⟨rfl, h⟩, ?_⟩
    rcases hw with rfl | ⟨t, rfl⟩
    · exact Fr.refl [] _
    · exact fr_bytes _ _ _
  · obtain ⟨tp, p, hp⟩ := hv.syn
    exact (Tryd.strconv_Atoi_syntax_var s hs h tp p w hp).mono fun e w' ⟨N, he, _, _, hb⟩ => ⟨0, _, he, by decide, .inr ⟨⟨_, N, rfl⟩, intL_bad (fun v => by rw [h]; exact fun e => by cases e)⟩, Fr.of_below hb⟩
  · obtain ⟨tp, p, hp⟩ := hv.rng
    refine (Tryd.strconv_Atoi_range_var s hs h tp p w hp).mono fun e w' ⟨N, he, _, _, hb⟩ => ⟨_, _, he, ?_, .inr ⟨⟨_, N, rfl⟩, intL_bad (fun v => by rw [h]; exact fun e => by cases e)⟩, Fr.of_below hb⟩
    unfold Lib.atoiSat
    split <;> decide

/-- what a text tells, and whether it tells one. -/
def TellsPost (s : ByteArray) (w : World) (e : Ending) (w' : World) : Prop := ∃ n : Int, e = .returned (.tuple #[.int .i64 n, .bool (intL s.data.toList).isSome]) ∧ (-9223372036854775808 ≤ n ∧ n ≤ 9223372036854775807) ∧ (∀ v, intL s.data.toList = some v → n = v) ∧ Fr [] w w'

end Go.Proofs.YtoabjcnacnojbaaDoor
