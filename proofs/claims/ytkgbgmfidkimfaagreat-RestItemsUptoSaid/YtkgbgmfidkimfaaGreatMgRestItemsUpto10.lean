/- slices.Clone at springhouse/api.Pair: a row of the call's own. (Printed by elem.py.) slices.IndexFunc and DeleteFunc at springhouse/api.Pair, whatever the function. (Printed by elem.py.) slices.DeleteFunc at springhouse/api.Pair, whatever the function. (Printed by elem.py.) -/
import Derived.Test.YtkgbgmfidkimfaaGreatSlA
import Derived.Test.YtkgbgmfidkimfaaGreatItf
import Derived.Laws.OwnMore
import Derived.WalkSpells
set_option linter.unusedVariables false
set_option linter.unusedSimpArgs false
namespace Go.Proofs.YtkgbgmfidkimfaaGreat
open Go.RowKit

set_option maxRecDepth 100000 in
theorem cloneP_row (n : Nat) (xs : List Value) (A : Option Addr) (c : Nat) (w : World) (B : Nat) (hl : n ≤ 1000000) (hB : B ≤ w.heap.size) (h : Sl w B 2 (.slice A n c) n xs) (h1 : ∀ u ∈ xs, u.oneCell' = true) :
    Calls Tryz.prog 64 #[.slice A n c] w (RowPost 57 2 n xs w) := by
  obtain ⟨i0, hi, hz0, hz1, hz2⟩ := info_parts pairInfo
  have q29 : ∀ (w : World) (a : Option Addr) (n c n' c' : Nat), (binOp .eql 23 (.slice a n c) (.slice none n' c')).run Tryz.prog w = .ok (.bool a.isNone) w := fun w a n c n' c' => Lib.run_eql_slice_nil w _ _ a n c n' c' Tryz.underlying23
  cases A with
  | none =>
    obtain ⟨A', c', e, hlx, hc, hm, hr⟩ := h
    cases e
    have h0 : n = 0 := by
      rcases Nat.eq_zero_or_pos n with h0 | h0
      · exact h0
      · obtain ⟨_, _, h, _⟩ := hr h0
        cases h
    subst h0
    obtain rfl : xs = [] := List.eq_nil_of_length_eq_zero (by omega)
    clear hr h1
    go_enter Tryz.func64, Tryz.ntmps64
    go_wp2
    go_ret
    exact ⟨_, rfl, World.ownsRow_nil _ _ _ _, Fr.refl [] w⟩
  | some ad =>
    have hO := (World.ownsRow_lit (base := w.heap.size) (e := 57) (size := 2) w #[] 0 (Nat.le_refl _) (Nat.zero_le _) rfl)
    have hsl := h.fr ((Fr.refl [] w).alloc (.cells #[] 57)) hB (by simp)
    have H1 := Lib.hid h1
    have HS := Lib.hid hsl
    clear h h1 hsl
    go_enter Tryz.func64, Tryz.ntmps64
    go_wp2_with (at_builtin; refine wpList_append_sl _ rfl _ _ 23 rfl w.heap.size 57 i0 _ 2 32 Tryz.underlying23 hi hz0 hz1 hz2 rfl (by decide) _ _ _ rfl hO B _ n xs rfl HS.out H1.out ?c1 ?c2 (by simp) ?_)
    case c1 => unfold maxLen; omega
    case c2 => omega
    intro v' w2 hown' hgrow hat
    go_wp2
    go_ret
    refine ⟨_, rfl, by simpa using hown', ((Fr.refl [] w).alloc _).grown hgrow (fun k hk => ?_)⟩
    simp [Value.ownBlock] at hk
    subst hk
    exact .inr (Nat.le_refl _)
end Go.Proofs.YtkgbgmfidkimfaaGreat

namespace Go.Proofs.YtkgbgmfidkimfaaGreat
open Go.RowKit

/-- a function value that says p, whatever has been laid or turned from block B on. -/
def PredP (g : Nat) (lb : Array Value) (p : (ByteArray × ByteArray) → Bool) (B : Nat) (w : World) : Prop :=
  ∀ W (x : (ByteArray × ByteArray)), FrB [] B w W → Calls Tryz.prog g (#[.agg #[.string x.1, .string x.2]] ++ lb) W fun e w' => e = .returned (.bool (p x)) ∧ Fr [] W w'

theorem PredP.later {g : Nat} {lb : Array Value} {p : (ByteArray × ByteArray) → Bool} {B : Nat} {w w' : World} (h : PredP g lb p B w) (hf : FrB [] B w w') : PredP g lb p B w' := fun W x hW => h W x (hf.trans hW)

set_option maxHeartbeats 400000 in
set_option maxRecDepth 100000 in
theorem idxP_any (g : Nat) (lb : Array Value) (eg : ∀ args w, (callFunc g args).run Tryz.prog w = .ok (.enter g args) w) (p : (ByteArray × ByteArray) → Bool) (D : Nat) (l : List (ByteArray × ByteArray)) (A : Option Addr) (c B : Nat) (w : World) (hp : PredP g lb p D w) (hl : l.length ≤ 281474976710656) (hB : B ≤ w.heap.size)
    (hsl : Sl w B 2 (.slice A l.length c) l.length (pairsV l)) :
    Calls Tryz.prog 109 #[.slice A l.length c, .func (Fn.func g) #[] lb] w fun e w' => e = .returned (.int .i64 (idxOf p l)) ∧ Fr [] w w' := by
  have HS := Lib.hid hsl
  have HP := Lib.hid hp
  clear hsl hp
  go_enter Tryz.func109, Tryz.ntmps109
  go_wp2
  go_loopg [5, 8] l.length (fun g u i wr => ∃ (k : Nat), g = l.length - k ∧ k ≤ l.length ∧ i = .int .i64 k ∧ (∀ j t, j < k → l[j]? = some t → p t = false) ∧ Fr [] w wr)
  case atStart => exact ⟨0, rfl, Nat.zero_le _, rfl, fun j t hj => absurd hj (Nat.not_lt_zero _), Fr.refl _ _⟩
  case round =>
    obtain ⟨k, rfl, hk, rfl, hno, hf⟩ := hrel
    by_cases hlt : k < l.length
    · obtain ⟨b, off, rfl, hb, hc, hm, hcell⟩ := HS.out.at_ (by omega)
      obtain ⟨s, hs⟩ : ∃ s, l[k]? = some s := ⟨_, List.getElem?_eq_getElem hlt⟩
      have hc1 : wr.cell? ⟨b, off + 2 * k, none⟩ = some (.string s.1) := hf.cell (hcell _ _ (pairsV_get l k s hs).1) (by simp)
      have hc2 : wr.cell? ⟨b, off + 2 * k + 1, none⟩ = some (.string s.2) := hf.cell (hcell _ _ (pairsV_get l k s hs).2) (by simp)
      rw [Nat.mul_comm 2 k] at hc1 hc2
      have L := Lib.hid (fun W (hW : Fr [] wr W) => HP.out W s ((hf.toB D).trans (hW.toB D)))
      have HF := Lib.hid hf
      have F1 := Lib.hid (Fr.refl [] wr)
      by_cases hq : p s = true
      · have E := Lib.hid (idxOf_found hno hs hq)
        rw [hq] at L
        clear hno hcell hs hq hf
        go_wp2_with fail
        refine (L.out _ F1.out).mono ?_
        rintro e w1 ⟨rfl, h1⟩
        go_wp2
        go_ret
        rw [E.out]
        exact ⟨rfl, HF.out.trans h1⟩
      · have hq' : p s = false := by simpa using hq
        rw [hq'] at L
        have N := Lib.hid (fun j t (hj : j < k + 1) (ht : l[j]? = some t) => (show p t = false by
          rcases Nat.lt_or_ge j k with h | h
          · exact hno j t h ht
          · have e : j = k := by omega
            subst e
            rw [hs] at ht
            cases ht
            exact hq'))
        clear hno hcell hs hq hq' hf
        go_wp2_with fail
        refine (L.out _ F1.out).mono ?_
        rintro e w1 ⟨rfl, h1⟩
        go_wp2
        go_roundg (l.length - (k + 1))
        case measure => omega
        case rel => exact ⟨k + 1, rfl, by omega, rfl, N.out, HF.out.trans h1⟩
    · have E := Lib.hid (idxOf_none (q := p) (l := l) (fun j t ht => hno j t (by have := (List.getElem?_eq_some_iff.1 ht).1; omega) ht))
      clear hno
      go_wp2
      go_ret
      rw [E.out]
      exact ⟨rfl, hf⟩
end Go.Proofs.YtkgbgmfidkimfaaGreat

namespace Go.Proofs.YtkgbgmfidkimfaaGreat
open Go.RowKit

def DelFPostP (ys : List (ByteArray × ByteArray)) (base : Nat) (v : Value) (w : World) (e : Ending) (w' : World) : Prop :=
  ∃ v', e = .returned v' ∧ w'.ownsRow base 57 2 v' ys.length (pairsV ys) ∧ Fr (ownL v) w w' ∧ v'.ownBlock = v.ownBlock

theorem zeroFP : ∀ w, (zeroValue 57).run Tryz.prog w = .ok (.agg #[.string ⟨#[]⟩, .string ⟨#[]⟩]) w := fun w => by kernel_rfl

set_option maxHeartbeats 2000000 in
set_option maxRecDepth 1000000 in
theorem delFP_any (g : Nat) (lb : Array Value) (eg : ∀ args w, (callFunc g args).run Tryz.prog w = .ok (.enter g args) w) (p : (ByteArray × ByteArray) → Bool) (D : Nat) (l : List (ByteArray × ByteArray)) (base : Nat) (v : Value) (w : World) (hp : PredP g lb p D w) (hD : D ≤ base) (hl : l.length ≤ 1000000)
    (h : w.ownsRow base 57 2 v l.length (pairsV l)) :
    Calls Tryz.prog 68 #[v, .func (Fn.func g) #[] lb] w (DelFPostP (l.filter fun x => !p x) base v w) := by
  obtain ⟨A, c, rfl, hA, hc, hm⟩ := own_slice h
  have I := Lib.hid (idxP_any g lb eg p D l A c w.heap.size w hp (by omega) (Nat.le_refl _) (own_sl h))
  rcases idxOf_cases p l with ⟨e1, e2⟩ | ⟨k0, s0, e1, hk0, hK⟩
  · rw [e1] at I
    have H := Lib.hid h
    have E2 := Lib.hid e2
    clear h e1 e2 hp
    go_enter Tryz.func68, Tryz.ntmps68
    go_wp2_with fail
    refine I.out.mono ?_
    rintro e w1 ⟨rfl, h1⟩
    go_wp2
    go_ret
    rw [E2.out]
    exact ⟨_, rfl, own_fr H.out h1 (by simp), h1.up, rfl⟩
  · rw [e1] at I
    obtain ⟨gb, rfl⟩ : ∃ gb, A = some ⟨gb, 0, none⟩ := by
      rcases hA with rfl | ⟨gb, rfl⟩
      · exfalso
        rcases h.2 with ⟨_, h0⟩ | ⟨g', cap', cur, h', _⟩
        · omega
        · cases h'
      · exact ⟨gb, rfl⟩
    have hgb := (h.lt gb rfl)
    have H := Lib.hid h
    have HP := Lib.hid hp
    have HK := Lib.hid hK
    have hne1 : ((k0 : Int) == -1) = false := beq_eq_false_iff_ne.2 (by omega)
    unfold maxLen at hm
    clear h hp hK e1 hA
    go_enter Tryz.func68, Tryz.ntmps68
    go_wp2_with fail
    refine I.out.mono ?_
    rintro e w1 ⟨rfl, h1⟩
    have HF1 := Lib.hid h1
    clear h1
    go_wp2
    go_loopg [5, 6] (l.length - (k0 + 1)) (fun gg s5 s6 wr => ∃ (i j : Nat) (d : List (ByteArray × ByteArray)), gg = l.length - j ∧ s5 = .int .i64 i ∧ s6 = .int .i64 j ∧ Kept p l d i j ∧ wr.ownsRow base 57 2 (.slice (some ⟨gb, 0, none⟩) l.length c) l.length (pairsV d) ∧ Fr [gb] w wr)
    case atStart => exact ⟨k0, k0 + 1, l, rfl, rfl, by go_num, HK.out, own_fr H.out HF1.out (by simp), HF1.out.up⟩
    case round =>
      obtain ⟨i, j, d, rfl, rfl, rfl, hK, hO, hF⟩ := hrel
      have HK := Lib.hid hK
      have HO := Lib.hid hO
      have HF := Lib.hid hF
      have hij := hK.lt
      have hjl := hK.le
      have hdl := hK.len
      have hsz := hF.size
      clear I HF1
      by_cases hlt : j < l.length
      · obtain ⟨s, hs⟩ : ∃ s, l[j]? = some s := ⟨_, List.getElem?_eq_getElem hlt⟩
        have hd : d[j]? = some s := (hK.behind j (Nat.le_refl _)).trans hs
        have L := Lib.hid (fun W (hW : Fr [] wr W) => HP.out W s ((hF.toB D).more (T := []) (by intro k hk; simp at hk; subst hk; exact .inr (by omega)) |>.trans (hW.toB D)))
        have HS := Lib.hid hs
        have x1 : wr.cell? ⟨gb, j * 2, none⟩ = some (.string s.1) := (hO.cellAt (j * 2) (by omega)).trans (by rw [Nat.mul_comm]; exact (pairsV_get d j s hd).1)
        have x2 : wr.cell? ⟨gb, j * 2 + 1, none⟩ = some (.string s.2) := (hO.cellAt (j * 2 + 1) (by omega)).trans (by rw [Nat.mul_comm]; exact (pairsV_get d j s hd).2)
        have F1 := Lib.hid ((Fr.refl [] wr).alloc (.cells #[.string s.1, .string s.2] 57))
        have V1 := Lib.hid (Whole.new wr 57 [.string s.1, .string s.2])
        clear hK hO hF hs hd
        by_cases hq : p s = true
        · rw [hq] at L
          have HQ := Lib.hid hq
          clear hq
          go_wp2_with fail
          refine (L.out _ F1.out).mono ?_
          rintro e w2 ⟨rfl, h2⟩
          have f2 := Lib.hid (F1.out.trans h2)
          clear h2
          go_wp2
          go_roundg (l.length - (j + 1))
          case measure => omega
          case rel => exact ⟨i, j + 1, d, rfl, rfl, by go_num, HK.out.skip HS.out HQ.out, own_fr HO.out f2.out (by simp), HF.out.trans f2.out.up⟩
        · have hq' : p s = false := by simpa using hq
          rw [hq'] at L
          have HQ := Lib.hid hq'
          clear hq hq'
          obtain ⟨s', hs'⟩ : ∃ s', d[i]? = some s' := ⟨_, List.getElem?_eq_getElem (by omega)⟩
          have HS' := Lib.hid hs'
          clear hs'
          go_wp2_with fail
          refine (L.out _ F1.out).mono ?_
          rintro e w2 ⟨rfl, h2⟩
          have f2 := Lib.hid (F1.out.trans h2)
          have HO2 := Lib.hid (own_fr HO.out f2.out (by simp))
          have V2 := V1.out.fr h2 (by simp)
          have v1 : w2.cell? ⟨wr.heap.size, 0, none⟩ = some (.string s.1) := V2.cell 0
          have v2 : w2.cell? ⟨wr.heap.size, 1, none⟩ = some (.string s.2) := V2.cell 1
          have y1 : w2.cell? ⟨gb, i * 2, none⟩ = some (.string s'.1) := (HO2.out.cellAt (i * 2) (by omega)).trans (by rw [Nat.mul_comm]; exact (pairsV_get d i s' HS'.out).1)
          have y2 : w2.cell? ⟨gb, i * 2 + 1, none⟩ = some (.string s'.2) := (HO2.out.cellAt (i * 2 + 1) (by omega)).trans (by rw [Nat.mul_comm]; exact (pairsV_get d i s' HS'.out).2)
          have z1 : w2.frozen? ⟨gb, i * 2, none⟩ = false := HO2.out.frozenAt _
          have z2 : w2.frozen? ⟨gb, i * 2 + 1, none⟩ = false := HO2.out.frozenAt _
          clear V2
          clear h2
          go_wp2
          go_roundg (l.length - (j + 1))
          case measure => omega
          case rel =>
            have o1 := HO2.out.stored (i * 2) (.string s.1)
            have o2 := o1.1.stored (i * 2 + 1) (.string s.2)
            exact ⟨i + 1, j + 1, d.set i s, rfl, by go_num, by go_num, HK.out.keep HS.out HQ.out, by rw [pairsV_set]; exact o2.1, ((HF.out.trans f2.out.up).setCell (p := ⟨gb, i * 2, none⟩) (.inl (by simp)) _).setCell (p := ⟨gb, i * 2 + 1, none⟩) (.inl (by simp)) _⟩
      · obtain rfl : j = l.length := by omega
        have hdone := hK.done
        obtain ⟨cur, w0, l0, t0, hb0, _, _, hxl⟩ := own_whole hO
        obtain ⟨zs, hzs⟩ : ∃ zs, zs = (Builtin.zeroCells (Value.cells (.agg #[.string ⟨#[]⟩, .string ⟨#[]⟩])) (l.length - i)).toList := ⟨_, rfl⟩
        have hzl : zs.length = (l.length - i) * 2 := by rw [hzs]; simp [Builtin.zeroCells, Value.cells]
        have hcl : ∀ ty, (Builtin.clear_ #[23] ty #[.slice (some ⟨gb, i * 2, none⟩) (l.length - i) (c - i)]).run Tryz.prog wr = .ok (.tuple #[]) (wr.setCells gb (i * 2) zs) := fun ty => by
          have := run_clear_k (P := Tryz.prog) wr 23 57 ty (.agg #[.string ⟨#[]⟩, .string ⟨#[]⟩]) Tryz.underlying23 zeroFP (by intro u hu; simp [Value.cells] at hu; rcases hu with rfl | rfl <;> rfl) gb (i * 2) (l.length - i) (c - i) (by omega) (fun t ht => by
            exact whole_cells w0 (o := i * 2) (m := (l.length - i) * 2) (by omega) t (by simpa [Value.cells] using ht))
          rw [← hzs] at this
          exact this
        have W1 := setCells_whole zs (i * 2) wr cur w0 (by omega)
        have O1 := own_of_whole (cap := c) (k := 2) (n := i) (base := base) W1 (by simp only [List.length_append, List.length_take, List.length_drop, l0, hzl]; omega) hb0 (by omega) (by unfold maxLen; omega)
        rw [List.append_assoc, List.take_append_of_le_length (by rw [List.length_take]; omega), List.take_take, Nat.min_eq_left (by omega)] at O1
        have e5 : cur.take (i * 2) = pairsV (l.filter fun x => !p x) := by
          rw [← hdone, ← pairsV_take, ← t0, List.take_take, Nat.min_eq_left (by omega)]
        have e6 : i = (l.filter fun x => !p x).length := by rw [← hdone, List.length_take]; omega
        rw [e5] at O1
        have HO1 := Lib.hid O1
        have HE := Lib.hid e6
        have G1 := Lib.hid (setCells_grown (g := gb) zs (i * 2) wr)
        have hic : i < c := by omega
        clear hK hO hF w0 l0 t0 hb0 hxl hzs hzl W1 O1 e5 e6 hdone hdl HK HO
        go_wp2
        go_ret
        have e6 := HE.out
        refine ⟨_, rfl, ?_, ?_, rfl⟩
        · rw [← e6]
          exact HO1.out
        · exact HF.out.grown G1.out (fun k hk => by cases hk; exact .inl (by simp))
end Go.Proofs.YtkgbgmfidkimfaaGreat
