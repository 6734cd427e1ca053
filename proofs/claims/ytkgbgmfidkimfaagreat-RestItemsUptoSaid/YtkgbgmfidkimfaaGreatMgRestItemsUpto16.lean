/- slices.IndexFunc and DeleteFunc at springhouse/api.Score, whatever the function. (Printed by elem.py.) slices.DeleteFunc at springhouse/api.Score, whatever the function. (Printed by elem.py.) slices.Delete at springhouse/api.Score: elements are taken out of an owned row. (Printed by elem.py.) -/
import Derived.Test.YtkgbgmfidkimfaaGreatMgRestItemsUpto15
import Derived.Test.YtkgbgmfidkimfaaGreatSlA
import Derived.Deep.RegionLaw
set_option linter.unusedVariables false
set_option linter.unusedSimpArgs false
namespace Go.Proofs.YtkgbgmfidkimfaaGreat
open Go.RowKit

/-- a function value that says p, whatever has been laid or turned from block B on. -/
def PredC (g : Nat) (lb : Array Value) (p : (Int × ByteArray) → Bool) (B : Nat) (w : World) : Prop :=
  ∀ W (x : (Int × ByteArray)), FrB [] B w W → Calls Tryz.prog g (#[.agg #[.int .i64 x.1, .string x.2]] ++ lb) W fun e w' => e = .returned (.bool (p x)) ∧ Fr [] W w'

theorem PredC.later {g : Nat} {lb : Array Value} {p : (Int × ByteArray) → Bool} {B : Nat} {w w' : World} (h : PredC g lb p B w) (hf : FrB [] B w w') : PredC g lb p B w' := fun W x hW => h W x (hf.trans hW)

set_option maxHeartbeats 400000 in
set_option maxRecDepth 100000 in
theorem idxC_any (g : Nat) (lb : Array Value) (eg : ∀ args w, (callFunc g args).run Tryz.prog w = .ok (.enter g args) w) (p : (Int × ByteArray) → Bool) (D : Nat) (l : List (Int × ByteArray)) (A : Option Addr) (c B : Nat) (w : World) (hp : PredC g lb p D w) (hl : l.length ≤ 281474976710656) (hB : B ≤ w.heap.size)
    (hsl : Sl w B 2 (.slice A l.length c) l.length (scoresV l)) :
    Calls Tryz.prog 114 #[.slice A l.length c, .func (Fn.func g) #[] lb] w fun e w' => e = .returned (.int .i64 (idxOf p l)) ∧ Fr [] w w' := by
  have HS := Lib.hid hsl
  have HP := Lib.hid hp
  clear hsl hp
  go_enter Tryz.func114, Tryz.ntmps114
  go_wp2
  go_loopg [5, 8] l.length (fun g u i wr => ∃ (k : Nat), g = l.length - k ∧ k ≤ l.length ∧ i = .int .i64 k ∧ (∀ j t, j < k → l[j]? = some t → p t = false) ∧ Fr [] w wr)
  case atStart => exact ⟨0, rfl, Nat.zero_le _, rfl, fun j t hj => absurd hj (Nat.not_lt_zero _), Fr.refl _ _⟩
  case round =>
    obtain ⟨k, rfl, hk, rfl, hno, hf⟩ := hrel
    by_cases hlt : k < l.length
    · obtain ⟨b, off, rfl, hb, hc, hm, hcell⟩ := HS.out.at_ (by omega)
      obtain ⟨s, hs⟩ : ∃ s, l[k]? = some s := ⟨_, List.getElem?_eq_getElem hlt⟩
      have hc1 : wr.cell? ⟨b, off + 2 * k, none⟩ = some (.int .i64 s.1) := hf.cell (hcell _ _ (scoresV_get l k s hs).1) (by simp)
      have hc2 : wr.cell? ⟨b, off + 2 * k + 1, none⟩ = some (.string s.2) := hf.cell (hcell _ _ (scoresV_get l k s hs).2) (by simp)
      rw [Nat.mul_comm 2 k] at hc1 hc2
      have L := Lib.hid (fun W (hW : Fr [] wr W) => HP.out W s ((hf.toB D).trans (hW.toB D)))
      have HF := Lib.hid hf
      have F1 := Lib.hid (Fr.refl [] wr)
      by_cases hq : p s = true
      · have E := Lib.hid (idxOf_found hno hs hq)
        rw [hq] at L
        clear hno hcell hs hq hf
        go_wp2_with fail
        refine (L.out _ F1.out).mono ?_
        rintro e w1 ⟨rfl, h1⟩
        go_wp2
        go_ret
        rw [E.out]
        exact ⟨rfl, HF.out.trans h1⟩
      · have hq' : p s = false := by simpa using hq
        rw [hq'] at L
        have N := Lib.hid (fun j t (hj : j < k + 1) (ht : l[j]? = some t) => (show p t = false by
          rcases Nat.lt_or_ge j k with h | h
          · exact hno j t h ht
          · have e : j = k := by omega
            subst e
            rw [hs] at ht
            cases ht
            exact hq'))
        clear hno hcell hs hq hq' hf
        go_wp2_with fail
        refine (L.out _ F1.out).mono ?_
        rintro e w1 ⟨rfl, h1⟩
        go_wp2
        go_roundg (l.length - (k + 1))
        case measure => omega
        case rel => exact ⟨k + 1, rfl, by omega, rfl, N.out, HF.out.trans h1⟩
    · have E := Lib.hid (idxOf_none (q := p) (l := l) (fun j t ht => hno j t (by have := (List.getElem?_eq_some_iff.1 ht).1; omega) ht))
      clear hno
      go_wp2
      go_ret
      rw [E.out]
      exact ⟨rfl, hf⟩
end Go.Proofs.YtkgbgmfidkimfaaGreat

namespace Go.Proofs.YtkgbgmfidkimfaaGreat
open Go.RowKit

def DelFPostC (ys : List (Int × ByteArray)) (base : Nat) (v : Value) (w : World) (e : Ending) (w' : World) : Prop :=
  ∃ v', e = .returned v' ∧ w'.ownsRow base 60 2 v' ys.length (scoresV ys) ∧ Fr (ownL v) w w' ∧ v'.ownBlock = v.ownBlock

theorem zeroFC : ∀ w, (zeroValue 60).run Tryz.prog w = .ok (.agg #[.int .i64 0, .string ⟨#[]⟩]) w := fun w => by kernel_rfl

set_option maxHeartbeats 2000000 in
set_option maxRecDepth 1000000 in
theorem delFC_any (g : Nat) (lb : Array Value) (eg : ∀ args w, (callFunc g args).run Tryz.prog w = .ok (.enter g args) w) (p : (Int × ByteArray) → Bool) (D : Nat) (l : List (Int × ByteArray)) (base : Nat) (v : Value) (w : World) (hp : PredC g lb p D w) (hD : D ≤ base) (hl : l.length ≤ 1000000)
    (h : w.ownsRow base 60 2 v l.length (scoresV l)) :
    Calls Tryz.prog 79 #[v, .func (Fn.func g) #[] lb] w (DelFPostC (l.filter fun x => !p x) base v w) := by
  obtain ⟨A, c, rfl, hA, hc, hm⟩ := own_slice h
  have I := Lib.hid (idxC_any g lb eg p D l A c w.heap.size w hp (by omega) (Nat.le_refl _) (own_sl h))
  rcases idxOf_cases p l with ⟨e1, e2⟩ | ⟨k0, s0, e1, hk0, hK⟩
  · rw [e1] at I
    have H := Lib.hid h
    have E2 := Lib.hid e2
    clear h e1 e2 hp
    go_enter Tryz.func79, Tryz.ntmps79
    go_wp2_with fail
    refine I.out.mono ?_
    rintro e w1 ⟨rfl, h1⟩
    go_wp2
    go_ret
    rw [E2.out]
    exact ⟨_, rfl, own_fr H.out h1 (by simp), h1.up, rfl⟩
  · rw [e1] at I
    obtain ⟨gb, rfl⟩ : ∃ gb, A = some ⟨gb, 0, none⟩ := by
      rcases hA with rfl | ⟨gb, rfl⟩
      · exfalso
        rcases h.2 with ⟨_, h0⟩ | ⟨g', cap', cur, h', _⟩
        · omega
        · cases h'
      · exact ⟨gb, rfl⟩
    have hgb := (h.lt gb rfl)
    have H := Lib.hid h
    have HP := Lib.hid hp
    have HK := Lib.hid hK
    have hne1 : ((k0 : Int) == -1) = false := beq_eq_false_iff_ne.2 (by omega)
    unfold maxLen at hm
    clear h hp hK e1 hA
    go_enter Tryz.func79, Tryz.ntmps79
    go_wp2_with fail
    refine I.out.mono ?_
    rintro e w1 ⟨rfl, h1⟩
    have HF1 := Lib.hid h1
    clear h1
    go_wp2
    go_loopg [5, 6] (l.length - (k0 + 1)) (fun gg s5 s6 wr => ∃ (i j : Nat) (d : List (Int × ByteArray)), gg = l.length - j ∧ s5 = .int .i64 i ∧ s6 = .int .i64 j ∧ Kept p l d i j ∧ wr.ownsRow base 60 2 (.slice (some ⟨gb, 0, none⟩) l.length c) l.length (scoresV d) ∧ Fr [gb] w wr)
    case atStart => exact ⟨k0, k0 + 1, l, rfl, rfl, by go_num, HK.out, own_fr H.out HF1.out (by simp), HF1.out.up⟩
    case round =>
      obtain ⟨i, j, d, rfl, rfl, rfl, hK, hO, hF⟩ := hrel
      have HK := Lib.hid hK
      have HO := Lib.hid hO
      have HF := Lib.hid hF
      have hij := hK.lt
      have hjl := hK.le
      have hdl := hK.len
      have hsz := hF.size
      clear I HF1
      by_cases hlt : j < l.length
      · obtain ⟨s, hs⟩ : ∃ s, l[j]? = some s := ⟨_, List.getElem?_eq_getElem hlt⟩
        have hd : d[j]? = some s := (hK.behind j (Nat.le_refl _)).trans hs
        have L := Lib.hid (fun W (hW : Fr [] wr W) => HP.out W s ((hF.toB D).more (T := []) (by intro k hk; simp at hk; subst hk; exact .inr (by omega)) |>.trans (hW.toB D)))
        have HS := Lib.hid hs
        have x1 : wr.cell? ⟨gb, j * 2, none⟩ = some (.int .i64 s.1) := (hO.cellAt (j * 2) (by omega)).trans (by rw [Nat.mul_comm]; exact (scoresV_get d j s hd).1)
        have x2 : wr.cell? ⟨gb, j * 2 + 1, none⟩ = some (.string s.2) := (hO.cellAt (j * 2 + 1) (by omega)).trans (by rw [Nat.mul_comm]; exact (scoresV_get d j s hd).2)
        have F1 := Lib.hid ((Fr.refl [] wr).alloc (.cells #[.int .i64 s.1, .string s.2] 60))
        have V1 := Lib.hid (Whole.new wr 60 [.int .i64 s.1, .string s.2])
        clear hK hO hF hs hd
        by_cases hq : p s = true
        · rw [hq] at L
          have HQ := Lib.hid hq
          clear hq
          go_wp2_with fail
          refine (L.out _ F1.out).mono ?_
          rintro e w2 ⟨rfl, h2⟩
          have f2 := Lib.hid (F1.out.trans h2)
          clear h2
          go_wp2
          go_roundg (l.length - (j + 1))
          case measure => omega
          case rel => exact ⟨i, j + 1, d, rfl, rfl, by go_num, HK.out.skip HS.out HQ.out, own_fr HO.out f2.out (by simp), HF.out.trans f2.out.up⟩
        · have hq' : p s = false := by simpa using hq
          rw [hq'] at L
          have HQ := Lib.hid hq'
          clear hq hq'
          obtain ⟨s', hs'⟩ : ∃ s', d[i]? = some s' := ⟨_, List.getElem?_eq_getElem (by omega)⟩
          have HS' := Lib.hid hs'
          clear hs'
          go_wp2_with fail
          refine (L.out _ F1.out).mono ?_
          rintro e w2 ⟨rfl, h2⟩
          have f2 := Lib.hid (F1.out.trans h2)
          have HO2 := Lib.hid (own_fr HO.out f2.out (by simp))
          have V2 := V1.out.fr h2 (by simp)
          have v1 : w2.cell? ⟨wr.heap.size, 0, none⟩ = some (.int .i64 s.1) := V2.cell 0
          have v2 : w2.cell? ⟨wr.heap.size, 1, none⟩ = some (.string s.2) := V2.cell 1
          have y1 : w2.cell? ⟨gb, i * 2, none⟩ = some (.int .i64 s'.1) := (HO2.out.cellAt (i * 2) (by omega)).trans (by rw [Nat.mul_comm]; exact (scoresV_get d i s' HS'.out).1)
          have y2 : w2.cell? ⟨gb, i * 2 + 1, none⟩ = some (.string s'.2) := (HO2.out.cellAt (i * 2 + 1) (by omega)).trans (by rw [Nat.mul_comm]; exact (scoresV_get d i s' HS'.out).2)
          have z1 : w2.frozen? ⟨gb, i * 2, none⟩ = false := HO2.out.frozenAt _
          have z2 : w2.frozen? ⟨gb, i * 2 + 1, none⟩ = false := HO2.out.frozenAt _
          clear V2
          clear h2
          go_wp2
          go_roundg (l.length - (j + 1))
          case measure => omega
          case rel =>
            have o1 := HO2.out.stored (i * 2) (.int .i64 s.1)
            have o2 := o1.1.stored (i * 2 + 1) (.string s.2)
            exact ⟨i + 1, j + 1, d.set i s, rfl, by go_num, by go_num, HK.out.keep HS.out HQ.out, by rw [scoresV_set]; exact o2.1, ((HF.out.trans f2.out.up).setCell (p := ⟨gb, i * 2, none⟩) (.inl (by simp)) _).setCell (p := ⟨gb, i * 2 + 1, none⟩) (.inl (by simp)) _⟩
      · obtain rfl : j = l.length := by omega
        have hdone := hK.done
        obtain ⟨cur, w0, l0, t0, hb0, _, _, hxl⟩ := own_whole hO
        obtain ⟨zs, hzs⟩ : ∃ zs, zs = (Builtin.zeroCells (Value.cells (.agg #[.int .i64 0, .string ⟨#[]⟩])) (l.length - i)).toList := ⟨_, rfl⟩
        have hzl : zs.length = (l.length - i) * 2 := by rw [hzs]; simp [Builtin.zeroCells, Value.cells]
        have hcl : ∀ ty, (Builtin.clear_ #[24] ty #[.slice (some ⟨gb, i * 2, none⟩) (l.length - i) (c - i)]).run Tryz.prog wr = .ok (.tuple #[]) (wr.setCells gb (i * 2) zs) := fun ty => by
          have := run_clear_k (P := Tryz.prog) wr 24 60 ty (.agg #[.int .i64 0, .string ⟨#[]⟩]) Tryz.underlying24 zeroFC (by intro u hu; simp [Value.cells] at hu; rcases hu with rfl | rfl <;> rfl) gb (i * 2) (l.length - i) (c - i) (by omega) (fun t ht => by
            exact whole_cells w0 (o := i * 2) (m := (l.length - i) * 2) (by omega) t (by simpa [Value.cells] using ht))
          rw [← hzs] at this
          exact this
        have W1 := setCells_whole zs (i * 2) wr cur w0 (by omega)
        have O1 := own_of_whole (cap := c) (k := 2) (n := i) (base := base) W1 (by simp only [List.length_append, List.length_take, List.length_drop, l0, hzl]; omega) hb0 (by omega) (by unfold maxLen; omega)
        rw [List.append_assoc, List.take_append_of_le_length (by rw [List.length_take]; omega), List.take_take, Nat.min_eq_left (by omega)] at O1
        have e5 : cur.take (i * 2) = scoresV (l.filter fun x => !p x) := by
          rw [← hdone, ← scoresV_take, ← t0, List.take_take, Nat.min_eq_left (by omega)]
        have e6 : i = (l.filter fun x => !p x).length := by rw [← hdone, List.length_take]; omega
        rw [e5] at O1
        have HO1 := Lib.hid O1
        have HE := Lib.hid e6
        have G1 := Lib.hid (setCells_grown (g := gb) zs (i * 2) wr)
        have hic : i < c := by omega
        clear hK hO hF w0 l0 t0 hb0 hxl hzs hzl W1 O1 e5 e6 hdone hdl HK HO
        go_wp2
        go_ret
        have e6 := HE.out
        refine ⟨_, rfl, ?_, ?_, rfl⟩
        · rw [← e6]
          exact HO1.out
        · exact HF.out.grown G1.out (fun k hk => by cases hk; exact .inl (by simp))
end Go.Proofs.YtkgbgmfidkimfaaGreat

namespace Go.Proofs.YtkgbgmfidkimfaaGreat
open Go.RowKit

def DelPostC (m : Nat) (ys : List Value) (base : Nat) (v : Value) (w : World) (e : Ending) (w' : World) : Prop :=
  ∃ v', e = .returned v' ∧ w'.ownsRow base 60 2 v' m ys ∧ w.grownBy w' v.ownBlock ∧ v'.ownBlock = v.ownBlock

theorem zeroC : ∀ w, (zeroValue 60).run Tryz.prog w = .ok (.agg #[.int .i64 0, .string ⟨#[]⟩]) w := fun w => by kernel_rfl

set_option maxHeartbeats 2000000 in
set_option maxRecDepth 1000000 in
theorem delC_row (n i j : Nat) (xs : List Value) (base : Nat) (v : Value) (w : World) (hn : n ≤ 281474976710656) (hij : i < j) (hj : j ≤ n) (h : w.ownsRow base 60 2 v n xs) (h1 : ∀ u ∈ xs, u.oneCell' = true) :
    Calls Tryz.prog 74 #[v, .int .i64 i, .int .i64 j] w (DelPostC (i + (n - j)) (xs.take (i * 2) ++ xs.drop (j * 2)) base v w) := by
  obtain ⟨i0, hi, hz0, hz1, hz2⟩ := info_parts scoreInfo
  obtain ⟨A, c, rfl, hA, hc, hm⟩ := own_slice h
  rcases hA with rfl | ⟨g, rfl⟩
  · exfalso
    rcases h.2 with ⟨_, h0⟩ | ⟨g', cap', cur, h', _⟩
    · omega
    · cases h'
  obtain ⟨cur0, w0, l0, t0, hb0, _, _, hxl⟩ := own_whole h
  have hdl : (xs.drop (j * 2)).length = (n - j) * 2 := by rw [List.length_drop, hxl]; omega
  obtain ⟨zs, hzs⟩ : ∃ zs, zs = (Builtin.zeroCells (Value.cells (.agg #[.int .i64 0, .string ⟨#[]⟩])) (n - (i + (n - j)))).toList := ⟨_, rfl⟩
  have hzl : zs.length = (j - i) * 2 := by rw [hzs]; simp [Builtin.zeroCells, Value.cells]; omega
  obtain ⟨cur1, w1, l1, o2⟩ := del_own (w := w.drew) h hij hj hzl
  obtain ⟨A, hA, hsrc⟩ : ∃ A : Addr, (if c = j then (some ⟨g, 0, none⟩ : Option Addr) else some ⟨g, j * 2, none⟩) = some A ∧ Hid (∀ t u, (xs.drop (j * 2))[t]? = some u → w.drew.cell? (A.add t) = some u) := by
    by_cases hcj : c = j
    · refine ⟨⟨g, 0, none⟩, by simp [hcj], fun t u hu => ?_⟩
      have h0 : (xs.drop (j * 2)).length = 0 := by rw [hdl]; omega
      rw [List.length_eq_zero_iff.1 h0] at hu
      simp at hu
    · refine ⟨⟨g, j * 2, none⟩, by simp [hcj], fun t u hu => ?_⟩
      rw [List.getElem?_drop] at hu
      have hlt := (List.getElem?_eq_some_iff.1 hu).1
      have := (h.cellAt (j * 2 + t) (by omega)).trans hu
      unfold Addr.add
      split
      · have e : t = 0 := by assumption
        subst e
        exact this
      · exact this
  have s1 := Lib.hid hdl
  have s2 := Lib.hid (show ∀ u ∈ xs.drop (j * 2), u.oneCell' = true from fun u hu => h1 u (List.mem_of_mem_drop hu))
  have hcn : (i + (n - j)) * 2 ≤ c * 2 := Nat.mul_le_mul_right _ (by omega)
  have s3 := Lib.hid (show ∀ t, t < (xs.drop (j * 2)).length → (w.drew.cell? ⟨g, 0 + i * 2 + t, none⟩).isSome = true ∧ w.drew.frozen? ⟨g, 0 + i * 2 + t, none⟩ = false from fun t ht => by
    rw [Nat.zero_add]
    exact whole_cells w0 (o := i * 2) (m := (n - j) * 2) (by rw [l0]; omega) t (by omega))
  obtain ⟨W1, hW1⟩ : ∃ W1, W1 = w.drew.setCells g (0 + i * 2) (xs.drop (j * 2)) := ⟨_, rfl⟩
  have hcl : ∀ ty, (Builtin.clear_ #[24] ty #[.slice (some ⟨g, (i + (n - j)) * 2, none⟩) (n - (i + (n - j))) (c - (i + (n - j)))]).run Tryz.prog W1 = .ok (.tuple #[]) (W1.setCells g ((i + (n - j)) * 2) zs) := fun ty => by
    have := run_clear_k (P := Tryz.prog) W1 24 60 ty (.agg #[.int .i64 0, .string ⟨#[]⟩]) Tryz.underlying24 zeroC (by intro u hu; simp [Value.cells] at hu; rcases hu with rfl | rfl <;> rfl) g ((i + (n - j)) * 2) (n - (i + (n - j))) (c - (i + (n - j))) (by omega) (fun t ht => by
      rw [hW1, Nat.zero_add]
      exact whole_cells (w := (w.drew.setCells g (i * 2) (xs.drop (j * 2)))) w1 (o := (i + (n - j)) * 2) (m := (n - (i + (n - j))) * 2) (by rw [l1]; omega) t (by simpa [Value.cells] using ht))
    rw [← hzs, show (i + (n - j)) * 2 = (i + (n - j)) * 2 by omega] at this
    exact this
  rw [show (i + (n - j)) * 2 = (i + (n - j)) * 2 by omega] at o2
  have O2 := Lib.hid o2
  have HW := Lib.hid hW1
  have hic : i ≤ c := by omega
  have hjc : j ≤ c := by omega
  have hlt : i < j := hij
  unfold maxLen at hm
  clear h h1 cur0 w0 l0 t0 hb0 hxl hdl hzs hzl w1 l1 o2 cur1 hW1 hcn
  go_enter Tryz.func74, Tryz.ntmps74
  go_wp2_with fail
  go_region_law (refine step_append_room rfl (.tmp 22) (.tmp 25) 24 rfl 60 i0 2 Tryz.underlying24 hi hz1 g 0 i c (by simp [Act.eval, Act.put]) A (n - j) (c - j) (xs.drop (j * 2)) (by simp [Act.eval, Act.put]) s1.out hsrc.out s2.out (by omega) s3.out ?_; rw [← HW.out])
  go_wp2
  go_ret
  have e1 := HW.out
  rw [Nat.zero_add] at e1
  subst e1
  exact ⟨_, rfl, O2.out, grown_predrew ((setCells_grown _ _ _).trans (setCells_grown _ _ _)), rfl⟩
end Go.Proofs.YtkgbgmfidkimfaaGreat
