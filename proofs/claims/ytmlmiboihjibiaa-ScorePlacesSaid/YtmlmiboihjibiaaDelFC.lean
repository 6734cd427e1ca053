/- slices.DeleteFunc at springhouse/api.Score, whatever the function. (Printed by elem.py.) -/
import Derived.Test.YtmlmiboihjibiaaIdxC
set_option linter.unusedVariables false
set_option linter.unusedSimpArgs false
namespace Go.Proofs.Ytmlmiboihjibiaa
open Go.RowKit

def DelFPostC (ys : List (Int × ByteArray)) (base : Nat) (v : Value) (w : World) (e : Ending) (w' : World) : Prop :=
  ∃ v', e = .returned v' ∧ w'.ownsRow base 36 2 v' ys.length (scoresV ys) ∧ Fr (ownL v) w w' ∧ v'.ownBlock = v.ownBlock

theorem zeroFC : ∀ w, (zeroValue 36).run Try.prog w = .ok (.agg #[.int .i64 0, .string ⟨#[]⟩]) w := fun w => by kernel_rfl

set_option maxHeartbeats 2000000 in
set_option maxRecDepth 1000000 in
theorem delFC_any (g : Nat) (lb : Array Value) (eg : ∀ args w, (callFunc g args).run Try.prog w = .ok (.enter g args) w) (p : (Int × ByteArray) → Bool) (D : Nat) (l : List (Int × ByteArray)) (base : Nat) (v : Value) (w : World) (hp : PredC g lb p D w) (hD : D ≤ base) (hl : l.length ≤ 1000000)
    (h : w.ownsRow base 36 2 v l.length (scoresV l)) :
    Calls Try.prog 66 #[v, .func (Fn.func g) #[] lb] w (DelFPostC (l.filter fun x => !p x) base v w) := by
  obtain ⟨A, c, rfl, hA, hc, hm⟩ := own_slice h
  have I := Lib.hid (idxC_any g lb eg p D l A c w.heap.size w hp (by omega) (Nat.le_refl _) (own_sl h))
  rcases idxOf_cases p l with ⟨e1, e2⟩ | ⟨k0, s0, e1, hk0, hK⟩
  · rw [e1] at I
    have H := Lib.hid h
    have E2 := Lib.hid e2
    clear h e1 e2 hp
    go_enter Try.func66, Try.ntmps66
    go_wp2_with fail
    refine I.out.mono ?_
    rintro e w1 ⟨rfl, h1⟩
    go_wp2
    go_ret
    rw [E2.out]
    exact ⟨_, rfl, own_fr H.out h1 (by simp), h1.up, rfl⟩
  · rw [e1] at I
    obtain ⟨gb, rfl⟩ : ∃ gb, A = some ⟨gb, 0, none⟩ := by
      rcases hA with rfl | ⟨gb, rfl⟩
      · exfalso
        rcases h.2 with ⟨_, h0⟩ | ⟨g', cap', cur, h', _⟩
        · omega
        · cases h'
      · exact ⟨gb, rfl⟩
    have hgb := (h.lt gb rfl)
    have H := Lib.hid h
    have HP := Lib.hid hp
    have HK := Lib.hid hK
    have hne1 : ((k0 : Int) == -1) = false := beq_eq_false_iff_ne.2 (by omega)
    unfold maxLen at hm
    clear h hp hK e1 hA
    go_enter Try.func66, Try.ntmps66
    go_wp2_with fail
    refine I.out.mono ?_
    rintro e w1 ⟨rfl, h1⟩
    have HF1 := Lib.hid h1
    clear h1
    go_wp2
    go_loopg [5, 6] (l.length - (k0 + 1)) (fun gg s5 s6 wr => ∃ (i j : Nat) (d : List (Int × ByteArray)), gg = l.length - j ∧ s5 = .int .i64 i ∧ s6 = .int .i64 j ∧ Kept p l d i j ∧ wr.ownsRow base 36 2 (.slice (some ⟨gb, 0, none⟩) l.length c) l.length (scoresV d) ∧ Fr [gb] w wr)
    case atStart => exact ⟨k0, k0 + 1, l, rfl, rfl, by go_num, HK.out, own_fr H.out HF1.out (by simp), HF1.out.up⟩
    case round =>
      obtain ⟨i, j, d, rfl, rfl, rfl, hK, hO, hF⟩ := hrel
      have HK := Lib.hid hK
      have HO := Lib.hid hO
      have HF := Lib.hid hF
      have hij := hK.lt
      have hjl := hK.le
      have hdl := hK.len
      have hsz := hF.size
      clear I HF1
      by_cases hlt : j < l.length
      · obtain ⟨s, hs⟩ : ∃ s, l[j]? = some s := ⟨_, List.getElem?_eq_getElem hlt⟩
        have hd : d[j]? = some s := (hK.behind j (Nat.le_refl _)).trans hs
        have L := Lib.hid (fun W (hW : Fr [] wr W) => HP.out W s ((hF.toB D).more (T := []) (by intro k hk; simp at hk; subst hk; exact .inr (by omega)) |>.trans (hW.toB D)))
        have HS := Lib.hid hs
        have x1 : wr.cell? ⟨gb, j * 2, none⟩ = some (.int .i64 s.1) := (hO.cellAt (j * 2) (by omega)).trans (by rw [Nat.mul_comm]; exact (scoresV_get d j s hd).1)
        have x2 : wr.cell? ⟨gb, j * 2 + 1, none⟩ = some (.string s.2) := (hO.cellAt (j * 2 + 1) (by omega)).trans (by rw [Nat.mul_comm]; exact (scoresV_get d j s hd).2)
        have F1 := Lib.hid ((Fr.refl [] wr).alloc (.cells #[.int .i64 s.1, .string s.2] 36))
        have V1 := Lib.hid (Whole.new wr 36 [.int .i64 s.1, .string s.2])
        clear hK hO hF hs hd
        by_cases hq : p s = true
        · rw [hq] at L
          have HQ := Lib.hid hq
          clear hq
          go_wp2_with fail
          refine (L.out _ F1.out).mono ?_
          rintro e w2 ⟨rfl, h2⟩
          have f2 := Lib.hid (F1.out.trans h2)
          clear h2
          go_wp2
          go_roundg (l.length - (j + 1))
          case measure => omega
          case rel => exact ⟨i, j + 1, d, rfl, rfl, by go_num, HK.out.skip HS.out HQ.out, own_fr HO.out f2.out (by simp), HF.out.trans f2.out.up⟩
        · have hq' : p s = false := by simpa using hq
          rw [hq'] at L
          have HQ := Lib.hid hq'
          clear hq hq'
          obtain ⟨s', hs'⟩ : ∃ s', d[i]? = some s' := ⟨_, List.getElem?_eq_getElem (by omega)⟩
          have HS' := Lib.hid hs'
          clear hs'
          go_wp2_with fail
          refine (L.out _ F1.out).mono ?_
          rintro e w2 ⟨rfl, h2⟩
          have f2 := Lib.hid (F1.out.trans h2)
          have HO2 := Lib.hid (own_fr HO.out f2.out (by simp))
          have V2 := V1.out.fr h2 (by simp)
          have v1 : w2.cell? ⟨wr.heap.size, 0, none⟩ = some (.int .i64 s.1) := V2.cell 0
          have v2 : w2.cell? ⟨wr.heap.size, 1, none⟩ = some (.string s.2) := V2.cell 1
          have y1 : w2.cell? ⟨gb, i * 2, none⟩ = some (.int .i64 s'.1) := (HO2.out.cellAt (i * 2) (by omega)).trans (by rw [Nat.mul_comm]; exact (scoresV_get d i s' HS'.out).1)
          have y2 : w2.cell? ⟨gb, i * 2 + 1, none⟩ = some (.string s'.2) := (HO2.out.cellAt (i * 2 + 1) (by omega)).trans (by rw [Nat.mul_comm]; exact (scoresV_get d i s' HS'.out).2)
          have z1 : w2.frozen? ⟨gb, i * 2, none⟩ = false := HO2.out.frozenAt _
          have z2 : w2.frozen? ⟨gb, i * 2 + 1, none⟩ = false := HO2.out.frozenAt _
          clear V2
          clear h2
          go_wp2
          go_roundg (l.length - (j + 1))
          case measure => omega
          case rel =>
            have o1 := HO2.out.stored (i * 2) (.int .i64 s.1)
            have o2 := o1.1.stored (i * 2 + 1) (.string s.2)
            exact ⟨i + 1, j + 1, d.set i s, rfl, by go_num, by go_num, HK.out.keep HS.out HQ.out, by rw [scoresV_set]; exact o2.1, ((HF.out.trans f2.out.up).setCell (p := ⟨gb, i * 2, none⟩) (.inl (by simp)) _).setCell (p := ⟨gb, i * 2 + 1, none⟩) (.inl (by simp)) _⟩
      · obtain rfl : j = l.length := by omega
        have hdone := hK.done
        obtain ⟨cur, w0, l0, t0, hb0, _, _, hxl⟩ := own_whole hO
        obtain ⟨zs, hzs⟩ : ∃ zs, zs = (Builtin.zeroCells (Value.cells (.agg #[.int .i64 0, .string ⟨#[]⟩])) (l.length - i)).toList := ⟨_, rfl⟩
        have hzl : zs.length = (l.length - i) * 2 := by rw [hzs]; simp [Builtin.zeroCells, Value.cells]
        have hcl : ∀ ty, (Builtin.clear_ #[24] ty #[.slice (some ⟨gb, i * 2, none⟩) (l.length - i) (c - i)]).run Try.prog wr = .ok (.tuple #[]) (wr.setCells gb (i * 2) zs) := fun ty => by
          have := run_clear_k (P := Try.prog) wr 24 36 ty (.agg #[.int .i64 0, .string ⟨#[]⟩]) Try.underlying24 zeroFC (by intro u hu; simp [Value.cells] at hu; rcases hu with rfl | rfl <;> rfl) gb (i * 2) (l.length - i) (c - i) (by omega) (fun t ht => by
            exact whole_cells w0 (o := i * 2) (m := (l.length - i) * 2) (by omega) t (by simpa [Value.cells] using ht))
          rw [← hzs] at this
          exact this
        have W1 := setCells_whole zs (i * 2) wr cur w0 (by omega)
        have O1 := own_of_whole (cap := c) (k := 2) (n := i) (base := base) W1 (by simp only [List.length_append, List.length_take, List.length_drop, l0, hzl]; omega) hb0 (by omega) (by unfold maxLen; omega)
        rw [List.append_assoc, List.take_append_of_le_length (by rw [List.length_take]; omega), List.take_take, Nat.min_eq_left (by omega)] at O1
        have e5 : cur.take (i * 2) = scoresV (l.filter fun x => !p x) := by
          rw [← hdone, ← scoresV_take, ← t0, List.take_take, Nat.min_eq_left (by omega)]
        have e6 : i = (l.filter fun x => !p x).length := by rw [← hdone, List.length_take]; omega
        rw [e5] at O1
        have HO1 := Lib.hid O1
        have HE := Lib.hid e6
        have G1 := Lib.hid (setCells_grown (g := gb) zs (i * 2) wr)
        have hic : i < c := by omega
        clear hK hO hF w0 l0 t0 hb0 hxl hzs hzl W1 O1 e5 e6 hdone hdl HK HO
        go_wp2
        go_ret
        have e6 := HE.out
        refine ⟨_, rfl, ?_, ?_, rfl⟩
        · rw [← e6]
          exact HO1.out
        · exact HF.out.grown G1.out (fun k hk => by cases hk; exact .inl (by simp))
end Go.Proofs.Ytmlmiboihjibiaa
