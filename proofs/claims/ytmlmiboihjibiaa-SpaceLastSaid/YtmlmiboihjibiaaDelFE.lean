/- slices.IndexFunc and DeleteFunc at a struct of 7 cells, whatever the function. (Printed by delfe.py.) -/
import Derived.Test.YtmlmiboihjibiaaEnt
import Derived.Test.YtmlmiboihjibiaaSlA
import Derived.Laws.OwnMore
import Derived.WalkSpells
set_option linter.unusedVariables false
set_option linter.unusedSimpArgs false
namespace Go.Proofs.Ytmlmiboihjibiaa
open Go.RowKit

theorem list7 {α : Type} : ∀ {c : List α}, c.length = 7 → ∃ a0 a1 a2 a3 a4 a5 a6, c = [a0, a1, a2, a3, a4, a5, a6]
  | [a0, a1, a2, a3, a4, a5, a6], _ => ⟨a0, a1, a2, a3, a4, a5, a6, rfl⟩
theorem flat_set7 (s0 s1 s2 s3 s4 s5 s6 : Value) : ∀ (d : List (List Value)) (i : Nat), (∀ c ∈ d, c.length = 7) → i < d.length → (d.set i [s0, s1, s2, s3, s4, s5, s6]).flatten = (((((((d.flatten.set (i * 7) s0).set (i * 7 + 1) s1).set (i * 7 + 2) s2).set (i * 7 + 3) s3).set (i * 7 + 4) s4).set (i * 7 + 5) s5).set (i * 7 + 6) s6)
  | [], i, _, h => absurd h (by simp)
  | c :: d, 0, hc, _ => by
    obtain ⟨a0, a1, a2, a3, a4, a5, a6, rfl⟩ := list7 (hc c (by simp))
    rfl
  | c :: d, i + 1, hc, h => by
    obtain ⟨a0, a1, a2, a3, a4, a5, a6, rfl⟩ := list7 (hc c (by simp))
    have e : ∀ k, (i + 1) * 7 + k = i * 7 + k + 7 := fun k => by omega
    have e0 : (i + 1) * 7 = i * 7 + 7 := by omega
    rw [List.set_cons_succ, List.flatten_cons, flat_set7 s0 s1 s2 s3 s4 s5 s6 d i (fun c h => hc c (by simp [h])) (by simpa using h), List.flatten_cons, e0]
    simp only [show ∀ k, i * 7 + 7 + k = i * 7 + k + 7 from fun k => by omega]
    rfl
/-- what a struct of these cells looks like. -/
def ShapeE (c : List Value) : Prop := ∃ sk sn st A1 n1 d1 A2 n2 d2 A3 n3 d3 su, c = [.string sk, .int .i64 sn, .string st, .slice A1 n1 d1, .slice A2 n2 d2, .slice A3 n3 d3, .int .i64 su]
theorem ShapeE.len {c : List Value} (h : ShapeE c) : c.length = 7 := by obtain ⟨_, _, _, _, _, _, _, _, _, _, _, _, _, rfl⟩ := h; rfl
/-- a function value that says p of a row's elements, whatever has been laid, and whatever the blocks of S hold. -/
def PredE (g : Nat) (lb : Array Value) (l : List (List Value)) (p : List Value → Bool) (S : List Nat) (w : World) : Prop :=
  ∀ W (x : List Value), x ∈ l → Fr S w W → Calls Try.prog g (#[.agg x.toArray] ++ lb) W fun e w' => e = .returned (.bool (p x)) ∧ Fr [] W w'

set_option maxHeartbeats 1000000 in
set_option maxRecDepth 100000 in
theorem idxE_any (g : Nat) (lb : Array Value) (eg : ∀ args w, (callFunc g args).run Try.prog w = .ok (.enter g args) w) (p : List Value → Bool) (S : List Nat) (l : List (List Value)) (A : Option Addr) (c B : Nat) (w : World) (hsh : ∀ c ∈ l, ShapeE c) (hp : PredE g lb l p S w) (hl : l.length ≤ 281474976710656) (hB : B ≤ w.heap.size)
    (hsl : Sl w B 7 (.slice A l.length c) l.length l.flatten) :
    Calls Try.prog 159 #[.slice A l.length c, .func (Fn.func g) #[] lb] w fun e w' => e = .returned (.int .i64 (idxOf p l)) ∧ Fr [] w w' := by
  have HS := Lib.hid hsl
  have HP := Lib.hid hp
  have HSH := Lib.hid hsh
  have H7 := Lib.hid (fun c hc => (hsh c hc).len)
  clear hsl hp hsh
  go_enter Try.func159, Try.ntmps159
  go_wp2
  go_loopg [5, 8] l.length (fun g u i wr => ∃ (k : Nat), g = l.length - k ∧ k ≤ l.length ∧ i = .int .i64 k ∧ (∀ j t, j < k → l[j]? = some t → p t = false) ∧ Fr [] w wr)
  case atStart => exact ⟨0, rfl, Nat.zero_le _, rfl, fun j t hj => absurd hj (Nat.not_lt_zero _), Fr.refl _ _⟩
  case round =>
    obtain ⟨k, rfl, hk, rfl, hno, hf⟩ := hrel
    by_cases hlt : k < l.length
    · obtain ⟨b, off, rfl, hb, hc, hm, hcell⟩ := HS.out.at_ (by omega)
      obtain ⟨s, hs⟩ : ∃ s, l[k]? = some s := ⟨_, List.getElem?_eq_getElem hlt⟩
      have hsm := List.mem_of_getElem? hs
      obtain ⟨sk, sn, st, A1, n1, d1, A2, n2, d2, A3, n3, d3, su, rfl⟩ := HSH.out s hsm
      have hc0 : wr.cell? ⟨b, off + k * 7, none⟩ = some (.string sk) := hf.cell (show w.cell? ⟨b, off + k * 7, none⟩ = some (.string sk) from by exact hcell (k * 7) _ (flatN 7 l k 0 _ H7.out hs (by decide))) (by simp)
      have hc1 : wr.cell? ⟨b, off + k * 7 + 1, none⟩ = some (.int .i64 sn) := hf.cell (show w.cell? ⟨b, off + k * 7 + 1, none⟩ = some (.int .i64 sn) from by rw [Nat.add_assoc]; exact hcell (k * 7 + 1) _ (flatN 7 l k 1 _ H7.out hs (by decide))) (by simp)
      have hc2 : wr.cell? ⟨b, off + k * 7 + 2, none⟩ = some (.string st) := hf.cell (show w.cell? ⟨b, off + k * 7 + 2, none⟩ = some (.string st) from by rw [Nat.add_assoc]; exact hcell (k * 7 + 2) _ (flatN 7 l k 2 _ H7.out hs (by decide))) (by simp)
      have hc3 : wr.cell? ⟨b, off + k * 7 + 3, none⟩ = some (.slice A1 n1 d1) := hf.cell (show w.cell? ⟨b, off + k * 7 + 3, none⟩ = some (.slice A1 n1 d1) from by rw [Nat.add_assoc]; exact hcell (k * 7 + 3) _ (flatN 7 l k 3 _ H7.out hs (by decide))) (by simp)
      have hc4 : wr.cell? ⟨b, off + k * 7 + 4, none⟩ = some (.slice A2 n2 d2) := hf.cell (show w.cell? ⟨b, off + k * 7 + 4, none⟩ = some (.slice A2 n2 d2) from by rw [Nat.add_assoc]; exact hcell (k * 7 + 4) _ (flatN 7 l k 4 _ H7.out hs (by decide))) (by simp)
      have hc5 : wr.cell? ⟨b, off + k * 7 + 5, none⟩ = some (.slice A3 n3 d3) := hf.cell (show w.cell? ⟨b, off + k * 7 + 5, none⟩ = some (.slice A3 n3 d3) from by rw [Nat.add_assoc]; exact hcell (k * 7 + 5) _ (flatN 7 l k 5 _ H7.out hs (by decide))) (by simp)
      have hc6 : wr.cell? ⟨b, off + k * 7 + 6, none⟩ = some (.int .i64 su) := hf.cell (show w.cell? ⟨b, off + k * 7 + 6, none⟩ = some (.int .i64 su) from by rw [Nat.add_assoc]; exact hcell (k * 7 + 6) _ (flatN 7 l k 6 _ H7.out hs (by decide))) (by simp)
      have L := Lib.hid (fun W (hW : Fr [] wr W) => HP.out W [.string sk, .int .i64 sn, .string st, .slice A1 n1 d1, .slice A2 n2 d2, .slice A3 n3 d3, .int .i64 su] hsm (hf.trans hW).up)
      have HF := Lib.hid hf
      have F1 := Lib.hid (Fr.refl [] wr)
      by_cases hq : p [.string sk, .int .i64 sn, .string st, .slice A1 n1 d1, .slice A2 n2 d2, .slice A3 n3 d3, .int .i64 su] = true
      · have E := Lib.hid (idxOf_found hno hs hq)
        rw [hq] at L
        clear hno hcell hs hq hf hsm
        go_wp2_with fail
        refine (L.out _ F1.out).mono ?_
        rintro e w1 ⟨rfl, h1⟩
        go_wp2
        go_ret
        rw [E.out]
        exact ⟨rfl, HF.out.trans h1⟩
      · have hq' : p [.string sk, .int .i64 sn, .string st, .slice A1 n1 d1, .slice A2 n2 d2, .slice A3 n3 d3, .int .i64 su] = false := by simpa using hq
        rw [hq'] at L
        have N := Lib.hid (fun j t (hj : j < k + 1) (ht : l[j]? = some t) => (show p t = false by
          rcases Nat.lt_or_ge j k with h | h
          · exact hno j t h ht
          · have e : j = k := by omega
            subst e
            rw [hs] at ht
            cases ht
            exact hq'))
        clear hno hcell hs hq hq' hf hsm
        go_wp2_with fail
        refine (L.out _ F1.out).mono ?_
        rintro e w1 ⟨rfl, h1⟩
        go_wp2
        go_roundg (l.length - (k + 1))
        case measure => omega
        case rel => exact ⟨k + 1, rfl, by omega, rfl, N.out, HF.out.trans h1⟩
    · have E := Lib.hid (idxOf_none (q := p) (l := l) (fun j t ht => hno j t (by have := (List.getElem?_eq_some_iff.1 ht).1; omega) ht))
      clear hno
      go_wp2
      go_ret
      rw [E.out]
      exact ⟨rfl, hf⟩

def DelFPostE (ys : List (List Value)) (base : Nat) (v : Value) (w : World) (e : Ending) (w' : World) : Prop :=
  ∃ v', e = .returned v' ∧ w'.ownsRow base 58 7 v' ys.length ys.flatten ∧ Fr (ownL v) w w' ∧ v'.ownBlock = v.ownBlock

theorem zeroFE : ∀ w, (zeroValue 58).run Try.prog w = .ok (.agg #[.string ⟨#[]⟩, .int .i64 0, .string ⟨#[]⟩, .slice none 0 0, .slice none 0 0, .slice none 0 0, .int .i64 0]) w := fun w => by kernel_rfl

/-- the elements of a row that is being turned are those of the old one. -/
theorem kept_memE {p : List Value → Bool} {l d : List (List Value)} {i j : Nat} (h : d.length = l.length) (hd : ∀ c ∈ d, c ∈ l) (s : List Value) (hs : s ∈ l) : ∀ c ∈ d.set i s, c ∈ l := fun c hc => by
  rcases List.mem_or_eq_of_mem_set hc with h1 | rfl
  · exact hd c h1
  · exact hs

set_option maxHeartbeats 4000000 in
set_option maxRecDepth 1000000 in
theorem delFE_any (g : Nat) (lb : Array Value) (eg : ∀ args w, (callFunc g args).run Try.prog w = .ok (.enter g args) w) (p : List Value → Bool) (l : List (List Value)) (base : Nat) (v : Value) (w : World) (hsh : ∀ c ∈ l, ShapeE c) (hp : PredE g lb l p (ownL v) w) (hl : l.length ≤ 1000000)
    (h : w.ownsRow base 58 7 v l.length l.flatten) :
    Calls Try.prog 137 #[v, .func (Fn.func g) #[] lb] w (DelFPostE (l.filter fun x => !p x) base v w) := by
  obtain ⟨A, c, rfl, hA, hc, hm⟩ := own_slice h
  have I := Lib.hid (idxE_any g lb eg p _ l A c w.heap.size w hsh hp (by omega) (Nat.le_refl _) (own_sl h))
  rcases idxOf_cases p l with ⟨e1, e2⟩ | ⟨k0, s00, e1, hk0, hK⟩
  · rw [e1] at I
    have H := Lib.hid h
    have E2 := Lib.hid e2
    clear h e1 e2 hp hsh
    go_enter Try.func137, Try.ntmps137
    go_wp2_with fail
    refine I.out.mono ?_
    rintro e w1 ⟨rfl, h1⟩
    go_wp2
    go_ret
    rw [E2.out]
    exact ⟨_, rfl, own_fr H.out h1 (by simp), h1.up, rfl⟩
  · rw [e1] at I
    obtain ⟨gb, rfl⟩ : ∃ gb, A = some ⟨gb, 0, none⟩ := by
      rcases hA with rfl | ⟨gb, rfl⟩
      · exfalso
        rcases h.2 with ⟨_, h0⟩ | ⟨g', cap', cur, h', _⟩
        · omega
        · cases h'
      · exact ⟨gb, rfl⟩
    have hgb := (h.lt gb rfl)
    have H := Lib.hid h
    have HP := Lib.hid hp
    have HK := Lib.hid hK
    have HSH := Lib.hid hsh
    have H7 := Lib.hid (fun c hc => (hsh c hc).len)
    have hne1 : ((k0 : Int) == -1) = false := beq_eq_false_iff_ne.2 (by omega)
    unfold maxLen at hm
    clear h hp hK e1 hA hsh
    go_enter Try.func137, Try.ntmps137
    go_wp2_with fail
    refine I.out.mono ?_
    rintro e w1 ⟨rfl, h1⟩
    have HF1 := Lib.hid h1
    clear h1
    go_wp2
    go_loopg [5, 6] (l.length - (k0 + 1)) (fun gg s5 s6 wr => ∃ (i j : Nat) (d : List (List Value)), gg = l.length - j ∧ s5 = .int .i64 i ∧ s6 = .int .i64 j ∧ Kept p l d i j ∧ (∀ c ∈ d, c ∈ l) ∧ wr.ownsRow base 58 7 (.slice (some ⟨gb, 0, none⟩) l.length c) l.length d.flatten ∧ Fr [gb] w wr)
    case atStart => exact ⟨k0, k0 + 1, l, rfl, rfl, by go_num, HK.out, fun c h => h, own_fr H.out HF1.out (by simp), HF1.out.up⟩
    case round =>
      obtain ⟨i, j, d, rfl, rfl, rfl, hK, hdm, hO, hF⟩ := hrel
      have HK := Lib.hid hK
      have HO := Lib.hid hO
      have HF := Lib.hid hF
      have HDM := Lib.hid hdm
      have HD7 := Lib.hid (fun c hc => H7.out c (hdm c hc))
      have hij := hK.lt
      have hjl := hK.le
      have hdl := hK.len
      have hsz := hF.size
      clear I HF1 hdm
      by_cases hlt : j < l.length
      · obtain ⟨s, hs⟩ : ∃ s, l[j]? = some s := ⟨_, List.getElem?_eq_getElem hlt⟩
        have hd : d[j]? = some s := (hK.behind j (Nat.le_refl _)).trans hs
        have hsm := List.mem_of_getElem? hs
        obtain ⟨sk, sn, st, A1, n1, d1, A2, n2, d2, A3, n3, d3, su, rfl⟩ := HSH.out s hsm
        have L := Lib.hid (fun W (hW : Fr [] wr W) => HP.out W [.string sk, .int .i64 sn, .string st, .slice A1 n1 d1, .slice A2 n2 d2, .slice A3 n3 d3, .int .i64 su] hsm (hF.trans hW.up))
        have HS := Lib.hid hs
        have HSM := Lib.hid hsm
        have x0 : wr.cell? ⟨gb, j * 7, none⟩ = some (.string sk) := (hO.cellAt (j * 7) (by omega)).trans (flatN 7 d j 0 _ HD7.out hd (by decide))
        have x1 : wr.cell? ⟨gb, j * 7 + 1, none⟩ = some (.int .i64 sn) := (hO.cellAt (j * 7 + 1) (by omega)).trans (flatN 7 d j 1 _ HD7.out hd (by decide))
        have x2 : wr.cell? ⟨gb, j * 7 + 2, none⟩ = some (.string st) := (hO.cellAt (j * 7 + 2) (by omega)).trans (flatN 7 d j 2 _ HD7.out hd (by decide))
        have x3 : wr.cell? ⟨gb, j * 7 + 3, none⟩ = some (.slice A1 n1 d1) := (hO.cellAt (j * 7 + 3) (by omega)).trans (flatN 7 d j 3 _ HD7.out hd (by decide))
        have x4 : wr.cell? ⟨gb, j * 7 + 4, none⟩ = some (.slice A2 n2 d2) := (hO.cellAt (j * 7 + 4) (by omega)).trans (flatN 7 d j 4 _ HD7.out hd (by decide))
        have x5 : wr.cell? ⟨gb, j * 7 + 5, none⟩ = some (.slice A3 n3 d3) := (hO.cellAt (j * 7 + 5) (by omega)).trans (flatN 7 d j 5 _ HD7.out hd (by decide))
        have x6 : wr.cell? ⟨gb, j * 7 + 6, none⟩ = some (.int .i64 su) := (hO.cellAt (j * 7 + 6) (by omega)).trans (flatN 7 d j 6 _ HD7.out hd (by decide))
        have F1 := Lib.hid ((Fr.refl [] wr).alloc (.cells #[.string sk, .int .i64 sn, .string st, .slice A1 n1 d1, .slice A2 n2 d2, .slice A3 n3 d3, .int .i64 su] 58))
        have V1 := Lib.hid (Whole.new wr 58 [.string sk, .int .i64 sn, .string st, .slice A1 n1 d1, .slice A2 n2 d2, .slice A3 n3 d3, .int .i64 su])
        clear hK hO hF hs hd hsm
        by_cases hq : p [.string sk, .int .i64 sn, .string st, .slice A1 n1 d1, .slice A2 n2 d2, .slice A3 n3 d3, .int .i64 su] = true
        · rw [hq] at L
          have HQ := Lib.hid hq
          clear hq
          go_wp2_with fail
          refine (L.out _ F1.out).mono ?_
          rintro e w2 ⟨rfl, h2⟩
          have f2 := Lib.hid (F1.out.trans h2)
          clear h2
          go_wp2
          go_roundg (l.length - (j + 1))
          case measure => omega
          case rel => exact ⟨i, j + 1, d, rfl, rfl, by go_num, HK.out.skip HS.out HQ.out, HDM.out, own_fr HO.out f2.out (by simp), HF.out.trans f2.out.up⟩
        · have hq' : p [.string sk, .int .i64 sn, .string st, .slice A1 n1 d1, .slice A2 n2 d2, .slice A3 n3 d3, .int .i64 su] = false := by simpa using hq
          rw [hq'] at L
          have HQ := Lib.hid hq'
          clear hq hq'
          obtain ⟨s', hs'⟩ : ∃ s', d[i]? = some s' := ⟨_, List.getElem?_eq_getElem (by omega)⟩
          obtain ⟨b0, b1, b2, b3, b4, b5, b6, rfl⟩ := list7 (HD7.out s' (List.mem_of_getElem? hs'))
          have HS' := Lib.hid hs'
          clear hs'
          go_wp2_with fail
          refine (L.out _ F1.out).mono ?_
          rintro e w2 ⟨rfl, h2⟩
          have f2 := Lib.hid (F1.out.trans h2)
          have HO2 := Lib.hid (own_fr HO.out f2.out (by simp))
          have V2 := V1.out.fr h2 (by simp)
          have v0 : w2.cell? ⟨wr.heap.size, 0, none⟩ = some (.string sk) := V2.cell 0
          have y0 : w2.cell? ⟨gb, i * 7, none⟩ = some b0 := (HO2.out.cellAt (i * 7) (by omega)).trans (flatN 7 d i 0 _ HD7.out HS'.out (by decide))
          have z0 : w2.frozen? ⟨gb, i * 7, none⟩ = false := HO2.out.frozenAt _
          have v1 : w2.cell? ⟨wr.heap.size, 1, none⟩ = some (.int .i64 sn) := V2.cell 1
          have y1 : w2.cell? ⟨gb, i * 7 + 1, none⟩ = some b1 := (HO2.out.cellAt (i * 7 + 1) (by omega)).trans (flatN 7 d i 1 _ HD7.out HS'.out (by decide))
          have z1 : w2.frozen? ⟨gb, i * 7 + 1, none⟩ = false := HO2.out.frozenAt _
          have v2 : w2.cell? ⟨wr.heap.size, 2, none⟩ = some (.string st) := V2.cell 2
          have y2 : w2.cell? ⟨gb, i * 7 + 2, none⟩ = some b2 := (HO2.out.cellAt (i * 7 + 2) (by omega)).trans (flatN 7 d i 2 _ HD7.out HS'.out (by decide))
          have z2 : w2.frozen? ⟨gb, i * 7 + 2, none⟩ = false := HO2.out.frozenAt _
          have v3 : w2.cell? ⟨wr.heap.size, 3, none⟩ = some (.slice A1 n1 d1) := V2.cell 3
          have y3 : w2.cell? ⟨gb, i * 7 + 3, none⟩ = some b3 := (HO2.out.cellAt (i * 7 + 3) (by omega)).trans (flatN 7 d i 3 _ HD7.out HS'.out (by decide))
          have z3 : w2.frozen? ⟨gb, i * 7 + 3, none⟩ = false := HO2.out.frozenAt _
          have v4 : w2.cell? ⟨wr.heap.size, 4, none⟩ = some (.slice A2 n2 d2) := V2.cell 4
          have y4 : w2.cell? ⟨gb, i * 7 + 4, none⟩ = some b4 := (HO2.out.cellAt (i * 7 + 4) (by omega)).trans (flatN 7 d i 4 _ HD7.out HS'.out (by decide))
          have z4 : w2.frozen? ⟨gb, i * 7 + 4, none⟩ = false := HO2.out.frozenAt _
          have v5 : w2.cell? ⟨wr.heap.size, 5, none⟩ = some (.slice A3 n3 d3) := V2.cell 5
          have y5 : w2.cell? ⟨gb, i * 7 + 5, none⟩ = some b5 := (HO2.out.cellAt (i * 7 + 5) (by omega)).trans (flatN 7 d i 5 _ HD7.out HS'.out (by decide))
          have z5 : w2.frozen? ⟨gb, i * 7 + 5, none⟩ = false := HO2.out.frozenAt _
          have v6 : w2.cell? ⟨wr.heap.size, 6, none⟩ = some (.int .i64 su) := V2.cell 6
          have y6 : w2.cell? ⟨gb, i * 7 + 6, none⟩ = some b6 := (HO2.out.cellAt (i * 7 + 6) (by omega)).trans (flatN 7 d i 6 _ HD7.out HS'.out (by decide))
          have z6 : w2.frozen? ⟨gb, i * 7 + 6, none⟩ = false := HO2.out.frozenAt _
          clear V2 h2
          go_wp2
          go_roundg (l.length - (j + 1))
          case measure => omega
          case rel =>
            have o0 := HO2.out.stored (i * 7) (.string sk)
            have o1 := o0.1.stored (i * 7 + 1) (.int .i64 sn)
            have o2 := o1.1.stored (i * 7 + 2) (.string st)
            have o3 := o2.1.stored (i * 7 + 3) (.slice A1 n1 d1)
            have o4 := o3.1.stored (i * 7 + 4) (.slice A2 n2 d2)
            have o5 := o4.1.stored (i * 7 + 5) (.slice A3 n3 d3)
            have o6 := o5.1.stored (i * 7 + 6) (.int .i64 su)
            exact ⟨i + 1, j + 1, d.set i [.string sk, .int .i64 sn, .string st, .slice A1 n1 d1, .slice A2 n2 d2, .slice A3 n3 d3, .int .i64 su], rfl, by go_num, by go_num, HK.out.keep HS.out HQ.out, kept_memE (p := p) (j := j) hdl HDM.out _ HSM.out, by rw [flat_set7 (.string sk) (.int .i64 sn) (.string st) (.slice A1 n1 d1) (.slice A2 n2 d2) (.slice A3 n3 d3) (.int .i64 su) d i HD7.out (by omega)]; exact o6.1, ((((((((HF.out.trans f2.out.up).setCell (p := ⟨gb, i * 7, none⟩) (.inl (by simp)) _).setCell (p := ⟨gb, i * 7 + 1, none⟩) (.inl (by simp)) _).setCell (p := ⟨gb, i * 7 + 2, none⟩) (.inl (by simp)) _).setCell (p := ⟨gb, i * 7 + 3, none⟩) (.inl (by simp)) _).setCell (p := ⟨gb, i * 7 + 4, none⟩) (.inl (by simp)) _).setCell (p := ⟨gb, i * 7 + 5, none⟩) (.inl (by simp)) _).setCell (p := ⟨gb, i * 7 + 6, none⟩) (.inl (by simp)) _)⟩
      · obtain rfl : j = l.length := by omega
        have hdone := hK.done
        obtain ⟨cur, w0, l0, t0, hb0, _, _, hxl⟩ := own_whole hO
        obtain ⟨zs, hzs⟩ : ∃ zs, zs = (Builtin.zeroCells (Value.cells (.agg #[.string ⟨#[]⟩, .int .i64 0, .string ⟨#[]⟩, .slice none 0 0, .slice none 0 0, .slice none 0 0, .int .i64 0])) (l.length - i)).toList := ⟨_, rfl⟩
        have hzl : zs.length = (l.length - i) * 7 := by rw [hzs]; simp [Builtin.zeroCells, Value.cells]
        have hcl : ∀ ty, (Builtin.clear_ #[44] ty #[.slice (some ⟨gb, i * 7, none⟩) (l.length - i) (c - i)]).run Try.prog wr = .ok (.tuple #[]) (wr.setCells gb (i * 7) zs) := fun ty => by
          have := run_clear_k (P := Try.prog) wr 44 58 ty (.agg #[.string ⟨#[]⟩, .int .i64 0, .string ⟨#[]⟩, .slice none 0 0, .slice none 0 0, .slice none 0 0, .int .i64 0]) Try.underlying44 zeroFE (by intro u hu; simp [Value.cells] at hu; rcases hu with rfl | rfl | rfl | rfl | rfl | rfl | rfl <;> rfl) gb (i * 7) (l.length - i) (c - i) (by omega) (fun t ht => by
            exact whole_cells w0 (o := i * 7) (m := (l.length - i) * 7) (by omega) t (by simpa [Value.cells] using ht))
          rw [← hzs] at this
          exact this
        have W1 := setCells_whole zs (i * 7) wr cur w0 (by omega)
        have O1 := own_of_whole (cap := c) (k := 7) (n := i) (base := base) W1 (by simp only [List.length_append, List.length_take, List.length_drop, l0, hzl]; omega) hb0 (by omega) (by unfold maxLen; omega)
        rw [List.append_assoc, List.take_append_of_le_length (by rw [List.length_take]; omega), List.take_take, Nat.min_eq_left (by omega)] at O1
        have e5 : cur.take (i * 7) = (l.filter fun x => !p x).flatten := by
          rw [← hdone, ← flatN_take 7 d i HD7.out, ← t0, List.take_take, Nat.min_eq_left (by omega)]
        have e6 : i = (l.filter fun x => !p x).length := by rw [← hdone, List.length_take]; omega
        rw [e5] at O1
        have HO1 := Lib.hid O1
        have HE := Lib.hid e6
        have G1 := Lib.hid (setCells_grown (g := gb) zs (i * 7) wr)
        have hic : i < c := by omega
        clear hK hO hF w0 l0 t0 hb0 hxl hzs hzl W1 O1 e5 e6 hdone hdl HK HO
        go_wp2
        go_ret
        have e6 := HE.out
        refine ⟨_, rfl, ?_, ?_, rfl⟩
        · rw [← e6]
          exact HO1.out
        · exact HF.out.grown G1.out (fun k hk => by cases hk; exact .inl (by simp))
end Go.Proofs.Ytmlmiboihjibiaa
