/- The walk of the program's match: the rows of what beginnings match. -/
import Derived.Test.YtmlmiboihjibiaaGlobF
import Derived.IntWalk
import Derived.Deep.RegionWith
set_option linter.unusedVariables false
set_option linter.unusedSimpArgs false
namespace Go.Proofs.Ytmlmiboihjibiaa
open Go.RowKit
attribute [local go_sem] byteAt_eq

theorem Try.info4 : (Try.prog.info? 4).map (fun i => (i.zero, i.size, i.bytes)) = some (some (.bool false), 1, 1) := by kernel_rfl

theorem cellsOf_get {w : World} {L B : Nat} : ∀ {ps : List Part} {xs : List Value} {k : Nat} {P : Part}, cellsOf w L B ps xs → ps[k]? = some P → ∃ a f, xs[k * 2]? = some a ∧ xs[k * 2 + 1]? = some f ∧ PartIs w L B P a f
  | [], _, k, P, _, hk => by simp at hk
  | Q :: ps, xs, 0, P, h, hk => by
    obtain ⟨a, f, r, rfl, h1, h2⟩ := h
    simp at hk
    subst hk
    exact ⟨a, f, rfl, rfl, h1⟩
  | Q :: ps, xs, k + 1, P, h, hk => by
    obtain ⟨a, f, r, rfl, h1, h2⟩ := h
    simp at hk
    obtain ⟨a', f', e1, e2, h3⟩ := cellsOf_get h2 hk
    refine ⟨a', f', ?_, ?_, h3⟩
    · rw [show (k + 1) * 2 = k * 2 + 1 + 1 by omega]; simpa using e1
    · rw [show (k + 1) * 2 + 1 = k * 2 + 1 + 1 + 1 by omega]; simpa using e2

/-- the outer loop: after so many parts. -/
structure MOut (w wr : World) (g m : Nat) (f : Nat → Bool) : Prop where
  row : wr.rowIs g 4 m (fun i => .bool (f i))
  lo : w.heap.size ≤ g
  fr : Fr [] w wr

/-- the inner loop: the next row so far. -/
structure MIn (w wi : World) (g g1 m i : Nat) (F N : Nat → Bool) (a f : Value) : Prop where
  row : wi.rowIs g 4 m (fun j => .bool (F j))
  nx : wi.rowIs (g1 + 1) 4 m (fun j => .bool (if j < i then N j else false))
  bx : Whole wi g1 164 [a, f]
  fr : Fr [] w wi
  sz : g1 + 1 < wi.heap.size

theorem MIn.put {w wi : World} {g g1 m i : Nat} {F N : Nat → Bool} {a f : Value} (h : MIn w wi g g1 m i F N a f) (hg : g < g1) (hw : w.heap.size ≤ g1) (b : Bool) (hb : b = N i) :
    MIn w (wi.setCell ⟨g1 + 1, i, none⟩ (.bool b)) g g1 m (i + 1) F N a f :=
  ⟨h.row.setOther (by simp; omega) _, (h.nx.set i _).congr (fun j _ => by
    by_cases hj : j = i
    · subst hj; simp [hb]
    · rw [if_neg hj]
      by_cases h1 : j < i
      · rw [if_pos h1, if_pos (by omega)]
      · rw [if_neg h1, if_neg (by omega)]), h.bx.far (by simp) _, h.fr.setCell (.inr (by simp; omega)) _, by simpa [World.setCell] using h.sz⟩

theorem MIn.skip {w wi : World} {g g1 m : Nat} {F N : Nat → Bool} {a f : Value} (h : MIn w wi g g1 m 0 F N a f) (h0 : N 0 = false) : MIn w wi g g1 m 1 F N a f :=
  ⟨h.row, h.nx.congr (fun j _ => by
    by_cases hj : j = 0
    · subst hj; simp [h0]
    · rw [if_neg (by omega), if_neg (by omega)]), h.bx, h.fr, h.sz⟩

theorem MIn.like {w wi wj : World} {g g1 m i : Nat} {F N : Nat → Bool} {a f : Value} (h : MIn w wi g g1 m i F N a f) (e : wj.heap = wi.heap) (e2 : wj.os = wi.os) (e3 : wj.tape = wi.tape) (e4 : wj.output = wi.output) : MIn w wj g g1 m i F N a f := by
  cases wi; cases wj
  simp only at e e2 e3 e4
  subst e; subst e2; subst e3; subst e4
  exact ⟨h.row, h.nx, h.bx, ⟨h.fr.os, h.fr.tape, h.fr.output, h.fr.size, h.fr.block⟩, h.sz⟩

theorem MIn.drewN {w wi : World} {g g1 m i : Nat} {F N : Nat → Bool} {a f : Value} (h : MIn w wi g g1 m i F N a f) (n : Nat) : MIn w (wi.drewN n) g g1 m i F N a f := ⟨h.row, h.nx, h.bx, h.fr.drewN n, h.sz⟩

set_option maxRecDepth 100000 in
set_option maxHeartbeats 3200000 in
theorem match_any (ps : List Part) (base B : Nat) (v : Value) (xs : List Value) (s : ByteArray) (w : World) (hs : s.size ≤ 60) (hps : ps.length ≤ 60) (hB : B ≤ w.heap.size)
    (hown : w.ownsRow base 164 2 v ps.length xs) (hcells : cellsOf w base B ps xs) :
    Calls Try.prog 136 #[v, .string s] w fun e w' => e = .returned (.bool (matchRow ps s s.size)) ∧ Fr [] w w' := by
  have hmk := run_make_row' (P := Try.prog) 143 4 (.bool false) 1 Try.underlying143 Try.info4 rfl .i64 .i64 (s.size + 1) (by omega) (by omega)
  have ec : ((s.size + 1 : Nat) : Int) = (s.size : Int) + 1 := by omega
  rw [ec] at hmk
  clear ec
  obtain ⟨A, c, hv⟩ := ownsRow_form hown
  subst hv
  have HOWN := Lib.hid hown
  have HC := Lib.hid hcells
  clear hown hcells
  have hA0 : MOut w ((w.alloc (.cells (madeCells #[.bool false] (s.size + 1)) 4)).setCell ⟨w.heap.size, 0, none⟩ (.bool true)) w.heap.size (s.size + 1) (matchRow (ps.take 0) s) :=
    ⟨((World.rowIs_made w (.bool false) (s.size + 1) 4).set 0 (.bool true)).congr (fun i _ => by
      by_cases h : i = 0 <;> simp [matchRow, h]), Nat.le_refl _, ((Fr.refl _ w).alloc _).setCell (.inr (by simp)) _⟩
  rw [World.setCell_alloc_at _ _ _ _ _ rfl] at hA0
  have HA0 := Lib.hid hA0
  clear hA0
  have r0 := (World.rowIs_made w (.bool false) (s.size + 1) 4).cell (i := 0) (by omega)
  have z0 := (World.rowIs_made w (.bool false) (s.size + 1) 4).frozen 0
  go_enter Try.func136, Try.ntmps136
  go_wp2
  clear r0 z0
  go_loopg [5, 7, 8, 9, 18] ps.length (fun gk s5 _ _ _ s18 wr => ∃ k g : Nat, gk = ps.length - k ∧ k ≤ ps.length ∧ s18 = .int .i64 k ∧ s5 = .slice (some ⟨g, 0, none⟩) (s.size + 1) (s.size + 1) ∧ MOut w wr g (s.size + 1) (matchRow (ps.take k) s))
  case atStart => exact ⟨0, _, rfl, Nat.zero_le _, rfl, rfl, HA0.out⟩
  case round =>
    clear HA0
    obtain ⟨k, g, rfl, hk, rfl, rfl, hM⟩ := hrel
    have HM := Lib.hid hM
    have hsz := hM.fr.size
    clear hM
    by_cases hlt : k < ps.length
    · obtain ⟨P, hP⟩ : ∃ P, ps[k]? = some P := ⟨ps[k], List.getElem?_eq_getElem hlt⟩
      obtain ⟨a, f, hxa, hxf, hpi⟩ := cellsOf_get HC.out hP
      obtain ⟨G, hA, hGlt⟩ : ∃ G, A = some ⟨G, 0, none⟩ ∧ G < w.heap.size := by
        rcases HOWN.out.2 with ⟨e, h0⟩ | ⟨G, cap, cur, e, _, hG, _⟩
        · omega
        · cases e; exact ⟨G, rfl, (Array.getElem?_eq_some_iff.1 hG).1⟩
      subst hA
      have q0 : wr.cell? ⟨G, k * 2, none⟩ = some a := by
        rw [(HM.out.fr.cell? (p := ⟨G, k * 2, none⟩) hGlt (by simp)), HOWN.out.cellAt (k * 2) (by omega), hxa]
      have q1 : wr.cell? ⟨G, k * 2 + 1, none⟩ = some f := by
        rw [(HM.out.fr.cell? (p := ⟨G, k * 2 + 1, none⟩) hGlt (by simp)), HOWN.out.cellAt (k * 2 + 1) (by omega), hxf]
      have hst := hpi.one
      have hsa : ∀ (W : World) (ad : Addr) (m : Mode), (store ad a m).run Try.prog W = stored Try.prog W ad a m := fun W ad m => run_store _ _ _ _ _ hst.1
      have hsf : ∀ (W : World) (ad : Addr) (m : Mode), (store ad f m).run Try.prog W = stored Try.prog W ad f m := fun W ad m => run_store _ _ _ _ _ hst.2
      have HPI := Lib.hid hpi
      have HP := Lib.hid hP
      clear hpi hP hxa hxf hst
      obtain ⟨F, hF⟩ : ∃ F, F = matchRow (ps.take k) s := ⟨_, rfl⟩
      have HF := Lib.hid hF
      rw [← hF] at HM
      clear hF
      have hglt : g < wr.heap.size := HM.out.row.lt
      have hI0 : MIn w ((wr.alloc (.cells #[a, f] 164)).alloc (.cells (madeCells #[.bool false] (s.size + 1)) 4)) g wr.heap.size (s.size + 1) 0 F (nextRow P F s) a f :=
        ⟨(HM.out.row.alloc _).alloc _, by simpa using World.rowIs_made (wr.alloc (.cells #[a, f] 164)) (.bool false) (s.size + 1) 4, (Whole.new wr 164 [a, f]).alloc _, (HM.out.fr.alloc _).alloc _, by simp⟩
      have HI0 := Lib.hid hI0
      clear hI0
      go_wp2
      clear q0 q1
      obtain ⟨g1, hg1⟩ : ∃ g1, g1 = wr.heap.size := ⟨_, rfl⟩
      rw [← hg1] at HI0 hglt hsz ⊢
      go_loopg [9, 28] (s.size + 1) (fun gk _ s28 wr => ∃ i : Nat, gk = s.size + 1 - i ∧ i ≤ s.size + 1 ∧ s28 = .int .i64 i ∧ MIn w wr g g1 (s.size + 1) i F (nextRow P F s) a f)
      case atStart => exact ⟨0, rfl, Nat.zero_le _, rfl, HI0.out⟩
      case round =>
        clear HI0 hg1
        obtain ⟨i, rfl, hi, rfl, hI⟩ := hrel
        have HI := Lib.hid hI
        have hisz := hI.sz
        obtain ⟨bx0, bx1, _, _⟩ := hI.bx.two
        clear hI
        by_cases hil : i < s.size + 1
        · have cI := HI.out.row.cell hil
          have nI := HI.out.nx.cell hil
          have fI := HI.out.nx.frozen i
          cases hP : P with
          | star =>
            subst hP
            obtain ⟨rfl, rfl⟩ := HPI.out
            cases hFi : F i with
            | true =>
              simp only [hFi] at cI
              have HFi := Lib.hid hFi
              clear hFi
              go_wp2
              go_roundg (s.size + 1 - (i + 1))
              case measure => omega
              case rel => exact ⟨i + 1, rfl, by omega, by go_num, HI.out.put hglt (by omega) true (by cases i <;> simp [nextRow, HFi.out])⟩
            | false =>
              simp only [hFi] at cI
              have HFi := Lib.hid hFi
              clear hFi
              cases i with
              | zero =>
                go_wp2
                go_roundg (s.size + 1 - 1)
                case measure => omega
                case rel => exact ⟨1, rfl, by omega, rfl, HI.out.put hglt (by omega) false (by simp [nextRow, HFi.out])⟩
              | succ j =>
                have nJ := HI.out.nx.cell (i := j) (by omega)
                simp only [Nat.lt_succ_self, if_true] at nJ
                have hj0 : decide ((0 : Int) < (j : Int) + 1) = true := decide_eq_true (by omega)
                go_wp2
                go_roundg (s.size + 1 - (j + 1 + 1))
                case measure => omega
                case rel => exact ⟨j + 1 + 1, rfl, by omega, by go_num, HI.out.put hglt (by omega) _ (by simp [nextRow, HFi.out])⟩
          | any =>
            subst hP
            obtain ⟨rfl, rfl⟩ := HPI.out
            have hN0 : nextRow .any F s 0 = false := rfl
            have hN : ∀ j, nextRow .any F s (j + 1) = (F j && true) := fun _ => rfl
            have HN0 := Lib.hid hN0
            have HN := Lib.hid hN
            clear hN0 hN
            cases i with
            | zero =>
              go_wp2
              go_roundg (s.size + 1 - 1)
              case measure => omega
              case rel => exact ⟨1, rfl, by omega, rfl, HI.out.skip HN0.out⟩
            | succ j =>
              have cJ := HI.out.row.cell (i := j) (by omega)
              have bj := byteAt_lt s j
              have hj0 : (j : Int) < s.size := by omega
              have hw1 : IntKind.i64.wrap (j : Int) = (j : Int) := IntWalk.i64_in _ (by omega)
              have hw3 : (j : Int) < (s.size : Int) + 1 := by omega
              cases hFj : F j with
              | false =>
                simp only [hFj] at cJ
                have HFj := Lib.hid hFj
                clear hFj
                go_wp2
                go_region
                go_wp2
                go_roundg (s.size + 1 - (j + 1 + 1))
                case measure => omega
                case rel => exact ⟨j + 1 + 1, rfl, by omega, by go_num, (HI.out.put hglt (by omega) false (by rw [HN.out, HFj.out]; rfl)).like rfl rfl rfl rfl⟩
              | true =>
                simp only [hFj] at cJ
                have HFj := Lib.hid hFj
                clear hFj
                go_wp2
                go_region_with (refine (any_call _ _).mono ?_; rintro e w2 ⟨rfl, rfl⟩)
                all_goals
                  go_wp2
                  go_roundg (s.size + 1 - (j + 1 + 1))
                  case measure => omega
                  case rel => exact ⟨j + 1 + 1, rfl, by omega, by go_num, (HI.out.put hglt (by omega) (true) (by rw [HN.out, HFj.out]; rfl)).like rfl rfl rfl rfl⟩
          | lit x =>
            subst hP
            obtain ⟨rfl, b, hb1, hb2, rfl, hbw⟩ := HPI.out
            have hN0 : nextRow (.lit x) F s 0 = false := rfl
            have hN : ∀ j, nextRow (.lit x) F s (j + 1) = (F j && decide (byteAt s j = x)) := fun _ => rfl
            have HN0 := Lib.hid hN0
            have HN := Lib.hid hN
            clear hN0 hN
            cases i with
            | zero =>
              go_wp2
              go_roundg (s.size + 1 - 1)
              case measure => omega
              case rel => exact ⟨1, rfl, by omega, rfl, HI.out.skip HN0.out⟩
            | succ j =>
              have cJ := HI.out.row.cell (i := j) (by omega)
              have bj := byteAt_lt s j
              have hj0 : (j : Int) < s.size := by omega
              have hw1 : IntKind.i64.wrap (j : Int) = (j : Int) := IntWalk.i64_in _ (by omega)
              have hw3 : (j : Int) < (s.size : Int) + 1 := by omega
              cases hFj : F j with
              | false =>
                simp only [hFj] at cJ
                have HFj := Lib.hid hFj
                clear hFj
                go_wp2
                go_region
                go_wp2
                go_roundg (s.size + 1 - (j + 1 + 1))
                case measure => omega
                case rel => exact ⟨j + 1 + 1, rfl, by omega, by go_num, (HI.out.put hglt (by omega) false (by rw [HN.out, HFj.out]; rfl)).like rfl rfl rfl rfl⟩
              | true =>
                simp only [hFj] at cJ
                have HFj := Lib.hid hFj
                clear hFj
                have hx : ∀ W : World, W.cell? ⟨b, 0, none⟩ = some (.int .u8 x) → Calls Try.prog 194 #[.int .u8 (byteAt s j : Int), .pointer (some ⟨b, 0, none⟩)] W fun e w' => e = .returned (.bool (decide (byteAt s j = x))) ∧ W = w' := fun W hW => lit_call _ x b W hW
                have HX := Lib.hid hx
                clear hx
                have xc : wr.cell? ⟨b, 0, none⟩ = some (.int .u8 x) := (HI.out.fr.cell? (p := ⟨b, 0, none⟩) (by show b < w.heap.size; omega) (by simp)).trans (hbw.cell 0)
                go_wp2
                go_region_with (refine (HX.out _ (by simpa using xc)).mono ?_; rintro e w2 ⟨rfl, rfl⟩)
                all_goals
                  go_wp2
                  go_roundg (s.size + 1 - (j + 1 + 1))
                  case measure => omega
                  case rel => exact ⟨j + 1 + 1, rfl, by omega, by go_num, (HI.out.put hglt (by omega) (decide (byteAt s j = x)) (by rw [HN.out, HFj.out]; rfl)).like rfl rfl rfl rfl⟩
          | cls neg rs =>
            subst hP
            obtain ⟨rfl, b, b2, hb1, hb2, hb3, hb4, rfl, hbw, hbw2⟩ := HPI.out
            have hN0 : nextRow (.cls neg rs) F s 0 = false := rfl
            have hN : ∀ j, nextRow (.cls neg rs) F s (j + 1) = (F j && (inRanges rs (byteAt s j) != neg)) := fun _ => rfl
            have HN0 := Lib.hid hN0
            have HN := Lib.hid hN
            clear hN0 hN
            cases i with
            | zero =>
              go_wp2
              go_roundg (s.size + 1 - 1)
              case measure => omega
              case rel => exact ⟨1, rfl, by omega, rfl, HI.out.skip HN0.out⟩
            | succ j =>
              have cJ := HI.out.row.cell (i := j) (by omega)
              have bj := byteAt_lt s j
              have hj0 : (j : Int) < s.size := by omega
              have hw1 : IntKind.i64.wrap (j : Int) = (j : Int) := IntWalk.i64_in _ (by omega)
              have hw3 : (j : Int) < (s.size : Int) + 1 := by omega
              cases hFj : F j with
              | false =>
                simp only [hFj] at cJ
                have HFj := Lib.hid hFj
                clear hFj
                go_wp2
                go_region
                go_wp2
                go_roundg (s.size + 1 - (j + 1 + 1))
                case measure => omega
                case rel => exact ⟨j + 1 + 1, rfl, by omega, by go_num, (HI.out.put hglt (by omega) false (by rw [HN.out, HFj.out]; rfl)).like rfl rfl rfl rfl⟩
              | true =>
                simp only [hFj] at cJ
                have HFj := Lib.hid hFj
                clear hFj
                have hx : ∀ W : World, W.cell? ⟨b, byteAt s j, none⟩ = some (.bool (inRanges rs (byteAt s j))) → W.cell? ⟨b2, 0, none⟩ = some (.bool neg) → Calls Try.prog 193 #[.int .u8 (byteAt s j : Int), .pointer (some ⟨b, 0, none⟩), .pointer (some ⟨b2, 0, none⟩)] W fun e w' => e = .returned (.bool (inRanges rs (byteAt s j) != neg)) ∧ ∃ n, w' = W.drewN n := fun W hW hW2 => cls_call _ b b2 _ neg W bj hW hW2
                have HX := Lib.hid hx
                clear hx
                have xc : wr.cell? ⟨b, byteAt s j, none⟩ = some (.bool (inRanges rs (byteAt s j))) := (HI.out.fr.cell? (p := ⟨b, byteAt s j, none⟩) (by show b < w.heap.size; omega) (by simp)).trans (hbw.cell bj)
                have xc2 : wr.cell? ⟨b2, 0, none⟩ = some (.bool neg) := (HI.out.fr.cell? (p := ⟨b2, 0, none⟩) (by show b2 < w.heap.size; omega) (by simp)).trans (hbw2.cell 0)
                go_wp2
                go_region_with (refine (HX.out _ (by simpa using xc) (by simpa using xc2)).mono ?_; rintro e w2 ⟨rfl, n2, rfl⟩)
                all_goals
                  go_wp2
                  go_roundg (s.size + 1 - (j + 1 + 1))
                  case measure => omega
                  case rel => exact ⟨j + 1 + 1, rfl, by omega, by go_num, (HI.out.put hglt (by omega) ((inRanges rs (byteAt s j) != neg)) (by rw [HN.out, HFj.out]; rfl)).like rfl rfl rfl rfl⟩
        · have hie : i = s.size + 1 := by omega
          go_wp2
          go_roundg (ps.length - (k + 1))
          case measure => omega
          case rel =>
            refine ⟨k + 1, g1 + 1, rfl, by omega, by go_num, rfl, ?_, by omega, HI.out.fr⟩
            rw [matchRow_take HP.out, ← HF.out]
            exact HI.out.nx.congr (fun j hj => by rw [if_pos (by omega)])
    · have hke : k = ps.length := by omega
      have cL := HM.out.row.cell (i := s.size) (by omega)
      have HKE := Lib.hid hke
      clear hke
      go_wp2
      go_ret
      have := HKE.out
      subst this
      rw [List.take_length]
      exact ⟨rfl, HM.out.fr⟩
end Go.Proofs.Ytmlmiboihjibiaa
