/- The walk of the reference's IsMatch. -/
import Derived.Test.YtmlmiboihjibiaaGlobQ
import Derived.Test.YtmlmiboihjibiaaBase
import Derived.Laws.AppendOwn
import Derived.Maps.AppendAt
import Derived.Deep.LoopGhost
import Derived.Deep.DeepCutAuto
import Derived.IntWalk
set_option linter.unusedVariables false
set_option linter.unusedSimpArgs false
namespace Go.Proofs.Ytmlmiboihjibiaa
open Go.RowKit
attribute [local go_sem] byteAt_eq

theorem Try.infoI4 : (Try.prog.info? 4).map (fun i => (i.zero, i.size, i.bytes)) = some (some (.bool false), 1, 1) := by kernel_rfl
theorem Try.infoI3 : (Try.prog.info? 3).map (fun i => (i.zero, i.size, i.bytes)) = some (some (.int .i64 0), 1, 8) := by kernel_rfl

theorem ownsRow_form' {w : World} {base : Nat} {e : TypeId} {size n : Nat} {v : Value} {xs : List Value} (h : w.ownsRow base e size v n xs) : ∃ A c, v = .slice A n c := by
  rcases h.2 with ⟨rfl, rfl⟩ | ⟨g, cap, cur, rfl, _⟩
  · exact ⟨_, _, rfl⟩
  · exact ⟨_, _, rfl⟩

theorem ownsRow_fr' {w w' : World} {base : Nat} {e : TypeId} {size n : Nat} {v : Value} {xs : List Value} (h : w.ownsRow base e size v n xs) (hf : Fr [] w w') : w'.ownsRow base e size v n xs := by
  refine ⟨h.1, ?_⟩
  rcases h.2 with hn | ⟨g, cap, cur, rfl, hb, hgg, rest⟩
  · exact .inl hn
  · exact .inr ⟨g, cap, cur, rfl, hb, (hf.block g (Array.getElem?_eq_some_iff.1 hgg).1 (by simp)).trans hgg, rest⟩

/-- a number's cell -/
def natV (n : Nat) : Value := .int .i64 n

/-- the loop that tells where the parts begin -/
structure BgL (w wr : World) (v : Value) (n : Nat) (bs : List Nat) : Prop where
  own : wr.ownsRow w.heap.size 3 1 v n (bs.map natV)
  fr : Fr [] w wr

/-- the inner loop: the row from the end down to m. -/
structure InL (w wi : World) (g g1 k m : Nat) (F N : Nat → Bool) (v : Value) (n : Nat) (xs : List Value) : Prop where
  row : wi.rowIs g 4 k (fun j => .bool (F j))
  nx : wi.rowIs g1 4 k (fun j => .bool (if m ≤ j then N j else false))
  own : wi.ownsRow w.heap.size 3 1 v n xs
  fr : Fr [] w wi

theorem InL.put {w wi : World} {g g1 k i : Nat} {F N : Nat → Bool} {v : Value} {n : Nat} {xs : List Value} (h : InL w wi g g1 k (i + 1) F N v n xs) (hg : g < g1) (hw : w.heap.size ≤ g1) (b : Bool) (hb : b = N i) :
    InL w (wi.setCell ⟨g1, i, none⟩ (.bool b)) g g1 k i F N v n xs :=
  ⟨h.row.setOther (by simp; omega) _, (h.nx.set i _).congr (fun j _ => by
    by_cases hj : j = i
    · subst hj; simp [hb]
    · rw [if_neg hj]
      by_cases h1 : i + 1 ≤ j
      · rw [if_pos h1, if_pos (by omega)]
      · rw [if_neg h1, if_neg (by omega)]), by
    rcases h.own.2 with ⟨e1, e2⟩ | ⟨G, cap, cur, e1, e2, e3, e4⟩
    · exact ⟨h.own.1, .inl ⟨e1, e2⟩⟩
    · refine ⟨h.own.1, .inr ⟨G, cap, cur, e1, e2, ?_, e4⟩⟩
      rw [Below.heap_setCell _ _ _ _ ?_, e3]
      rintro rfl
      obtain ⟨c, hc, _⟩ := h.nx
      rw [hc] at e3
      injection e3 with e3
      injection e3 with _ e3
      exact absurd e3 (by decide), h.fr.setCell (.inr (by simp; omega)) _⟩

theorem InL.like {w wi wj : World} {g g1 k m : Nat} {F N : Nat → Bool} {v : Value} {n : Nat} {xs : List Value} (h : InL w wi g g1 k m F N v n xs) (e : wj.heap = wi.heap) (e2 : wj.os = wi.os) (e3 : wj.tape = wi.tape) (e4 : wj.output = wi.output) : InL w wj g g1 k m F N v n xs := by
  cases wi; cases wj
  simp only at e e2 e3 e4
  subst e; subst e2; subst e3; subst e4
  exact ⟨h.row, h.nx, h.own, ⟨h.fr.os, h.fr.tape, h.fr.output, h.fr.size, h.fr.block⟩⟩

set_option maxRecDepth 100000 in
set_option maxHeartbeats 2000000 in
theorem isMatch_any (p s : ByteArray) (l : List (Nat × Part)) (w : World) (hp : p.size ≤ 60) (hs : s.size ≤ 60) (hl : partsFrom p 0 = some l) :
    Calls Try.prog 94 #[.string p, .string s] w fun e w' => e = .returned (.bool (backRow (l.map (·.2)) s 0)) ∧ Fr [] w w' := by
  have hmk := run_make_row' (P := Try.prog) 143 4 (.bool false) 1 Try.underlying143 Try.infoI4 rfl .i64 .i64 (s.size + 1) (by omega) (by omega)
  have ec : ((s.size + 1 : Nat) : Int) = (s.size : Int) + 1 := by omega
  rw [ec] at hmk
  clear ec
  obtain ⟨i0, hi, hz0, hz1, hz2⟩ := info_parts Try.infoI3
  have HI := Lib.hid hi
  have HZ := Lib.hid hz0
  have HZ1 := Lib.hid hz1
  have HZ2 := Lib.hid hz2
  have HLL := Lib.hid hl
  clear hi hz0 hz1 hz2 hl
  go_enter Try.func94, Try.ntmps94
  go_wp2
  go_loopg [5, 6] p.size (fun g v at_ wr => ∃ (k n : Nat) (A : Option Addr) (c : Nat) (ps r : List (Nat × Part)), g = p.size - k ∧ k ≤ p.size ∧ n ≤ k ∧ n = ps.length ∧ at_ = .int .i64 k ∧ v = .slice A n c ∧ BgL w wr (.slice A n c) n (ps.map (·.1)) ∧ partsFrom p k = some r ∧ l = ps ++ r)
  case atStart => exact ⟨0, 0, none, 0, [], l, rfl, Nat.zero_le _, Nat.le_refl _, rfl, rfl, rfl, ⟨World.ownsRow_nil _ _ _ _, Fr.refl _ _⟩, HLL.out, rfl⟩
  case round =>
    obtain ⟨k, n, A, c, ps, r, rfl, hk, hnk, hn, rfl, rfl, hB, hr, hps⟩ := hrel
    have HB := Lib.hid hB
    have HR := Lib.hid hr
    have HPS := Lib.hid hps
    have HN := Lib.hid hn
    clear hB hr hps hn
    by_cases hlt : k < p.size
    · obtain ⟨x, hx⟩ : ∃ x, partAt p k = some x := by
        have := HR.out
        rw [partsFrom_step, if_pos hlt] at this
        cases hx : partAt p k with
        | none => rw [hx] at this; cases this
        | some x => exact ⟨x, rfl⟩
      have hxl := partAt_lt hx
      obtain ⟨r2, hr2, hrr⟩ : ∃ r2, partsFrom p x.2 = some r2 ∧ r = (k, x.1) :: r2 := by
        have := HR.out
        rw [partsFrom_step, if_pos hlt, hx] at this
        obtain ⟨r2, h1, h2⟩ := Option.map_eq_some_iff.1 this
        exact ⟨r2, h1, h2.symm⟩
      have HX := Lib.hid hx
      have HR2 := Lib.hid hr2
      have HRR := Lib.hid hrr
      clear hx hr2 hrr
      have hown1 := HB.out.own.alloc (.cells #[.int .i64 k] 3)
      have hsz1 := HB.out.fr.size
      go_wp2_with (at_builtin; refine wpList_append_own _ rfl (.tmp 19) (.tmp 21) 141 rfl w.heap.size 3 i0 (.int .i64 0) 1 8 Try.underlying141 HI.out HZ.out HZ1.out HZ2.out rfl (by decide) (.slice A n c) n (ps.map (fun y => natV y.1)) rfl (by simpa [Function.comp_def] using hown1) ⟨wr.heap.size, 0, none⟩ 1 1 [.int .i64 k] rfl rfl ?c1 ?c2 ?c3 ?c4 ?c5 ?_)
      case c1 =>
        intro j u hj
        match j, hj with
        | 0, hj => simpa [Addr.add] using hj
      case c2 =>
        intro u hu
        simp at hu
        subst hu
        rfl
      case c3 => simp [maxLen]; omega
      case c4 => omega
      case c5 => simp; omega
      intro v' w2 hown2 hgrow _
      obtain ⟨A', c', hv'⟩ := ownsRow_form' hown2
      have HFW := Lib.hid ((HB.out.fr.alloc (.cells #[.int .i64 k] 3)).grown hgrow (fun g hg => .inr (HB.out.own.lt g hg).1))
      have HOWN := Lib.hid hown2
      clear hown2 hgrow hown1
      subst hv'
      go_wp2_with fail
      refine (partEnd_any p k x _ (by omega) HX.out).mono ?_
      rintro e w3 ⟨rfl, n3, rfl⟩
      go_wp2
      go_roundg (p.size - x.2)
      case measure => omega
      case rel =>
        refine ⟨x.2, n + 1, A', c', ps ++ [(k, x.1)], r2, rfl, hxl.2, by omega, by simp [HN.out], rfl, rfl, ⟨?_, HFW.out.drewN n3⟩, HR2.out, by rw [HPS.out, HRR.out]; simp⟩
        have := HOWN.out
        simpa [natV, Function.comp_def] using ownsRow_fr' this ((Fr.refl [] _).drewN n3)
    · have hr0 : r = [] := by
        have := HR.out
        rw [partsFrom_step, if_neg hlt] at this
        cases this; rfl
      have hpsl : l = ps := by rw [HPS.out, hr0]; simp
      subst hpsl
      clear HR HPS hr0
      have hnl := HN.out
      subst hnl
      have r0 := (World.rowIs_made wr (.bool false) (s.size + 1) 4).cell (i := s.size) (by omega)
      have z0 := (World.rowIs_made wr (.bool false) (s.size + 1) 4).frozen s.size
      have hR0 := (World.rowIs_made wr (.bool false) (s.size + 1) 4).set s.size (.bool true)
      rw [World.setCell_alloc_at _ _ _ _ _ rfl] at hR0
      have HR0 := Lib.hid hR0
      clear hR0
      have hsz := HB.out.fr.size
      go_wp2
      clear r0 z0
      obtain ⟨g0, hg0⟩ : ∃ g0, g0 = wr.heap.size := ⟨_, rfl⟩
      have HOB := Lib.hid (HB.out.own.alloc (.cells ((madeCells #[.bool false] (s.size + 1)).setIfInBounds s.size (.bool true)) 4))
      have HFB := Lib.hid (HB.out.fr.alloc (.cells ((madeCells #[.bool false] (s.size + 1)).setIfInBounds s.size (.bool true)) 4))
      clear HB
      go_loopg [7, 8, 9, 10, 11] l.length (fun gk rest kk _ _ _ wr => ∃ (m g : Nat) (z : Int), gk = m ∧ m ≤ l.length ∧ kk = .int .i64 z ∧ z = (m : Int) - 1 ∧ rest = .slice (some ⟨g, 0, none⟩) (s.size + 1) (s.size + 1) ∧ w.heap.size ≤ g ∧
        wr.rowIs g 4 (s.size + 1) (fun i => .bool (backRow ((l.drop m).map (·.2)) s i)) ∧ wr.ownsRow w.heap.size 3 1 (.slice A l.length c) l.length ((l.map (·.1)).map natV) ∧ Fr [] w wr)
      case atStart =>
        refine ⟨l.length, g0, _, rfl, Nat.le_refl _, rfl, rfl, by rw [hg0], by omega, ?_, HOB.out, HFB.out⟩
        rw [hg0]
        exact HR0.out.congr (fun i hi => by
          simp only [List.drop_length, List.map_nil, backRow]
          by_cases h : i = s.size <;> simp [h])
      case round =>
        clear HR0 HOB HFB hg0
        obtain ⟨m, g, z, rfl, hm, rfl, hz, rfl, hgw, hrow, hown, hfr⟩ := hrel
        have HROW := Lib.hid hrow
        have HOWN := Lib.hid hown
        have HFR := Lib.hid hfr
        have hszr := hfr.size
        have hglt := hrow.lt
        clear hrow hown hfr
        cases gk with
        | zero =>
          have hz0 : z < 0 := by omega
          have c0 := HROW.out.cell (i := 0) (by omega)
          simp only [List.drop_zero] at c0
          clear hz
          go_wp2
          go_ret
          exact ⟨rfl, HFR.out⟩
        | succ j =>
          obtain ⟨y, hy⟩ : ∃ y, l[j]? = some y := ⟨l[j]'(by omega), List.getElem?_eq_getElem (by omega)⟩
          obtain ⟨b, P⟩ := y
          obtain ⟨e, hpe⟩ := partsF_get p _ 0 l HLL.out j b P hy
          have hbe := partAt_lt hpe
          simp only at hbe
          obtain ⟨GB, hA⟩ : ∃ GB, A = some ⟨GB, 0, none⟩ := by
            rcases HOWN.out.2 with ⟨e, h0⟩ | ⟨G, cap, cur, e, _⟩
            · omega
            · cases e; exact ⟨G, rfl⟩
          subst hA
          have q0 : wr.cell? ⟨GB, j, none⟩ = some (.int .i64 b) := by
            rw [HOWN.out.cellAt j (by omega)]
            simp [List.getElem?_map, hy, natV]
          have hz' : z = (j : Int) := by omega
          subst hz'
          clear hz
          have hpc : ∀ n, Calls Try.prog 139 #[.string p, .int .i64 b] (wr.drewN n) fun e' w' => e' = .returned (.int .i64 e) ∧ ∃ n', w' = (wr.drewN n).drewN n' := fun n => partEnd_any p b (_, e) _ (by omega) hpe
          have HPC := Lib.hid hpc
          have hw1 : (b : Int) ≤ e := by omega
          have hw2 : (e : Int) ≤ p.size := by omega
          have hw3 : (0 : Int) ≤ b := by omega
          have hw4 : (j : Int) < l.length := by omega
          have hdrop : l.drop j = (b, P) :: l.drop (j + 1) := by
            have hjl : j < l.length := by omega
            rw [List.drop_eq_getElem_cons hjl]
            rw [List.getElem?_eq_getElem hjl] at hy
            injection hy with hy
            rw [hy]
          obtain ⟨F, hF⟩ : ∃ F, F = backRow ((l.drop (j + 1)).map (·.2)) s := ⟨_, rfl⟩
          have hnext : backRow ((l.drop j).map (·.2)) s = prevRow P F s := by rw [hdrop, hF]; rfl
          rw [← hF] at HROW
          have HNX := Lib.hid hnext
          have HPE := Lib.hid hpe
          clear hy hpe hpc hdrop hF hnext
          go_wp2_with fail
          go_quiet ((go_at_call 139; exact Calls.quiet_of (HPC.out _)))
          go_wp2
          obtain ⟨g1, hg1⟩ : ∃ g1, g1 = wr.heap.size := ⟨_, rfl⟩
          have hI0 : InL w ((wr.drewN nq).alloc (.cells (madeCells #[.bool false] (s.size + 1)) 4)) g g1 (s.size + 1) (s.size + 1) F (prevRow P F s) (.slice (some ⟨GB, 0, none⟩) l.length c) l.length ((l.map (·.1)).map natV) :=
            ⟨(show (wr.drewN nq).rowIs g 4 (s.size + 1) _ from HROW.out).alloc _, by
              rw [hg1]
              exact (World.rowIs_made (wr.drewN nq) (.bool false) (s.size + 1) 4).congr (fun i hi => by rw [if_neg (by omega)]),
              (ownsRow_fr' HOWN.out ((Fr.refl [] _).drewN nq)).alloc _, (HFR.out.drewN nq).alloc _⟩
          have HI0 := Lib.hid hI0
          rw [← hg1] at hglt hszr ⊢
          clear hI0 hg1 q0 hw1 hw2
          have hst := star_eq HPE.out
          go_loopg [11] (s.size + 1) (fun gk ii wr => ∃ (m : Nat) (z : Int), gk = m ∧ m ≤ s.size + 1 ∧ ii = .int .i64 z ∧ z = (m : Int) - 1 ∧ InL w wr g g1 (s.size + 1) m F (prevRow P F s) (.slice (some ⟨GB, 0, none⟩) l.length c) l.length ((l.map (·.1)).map natV))
          case atStart => exact ⟨s.size + 1, _, rfl, Nat.le_refl _, rfl, by omega, HI0.out⟩
          case round =>
            clear HI0
            obtain ⟨m, z, rfl, hm, rfl, hz, hI⟩ := hrel
            have HI' := Lib.hid hI
            have hilt := hI.nx.lt
            cases gk with
            | zero =>
              have hz0 : z < 0 := by omega
              clear hz hI hst
              go_wp2
              go_roundg j
              case measure => omega
              case rel =>
                refine ⟨j, g1, _, rfl, by omega, rfl, by omega, rfl, by omega, ?_, HI'.out.own, HI'.out.fr⟩
                rw [HNX.out]
                exact HI'.out.nx.congr (fun i hi => by rw [if_pos (Nat.zero_le _)])
            | succ i =>
              have hz' : z = (i : Int) := by omega
              subst hz'
              have cI := hI.row.cell (i := i) (by omega)
              have nI := hI.nx.cell (i := i) (by omega)
              have fI := hI.nx.frozen i
              have bI := byteAt_lt s i
              have hi60 : (i : Int) ≤ 60 := by omega
              clear hz hI
              cases hP : P.isStar with
              | true =>
                rw [hP] at hst
                have hPs : P = .star := by cases P <;> first | rfl | cases hP
                subst hPs
                cases hFi : F i with
                | true =>
                  simp only [hFi] at cI
                  have HFi := Lib.hid hFi
                  clear hFi hP
                  go_wp2
                  go_roundg i
                  case measure => omega
                  case rel => exact ⟨i, _, rfl, by omega, rfl, by omega, HI'.out.put hglt (by omega) true (by
                    by_cases h : i < s.size
                    · rw [prevRow_star _ _ _ h, HFi.out]; rfl
                    · rw [show i = s.size by omega, prevRow_star_end]
                      rw [show i = s.size by omega] at HFi
                      exact HFi.out.symm)⟩
                | false =>
                  simp only [hFi] at cI
                  have HFi := Lib.hid hFi
                  clear hFi hP
                  by_cases hil : i < s.size
                  · have hil' : (i : Int) < s.size := by omega
                    have nJ := HI'.out.nx.cell (i := i + 1) (by omega)
                    simp only [Nat.le_refl, if_true] at nJ
                    go_wp2
                    go_roundg i
                    case measure => omega
                    case rel => exact ⟨i, _, rfl, by omega, rfl, by omega, HI'.out.put hglt (by omega) _ (by rw [prevRow_star _ _ _ hil, HFi.out, Bool.false_or])⟩
                  · have hil' : decide ((i : Int) < s.size) = false := decide_eq_false (by omega)
                    go_wp2
                    go_roundg i
                    case measure => omega
                    case rel => exact ⟨i, _, rfl, by omega, rfl, by omega, HI'.out.put hglt (by omega) false (by
                      have e : i = s.size := by omega
                      subst e
                      rw [prevRow_star_end, HFi.out])⟩
              | false =>
                rw [hP] at hst
                have HPF := Lib.hid hP
                clear hP
                by_cases hil : i < s.size
                · have hil' : (i : Int) < s.size := by omega
                  have hpm := partMay_eq HPE.out (byteAt s i) HPF.out
                  have hcall : ∀ W : World, Calls Try.prog 140 #[.string (p.extract b e), .int .u8 (byteAt s i : Int)] W fun e' w' => e' = .returned (.bool (P.may (byteAt s i))) ∧ ∃ n, w' = W.drewN n := fun W => by
                    have := partMay_any (p.extract b e) (byteAt s i) W (by simp; omega) bI hpm.2.1 hpm.2.2.1 hpm.2.2.2
                    rw [hpm.1] at this
                    exact this
                  have HCALL := Lib.hid hcall
                  have rJ := HI'.out.row.cell (i := i + 1) (by omega)
                  clear hpm hcall
                  cases hM : P.may (byteAt s i) with
                  | true =>
                    rw [hM] at HCALL
                    have HM' := Lib.hid hM
                    clear hM
                    go_wp2_with (go_at_call 140; refine (HCALL.out _).mono ?_; rintro e' w' ⟨rfl, n9, rfl⟩)
                    go_roundg i
                    case measure => omega
                    case rel => exact ⟨i, _, rfl, by omega, rfl, by omega, (HI'.out.put hglt (by omega) _ (by rw [prevRow_one HPF.out _ _ _ hil, HM'.out, Bool.true_and])).like rfl rfl rfl rfl⟩
                  | false =>
                    rw [hM] at HCALL
                    have HM' := Lib.hid hM
                    clear hM
                    go_wp2_with (go_at_call 140; refine (HCALL.out _).mono ?_; rintro e' w' ⟨rfl, n9, rfl⟩)
                    go_roundg i
                    case measure => omega
                    case rel => exact ⟨i, _, rfl, by omega, rfl, by omega, (HI'.out.put hglt (by omega) false (by rw [prevRow_one HPF.out _ _ _ hil, HM'.out, Bool.false_and])).like rfl rfl rfl rfl⟩
                · have hil' : decide ((i : Int) < s.size) = false := decide_eq_false (by omega)
                  go_wp2
                  go_roundg i
                  case measure => omega
                  case rel => exact ⟨i, _, rfl, by omega, rfl, by omega, HI'.out.put hglt (by omega) false (by
                    have e : i = s.size := by omega
                    subst e
                    rw [prevRow_one_end HPF.out])⟩
end Go.Proofs.Ytmlmiboihjibiaa
