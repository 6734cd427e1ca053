/- The walks of the program's patterns: all parts, by a panic that is recovered. -/
import Derived.Test.YtmlmiboihjibiaaGlobD
set_option linter.unusedVariables false
set_option linter.unusedSimpArgs false
namespace Go.Proofs.Ytmlmiboihjibiaa
open Go.RowKit
attribute [local go_sem] byteAt_eq

set_option maxRecDepth 100000 in
/-- the deferred closure, where the body panicked. -/
theorem caught (b1 b2 : Nat) (v1 v2 : Value) (w : World) (h1 : w.cell? ⟨b1, 0, none⟩ = some v1) (h2 : w.cell? ⟨b2, 0, none⟩ = some v2) (hb : b1 < w.heap.size) (hb2 : b2 < w.heap.size) (hne : b1 ≠ b2) (z1 : w.frozen? ⟨b1, 0, none⟩ = false) (z2 : w.frozen? ⟨b2, 0, none⟩ = false) :
    CallsD Try.prog 169 #[.pointer (some ⟨b1, 0, none⟩), .pointer (some ⟨b2, 0, none⟩)] (.panicking [{ v := wrongV, recovered := false }]) w fun e u' w' =>
      e = .returned (.tuple #[]) ∧ u' = .panicking [{ v := wrongV, recovered := true }] ∧ w' = ((w.setCell ⟨b1, 0, none⟩ (.slice none 0 0)).setCell ⟨b2, 0, none⟩ (.bool false)).alloc (.cells #[] 171) := by
  have hta : ∀ W : World, (Instr.typeAssert (.iface 171 (.agg #[])) 20 171 true).run Try.prog W = .ok (.tuple #[.agg #[], .bool true]) W := fun _ => by kernel_rfl
  refine callsD_of_wpS Try.func169 rfl fun c₀ cs hu => ?_
  unfold wrongV at hu ⊢
  apply wpS_seq
  apply wpS_region
  simp [wpOpsS, go_sem, recoverD, hu, Try.ntmps169, Exit.thenS]
  apply wpS_seq
  apply wpS_region
  simp [wpOpsS, go_sem, Exit.thenS, Array.replicate]
  refine wpS_cond (t := true) (by simp [Act.eval]) ?_
  simp only [if_true]
  refine wpS_of_wp ?_
  go_wp2
  simp [bodyPostS, results, Try.results169]

theorem idle (b1 b2 : Nat) (w : World) :
    CallsD Try.prog 169 #[.pointer (some ⟨b1, 0, none⟩), .pointer (some ⟨b2, 0, none⟩)] .returning w fun e u' w' => e = .returned (.tuple #[]) ∧ u' = .returning ∧ w' = w := by
  refine callsD_of_wpS Try.func169 rfl fun c₀ cs hu => ?_
  apply wpS_seq
  apply wpS_region
  simp [wpOpsS, go_sem, recoverD, hu, Try.ntmps169, Exit.thenS]
  apply wpS_seq
  apply wpS_region
  simp [wpOpsS, go_sem, Exit.thenS, Array.replicate]
  refine wpS_cond (t := false) (by simp [Act.eval]) ?_
  simp only [Bool.false_eq_true, if_false]
  refine wpS_of_wp (wp_skip ?_)
  cases c₀
  simp_all [bodyPostS, results, Try.results169]

theorem Try.info164 : (Try.prog.info? 164).map (fun i => (i.zero, i.size, i.bytes)) = some (some (.agg #[.bool false, .nilFunc]), 2, 16) := by kernel_rfl

/-- the parts' cells -/
def cellsOf (w : World) (L B : Nat) : List Part → List Value → Prop
  | [], xs => xs = []
  | P :: ps, xs => ∃ a f r, xs = a :: f :: r ∧ PartIs w L B P a f ∧ cellsOf w L B ps r

/-- the loop over a pattern's parts -/
structure PtL (w wr : World) (p : ByteArray) (k n : Nat) (v : Value) (ps : List Part) (xs : List Value) : Prop where
  st : PSt wr (w.heap.size + 1 + 1) p k
  c0 : Whole wr w.heap.size 135 [v]
  c1 : Whole wr (w.heap.size + 1) 4 [.bool false]
  own : wr.ownsRow (w.heap.size + 3) 164 2 v n xs
  cells : cellsOf wr (w.heap.size + 3) wr.heap.size ps xs
  fr : Fr [] w wr
  sz : w.heap.size + 3 ≤ wr.heap.size

def PartsPost (w : World) (p : ByteArray) (e : Ending) (w' : World) : Prop :=
  match partsFrom p 0 with
  | some l => ∃ v n xs, e = .returned (.tuple #[v, .bool true]) ∧ w'.ownsRow (w.heap.size + 3) 164 2 v n xs ∧ cellsOf w' (w.heap.size + 3) w'.heap.size (l.map (·.2)) xs ∧ n = l.length ∧ Fr [] w w'
  | none => e = .returned (.tuple #[.slice none 0 0, .bool false]) ∧ Fr [] w w'

theorem cellsOf.keep {w w' : World} {L L' B B' : Nat} (hb : ∀ (g : Nat) (t : TypeId) (cs : Array Value), L ≤ g → g < B → t ≠ 164 → w.heap[g]? = some (.cells cs t (0, 0)) → w'.heap[g]? = w.heap[g]?) (hL : L' ≤ L) (hB : B ≤ B') : ∀ {ps : List Part} {xs : List Value}, cellsOf w L B ps xs → cellsOf w' L' B' ps xs
  | [], _, h => h
  | P :: ps, xs, h => by
    obtain ⟨a, f, r, e, h1, h2⟩ := h
    exact ⟨a, f, r, e, h1.keep hb hL hB, cellsOf.keep hb hL hB h2⟩

theorem cellsOf.snoc {w : World} {L B : Nat} {P : Part} {a f : Value} (hP : PartIs w L B P a f) : ∀ {ps : List Part} {xs : List Value}, cellsOf w L B ps xs → cellsOf w L B (ps ++ [P]) (xs ++ [a, f])
  | [], xs, h => by
    have : xs = [] := h
    subst this
    exact ⟨a, f, [], rfl, hP, rfl⟩
  | Q :: ps, xs, h => by
    obtain ⟨a', f', r, e, h1, h2⟩ := h
    subst e
    exact ⟨a', f', r ++ [a, f], rfl, h1, cellsOf.snoc hP h2⟩

theorem ownsRow_form {w : World} {base : Nat} {e : TypeId} {size n : Nat} {v : Value} {xs : List Value} (h : w.ownsRow base e size v n xs) : ∃ A c, v = .slice A n c := by
  rcases h.2 with ⟨rfl, rfl⟩ | ⟨g, cap, cur, rfl, _⟩
  · exact ⟨_, _, rfl⟩
  · exact ⟨_, _, rfl⟩

theorem ownsRow_fr {w w' : World} {base : Nat} {e : TypeId} {size n : Nat} {v : Value} {xs : List Value} {S : List Nat} (h : w.ownsRow base e size v n xs) (hf : Fr S w w') (hS : ∀ g, v.ownBlock = some g → g ∉ S) : w'.ownsRow base e size v n xs := by
  refine ⟨h.1, ?_⟩
  rcases h.2 with hn | ⟨g, cap, cur, rfl, hb, hgg, rest⟩
  · exact .inl hn
  · exact .inr ⟨g, cap, cur, rfl, hb, (hf.block g (Array.getElem?_eq_some_iff.1 hgg).1 (hS g rfl)).trans hgg, rest⟩

set_option maxRecDepth 100000 in
set_option maxHeartbeats 1000000 in
theorem parts_any (p : ByteArray) (w : World) (hs : p.size ≤ 60) :
    Calls Try.prog 158 #[.string p] w (PartsPost w p) := by
  have hmf : ∀ (fn : Fn) (first cap : Array Value) (w : World), (Instr.makeFunc fn first cap).run Try.prog w = .ok (.func fn first cap) w := fun _ _ _ _ => rfl
  obtain ⟨i0, hi, hz0, hz1, hz2⟩ := info_parts Try.info164
  have hL0 : PtL w (((w.alloc (.cells #[.slice none 0 0] 135)).alloc (.cells #[.bool false] 4)).alloc (.cells #[.string p, .int .i64 0] 175)) p 0 0 (.slice none 0 0) [] [] :=
    ⟨show Whole _ _ _ _ by simpa using Whole.new ((w.alloc (.cells #[.slice none 0 0] 135)).alloc (.cells #[.bool false] 4)) 175 [.string p, .int .i64 0],
      ((Whole.new w 135 [.slice none 0 0]).alloc _).alloc _, by simpa using (Whole.new (w.alloc (.cells #[.slice none 0 0] 135)) 4 [.bool false]).alloc _,
      World.ownsRow_nil _ _ _ _, rfl, (((Fr.refl _ w).alloc _).alloc _).alloc _, by simp⟩
  have HL0 := Lib.hid hL0
  have HI := Lib.hid hi
  have HZ := Lib.hid hz0
  have HZ1 := Lib.hid hz1
  have HZ2 := Lib.hid hz2
  clear hL0 hi hz0 hz1 hz2
  go_enter_defers Try.func158, Try.ntmps158
  go_wp2
  go_loopg [5] p.size (fun g _ wr => ∃ (k n : Nat) (A : Option Addr) (c : Nat) (ps : List (Nat × Part)) (xs : List Value), g = p.size - k ∧ k ≤ p.size ∧ n ≤ k ∧ n = ps.length ∧ PtL w wr p k n (.slice A n c) (ps.map (·.2)) xs ∧ partsFrom p 0 = (partsFrom p k).map (ps ++ ·))
  case atStart => exact ⟨0, 0, _, _, [], [], rfl, Nat.zero_le _, Nat.le_refl _, rfl, HL0.out, by simp⟩
  case round =>
    clear HL0
    obtain ⟨k, n, A, c, ps, xs, rfl, hk, hnk, hn, hL, hR⟩ := hrel
    have HL := Lib.hid hL
    have HR := Lib.hid hR
    have HN := Lib.hid hn
    obtain ⟨c0, c1, f0, f1, _⟩ := hL.st.facts
    have q0 := hL.c0.cell 0
    have z0 := hL.c0.frozen 0
    have q1 := hL.c1.cell 0
    have z1 := hL.c1.frozen 0
    simp at q0 q1
    have l0 := hL.c0.lt
    have l1 := hL.c1.lt
    clear hL hR hn
    by_cases hlt : k < p.size
    · go_wp2_with fail
      refine (part_any p (w.heap.size + 1 + 1) k _ (by omega) HL.out.st hlt).mono ?_
      intro e w1 hpost
      unfold PartPost at hpost
      cases hpa : partAt p k with
      | none =>
        rw [hpa] at hpost
        obtain ⟨rfl, hf⟩ := hpost
        have hno : partsFrom p 0 = none := by rw [HR.out, partsFrom_step, if_pos hlt, hpa]; rfl
        have HNO := Lib.hid hno
        clear hno hpa
        have e0 := HL.out.c0.fr hf (by simp; omega)
        have e1 := HL.out.c1.fr hf (by simp)
        have HFF := Lib.hid ((HL.out.fr.step hf (fun x hx => .inr (by simp at hx; omega))))
        have r0 := e0.cell 0
        have r1 := e1.cell 0
        have y0 := e0.frozen 0
        have y1 := e1.frozen 0
        simp at r0 r1
        have l0' := e0.lt
        have l1' := e1.lt
        have E0 := Lib.hid e0
        have E1 := Lib.hid e1
        clear e0 e1 hf
        go_wp2
        refine leaves_cons (f := 169) (args := #[.pointer (some ⟨w.heap.size, 0, none⟩), .pointer (some ⟨w.heap.size + 1, 0, none⟩)]) (by simp) (by simp [go_sem]) ?_
        refine (caught _ _ _ _ _ r0 r1 l0' l1' (by simp) y0 y1).mono ?_
        rintro e u' w'' ⟨rfl, rfl, rfl⟩
        have s0 := (((E0.out.set_ 0 (.slice none 0 0)).far (p := ⟨w.heap.size + 1, 0, none⟩) (by simp) (.bool false)).alloc (.cells #[] 171)).cell 0
        have s1 := (((E1.out.far (p := ⟨w.heap.size, 0, none⟩) (by simp) (.slice none 0 0)).set_ 0 (.bool false)).alloc (.cells #[] 171)).cell 0
        simp at s0 s1
        simp [Leaves, settle, results, Try.results158, go_sem, s0, s1]
        unfold PartsPost
        rw [HNO.out]
        exact ⟨rfl, ((HFF.out.setCell (.inr (by simp)) _).setCell (.inr (by simp)) _).alloc _⟩
      | some x =>
        rw [hpa] at hpost
        obtain ⟨a, f, rfl, hpi, hps, hf⟩ := hpost
        have hx := partAt_lt hpa
        have hst := hpi.one
        have hsa : ∀ (W : World) (ad : Addr) (m : Mode), (store ad a m).run Try.prog W = stored Try.prog W ad a m := fun W ad m => run_store _ _ _ _ _ hst.1
        have hsf : ∀ (W : World) (ad : Addr) (m : Mode), (store ad f m).run Try.prog W = stored Try.prog W ad f m := fun W ad m => run_store _ _ _ _ _ hst.2
        have e0 := HL.out.c0.fr hf (by simp; omega)
        have e1 := HL.out.c1.fr hf (by simp)
        have r0 := e0.cell 0
        have r1 := e1.cell 0
        have y0 := e0.frozen 0
        have y1 := e1.frozen 0
        simp at r0 r1
        have l0' := e0.lt
        have l1' := e1.lt
        have hown1 := ((ownsRow_fr HL.out.own hf (fun g hg => by
          have := HL.out.own.lt g hg; simp; omega)).alloc (.cells #[a, f] 164)).alloc (.cells #[a, f] 164)
        have hsz1 := hf.size
        have HPI := Lib.hid hpi
        have HPS := Lib.hid hps
        have HPA := Lib.hid hpa
        have HF := Lib.hid hf
        have HST := Lib.hid hst
        have E0 := Lib.hid e0
        have E1 := Lib.hid e1
        clear hpi hps hpa hf hst e0 e1
        go_wp2_with (at_builtin; refine wpList_append_own _ rfl (.tmp 19) (.tmp 21) 135 rfl (w.heap.size + 3) 164 i0 (.agg #[.bool false, .nilFunc]) 2 16 Try.underlying135 HI.out HZ.out HZ1.out HZ2.out rfl (by decide) (.slice A n c) n xs rfl hown1 ⟨w1.heap.size + 1, 0, none⟩ 1 1 [a, f] rfl rfl ?c1 ?c2 ?c3 ?c4 ?c5 ?_)
        case c1 =>
          intro j u hj
          match j, hj with
          | 0, hj => simpa [Addr.add] using hj
          | 1, hj => simpa [Addr.add] using hj
        case c2 =>
          intro u hu
          simp at hu
          rcases hu with rfl | rfl
          · exact HST.out.1
          · exact HST.out.2
        case c3 => simp [maxLen]; omega
        case c4 => omega
        case c5 => simp; have := HL.out.sz; omega
        intro v' w2 hown2 hgrow _
        obtain ⟨A', c', hv'⟩ := ownsRow_form hown2
        have hne : (Value.slice A n c).ownBlock ≠ some w.heap.size := fun e => by
          have := HL.out.own.lt _ e; omega
        have hne1 : (Value.slice A n c).ownBlock ≠ some (w.heap.size + 1) := fun e => by
          have := HL.out.own.lt _ e; omega
        have hne2 : (Value.slice A n c).ownBlock ≠ some (w.heap.size + 1 + 1) := fun e => by
          have := HL.out.own.lt _ e; omega
        have g0 := ((E0.out.alloc (.cells #[a, f] 164)).alloc (.cells #[a, f] 164)).grown hgrow (Ne.symm hne)
        have g1 := ((E1.out.alloc (.cells #[a, f] 164)).alloc (.cells #[a, f] 164)).grown hgrow (Ne.symm hne1)
        have g2 : PSt w2 (w.heap.size + 1 + 1) p x.2 := Whole.grown (Whole.alloc (Whole.alloc HPS.out _) _) hgrow (Ne.symm hne2)
        have HFW := Lib.hid ((((HL.out.fr.step HF.out (fun x hx => .inr (by simp at hx; omega))).alloc (.cells #[a, f] 164)).alloc (.cells #[a, f] 164)).grown hgrow (fun k hk => .inr (by have := HL.out.own.lt k hk; omega)))
        have HOWN := Lib.hid hown2
        have HG := Lib.hid hgrow
        have m0 := g0.cell 0
        have y0' := g0.frozen 0
        simp at m0
        have G0 := Lib.hid g0
        have G1 := Lib.hid g1
        have G2 := Lib.hid g2
        clear hown2 hgrow hne hne1 hne2 g0 g1 g2 hown1
        subst hv'
        go_wp2
        go_roundg (p.size - x.2)
        case measure => omega
        case rel =>
          have hown := HOWN.out
          have hG := HG.out
          have hsz := HL.out.sz
          have hlt2 := hG.size
          simp at hlt2
          have hset : Fr [w.heap.size] w2 (w2.setCell ⟨w.heap.size, 0, none⟩ (.slice A' (n + 1) c')) := (Fr.refl _ _).setCell (.inl (by simp)) _
          -- the older captured blocks, and the new ones, are none of the row's
          have hblk : ∀ (g : Nat) (t : TypeId) (cs : Array Value), w.heap.size + 3 ≤ g → g < w1.heap.size → t ≠ 164 → w1.heap[g]? = some (.cells cs t (0, 0)) → (w2.setCell ⟨w.heap.size, 0, none⟩ (.slice A' (n + 1) c')).heap[g]? = w1.heap[g]? := by
            intro g t cs hg hg2 ht hc
            rw [Below.heap_setCell _ _ _ _ (by simp; omega)]
            have hal : ((w1.alloc (.cells #[a, f] 164)).alloc (.cells #[a, f] 164)).heap[g]? = w1.heap[g]? := by
              rw [Below.heap_alloc _ _ _ (by simp; omega), Below.heap_alloc _ _ _ hg2]
            rw [hG.block g (by simp; omega) ?_, hal]
            intro e
            rcases HL.out.own.2 with ⟨e2, _⟩ | ⟨g', cap, cur, e2, _, hcur, _⟩
            · cases e2; cases e
            · cases e2
              simp [Value.ownBlock] at e
              subst e
              have := (HF.out.block g (by have := HL.out.own.lt g rfl; omega) (by simp; omega))
              rw [hc, hcur] at this
              injection this with this
              injection this with _ h2
              exact ht h2
          refine ⟨x.2, n + 1, A', c', ps ++ [(k, x.1)], xs ++ [a, f], rfl, hx.2, by omega, by simp [HN.out], ⟨Whole.far G2.out (by simp; omega) _, G0.out.set_ 0 _, G1.out.far (by simp) _, ownsRow_fr hown hset (fun g hg => by have := hown.lt g hg; simp; omega), ?_, HFW.out.setCell (.inr (by simp)) _, ?_⟩, ?_⟩
          · rw [List.map_append]
            refine cellsOf.snoc (P := x.1) (HPI.out.keep (fun g t cs hg hg2 ht hc => hblk g t cs (by omega) hg2 ht hc) hsz ?_) ?_
            · simp [World.setCell]; omega
            · refine HL.out.cells.keep (fun g t cs hg hg2 ht hc => ?_) (Nat.le_refl _) ?_
              · have e1 := HF.out.block g hg2 (by simp; omega)
                rw [← e1]
                exact hblk g t cs hg (by omega) ht (e1.trans hc)
              · simp [World.setCell]; omega
          · simp [World.setCell]; omega
          · rw [HR.out, partsFrom_step, if_pos hlt, HPA.out]
            simp
            rfl
    · have hyes : partsFrom p 0 = some ps := by rw [HR.out, partsFrom_step, if_neg hlt]; simp
      have HY := Lib.hid hyes
      clear hyes
      go_wp2
      refine leaves_cons (f := 169) (args := #[.pointer (some ⟨w.heap.size, 0, none⟩), .pointer (some ⟨w.heap.size + 1, 0, none⟩)]) (by simp) (by simp [go_sem]) ?_
      refine (idle _ _ _).mono ?_
      rintro e u' w'' ⟨rfl, rfl, rfl⟩
      simp [Leaves, settle, results, Try.results158, go_sem, q0, q1]
      unfold PartsPost
      rw [HY.out]
      have hL := HL.out
      have hf2 : Fr [w.heap.size, w.heap.size + 1] wr ((wr.setCell ⟨w.heap.size, 0, none⟩ (.slice A n c)).setCell ⟨w.heap.size + 1, 0, none⟩ (.bool true)) :=
        ((Fr.refl _ _).setCell (.inl (by simp)) _).setCell (.inl (by simp)) _
      refine ⟨_, n, xs, rfl, ownsRow_fr hL.own hf2 (fun g hg => by have := hL.own.lt g hg; simp; omega), hL.cells.keep (fun g _ _ hg hg2 _ _ => hf2.block g hg2 (by simp; omega)) (Nat.le_refl _) (by simp [World.setCell]), HN.out, ?_⟩
      · exact hL.fr.step hf2 (fun x hx => .inr (by simp at hx; omega))
end Go.Proofs.Ytmlmiboihjibiaa
