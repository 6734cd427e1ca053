/- The walks of the program's parser of patterns. -/
import Derived.Test.YtmlmiboihjibiaaProg
import Derived.Test.YtmlmiboihjibiaaBase
import Derived.WalkLawsBesides
import Derived.WalkSpells
import Derived.LoopTactic
import Derived.Deep.QuietTactic
import Derived.BigQuiet
import Derived.OwnWalk
import Derived.Outline
import Derived.Deep.DeepCutAuto
import Derived.Deep.LoopGhost
import Derived.Laws.EntriesVeiled
set_option linter.unusedVariables false
set_option linter.unusedSimpArgs false
namespace Go.Proofs.Ytmlmiboihjibiaa
open Go.RowKit
attribute [local go_sem] byteAt_eq

/-- the parser's struct: the pattern, and where it stands. -/
def PSt (w : World) (pb : Nat) (p : ByteArray) (k : Nat) : Prop := Whole w pb 175 [.string p, .int .i64 k]

theorem PSt.facts {w : World} {pb : Nat} {p : ByteArray} {k : Nat} (h : PSt w pb p k) :
    w.cell? ⟨pb, 0, none⟩ = some (.string p) ∧ w.cell? ⟨pb, 1, none⟩ = some (.int .i64 k) ∧ w.frozen? ⟨pb, 0, none⟩ = false ∧ w.frozen? ⟨pb, 1, none⟩ = false ∧ pb < w.heap.size :=
  ⟨h.cell 0, h.cell 1, h.frozen 0, h.frozen 1, h.lt⟩

theorem PSt.set {w : World} {pb : Nat} {p : ByteArray} {k : Nat} (h : PSt w pb p k) (k' : Nat) {z : Int} (e : z = k') : PSt (w.setCell ⟨pb, 1, none⟩ (.int .i64 z)) pb p k' := by
  subst e; exact Whole.set_ h 1 _

def wrongV : Value := .iface 171 (.agg #[])

theorem next_ok (p : ByteArray) (pb k : Nat) (w : World) (hs : p.size ≤ 281474976710656) (h : PSt w pb p k) (hk : k < p.size) :
    Calls Try.prog 183 #[.pointer (some ⟨pb, 0, none⟩)] w fun e w' => e = .returned (.int .u8 (byteAt p k)) ∧ PSt w' pb p (k + 1) ∧ Fr [pb] w w' := by
  obtain ⟨c0, c1, f0, f1, hlt⟩ := h.facts
  have ht : ((k : Int) == p.size) = false := by simp; omega
  have b0 := byteAt_lt p k
  go_enter Try.func183, Try.ntmps183
  go_wp2
  go_quiet (fail)
  go_wp2
  go_quiet (fail)
  go_wp2
  go_ret
  exact ⟨rfl, PSt.set h (k + 1) (by omega), (((Fr.refl _ _).drewN _).setCell (.inl (by simp)) _).drewN _⟩

theorem next_end (p : ByteArray) (pb k : Nat) (w : World) (hs : p.size ≤ 281474976710656) (h : PSt w pb p k) (hk : k = p.size) :
    Calls Try.prog 183 #[.pointer (some ⟨pb, 0, none⟩)] w fun e w' => e = .panicked [{ v := wrongV, recovered := false }] ∧ Fr [pb] w w' := by
  obtain ⟨c0, c1, f0, f1, hlt⟩ := h.facts
  have ht : ((k : Int) == p.size) = true := by simp; omega
  clear hk
  go_enter Try.func183, Try.ntmps183
  go_wp2
  go_quiet (fail)
  go_wp2
  exact ⟨rfl, rfl, (Fr.refl _ _).drewN _⟩

theorem here_in (p : ByteArray) (pb k : Nat) (m c : Nat) (w : World) (hs : p.size ≤ 281474976710656) (hm : m ≤ 1) (hc : c < 256) (h : PSt w pb p k) (hk : k + m < p.size) :
    Calls Try.prog 192 #[.pointer (some ⟨pb, 0, none⟩), .int .i64 m, .int .u8 c] w fun e w' => e = .returned (.bool (decide (byteAt p (k + m) = c))) ∧ ∃ n, w' = w.drewN n := by
  obtain ⟨c0, c1, f0, f1, hlt⟩ := h.facts
  have ht : (k : Int) + m < p.size := by omega
  have b0 := byteAt_lt p (k + m)
  have E := Lib.hid (show decide (byteAt p (k + m) = c) = ((byteAt p (k + m) : Int) == c) by rw [Bool.eq_iff_iff]; simp; omega)
  have e1 : ((k : Int) + m).toNat = k + m := by omega
  go_enter Try.func192, Try.ntmps192
  go_wp2
  go_quiet (fail)
  go_wp2
  go_ret
  rw [E.out]
  exact ⟨rfl, _, rfl⟩

theorem here_out (p : ByteArray) (pb k : Nat) (m c : Nat) (w : World) (hs : p.size ≤ 281474976710656) (hm : m ≤ 1) (hc : c < 256) (h : PSt w pb p k) (hk : ¬ k + m < p.size) (hk2 : k ≤ p.size) :
    Calls Try.prog 192 #[.pointer (some ⟨pb, 0, none⟩), .int .i64 m, .int .u8 c] w fun e w' => e = .returned (.bool false) ∧ ∃ n, w' = w.drewN n := by
  obtain ⟨c0, c1, f0, f1, hlt⟩ := h.facts
  have ht : decide ((k : Int) + m < p.size) = false := by simp; omega
  go_enter Try.func192, Try.ntmps192
  go_wp2
  go_quiet (fail)
  go_wp2
  go_ret
  exact ⟨rfl, _, rfl⟩
/-- 'here', whatever stands there. -/
def hereS (p : ByteArray) (k c : Nat) : Bool := decide (k < p.size) && decide (byteAt p k = c)

theorem here_any (p : ByteArray) (pb k : Nat) (m c : Nat) (w : World) (hs : p.size ≤ 281474976710656) (hm : m ≤ 1) (hc : c < 256) (h : PSt w pb p k) (hk2 : k ≤ p.size) :
    Calls Try.prog 192 #[.pointer (some ⟨pb, 0, none⟩), .int .i64 m, .int .u8 c] w fun e w' => e = .returned (.bool (hereS p (k + m) c)) ∧ ∃ n, w' = w.drewN n := by
  by_cases hk : k + m < p.size
  · have e : hereS p (k + m) c = decide (byteAt p (k + m) = c) := by simp [hereS, hk]
    rw [e]; exact here_in p pb k m c w hs hm hc h hk
  · have e : hereS p (k + m) c = false := by simp [hereS, hk]
    rw [e]; exact here_out p pb k m c w hs hm hc h hk hk2

theorem any_call (c : Nat) (w : World) : Calls Try.prog 184 #[.int .u8 c] w fun e w' => e = .returned (.bool true) ∧ w = w' := by
  go_enter Try.func184, Try.ntmps184
  go_wp2
  go_ret
  exact ⟨rfl, rfl⟩

theorem lit_call (c x b : Nat) (w : World) (h : w.cell? ⟨b, 0, none⟩ = some (.int .u8 x)) :
    Calls Try.prog 194 #[.int .u8 c, .pointer (some ⟨b, 0, none⟩)] w fun e w' => e = .returned (.bool (decide (c = x))) ∧ w = w' := by
  have E := Lib.hid (show decide (c = x) = ((c : Int) == x) by rw [Bool.eq_iff_iff]; simp; omega)
  go_enter Try.func194, Try.ntmps194
  go_wp2
  go_ret
  rw [E.out]
  exact ⟨rfl, rfl⟩

theorem cls_call (c b b2 : Nat) (m neg : Bool) (w : World) (hc : c < 256) (h : w.cell? ⟨b, c, none⟩ = some (.bool m)) (h2 : w.cell? ⟨b2, 0, none⟩ = some (.bool neg)) :
    Calls Try.prog 193 #[.int .u8 c, .pointer (some ⟨b, 0, none⟩), .pointer (some ⟨b2, 0, none⟩)] w fun e w' => e = .returned (.bool (m != neg)) ∧ ∃ n, w' = w.drewN n := by
  go_enter Try.func193, Try.ntmps193
  go_wp2
  go_quiet (fail)
  go_wp2
  go_ret
  exact ⟨rfl, _, rfl⟩

/-- the two cells of a part; what its function has captured lies in blocks from L on, below B. -/
def PartIs (w : World) (L B : Nat) : Part → Value → Value → Prop
  | .star, a, f => a = .bool true ∧ f = .nilFunc
  | .any, a, f => a = .bool false ∧ f = .func (.func 184) #[] #[]
  | .lit x, a, f => a = .bool false ∧ ∃ b, L ≤ b ∧ b < B ∧ f = .func (.func 194) #[] #[.pointer (some ⟨b, 0, none⟩)] ∧ Whole w b 5 [.int .u8 x]
  | .cls neg rs, a, f => a = .bool false ∧ ∃ b b2, L ≤ b ∧ b < B ∧ L ≤ b2 ∧ b2 < B ∧ f = .func (.func 193) #[] #[.pointer (some ⟨b, 0, none⟩), .pointer (some ⟨b2, 0, none⟩)] ∧
      w.rowIs b 198 256 (fun c => .bool (inRanges rs c)) ∧ Whole w b2 4 [.bool neg]

theorem rowIs_of {w w' : World} {b t n : Nat} {f : Nat → Value} (h : w.rowIs b t n f) (hk : ∀ cs, w.heap[b]? = some (.cells cs t (0, 0)) → w'.heap[b]? = w.heap[b]?) : w'.rowIs b t n f := by
  obtain ⟨c, hc, h2⟩ := h
  exact ⟨c, (hk c hc).trans hc, h2⟩

theorem PartIs.keep {w w' : World} {L L' B B' : Nat} {P : Part} {a f : Value} (h : PartIs w L B P a f)
    (hb : ∀ (g : Nat) (t : TypeId) (cs : Array Value), L ≤ g → g < B → t ≠ 164 → w.heap[g]? = some (.cells cs t (0, 0)) → w'.heap[g]? = w.heap[g]?) (hL : L' ≤ L) (hB : B ≤ B') : PartIs w' L' B' P a f := by
  cases P with
  | star => exact h
  | any => exact h
  | lit x =>
    obtain ⟨h1, b, hl, hlt, h2, h3⟩ := h
    exact ⟨h1, b, by omega, by omega, h2, (hb b _ _ hl hlt (by decide) h3).trans h3⟩
  | cls neg rs =>
    obtain ⟨h1, b, b2, hl, hlt, hl2, hlt2, h2, h3, h4⟩ := h
    exact ⟨h1, b, b2, by omega, by omega, by omega, by omega, h2, rowIs_of h3 (fun cs hc => hb b _ cs hl hlt (by decide) hc), (hb b2 _ _ hl2 hlt2 (by decide) h4).trans h4⟩

theorem PartIs.one {w : World} {L B : Nat} {P : Part} {a f : Value} (h : PartIs w L B P a f) : a.oneCell' = true ∧ f.oneCell' = true := by
  cases P with
  | star => obtain ⟨rfl, rfl⟩ := h; exact ⟨rfl, rfl⟩
  | any => obtain ⟨rfl, rfl⟩ := h; exact ⟨rfl, rfl⟩
  | lit x => obtain ⟨rfl, b, _, _, rfl, _⟩ := h; exact ⟨rfl, rfl⟩
  | cls neg rs => obtain ⟨rfl, b, b2, _, _, _, _, rfl, _⟩ := h; exact ⟨rfl, rfl⟩

theorem itself_any (x : Nat) (w : World) :
    Calls Try.prog 186 #[.int .u8 x] w fun e w' => (∃ f, e = .returned (.agg #[.bool false, f]) ∧ PartIs w' w.heap.size w'.heap.size (.lit x) (.bool false) f) ∧ Fr [] w w' := by
  have hmf : ∀ (fn : Fn) (first cap : Array Value) (w : World), (Instr.makeFunc fn first cap).run Try.prog w = .ok (.func fn first cap) w := fun _ _ _ _ => rfl
  go_enter Try.func186, Try.ntmps186
  go_wp2
  refine bodyPost_ret (v := .agg #[.bool false, .func (.func 194) #[] #[.pointer (some ⟨w.heap.size, 0, none⟩)]]) (by simp [results, Try.results186, go_sem]) rfl ⟨⟨_, rfl, ?_⟩, ?_⟩
  · exact ⟨rfl, w.heap.size, Nat.le_refl _, by simp; omega, rfl, (Whole.new w 5 [.int .u8 x]).alloc _⟩
  · exact ((Fr.refl _ _).alloc _).alloc _

theorem PSt.drewN {w : World} {pb : Nat} {p : ByteArray} {k : Nat} (h : PSt w pb p k) (n : Nat) : PSt (w.drewN n) pb p k := h
theorem PSt.alloc {w : World} {pb : Nat} {p : ByteArray} {k : Nat} (h : PSt w pb p k) (o : Obj) : PSt (w.alloc o) pb p k := Whole.alloc h o
theorem PSt.lt {w : World} {pb : Nat} {p : ByteArray} {k : Nat} (h : PSt w pb p k) : pb < w.heap.size := Whole.lt h
theorem PSt.far {w : World} {pb : Nat} {p : ByteArray} {k : Nat} (h : PSt w pb p k) {q : Addr} (hp : pb ≠ q.block) (u : Value) : PSt (w.setCell q u) pb p k := Whole.far h hp u

/-- ahead of the spans: the parser's place; the result's cell; whether '^' stood there. -/
def ClsIn (w wc : World) (pb : Nat) (p : ByteArray) (m : Nat) (neg : Bool) : Prop :=
  PSt wc pb p m ∧ Whole wc w.heap.size 164 [.bool false, .nilFunc] ∧ Whole wc (w.heap.size + 1) 4 [.bool neg] ∧ Fr [pb] w wc ∧ wc.heap.size = w.heap.size + 2

def ClsPost (w : World) (pb : Nat) (p : ByteArray) (m : Nat) (neg : Bool) (e : Ending) (w' : World) : Prop :=
  (∃ (x : List (Nat × Nat) × Nat) (f : Value), cls p m = some x ∧ x.1 ≠ [] ∧ e = .returned (.agg #[.bool false, f]) ∧ PartIs w' w.heap.size w'.heap.size (.cls neg x.1) (.bool false) f ∧ PSt w' pb p (x.2 + 1) ∧ Fr [pb] w w') ∨
  ((∀ x, cls p m = some x → x.1 = []) ∧ e = .panicked [{ v := wrongV, recovered := false }] ∧ Fr [pb] w w')

/-- the spans' loop: the table holds what stood so far. -/
structure ClsL (w wr : World) (pb : Nat) (p : ByteArray) (neg : Bool) (k : Nat) (f : Nat → Bool) : Prop where
  st : PSt wr pb p k
  c0 : Whole wr w.heap.size 164 [.bool false, .nilFunc]
  c1 : Whole wr (w.heap.size + 1) 4 [.bool neg]
  tab : wr.rowIs (w.heap.size + 2) 198 256 (fun c => .bool (f c))
  fr : Fr [pb] w wr
  sz : w.heap.size + 3 ≤ wr.heap.size

theorem ClsL.drewN {w wr : World} {pb : Nat} {p : ByteArray} {neg : Bool} {k : Nat} {f : Nat → Bool} (h : ClsL w wr pb p neg k f) (n : Nat) : ClsL w (wr.drewN n) pb p neg k f :=
  ⟨h.st, h.c0, h.c1, h.tab, h.fr.drewN n, h.sz⟩
theorem ClsL.next {w wr w1 : World} {pb : Nat} {p : ByteArray} {neg : Bool} {k k' : Nat} {f : Nat → Bool} (h : ClsL w wr pb p neg k f) (hpb : pb < w.heap.size) (h1 : PSt w1 pb p k') (hf : Fr [pb] wr w1) : ClsL w w1 pb p neg k' f :=
  ⟨h1, h.c0.fr hf (by simp; omega), h.c1.fr hf (by simp; omega), h.tab.of_block (hf.block _ (by have := h.sz; omega) (by simp; omega)), h.fr.trans hf, Nat.le_trans h.sz hf.size⟩
theorem ClsL.at_ {w wr : World} {pb : Nat} {p : ByteArray} {neg : Bool} {k : Nat} {f : Nat → Bool} (h : ClsL w wr pb p neg k f) (hpb : pb < w.heap.size) (k' : Nat) {z : Int} (e : z = k') : ClsL w (wr.setCell ⟨pb, 1, none⟩ (.int .i64 z)) pb p neg k' f :=
  ⟨h.st.set k' e, h.c0.far (by simp; omega) _, h.c1.far (by simp; omega) _, h.tab.setOther (by simp; omega) _, h.fr.setCell (.inl (by simp)) _, by simpa [World.setCell] using h.sz⟩
theorem ClsL.put {w wr : World} {pb : Nat} {p : ByteArray} {neg : Bool} {k : Nat} {f g : Nat → Bool} (h : ClsL w wr pb p neg k f) (hpb : pb < w.heap.size) (i : Nat) (hg : ∀ c, c < 256 → g c = if c = i then true else f c) :
    ClsL w (wr.setCell ⟨w.heap.size + 2, i, none⟩ (.bool true)) pb p neg k g :=
  ⟨h.st.far (by simp; omega) _, h.c0.far (by simp) _, h.c1.far (by simp) _, (h.tab.set i _).congr (fun c hc => by rw [hg c hc]; split <;> rfl), h.fr.setCell (.inr (by simp)) _, by simpa [World.setCell] using h.sz⟩

theorem inRanges_snoc (ds : List (Nat × Nat)) (a b c : Nat) : inRanges (ds ++ [(a, b)]) c = (inRanges ds c || (decide (a ≤ c) && decide (c ≤ b))) := by simp [inRanges]

theorem PSt.ok {w w' : World} {pb : Nat} {p : ByteArray} {k : Nat} (h : PSt w pb p k) (e : w'.heap[pb]? = w.heap[pb]?) : PSt w' pb p k := e.trans h

set_option maxRecDepth 100000 in
set_option maxHeartbeats 1000000 in
theorem class_any (p : ByteArray) (pb k m : Nat) (neg : Bool) (w : World) (hs : p.size ≤ 281474976710656) (h : PSt w pb p k) (hk : k ≤ p.size)
    (hneg : hereS p (k + 0) 94 = neg) (hm : m = if neg then k + 1 else k) :
    Calls Try.prog 185 #[.pointer (some ⟨pb, 0, none⟩)] w (ClsPost w pb p m neg) := by
  have hmf : ∀ (fn : Fn) (first cap : Array Value) (w : World), (Instr.makeFunc fn first cap).run Try.prog w = .ok (.func fn first cap) w := fun _ _ _ _ => rfl
  have hlt := h.lt
  have hmle : m ≤ p.size := by
    subst hm
    cases neg with
    | false => exact hk
    | true => simp [hereS] at hneg; simp; omega
  have H := Lib.hid h
  have HM := Lib.hid hm
  have HN := Lib.hid hneg
  clear h hm hneg
  go_enter Try.func185, Try.ntmps185
  go_wp2_with fail
  refine (here_any p pb k 0 94 _ hs (by omega) (by omega) (H.out.alloc _) hk).mono ?_
  rw [HN.out]
  rintro e w' ⟨rfl, n, rfl⟩
  go_upto_if 10 with fail
  go_cut [] (fun wc => ClsIn w wc pb p m neg)
  case first =>
    have hp := H.out
    obtain ⟨c0, c1, f0, f1, _⟩ := H.out.facts
    cases neg with
    | true =>
      go_wp2
      go_meet
      case rel =>
        have e : m = k + 1 := by simpa using HM.out
        subst e
        exact ⟨(((hp.alloc _).drewN n).set (k + 1) (by omega)).alloc _, ((((Whole.new w _ _).drewN n).far (p := ⟨pb, 1, none⟩) (by simp; omega) _).alloc _),
          by simpa using Whole.new ((((w.alloc (Obj.cells #[Value.bool false, Value.nilFunc] 164)).drewN n).setCell ⟨pb, 1, none⟩ (Value.int .i64 (↑k + 1)))) 4 [.bool true],
          ((((Fr.refl _ w).alloc _).drewN n).setCell (.inl (by simp)) _).alloc _, by simp⟩
    | false =>
      go_wp2
      go_meet
      case rel =>
        have e : m = k := by simpa using HM.out
        subst e
        exact ⟨((hp.alloc _).drewN n).alloc _, (((Whole.new w _ _).drewN n).alloc _),
          by simpa using Whole.new (((w.alloc (Obj.cells #[Value.bool false, Value.nilFunc] 164)).drewN n)) 4 [.bool false],
          (((Fr.refl _ w).alloc _).drewN n).alloc _, by simp⟩
  case rest =>
    obtain ⟨hp, hg0, hg1, hfr, hsz⟩ := hcut
    cases h93 : hereS p (m + 0) 93 with
    | true =>
      have hno : ∀ x, cls p m = some x → x.1 = [] := by
        intro x hx
        simp [hereS] at h93
        rw [cls_step, if_pos h93.1, if_pos h93.2] at hx
        cases hx; rfl
      have H93 := Lib.hid h93
      have HNO := Lib.hid hno
      clear h93 hno
      go_wp2_with fail
      refine (here_any p pb m 0 93 _ hs (by omega) (by omega) hp hmle).mono ?_
      rw [H93.out]
      rintro e w' ⟨rfl, n', rfl⟩
      go_wp2
      exact ⟨rfl, .inr ⟨HNO.out, rfl, hfr.drewN _⟩⟩
    | false =>
      have H93 := Lib.hid h93
      clear h93
      go_wp2_with fail
      refine (here_any p pb m 0 93 _ hs (by omega) (by omega) hp hmle).mono ?_
      rw [H93.out]
      rintro e w' ⟨rfl, n', rfl⟩
      go_wp2_with fail
      have hL0 : ClsL w ((wc.drewN n').alloc (.cells (List.replicate 256 (Value.bool false)).toArray 198)) pb p neg m (fun c => inRanges [] c) :=
        ⟨hp.alloc _, hg0.alloc _, hg1.alloc _, by
          have := World.rowIs_alloc (wc.drewN n') (List.replicate 256 (Value.bool false)).toArray 198 (fun c => .bool (inRanges [] c)) (fun i hi => by
            rw [List.size_toArray, List.length_replicate] at hi
            rw [List.getElem?_toArray, List.getElem?_replicate, if_pos hi]; rfl)
          simpa [hsz] using this, (hfr.drewN _).alloc _, by simp [hsz]⟩
      go_loopg [5, 6, 7] (p.size + 1 - m) (fun g _ _ _ wr => ∃ (k : Nat) (ds : List (Nat × Nat)), g = p.size + 1 - k ∧ k ≤ p.size ∧ ClsL w wr pb p neg k (inRanges ds) ∧ cls p m = (cls p k).map (fun y => (ds ++ y.1, y.2)) ∧ (ds = [] → k = m))
      case atStart => exact ⟨m, [], rfl, hmle, hL0, by simp, fun _ => rfl⟩
      case round =>
        clear hL0 hp hg0 hg1 hfr hsz
        obtain ⟨k, ds, rfl, hkle, hL, hR, hds⟩ := hrel
        have HR := Lib.hid hR
        have HD := Lib.hid hds
        have HL := Lib.hid hL
        have hp := hL.st
        clear hR hds hL
        cases h93 : hereS p (k + 0) 93 with
        | true =>
          have HK := Lib.hid h93
          clear h93
          go_wp2_with fail
          refine (here_any p pb k 0 93 _ hs (by omega) (by omega) hp hkle).mono ?_
          rw [HK.out]
          rintro e w' ⟨rfl, n', rfl⟩
          obtain ⟨c0, c1, f0, f1, _⟩ := hp.facts
          have q0 := HL.out.c0.cell 0
          have q1 := HL.out.c0.cell 1
          have r0 := HL.out.c0.frozen 0
          have r1 := HL.out.c0.frozen 1
          simp at q0 q1
          go_wp2
          refine bodyPost_ret (v := .agg #[.bool false, .func (.func 193) #[] #[.pointer (some ⟨w.heap.size + 2, 0, none⟩), .pointer (some ⟨w.heap.size + 1, 0, none⟩)]]) (by simp [results, Try.results185, go_sem, q0, q1]) rfl ?_
          have hL := HL.out
          have hk93 := HK.out
          simp [hereS] at hk93
          have hcls : cls p k = some ([], k) := by rw [cls_step, if_pos hk93.1, if_pos hk93.2]
          have hR := HR.out
          rw [hcls] at hR
          simp at hR
          refine .inl ⟨(ds, k), _, hR, ?_, rfl, ?_, ?_, ?_⟩
          · intro hd
            have hkm := HD.out hd
            have := H93.out
            rw [← hkm, HK.out] at this
            cases this
          · refine ⟨rfl, w.heap.size + 2, w.heap.size + 1, by omega, ?_, by omega, ?_, rfl, ?_, ?_⟩
            · have := hL.sz; simp [World.setCell]; omega
            · have := hL.sz; simp [World.setCell]; omega
            · have t := (((hL.tab.setOther (a := ⟨pb, 1, none⟩) (by simp; omega) (Value.int .i64 (↑k + 1))).setOther (a := ⟨w.heap.size, 0, none⟩) (by simp) (Value.bool false)).setOther (a := ⟨w.heap.size, 1, none⟩) (by simp)
                (.func (.func 193) #[] #[.pointer (some ⟨w.heap.size + 2, 0, none⟩), .pointer (some ⟨w.heap.size + 1, 0, none⟩)]))
              exact t
            · have t := (((hL.c1.far (p := ⟨pb, 1, none⟩) (by simp; omega) (Value.int .i64 (↑k + 1))).far (p := ⟨w.heap.size, 0, none⟩) (by simp) (Value.bool false)).far (p := ⟨w.heap.size, 1, none⟩) (by simp)
                (.func (.func 193) #[] #[.pointer (some ⟨w.heap.size + 2, 0, none⟩), .pointer (some ⟨w.heap.size + 1, 0, none⟩)]))
              exact t
          · exact ((hL.st.set (k + 1) (by omega)).far (q := ⟨w.heap.size, 0, none⟩) (by simp; omega) _).far (q := ⟨w.heap.size, 1, none⟩) (by simp; omega) _
          · exact (((hL.fr.drewN _).setCell (.inl (by simp)) _).setCell (.inr (by simp)) _).setCell (.inr (by simp)) _
        | false =>
          have HK := Lib.hid h93
          by_cases hend : k < p.size
          · have hne : byteAt p k ≠ 93 := by simp [hereS] at h93; exact h93 hend
            clear h93
            have b0 := byteAt_lt p k
            go_wp2_with fail
            refine (here_any p pb k 0 93 _ hs (by omega) (by omega) hp hkle).mono ?_
            rw [HK.out]
            rintro e w' ⟨rfl, n', rfl⟩
            go_wp2_with fail
            refine (next_ok p pb k _ hs (hp.drewN _) hend).mono ?_
            rintro e w1 ⟨rfl, hp1, hf1⟩
            have HL1 := Lib.hid ((HL.out.drewN n').next hlt hp1 hf1)
            obtain ⟨c0, c1, f0, f1, _⟩ := hp1.facts
            clear hf1
            have hA : ∀ n : Nat, Calls Try.prog 192 #[.pointer (some ⟨pb, 0, none⟩), .int .i64 0, .int .u8 45] (w1.drewN n) fun e w' => e = .returned (.bool (hereS p (k + 1 + 0) 45)) ∧ ∃ m, w' = (w1.drewN n).drewN m :=
              fun n => here_any p pb (k + 1) 0 45 _ hs (by omega) (by omega) (hp1.drewN _) (by omega)
            have hB : ∀ n : Nat, Calls Try.prog 192 #[.pointer (some ⟨pb, 0, none⟩), .int .i64 1, .int .u8 93] (w1.drewN n) fun e w' => e = .returned (.bool (hereS p (k + 1 + 1) 93)) ∧ ∃ m, w' = (w1.drewN n).drewN m :=
              fun n => here_any p pb (k + 1) 1 93 _ hs (by omega) (by omega) (hp1.drewN _) (by omega)
            have HA := Lib.hid hA
            have HB := Lib.hid hB
            clear hA hB
            have ek : ((k + 1 : Nat) : Int) = (k : Int) + 1 := by omega
            by_cases hc : k + 2 < p.size ∧ byteAt p (k + 1) = 45 ∧ byteAt p (k + 2) ≠ 93
            · obtain ⟨h2, h45, h932⟩ := hc
              have HAe : hereS p (k + 1 + 0) 45 = true := by simp [hereS]; exact ⟨by omega, h45⟩
              have HBe : hereS p (k + 1 + 1) 93 = false := by simp [hereS]; exact fun _ => h932
              rw [HAe] at HA
              rw [HBe] at HB
              have hstep : cls p k = if byteAt p (k + 2) < byteAt p k then none else (cls p (k + 3)).map fun x => ((byteAt p k, byteAt p (k + 2)) :: x.1, x.2) := by
                rw [cls_step, if_pos hend, if_neg hne, if_pos ⟨h2, h45, h932⟩]
              have HS := Lib.hid hstep
              have d2 : (k : Int) + 1 + 1 < p.size := by omega
              have bb := byteAt_lt p (k + 2)
              clear hstep hne h45 h932 HAe HBe
              go_wp2_with fail
              go_cut [47] (fun t wx => t = .bool true ∧ ∃ n, wx = w1.drewN n)
              case first =>
                go_quiet ((first | (with_reducible exact Calls.quiet_of (HA.out _)) | (with_reducible exact Calls.quiet_of (HB.out _))))
                go_wp2
                go_meet
                case rel => exact ⟨rfl, _, rfl⟩
              case rest =>
                obtain ⟨rfl, n2, rfl⟩ := hcut
                go_wp2_with fail
                refine (next_ok p pb (k + 2) _ hs ((hp1.drewN n2).set (k + 2) (by omega)) h2).mono ?_
                rintro e w2 ⟨rfl, hp2, hf2⟩
                have HL2 := Lib.hid (((HL1.out.drewN n2).at_ hlt (k + 2) (z := (k : Int) + 1 + 1) (by omega)).next hlt hp2 hf2)
                clear hf2
                by_cases hlt3 : byteAt p (k + 2) < byteAt p k
                · have hcn : ∀ x, cls p m = some x → x.1 = [] := by
                    intro x hx
                    rw [HR.out, HS.out, if_pos hlt3] at hx
                    simp at hx
                  have HCN := Lib.hid hcn
                  clear hcn
                  go_wp2
                  exact ⟨rfl, .inr ⟨HCN.out, rfl, HL2.out.fr⟩⟩
                · have hcs : cls p k = (cls p (k + 3)).map fun x => ((byteAt p k, byteAt p (k + 2)) :: x.1, x.2) := by rw [HS.out, if_neg hlt3]
                  have HC := Lib.hid hcs
                  clear hcs
                  go_wp2
                  go_loopg [7] (byteAt p (k + 2) + 1 - byteAt p k) (fun g c wi => ∃ i : Nat, g = byteAt p (k + 2) + 1 - i ∧ c = .int .i64 i ∧ byteAt p k ≤ i ∧ i ≤ byteAt p (k + 2) + 1 ∧ ClsL w wi pb p neg (k + 3) (fun c => inRanges ds c || (decide (byteAt p k ≤ c) && decide (c < i))))
                  case atStart =>
                    refine ⟨byteAt p k, rfl, rfl, Nat.le_refl _, by omega, ?_⟩
                    have := HL2.out
                    exact ⟨this.st, this.c0, this.c1, this.tab.congr (fun c _ => by
                      have : (decide (byteAt p k ≤ c) && decide (c < byteAt p k)) = false := by simp
                      simp [this]), this.fr, this.sz⟩
                  case round =>
                    obtain ⟨i, rfl, rfl, hi1, hi2, hI⟩ := hrel
                    have bB := byteAt_lt p (k + 2)
                    have HI := Lib.hid hI
                    have hcell := hI.tab.cell (i := i)
                    have hfz := hI.tab.frozen i
                    clear hI
                    by_cases hle : i ≤ byteAt p (k + 2)
                    · have hc1 := hcell (by omega)
                      have hi256 : (i : Int) < 256 := by omega
                      clear hcell
                      go_wp2
                      go_roundg (byteAt p (k + 2) + 1 - (i + 1))
                      case measure => omega
                      case rel =>
                        exact ⟨i + 1, rfl, by go_num, by omega, by omega, HI.out.put hlt i (fun c _ => by
                          by_cases hci : c = i
                          · subst hci; simp; right; omega
                          · rw [if_neg hci, decide_eq_decide.2 (show c < i + 1 ↔ c < i by omega)])⟩
                    · clear hcell
                      go_wp2
                      go_roundg (p.size + 1 - (k + 3))
                      case measure => omega
                      case rel =>
                        refine ⟨(k + 3), ds ++ [(byteAt p k, byteAt p (k + 2))], rfl, by omega, ?_, ?_, by simp⟩
                        · have := HI.out
                          exact ⟨this.st, this.c0, this.c1, this.tab.congr (fun c _ => by
                            have e : i = byteAt p (k + 2) + 1 := by omega
                            subst e
                            rw [inRanges_snoc]
                            congr 2
                            rw [decide_eq_decide.2 (show c < byteAt p (k + 2) + 1 ↔ c ≤ byteAt p (k + 2) by omega)]), this.fr, this.sz⟩
                        · rw [HR.out, HC.out]
                          cases cls p (k + 3) <;> simp
            · have hcs : cls p k = (cls p (k + 1)).map fun x => ((byteAt p k, byteAt p k) :: x.1, x.2) := by rw [cls_step, if_pos hend, if_neg hne, if_neg hc]
              have HC := Lib.hid hcs
              clear hcs hne
              go_wp2_with fail
              go_cut [47] (fun t wx => t = .bool false ∧ ∃ n, wx = w1.drewN n)
              case first =>
                cases h45 : hereS p (k + 1 + 0) 45 with
                | false =>
                  rw [h45] at HA
                  clear h45
                  go_quiet ((go_at_call 192; exact Calls.quiet_of (HA.out _)))
                  go_wp2
                  go_meet
                  case rel => exact ⟨rfl, _, rfl⟩
                | true =>
                  rw [h45] at HA
                  by_cases hl2 : k + 2 < p.size
                  · have h93' : hereS p (k + 1 + 1) 93 = true := by
                      simp [hereS] at h45 ⊢
                      exact ⟨hl2, Decidable.byContradiction fun h => hc ⟨hl2, h45.2, h⟩⟩
                    rw [h93'] at HB
                    have d2 : (k : Int) + 1 + 1 < p.size := by omega
                    clear h45 h93' hc
                    go_quiet ((first | (with_reducible exact Calls.quiet_of (HA.out _)) | (with_reducible exact Calls.quiet_of (HB.out _))))
                    go_wp2
                    go_meet
                    case rel => exact ⟨rfl, _, rfl⟩
                  · have d2 : decide ((k : Int) + 1 + 1 < p.size) = false := by simp; omega
                    clear h45 hc
                    go_quiet ((first | (with_reducible exact Calls.quiet_of (HA.out _)) | (with_reducible exact Calls.quiet_of (HB.out _))))
                    go_wp2
                    go_meet
                    case rel => exact ⟨rfl, _, rfl⟩
              case rest =>
                obtain ⟨rfl, n2, rfl⟩ := hcut
                have HL2 := Lib.hid (HL1.out.drewN n2)
                go_wp2
                go_loopg [7] (byteAt p (k) + 1 - byteAt p k) (fun g c wi => ∃ i : Nat, g = byteAt p (k) + 1 - i ∧ c = .int .i64 i ∧ byteAt p k ≤ i ∧ i ≤ byteAt p (k) + 1 ∧ ClsL w wi pb p neg (k + 1) (fun c => inRanges ds c || (decide (byteAt p k ≤ c) && decide (c < i))))
                case atStart =>
                  refine ⟨byteAt p k, rfl, rfl, Nat.le_refl _, by omega, ?_⟩
                  have := HL2.out
                  exact ⟨this.st, this.c0, this.c1, this.tab.congr (fun c _ => by
                    have : (decide (byteAt p k ≤ c) && decide (c < byteAt p k)) = false := by simp
                    simp [this]), this.fr, this.sz⟩
                case round =>
                  obtain ⟨i, rfl, rfl, hi1, hi2, hI⟩ := hrel
                  have bB := byteAt_lt p k
                  have HI := Lib.hid hI
                  have hcell := hI.tab.cell (i := i)
                  have hfz := hI.tab.frozen i
                  clear hI
                  by_cases hle : i ≤ byteAt p (k)
                  · have hc1 := hcell (by omega)
                    have hi256 : (i : Int) < 256 := by omega
                    clear hcell
                    go_wp2
                    go_roundg (byteAt p (k) + 1 - (i + 1))
                    case measure => omega
                    case rel =>
                      exact ⟨i + 1, rfl, by go_num, by omega, by omega, HI.out.put hlt i (fun c _ => by
                        by_cases hci : c = i
                        · subst hci; simp; right; omega
                        · rw [if_neg hci, decide_eq_decide.2 (show c < i + 1 ↔ c < i by omega)])⟩
                  · clear hcell
                    go_wp2
                    go_roundg (p.size + 1 - (k + 1))
                    case measure => omega
                    case rel =>
                      refine ⟨(k + 1), ds ++ [(byteAt p k, byteAt p (k))], rfl, by omega, ?_, ?_, by simp⟩
                      · have := HI.out
                        exact ⟨this.st, this.c0, this.c1, this.tab.congr (fun c _ => by
                          have e : i = byteAt p (k) + 1 := by omega
                          subst e
                          rw [inRanges_snoc]
                          congr 2
                          rw [decide_eq_decide.2 (show c < byteAt p (k) + 1 ↔ c ≤ byteAt p (k) by omega)]), this.fr, this.sz⟩
                      · rw [HR.out, HC.out]
                        cases cls p (k + 1) <;> simp
          · have hke : k = p.size := by omega
            have hcn : ∀ x, cls p m = some x → x.1 = [] := by
              intro x hx
              rw [HR.out, cls_step, if_neg hend] at hx
              simp at hx
            have HCN := Lib.hid hcn
            clear hcn h93
            go_wp2_with fail
            refine (here_any p pb k 0 93 _ hs (by omega) (by omega) hp hkle).mono ?_
            rw [HK.out]
            rintro e w' ⟨rfl, n', rfl⟩
            go_wp2_with fail
            refine (next_end p pb k _ hs (hp.drewN _) hke).mono ?_
            rintro e w1 ⟨rfl, hf1⟩
            go_wp2
            exact ⟨rfl, .inr ⟨HCN.out, rfl, (HL.out.fr.drewN _).trans hf1⟩⟩

end Go.Proofs.Ytmlmiboihjibiaa
