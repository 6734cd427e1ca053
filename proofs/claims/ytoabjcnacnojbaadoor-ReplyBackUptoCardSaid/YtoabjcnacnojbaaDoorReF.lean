/- The walks of the reader of replies: a line, a number, a text. -/
import Derived.Test.YtoabjcnacnojbaaDoorReV
import Derived.Test.YtoabjcnacnojbaaDoorReB
import Derived.Test.YtoabjcnacnojbaaDoorNuW
import Derived.Test.YtoabjcnacnojbaaDoorSc
import Derived.Test.YtoabjcnacnojbaaDoorFdC
import Derived.IntWalk
set_option linter.unusedVariables false
set_option linter.unusedSimpArgs false
namespace Go.Proofs.YtoabjcnacnojbaaDoor
open Go.RowKit

/-- a reader's block: what is left, whether there was none. -/
def Rr (g : Nat) (s : ByteArray) (b : Bool) (w : World) : Prop := Whole w g 38 [.string s, .bool b]
theorem Rr.fr {g : Nat} {s : ByteArray} {b : Bool} {w w' : World} (h : Rr g s b w) (hf : Fr [] w w') : Rr g s b w' := Whole.fr h hf (by simp)
theorem Rr.two {g : Nat} {s : ByteArray} {b : Bool} {w : World} (h : Rr g s b w) : (w.cell? ⟨g, 0, none⟩ = some (.string s) ∧ w.cell? ⟨g, 1, none⟩ = some (.bool b)) ∧ w.frozen? ⟨g, 0, none⟩ = false ∧ w.frozen? ⟨g, 1, none⟩ = false := ⟨⟨Whole.cell h 0, Whole.cell h 1⟩, Whole.frozen h 0, Whole.frozen h 1⟩
theorem Rr.lt {g : Nat} {s : ByteArray} {b : Bool} {w : World} (h : Rr g s b w) : g < w.heap.size := Whole.lt h
theorem Rr.set {g : Nat} {s s' : ByteArray} {b b' : Bool} {w : World} (h : Rr g s b w) : Rr g s' b' ((w.setCell ⟨g, 1, none⟩ (.bool b')).setCell ⟨g, 0, none⟩ (.string s')) := Whole.set_ (Whole.set_ h 1 _) 0 _
theorem fr_two {g : Nat} {w : World} (u v : Value) : Fr [g] w ((w.setCell ⟨g, 1, none⟩ u).setCell ⟨g, 0, none⟩ v) := ((Fr.refl [g] w).setCell (p := ⟨g, 1, none⟩) (.inl (by simp)) u).setCell (p := ⟨g, 0, none⟩) (.inl (by simp)) v
/-- the variable that strings.Cut reads. -/
def Mx (w : World) : Prop := ∃ m, w.cell? ⟨1, 0, none⟩ = some (.int .i64 m)
theorem Mx.fr {w w' : World} {S : List Nat} (h : Mx w) (hf : Fr S w w') (hS : ∀ k ∈ S, 1 < k) : Mx w' := by
  obtain ⟨m, hm⟩ := h
  exact ⟨m, hf.cell hm (fun hk => by have := hS _ hk; exact absurd this (Nat.lt_irrefl _))⟩

theorem cut_any (s : ByteArray) (w : World) (hs : s.size < 4294967281) (hm : Mx w) :
    Calls Tryd.prog 35 #[.string s, .string ⟨#[13, 10]⟩] w fun e w' => (∃ a r ok, e = .returned (.tuple #[.string (toB a), .string (toB r), .bool ok]) ∧ ((ok = true ∧ cutC s.data.toList = some (a, r)) ∨ (ok = false ∧ cutC s.data.toList = none ∧ a = s.data.toList ∧ r = []))) ∧ Fr [] w w' := by
  obtain ⟨m, hm⟩ := hm
  refine (Tryd.strings_Cut s ⟨#[13, 10]⟩ m w hs hm).mono ?_
  rintro e w' ⟨rfl, n, rfl⟩
  refine ⟨?_, (Fr.refl _ _).drewN _⟩
  have h : Lib.cut s.data.toList (⟨#[13, 10]⟩ : ByteArray).data.toList = _ := lib_cut s.data.toList
  rw [h]
  rcases hc : cutC s.data.toList with _ | p
  · exact ⟨_, _, _, rfl, .inr ⟨rfl, rfl, rfl, rfl⟩⟩
  · exact ⟨_, _, _, rfl, .inl ⟨rfl, rfl⟩⟩
theorem cut_size {l a b : List UInt8} (h : cutC l = some (a, b)) : a.length + 2 + b.length = l.length := by
  rw [cutC_some h]; simp; omega
/-- a line: its text; the rest is left. -/
def LineP (g : Nat) (s : ByteArray) (w : World) (e : Ending) (w' : World) : Prop :=
  ∃ a r b, e = .returned (.string (toB a)) ∧ Rr g (toB r) b w' ∧ Fr [g] w w' ∧ a.length ≤ s.size ∧ r.length ≤ s.size ∧ ((b = false ∧ cutC s.data.toList = some (a, r)) ∨ (b = true ∧ cutC s.data.toList = none))

set_option maxHeartbeats 1000000 in
set_option maxRecDepth 100000 in
theorem line_any (g : Nat) (s : ByteArray) (w : World) (hs : s.size < 4294967281) (h : Rr g s false w) (hm : Mx w) :
    Calls Tryd.prog 23 #[.pointer (some ⟨g, 0, none⟩)] w (LineP g s w) := by
  obtain ⟨⟨c0, c1⟩, -, -⟩ := h.two
  have CU := Lib.hid (cut_any s w hs hm)
  have H := Lib.hid h
  clear h hm
  go_enter Tryd.func23, Tryd.ntmps23
  go_wp2_with fail
  refine CU.out.mono ?_
  rintro e w1 ⟨⟨a, r, ok, rfl, hc⟩, f1⟩
  have F1 := Lib.hid f1
  have H1 := Lib.hid (H.out.fr f1)
  clear f1 c0 c1
  obtain ⟨⟨c0, c1⟩, z0, z1⟩ := H1.out.two
  have HC := Lib.hid hc
  clear hc
  cases ok
  · go_wp2
    go_ret
    obtain ⟨h, _⟩ | ⟨_, h1, h2, h3⟩ := HC.out
    · cases h
    · subst h2 h3
      exact ⟨_, _, true, rfl, Rr.set (s := s) (b := false) H1.out, F1.out.up.trans (fr_two _ _), by simp, by simp, .inr ⟨rfl, h1⟩⟩
  · go_wp2
    go_ret
    obtain ⟨_, h1⟩ | ⟨h, _⟩ := HC.out
    · have := cut_size h1
      exact ⟨_, _, false, rfl, Rr.set (s := s) (b := false) H1.out, F1.out.up.trans (fr_two _ _), by simp at this; omega, by simp at this; omega, .inl ⟨rfl, h1⟩⟩
    · cases h

theorem within_int (n : Int) (w : World) : Calls Tryd.prog 31 #[.int .i64 n, .int .i64 (-999999999), .int .i64 999999999] w fun e w' => e = .returned (.bool (isInt n)) ∧ w' = w := rWithin_any n _ _ w
/-- a number of a line. -/
def numC (l : List UInt8) : Option (Int × List UInt8) := (cutC l).bind fun p => (intL p.1).map fun n => (n, p.2)
def NumbP (g : Nat) (s : ByteArray) (w : World) (e : Ending) (w' : World) : Prop :=
  ∃ (n : Int) (r : List UInt8) (b : Bool), e = .returned (.int .i64 n) ∧ (-9223372036854775808 ≤ n ∧ n ≤ 9223372036854775807) ∧ Rr g (toB r) b w' ∧ Fr [g] w w' ∧ r.length ≤ s.size ∧ ((b = false ∧ numC s.data.toList = some (n, r)) ∨ (b = true ∧ numC s.data.toList = none))
theorem Rr.set1 {g : Nat} {s : ByteArray} {b b' : Bool} {w : World} (h : Rr g s b w) : Rr g s b' (w.setCell ⟨g, 1, none⟩ (.bool b')) := Whole.set_ h 1 _
theorem Fr.gone {g : Nat} {w w' : World} (h : Fr [g] w w') (v : Value) : Fr [g] w (w'.setCell ⟨g, 1, none⟩ v) := h.setCell (p := ⟨g, 1, none⟩) (.inl (by simp)) v
/-- where a reader works: its block is behind what the library reads. -/
structure Ctx (w0 : World) (g : Nat) (w : World) : Prop where
  v : Vars w0
  m : Mx w0
  lt : w0.heap.size ≤ g
  f : Fr [] w0 w
theorem Ctx.go {w0 w w' : World} {g : Nat} (h : Ctx w0 g w) (hf : Fr [g] w w') : Ctx w0 g w' := ⟨h.v, h.m, h.lt, h.f.step hf (fun x hx => .inr (by have := h.lt; simp at hx; omega))⟩
theorem Ctx.same {w0 w w' : World} {g : Nat} (h : Ctx w0 g w) (hf : Fr [] w w') : Ctx w0 g w' := h.go hf.up
theorem Ctx.vars {w0 w : World} {g : Nat} (h : Ctx w0 g w) : Vars w := h.v.fr h.f
theorem Ctx.mx {w0 w : World} {g : Nat} (h : Ctx w0 g w) : Mx w := h.m.fr h.f (by simp)

set_option maxHeartbeats 2000000 in
set_option maxRecDepth 100000 in
theorem number_rd (w0 : World) (g : Nat) (s : ByteArray) (w : World) (hs : s.size < 4294967281) (h : Rr g s false w) (hx : Ctx w0 g w) :
    Calls Tryd.prog 24 #[.pointer (some ⟨g, 0, none⟩)] w (NumbP g s w) := by
  have LA := Lib.hid (line_any g s w hs h hx.mx)
  have HX := Lib.hid hx
  clear h hx
  go_enter Tryd.func24, Tryd.ntmps24
  go_wp2_with fail
  refine LA.out.mono ?_
  rintro e w1 ⟨a, r, b, rfl, r1, f1, la, lr, hc⟩
  have X1 := Lib.hid (HX.out.go f1)
  have AT := Lib.hid (atoi_any (toB a) w1 X1.out.vars (by rw [toB_size]; omega))
  have F1 := Lib.hid f1
  have R1 := Lib.hid r1
  have HC := Lib.hid hc
  clear f1 r1 hc
  go_wp2_with fail
  refine AT.out.mono ?_
  rintro e w2 ⟨n, v, rfl, hn, hc2, f2⟩
  have X2 := Lib.hid (X1.out.same f2)
  have F2 := Lib.hid (F1.out.trans f2.up)
  have R2 := Lib.hid (R1.out.fr f2)
  have IT := Lib.hid (itoa_any n w2 X2.out.vars hn)
  have II := Lib.hid (fun (W : World) => within_int n W)
  obtain ⟨⟨c0, c1⟩, z0, z1⟩ := R2.out.two
  clear f2 F1 R1 X1 AT LA
  cases b
  · have hcut : cutC s.data.toList = some (a, r) := by
      obtain ⟨_, h⟩ | ⟨h, _⟩ := HC.out
      · exact h
      · cases h
    have hnum : numC s.data.toList = (intL (toB a).data.toList).map fun n => (n, r) := by
      unfold numC; rw [hcut, toB_list]; rfl
    clear hcut
    rcases hc2 with ⟨rfl, ho⟩ | ⟨⟨t, N, rfl⟩, hno⟩
    · have hp := intL_prog ho
      have hq := eqB ⟨(Lib.itoa n).toArray⟩ (toB a)
      by_cases h1 : Lib.itoa n = (toB a).data.toList
      · have e1 : (⟨(Lib.itoa n).toArray⟩ : ByteArray) = toB a := by rw [h1]
        rw [e1] at hq IT
        have q1 : ((toB a).toList == (toB a).toList) = true := by simp
        by_cases h2 : isInt n = true
        · rw [if_pos ⟨h1, h2⟩] at hp
          rw [hp] at hnum
          rw [h2] at II
          have HN := Lib.hid hnum
          clear hp ho hq h1 h2 e1 hnum
          generalize toB a = ta at *
          go_wp2_with fail
          refine IT.out.mono ?_
          rintro e w3 ⟨rfl, f3⟩
          go_wp2_with fail
          refine (II.out _).mono ?_
          rintro e w4 ⟨rfl, h4⟩
          subst h4
          have R3 := Lib.hid (R2.out.fr f3)
          have F3 := Lib.hid (F2.out.trans f3.up)
          clear c0 c1 z0 z1
          obtain ⟨⟨c0, c1⟩, z0, z1⟩ := R3.out.two
          go_wp2
          go_ret
          exact ⟨n, r, false, rfl, hn, R3.out.set1, F3.out.gone _, lr, .inl ⟨rfl, HN.out⟩⟩
        · rw [if_neg (fun h => h2 h.2)] at hp
          rw [hp] at hnum
          rw [show isInt n = false by simpa using h2] at II
          have HN := Lib.hid hnum
          clear hp ho hq h1 h2 e1 hnum
          generalize toB a = ta at *
          go_wp2_with fail
          refine IT.out.mono ?_
          rintro e w3 ⟨rfl, f3⟩
          go_wp2_with fail
          refine (II.out _).mono ?_
          rintro e w4 ⟨rfl, h4⟩
          subst h4
          have R3 := Lib.hid (R2.out.fr f3)
          have F3 := Lib.hid (F2.out.trans f3.up)
          clear c0 c1 z0 z1
          obtain ⟨⟨c0, c1⟩, z0, z1⟩ := R3.out.two
          go_wp2
          go_ret
          exact ⟨n, r, true, rfl, hn, R3.out.set1, F3.out.gone _, lr, .inr ⟨rfl, HN.out⟩⟩
      · rw [if_neg (fun h => h1 h.1)] at hp
        rw [hp] at hnum
        have HN := Lib.hid hnum
        have q1 : ((⟨(Lib.itoa n).toArray⟩ : ByteArray).toList == (toB a).toList) = false := by
          rw [hq]
          exact decide_eq_false (fun e => h1 (by rw [← e]))
        clear hp ho hq h1 hnum
        generalize (⟨(Lib.itoa n).toArray⟩ : ByteArray) = ia at *
        generalize toB a = ta at *
        go_wp2_with fail
        refine IT.out.mono ?_
        rintro e w3 ⟨rfl, f3⟩
        have R3 := Lib.hid (R2.out.fr f3)
        have F3 := Lib.hid (F2.out.trans f3.up)
        clear c0 c1 z0 z1
        obtain ⟨⟨c0, c1⟩, z0, z1⟩ := R3.out.two
        go_wp2
        go_ret
        exact ⟨n, r, true, rfl, hn, R3.out.set1, F3.out.gone _, lr, .inr ⟨rfl, HN.out⟩⟩
    · rw [hno] at hnum
      have HN := Lib.hid hnum
      clear hno hnum
      go_wp2
      go_ret
      exact ⟨n, r, true, rfl, hn, R2.out.set1, F2.out.gone _, lr, .inr ⟨rfl, HN.out⟩⟩
  · have HN := Lib.hid (show numC s.data.toList = none from by
      obtain ⟨h, _⟩ | ⟨_, h⟩ := HC.out
      · cases h
      · unfold numC; rw [h]; rfl)
    clear hc2
    go_wp2
    go_ret
    exact ⟨n, r, true, rfl, hn, R2.out.set1, F2.out.gone _, lr, .inr ⟨rfl, HN.out⟩⟩

/-- a text of so many bytes. -/
def textC (n : Int) (l : List UInt8) : Option (List UInt8 × List UInt8) :=
  if n < 0 then none else if (lineL (l.take n.toNat) (l.drop n.toNat)).2.2 = 0 then some (l.take n.toNat, (l.drop n.toNat).drop 2) else none
theorem textC_neg {n : Int} {l : List UInt8} (h : n < 0) : textC n l = none := if_pos h
theorem textC_short {k : Nat} {l : List UInt8} (h : l.length < k + 2) : textC (k : Int) l = none := by
  unfold textC
  rw [if_neg (by omega), Int.toNat_natCast]
  have hl : (l.drop k).length < 2 := by rw [List.length_drop]; omega
  rw [if_neg]
  rcases hd : l.drop k with _ | ⟨x, _ | ⟨y, u⟩⟩
  · intro h0; exact absurd (show (8 : Int) = 0 from h0) (by decide)
  · intro h0
    by_cases hx : x.toNat = 13
    · have : lineL (l.take k) [x] = ([], [], 8) := if_pos hx
      rw [this] at h0; exact absurd h0 (by decide)
    · have : lineL (l.take k) [x] = ([], [], 1) := if_neg hx
      rw [this] at h0; exact absurd h0 (by decide)
  · rw [hd] at hl; simp at hl; omega
theorem textC_two {k : Nat} {l : List UInt8} (h : k + 2 ≤ l.length) : textC (k : Int) l = if (l.drop k).take 2 = [13, 10] then some (l.take k, l.drop (k + 2)) else none := by
  unfold textC
  rw [if_neg (by omega), Int.toNat_natCast]
  have hl : 2 ≤ (l.drop k).length := by rw [List.length_drop]; omega
  have h2 : l.drop (k + 2) = (l.drop k).drop 2 := by rw [List.drop_drop]
  rw [h2]
  generalize l.take k = a
  rcases hd : l.drop k with _ | ⟨x, _ | ⟨y, u⟩⟩
  · rw [hd] at hl; simp at hl
  · rw [hd] at hl; simp at hl
  · show (if (if x.toNat = 13 then (if y.toNat = 10 then (a, u, (0 : Int)) else ([], [], 1)) else ([], [], 1)).2.2 = 0 then some (a, u) else none) = if [x, y] = [13, 10] then some (a, u) else none
    by_cases hx : x.toNat = 13
    · by_cases hy : y.toNat = 10
      · rw [if_pos hx, if_pos hy, if_pos rfl, if_pos]
        rw [show x = 13 from UInt8.toNat_inj.1 hx, show y = 10 from UInt8.toNat_inj.1 hy]
      · rw [if_pos hx, if_neg hy, if_neg (show ¬ (1 : Int) = 0 by decide), if_neg (fun e => hy (by injection e with _ e; injection e with e; rw [e]; rfl))]
    · rw [if_neg hx, if_neg (show ¬ (1 : Int) = 0 by decide), if_neg (fun e => hx (by injection e with e; rw [e]; rfl))]
theorem ext_two (s : ByteArray) (k : Nat) : (s.extract k (k + 2)).toList = (s.data.toList.drop k).take 2 := by
  rw [ByteArray.toList_eq, extract_toB, toB_list]
theorem ext_end (s : ByteArray) (k : Nat) (h : k ≤ s.size) : s.extract k s.size = toB (s.data.toList.drop k) := by
  have := extract_toB s k (s.size - k)
  rw [show k + (s.size - k) = s.size by omega] at this
  rw [this, List.take_of_length_le (by simp)]
theorem ext_zero (s : ByteArray) (k : Nat) : s.extract 0 k = toB (s.data.toList.take k) := by
  have := extract_toB s 0 k
  rw [Nat.zero_add, List.drop_zero] at this
  exact this
def TextP (n : Int) (b : Bool) (g : Nat) (s : ByteArray) (w : World) (e : Ending) (w' : World) : Prop :=
  ∃ a r b', e = .returned (.string (toB a)) ∧ Rr g (toB r) b' w' ∧ Fr [g] w w' ∧ ((textC n s.data.toList = some (a, r) ∧ b' = b) ∨ (textC n s.data.toList = none ∧ b' = true))
theorem Rr.set2 {g : Nat} {s s' : ByteArray} {b b' : Bool} {w : World} (h : Rr g s b w) : Rr g s' b' ((w.setCell ⟨g, 0, none⟩ (.string s')).setCell ⟨g, 1, none⟩ (.bool b')) := Whole.set_ (Whole.set_ h 0 _) 1 _
theorem Rr.set0 {g : Nat} {s s' : ByteArray} {b : Bool} {w : World} (h : Rr g s b w) : Rr g s' b (w.setCell ⟨g, 0, none⟩ (.string s')) := Whole.set_ h 0 _
theorem fr_two' {g : Nat} {w : World} (u v : Value) : Fr [g] w ((w.setCell ⟨g, 0, none⟩ u).setCell ⟨g, 1, none⟩ v) := ((Fr.refl [g] w).setCell (p := ⟨g, 0, none⟩) (.inl (by simp)) u).setCell (p := ⟨g, 1, none⟩) (.inl (by simp)) v

set_option maxHeartbeats 2000000 in
set_option maxRecDepth 100000 in
theorem text_rd (n : Int) (b : Bool) (g : Nat) (s : ByteArray) (w : World) (hn : -9223372036854775808 ≤ n ∧ n ≤ 9223372036854775807) (hs : s.size < 4294967281) (h : Rr g s b w) :
    Calls Tryd.prog 25 #[.pointer (some ⟨g, 0, none⟩), .int .i64 n] w (TextP n b g s w) := by
  obtain ⟨⟨c0, c1⟩, z0, z1⟩ := h.two
  have H := Lib.hid h
  clear h
  by_cases h0 : n < 0
  · have E := Lib.hid (textC_neg (l := s.data.toList) h0)
    go_enter Tryd.func25, Tryd.ntmps25
    go_wp2
    go_ret
    exact ⟨[], [], true, rfl, Rr.set2 H.out, fr_two' _ _, .inr ⟨E.out, rfl⟩⟩
  · obtain ⟨k, rfl⟩ : ∃ k : Nat, n = k := ⟨n.toNat, by omega⟩
    by_cases h2 : s.size < k + 2
    · have E := Lib.hid (textC_short (k := k) (l := s.data.toList) (by simpa using h2))
      have q : (k : Int) > (s.size : Int) - 2 := by omega
      go_enter Tryd.func25, Tryd.ntmps25
      go_wp2
      go_ret
      exact ⟨[], [], true, rfl, Rr.set2 H.out, fr_two' _ _, .inr ⟨E.out, rfl⟩⟩
    · have q : ¬ (k : Int) > (s.size : Int) - 2 := by omega
      have hk : k + 2 ≤ s.size := by omega
      have E := textC_two (k := k) (l := s.data.toList) (by simpa using hk)
      rw [← ext_two] at E
      by_cases he : (s.extract k (k + 2)).toList = [13, 10]
      · rw [if_pos he] at E
        have E := Lib.hid E
        have q1 : ((s.extract k (k + 2)).toList == [13, 10]) = true := by rw [he]; rfl
        have X0 := Lib.hid (ext_zero s k)
        have X1 := Lib.hid (ext_end s (k + 2) hk)
        clear he
        go_enter Tryd.func25, Tryd.ntmps25
        go_wp2
        go_ret
        refine ⟨_, _, b, ?_, ?_, ?_, .inl ⟨E.out, rfl⟩⟩
        · rw [← X0.out]; rfl
        · rw [← X1.out]; exact H.out.set0
        · exact (Fr.refl [g] w).setCell (p := ⟨g, 0, none⟩) (.inl (by simp)) _
      · rw [if_neg he] at E
        have E := Lib.hid E
        have q1 : ((s.extract k (k + 2)).toList == [13, 10]) = false := by simpa using he
        clear he
        go_enter Tryd.func25, Tryd.ntmps25
        go_wp2
        go_ret
        exact ⟨[], [], true, rfl, Rr.set2 H.out, fr_two' _ _, .inr ⟨E.out, rfl⟩⟩
end Go.Proofs.YtoabjcnacnojbaaDoor
