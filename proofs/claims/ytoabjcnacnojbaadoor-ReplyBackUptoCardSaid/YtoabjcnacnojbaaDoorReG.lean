/- The walks of the reader of replies: one that may be no list. -/
import Derived.Test.YtoabjcnacnojbaaDoorReF
set_option linter.unusedVariables false
set_option linter.unusedSimpArgs false
namespace Go.Proofs.YtoabjcnacnojbaaDoor
open Go.RowKit
attribute [local go_sem] byteAt_eq

def set4 (w : World) (o : Nat) (a b c d : Value) : World := (((w.setCell ⟨o, 0, none⟩ a).setCell ⟨o, 1, none⟩ b).setCell ⟨o, 2, none⟩ c).setCell ⟨o, 3, none⟩ d
theorem Rr.set4 {g o : Nat} {s : ByteArray} {b : Bool} {w : World} (h : Rr g s b w) (ho : g ≠ o) (x y z u : Value) : Rr g s b (set4 w o x y z u) :=
  Whole.far (Whole.far (Whole.far (Whole.far h ho _) ho _) ho _) ho _
theorem fr_set4 {S : List Nat} {w w' : World} {o : Nat} (h : Fr S w w') (ho : w.heap.size ≤ o) (x y z u : Value) : Fr S w (set4 w' o x y z u) :=
  (((h.setCell (p := ⟨o, 0, none⟩) (.inr ho) x).setCell (p := ⟨o, 1, none⟩) (.inr ho) y).setCell (p := ⟨o, 2, none⟩) (.inr ho) z).setCell (p := ⟨o, 3, none⟩) (.inr ho) u
def zero4 : List Value := [.int .i64 0, .string ⟨#[]⟩, .int .i64 0, .slice none 0 0]
/-- one that may be no list. -/
def OneP (g : Nat) (s : ByteArray) (w : World) (e : Ending) (w' : World) : Prop :=
  ∃ k t n b r, e = .returned (.agg #[.int .i64 k, .string t, .int .i64 n, .slice none 0 0]) ∧ Rr g (toB r) b w' ∧ Fr [g] w w' ∧ ((dec1 s.data.toList = some (⟨k, t, n, 0⟩, r) ∧ b = false) ∨ (dec1 s.data.toList = none ∧ b = true))

def ListNo (g : Nat) (w : World) (e : Ending) (w' : World) : Prop := (∃ r, e = .returned (.agg #[.int .i64 6, .string ⟨#[]⟩, .int .i64 0, .slice none 0 0]) ∧ Rr g (toB r) true w') ∧ Fr [g] w w'
theorem new_set (w : World) (p : Addr) (v : Value) (t : TypeId) (cs : List Value) : Whole ((w.setCell p v).alloc (.cells cs.toArray t)) w.heap.size t cs := by
  have := Whole.new (w.setCell p v) t cs
  rwa [show (w.setCell p v).heap.size = w.heap.size from by simp [World.setCell]] at this
set_option maxHeartbeats 2000000 in
set_option maxRecDepth 100000 in
theorem list_no (w0 : World) (g : Nat) (s : ByteArray) (w : World) (hs : s.size < 4294967281) (h : Rr g s false w) (hx : Ctx w0 g w) :
    Calls Tryd.prog 26 #[.pointer (some ⟨g, 0, none⟩), .bool false] w (ListNo g w) := by
  have hg := h.lt
  have hne : w.heap.size ≠ g := by omega
  have A1 := (Fr.refl [] w).alloc (.cells #[.int .i64 0, .string ⟨#[]⟩, .int .i64 0, .slice none 0 0] 24)
  have NU := Lib.hid (number_rd w0 g s _ hs (h.fr A1) (hx.same A1))
  have V1 := Lib.hid (Whole.new w 24 zero4)
  have FA := Lib.hid A1
  clear h hx A1
  go_enter Tryd.func26, Tryd.ntmps26
  go_wp2_with fail
  refine NU.out.mono ?_
  rintro e w1 ⟨n, r, b, rfl, hn, r1, f1, lr, -⟩
  have F1 := Lib.hid (FA.out.up.trans f1)
  have R1 := Lib.hid r1
  have V2 := Lib.hid (V1.out.fr f1 (by simpa using hne))
  have hsz := f1.size
  have hg1 := r1.lt
  have hh1 := V2.out.lt
  obtain ⟨⟨c0, c1⟩, z0, z1⟩ := R1.out.two
  obtain ⟨a0, a1, a2, a3⟩ := four V2.out
  obtain ⟨b0, b1, b2, b3⟩ := fourF V2.out
  have hne1 : ¬ w.heap.size = g := hne
  have hne2 : ¬ g = w.heap.size := fun e => hne e.symm
  clear f1 r1 NU V1
  have hhn : w.heap.size < w1.heap.size := hh1
  cases b
  · by_cases hp : n > 0
    · go_wp2
      go_loopg [5] 0 (fun x s5 wr => x = 0 ∧ s5 = .int .i64 n ∧ Rr g (toB r) true wr ∧ Whole wr w.heap.size 24 zero4 ∧ Whole wr w1.heap.size 24 [.int .i64 6, .string ⟨#[]⟩, .int .i64 0, .slice none 0 0] ∧ Fr [g] w wr)
      case atStart => exact ⟨rfl, rfl, Whole.alloc (Rr.set1 (b' := true) R1.out) _, Whole.alloc (Whole.far V2.out (p := ⟨g, 1, none⟩) hne _) _, new_set _ _ _ _ _, (F1.out.gone _).alloc _⟩
      case round =>
        obtain ⟨rfl, rfl, hR, hV, hO, hF⟩ := hrel
        have RR := Lib.hid hR
        have VV := Lib.hid hV
        have OO := Lib.hid hO
        have FF := Lib.hid hF
        clear c0 c1 z0 z1 a0 a1 a2 a3 b0 b1 b2 b3 hR hV hO hF
        obtain ⟨⟨c0, c1⟩, z0, z1⟩ := RR.out.two
        obtain ⟨a0, a1, a2, a3⟩ := four VV.out
        obtain ⟨b0, b1, b2, b3⟩ := fourF VV.out
        obtain ⟨o0, o1, o2, o3⟩ := four OO.out
        go_wp2
        refine bodyPost_ret (v := .agg #[.int .i64 6, .string ⟨#[]⟩, .int .i64 0, .slice none 0 0]) (by simp [results, Tryd.results26, go_sem, a0, a1, a2, a3]) rfl ?_
        exact ⟨⟨r, rfl, Rr.set4 RR.out (fun e => hne e.symm) _ _ _ _⟩, fr_set4 FF.out (Nat.le_refl _) _ _ _ _⟩
    · go_wp2
      go_loopg [5] 0 (fun x s5 wr => x = 0 ∧ s5 = .int .i64 n ∧ Rr g (toB r) true wr ∧ Whole wr w.heap.size 24 zero4 ∧ Whole wr w1.heap.size 24 [.int .i64 6, .string ⟨#[]⟩, .int .i64 0, .slice none 0 0] ∧ Fr [g] w wr)
      case atStart => exact ⟨rfl, rfl, Whole.alloc (Rr.set1 (b' := true) R1.out) _, Whole.alloc (Whole.far V2.out (p := ⟨g, 1, none⟩) hne _) _, new_set _ _ _ _ _, (F1.out.gone _).alloc _⟩
      case round =>
        obtain ⟨rfl, rfl, hR, hV, hO, hF⟩ := hrel
        have RR := Lib.hid hR
        have VV := Lib.hid hV
        have OO := Lib.hid hO
        have FF := Lib.hid hF
        clear c0 c1 z0 z1 a0 a1 a2 a3 b0 b1 b2 b3 hR hV hO hF
        obtain ⟨⟨c0, c1⟩, z0, z1⟩ := RR.out.two
        obtain ⟨a0, a1, a2, a3⟩ := four VV.out
        obtain ⟨b0, b1, b2, b3⟩ := fourF VV.out
        obtain ⟨o0, o1, o2, o3⟩ := four OO.out
        go_wp2
        refine bodyPost_ret (v := .agg #[.int .i64 6, .string ⟨#[]⟩, .int .i64 0, .slice none 0 0]) (by simp [results, Tryd.results26, go_sem, a0, a1, a2, a3]) rfl ?_
        exact ⟨⟨r, rfl, Rr.set4 RR.out (fun e => hne e.symm) _ _ _ _⟩, fr_set4 FF.out (Nat.le_refl _) _ _ _ _⟩
  · by_cases hp : n > 0
    · go_wp2
      go_loopg [5] 0 (fun x s5 wr => x = 0 ∧ s5 = .int .i64 n ∧ Rr g (toB r) true wr ∧ Whole wr w.heap.size 24 zero4 ∧ Whole wr w1.heap.size 24 [.int .i64 6, .string ⟨#[]⟩, .int .i64 0, .slice none 0 0] ∧ Fr [g] w wr)
      case atStart => exact ⟨rfl, rfl, Whole.alloc (Rr.set1 (b' := true) R1.out) _, Whole.alloc (Whole.far V2.out (p := ⟨g, 1, none⟩) hne _) _, new_set _ _ _ _ _, (F1.out.gone _).alloc _⟩
      case round =>
        obtain ⟨rfl, rfl, hR, hV, hO, hF⟩ := hrel
        have RR := Lib.hid hR
        have VV := Lib.hid hV
        have OO := Lib.hid hO
        have FF := Lib.hid hF
        clear c0 c1 z0 z1 a0 a1 a2 a3 b0 b1 b2 b3 hR hV hO hF
        obtain ⟨⟨c0, c1⟩, z0, z1⟩ := RR.out.two
        obtain ⟨a0, a1, a2, a3⟩ := four VV.out
        obtain ⟨b0, b1, b2, b3⟩ := fourF VV.out
        obtain ⟨o0, o1, o2, o3⟩ := four OO.out
        go_wp2
        refine bodyPost_ret (v := .agg #[.int .i64 6, .string ⟨#[]⟩, .int .i64 0, .slice none 0 0]) (by simp [results, Tryd.results26, go_sem, a0, a1, a2, a3]) rfl ?_
        exact ⟨⟨r, rfl, Rr.set4 RR.out (fun e => hne e.symm) _ _ _ _⟩, fr_set4 FF.out (Nat.le_refl _) _ _ _ _⟩
    · go_wp2
      go_loopg [5] 0 (fun x s5 wr => x = 0 ∧ s5 = .int .i64 n ∧ Rr g (toB r) true wr ∧ Whole wr w.heap.size 24 zero4 ∧ Whole wr w1.heap.size 24 [.int .i64 6, .string ⟨#[]⟩, .int .i64 0, .slice none 0 0] ∧ Fr [g] w wr)
      case atStart => exact ⟨rfl, rfl, Whole.alloc (Rr.set1 (b' := true) R1.out) _, Whole.alloc (Whole.far V2.out (p := ⟨g, 1, none⟩) hne _) _, new_set _ _ _ _ _, (F1.out.gone _).alloc _⟩
      case round =>
        obtain ⟨rfl, rfl, hR, hV, hO, hF⟩ := hrel
        have RR := Lib.hid hR
        have VV := Lib.hid hV
        have OO := Lib.hid hO
        have FF := Lib.hid hF
        clear c0 c1 z0 z1 a0 a1 a2 a3 b0 b1 b2 b3 hR hV hO hF
        obtain ⟨⟨c0, c1⟩, z0, z1⟩ := RR.out.two
        obtain ⟨a0, a1, a2, a3⟩ := four VV.out
        obtain ⟨b0, b1, b2, b3⟩ := fourF VV.out
        obtain ⟨o0, o1, o2, o3⟩ := four OO.out
        go_wp2
        refine bodyPost_ret (v := .agg #[.int .i64 6, .string ⟨#[]⟩, .int .i64 0, .slice none 0 0]) (by simp [results, Tryd.results26, go_sem, a0, a1, a2, a3]) rfl ?_
        exact ⟨⟨r, rfl, Rr.set4 RR.out (fun e => hne e.symm) _ _ _ _⟩, fr_set4 FF.out (Nat.le_refl _) _ _ _ _⟩
theorem dec1_nil {l : List UInt8} (h : l.length = 0) : dec1 l = none := by
  cases l with
  | nil => rfl
  | cons x l => simp at h
/-- how one begins. -/
theorem dec1_plus {c : UInt8} {l : List UInt8} (h : c.toNat = 43) : dec1 (c :: l) = (cutC l).map fun p => (⟨1, toB p.1, 0, 0⟩, p.2) := by
  show (cutC l).bind _ = _
  rcases cutC l with _ | p
  · rfl
  · exact if_pos h
theorem dec1_minus {c : UInt8} {l : List UInt8} (h : c.toNat = 45) : dec1 (c :: l) = (numC l).map fun p => (⟨2, ⟨#[]⟩, p.1, 0⟩, p.2) := by
  show (cutC l).bind _ = Option.map _ ((cutC l).bind _)
  rcases cutC l with _ | p
  · rfl
  · rw [Option.bind_some, Option.bind_some, if_neg (by omega), if_pos h, Option.map_map]; rfl
theorem dec1_colon {c : UInt8} {l : List UInt8} (h : c.toNat = 58) : dec1 (c :: l) = (numC l).map fun p => (⟨3, ⟨#[]⟩, p.1, 0⟩, p.2) := by
  show (cutC l).bind _ = Option.map _ ((cutC l).bind _)
  rcases cutC l with _ | p
  · rfl
  · rw [Option.bind_some, Option.bind_some, if_neg (by omega), if_neg (by omega), if_pos h, Option.map_map]; rfl
theorem dec1_dollar {c : UInt8} {l : List UInt8} (h : c.toNat = 36) : dec1 (c :: l) = (numC l).bind fun q => if q.1 = -1 then some (⟨5, ⟨#[]⟩, 0, 0⟩, q.2) else (textC q.1 q.2).map fun p => (⟨4, toB p.1, 0, 0⟩, p.2) := by
  show (cutC l).bind _ = Option.bind ((cutC l).bind _) _
  rcases cutC l with _ | p
  · rfl
  · rw [Option.bind_some, Option.bind_some, if_neg (by omega), if_neg (by omega), if_neg (by omega), if_pos h]
    rcases intL p.1 with _ | n
    · rfl
    · show (if n = -1 then _ else _) = if n = -1 then _ else (textC n p.2).map _
      by_cases h1 : n = -1
      · rw [if_pos h1, if_pos h1]
      · rw [if_neg h1, if_neg h1]
        unfold textC
        by_cases h2 : n < 0
        · rw [if_pos h2, if_pos h2]; rfl
        · rw [if_neg h2, if_neg h2]
          by_cases h3 : (lineL (p.2.take n.toNat) (p.2.drop n.toNat)).2.2 = 0
          · rw [if_pos h3, if_pos h3]; rfl
          · rw [if_neg h3, if_neg h3]; rfl
theorem dec1_else {c : UInt8} {l : List UInt8} (h1 : c.toNat ≠ 43) (h2 : c.toNat ≠ 45) (h3 : c.toNat ≠ 58) (h4 : c.toNat ≠ 36) : dec1 (c :: l) = none := by
  show (cutC l).bind _ = _
  rcases cutC l with _ | p
  · rfl
  · rw [Option.bind_some, if_neg h1, if_neg h2, if_neg h3, if_neg h4]

set_option maxHeartbeats 4000000 in
set_option maxRecDepth 100000 in
theorem one_rd (w0 : World) (g : Nat) (s : ByteArray) (w : World) (hs : s.size < 4294967281) (h : Rr g s false w) (hx : Ctx w0 g w) :
    Calls Tryd.prog 14 #[.pointer (some ⟨g, 0, none⟩), .bool false] w (OneP g s w) := by
  have hg := h.lt
  have hne : w.heap.size ≠ g := by omega
  have hne2 : g ≠ w.heap.size := by omega
  have A1 := (Fr.refl [] w).alloc (.cells #[.int .i64 0, .string ⟨#[]⟩, .int .i64 0, .slice none 0 0] 24)
  have V1 := Lib.hid (Whole.new w 24 zero4)
  obtain ⟨⟨c0, c1⟩, z0, z1⟩ := h.two
  obtain ⟨q0, q0'⟩ := emptyT s
  by_cases he : s.size = 0
  · rw [decide_eq_true he] at q0 q0'
    have HA := Lib.hid (show Rr g s true ((w.setCell ⟨g, 1, none⟩ (.bool true)).alloc (.cells #[.int .i64 0, .string ⟨#[]⟩, .int .i64 0, .slice none 0 0] 24)) from Whole.alloc (Rr.set1 h) _)
    have FA := Lib.hid (show Fr [g] w ((w.setCell ⟨g, 1, none⟩ (.bool true)).alloc (.cells #[.int .i64 0, .string ⟨#[]⟩, .int .i64 0, .slice none 0 0] 24)) from ((Fr.refl [g] w).gone _).alloc _)
    have HN := Lib.hid (show dec1 s.data.toList = none from dec1_nil (by simpa using he))
    clear h hx A1 he
    go_enter Tryd.func14, Tryd.ntmps14
    go_wp2
    refine bodyPost_ret (v := .agg #[.int .i64 0, .string ⟨#[]⟩, .int .i64 0, .slice none 0 0]) (by simp [results, Tryd.results14, go_sem]) rfl ?_
    exact ⟨0, ⟨#[]⟩, 0, true, s.data.toList, rfl, by rw [toB_of]; exact HA.out, FA.out, .inr ⟨HN.out, rfl⟩⟩
  rw [decide_eq_false he] at q0 q0'
  obtain ⟨c, hc, ec⟩ := drop_byte s 0 (by omega)
  rw [List.drop_zero, Nat.zero_add] at hc
  have X1 := ext_end s 1 (by omega)
  obtain ⟨rr, hrr⟩ : ∃ rr, rr = s.data.toList.drop 1 := ⟨_, rfl⟩
  rw [← hrr] at hc X1
  have hlen : rr.length ≤ s.size := by rw [hrr]; simp
  clear hrr
  have hsr : (s.extract 1 s.size).size < 4294967281 := by rw [X1, toB_size]; omega
  have HS := Lib.hid (show Rr g (s.extract 1 s.size) false ((w.setCell ⟨g, 0, none⟩ (.string (s.extract 1 s.size))).alloc (.cells #[.int .i64 0, .string ⟨#[]⟩, .int .i64 0, .slice none 0 0] 24)) from Whole.alloc (Rr.set0 h) _)
  have FS : Fr [g] w ((w.setCell ⟨g, 0, none⟩ (.string (s.extract 1 s.size))).alloc (.cells #[.int .i64 0, .string ⟨#[]⟩, .int .i64 0, .slice none 0 0] 24)) := ((Fr.refl [g] w).setCell (p := ⟨g, 0, none⟩) (.inl (by simp)) _).alloc _
  have XS := Lib.hid (hx.go FS)
  have VS := Lib.hid (new_set w ⟨g, 0, none⟩ (.string (s.extract 1 s.size)) 24 zero4)
  have FS := Lib.hid FS
  have HE := Lib.hid (show Rr g (s.extract 1 s.size) true (((w.setCell ⟨g, 0, none⟩ (.string (s.extract 1 s.size))).setCell ⟨g, 1, none⟩ (.bool true)).alloc (.cells #[.int .i64 0, .string ⟨#[]⟩, .int .i64 0, .slice none 0 0] 24)) from Whole.alloc (Rr.set1 (Rr.set0 h)) _)
  have hss : 0 < s.size := by omega
  have ED : (s.extract 1 s.size).data.toList = rr := by rw [X1, toB_list]
  clear h hx A1 V1 X1
  by_cases hy : byteAt s 0 = 43
  · have HD := Lib.hid ((congrArg dec1 hc).trans (dec1_plus (ec.trans hy)))
    have e43 : ((byteAt s 0 : Int) == 43) = true := by rw [hy]; rfl
    have LA := Lib.hid (line_any g _ _ hsr HS.out XS.out.mx)
    clear hy hc ec
    go_enter Tryd.func14, Tryd.ntmps14
    go_wp2_with fail
    refine LA.out.mono ?_
    rintro e w1 ⟨a, r, b, rfl, r1, f1, -, -, hcu⟩
    have F2 := Lib.hid (FS.out.trans f1)
    have R2 := Lib.hid r1
    have V2 := Lib.hid (VS.out.fr f1 (by simpa using hne))
    have X2 := Lib.hid (XS.out.go f1)
    have HC := Lib.hid hcu
    clear f1 r1 LA hcu
    clear c0 c1 z0 z1
    obtain ⟨a0, a1, a2, a3⟩ := four V2.out
    obtain ⟨b0, b1, b2, b3⟩ := fourF V2.out
    obtain ⟨⟨c0, c1⟩, z0, z1⟩ := R2.out.two
    have hh := V2.out.lt
    have hgg := R2.out.lt
    go_wp2
    refine bodyPost_ret (v := .agg #[.int .i64 1, .string (toB a), .int .i64 0, .slice none 0 0]) (by simp [results, Tryd.results14, go_sem, a0, a1, a2, a3]) rfl ?_
    refine ⟨1, toB a, 0, b, r, rfl, Rr.set4 R2.out hne2 _ _ _ _, fr_set4 F2.out (Nat.le_refl _) _ _ _ _, ?_⟩
    rw [HD.out]
    obtain ⟨h1, h2⟩ | ⟨h1, h2⟩ := HC.out
    · rw [ED] at h2; exact .inl ⟨by rw [h2]; rfl, h1⟩
    · rw [ED] at h2; exact .inr ⟨by rw [h2]; rfl, h1⟩
  by_cases h45 : byteAt s 0 = 45
  · have hy := h45
    have HD := Lib.hid ((congrArg dec1 hc).trans (dec1_minus (ec.trans hy)))
    have e43 : ((byteAt s 0 : Int) == 43) = false := by rw [hy]; rfl
    have e45 : ((byteAt s 0 : Int) == 45) = true := by rw [hy]; rfl
    have NU := Lib.hid (number_rd w0 g _ _ hsr HS.out XS.out)
    clear hy hc ec h45
    go_enter Tryd.func14, Tryd.ntmps14
    go_wp2_with fail
    refine NU.out.mono ?_
    rintro e w1 ⟨n, r, b, rfl, hn, r1, f1, -, hcu⟩
    have F2 := Lib.hid (FS.out.trans f1)
    have R2 := Lib.hid r1
    have V2 := Lib.hid (VS.out.fr f1 (by simpa using hne))
    have X2 := Lib.hid (XS.out.go f1)
    have HC := Lib.hid hcu
    clear f1 r1 NU hcu
    clear c0 c1 z0 z1
    obtain ⟨a0, a1, a2, a3⟩ := four V2.out
    obtain ⟨b0, b1, b2, b3⟩ := fourF V2.out
    obtain ⟨⟨c0, c1⟩, z0, z1⟩ := R2.out.two
    have hh := V2.out.lt
    have hgg := R2.out.lt
    go_wp2
    refine bodyPost_ret (v := .agg #[.int .i64 2, .string ⟨#[]⟩, .int .i64 n, .slice none 0 0]) (by simp [results, Tryd.results14, go_sem, a0, a1, a2, a3]) rfl ?_
    refine ⟨2, ⟨#[]⟩, n, b, r, rfl, Rr.set4 R2.out hne2 _ _ _ _, fr_set4 F2.out (Nat.le_refl _) _ _ _ _, ?_⟩
    rw [HD.out]
    obtain ⟨h1, h2⟩ | ⟨h1, h2⟩ := HC.out
    · rw [ED] at h2; exact .inl ⟨by rw [h2]; rfl, h1⟩
    · rw [ED] at h2; exact .inr ⟨by rw [h2]; rfl, h1⟩
  by_cases h58 : byteAt s 0 = 58
  · have hy := h58
    have HD := Lib.hid ((congrArg dec1 hc).trans (dec1_colon (ec.trans hy)))
    have e43 : ((byteAt s 0 : Int) == 43) = false := by rw [hy]; rfl
    have e45 : ((byteAt s 0 : Int) == 45) = false := by rw [hy]; rfl
    have e58 : ((byteAt s 0 : Int) == 58) = true := by rw [hy]; rfl
    have NU := Lib.hid (number_rd w0 g _ _ hsr HS.out XS.out)
    clear hy hc ec h58
    go_enter Tryd.func14, Tryd.ntmps14
    go_wp2_with fail
    refine NU.out.mono ?_
    rintro e w1 ⟨n, r, b, rfl, hn, r1, f1, -, hcu⟩
    have F2 := Lib.hid (FS.out.trans f1)
    have R2 := Lib.hid r1
    have V2 := Lib.hid (VS.out.fr f1 (by simpa using hne))
    have X2 := Lib.hid (XS.out.go f1)
    have HC := Lib.hid hcu
    clear f1 r1 NU hcu
    clear c0 c1 z0 z1
    obtain ⟨a0, a1, a2, a3⟩ := four V2.out
    obtain ⟨b0, b1, b2, b3⟩ := fourF V2.out
    obtain ⟨⟨c0, c1⟩, z0, z1⟩ := R2.out.two
    have hh := V2.out.lt
    have hgg := R2.out.lt
    go_wp2
    refine bodyPost_ret (v := .agg #[.int .i64 3, .string ⟨#[]⟩, .int .i64 n, .slice none 0 0]) (by simp [results, Tryd.results14, go_sem, a0, a1, a2, a3]) rfl ?_
    refine ⟨3, ⟨#[]⟩, n, b, r, rfl, Rr.set4 R2.out hne2 _ _ _ _, fr_set4 F2.out (Nat.le_refl _) _ _ _ _, ?_⟩
    rw [HD.out]
    obtain ⟨h1, h2⟩ | ⟨h1, h2⟩ := HC.out
    · rw [ED] at h2; exact .inl ⟨by rw [h2]; rfl, h1⟩
    · rw [ED] at h2; exact .inr ⟨by rw [h2]; rfl, h1⟩
  by_cases h36 : byteAt s 0 = 36
  · have hy := h36
    have HD := Lib.hid ((congrArg dec1 hc).trans (dec1_dollar (ec.trans hy)))
    have e43 : ((byteAt s 0 : Int) == 43) = false := by rw [hy]; rfl
    have e45 : ((byteAt s 0 : Int) == 45) = false := by rw [hy]; rfl
    have e58 : ((byteAt s 0 : Int) == 58) = false := by rw [hy]; rfl
    have e36 : ((byteAt s 0 : Int) == 36) = true := by rw [hy]; rfl
    have NU := Lib.hid (number_rd w0 g _ _ hsr HS.out XS.out)
    clear hy hc ec h36
    go_enter Tryd.func14, Tryd.ntmps14
    go_wp2_with fail
    refine NU.out.mono ?_
    rintro e w1 ⟨n, r, b, rfl, hn, r1, f1, hrl, hcu⟩
    have F2 := Lib.hid (FS.out.trans f1)
    have R2 := Lib.hid r1
    have V2 := Lib.hid (VS.out.fr f1 (by simpa using hne))
    have X2 := Lib.hid (XS.out.go f1)
    have HC := Lib.hid hcu
    clear f1 r1 NU hcu
    by_cases h1 : n = -1
    · subst h1
      clear c0 c1 z0 z1
      obtain ⟨a0, a1, a2, a3⟩ := four V2.out
      obtain ⟨b0, b1, b2, b3⟩ := fourF V2.out
      obtain ⟨⟨c0, c1⟩, z0, z1⟩ := R2.out.two
      have hh := V2.out.lt
      have hgg := R2.out.lt
      go_wp2
      refine bodyPost_ret (v := .agg #[.int .i64 5, .string ⟨#[]⟩, .int .i64 0, .slice none 0 0]) (by simp [results, Tryd.results14, go_sem, a0, a1, a2, a3]) rfl ?_
      refine ⟨5, ⟨#[]⟩, 0, b, r, rfl, Rr.set4 R2.out hne2 _ _ _ _, fr_set4 F2.out (Nat.le_refl _) _ _ _ _, ?_⟩
      rw [HD.out]
      obtain ⟨h1, h2⟩ | ⟨h1, h2⟩ := HC.out
      · rw [ED] at h2; exact .inl ⟨by rw [h2]; rfl, h1⟩
      · rw [ED] at h2; exact .inr ⟨by rw [h2]; rfl, h1⟩
    · have qn : (n == -1) = false := beq_eq_false_iff_ne.2 h1
      have TX := Lib.hid (text_rd n b g (toB r) w1 hn (by rw [toB_size]; omega) R2.out)
      have H1 := Lib.hid h1
      clear h1
      clear c0 c1 z0 z1
      obtain ⟨a0, a1, a2, a3⟩ := four V2.out
      obtain ⟨b0, b1, b2, b3⟩ := fourF V2.out
      obtain ⟨⟨c0, c1⟩, z0, z1⟩ := R2.out.two
      have hh := V2.out.lt
      have hgg := R2.out.lt
      go_wp2_with fail
      refine TX.out.mono ?_
      rintro e w2 ⟨ta, r3, bz, rfl, r1, f1, hcu⟩
      have F3 := Lib.hid (F2.out.trans f1)
      have R3 := Lib.hid r1
      have V3 := Lib.hid (V2.out.fr f1 (by simpa using hne))
      have HC3 := Lib.hid hcu
      clear f1 r1 hcu TX a0 a1 a2 a3 b0 b1 b2 b3 hh hgg
      clear c0 c1 z0 z1
      obtain ⟨a0, a1, a2, a3⟩ := four V3.out
      obtain ⟨b0, b1, b2, b3⟩ := fourF V3.out
      obtain ⟨⟨c0, c1⟩, z0, z1⟩ := R3.out.two
      have hh := V3.out.lt
      have hgg := R3.out.lt
      go_wp2
      refine bodyPost_ret (v := .agg #[.int .i64 4, .string (toB ta), .int .i64 0, .slice none 0 0]) (by simp [results, Tryd.results14, go_sem, a0, a1, a2, a3]) rfl ?_
      refine ⟨4, toB ta, 0, bz, r3, rfl, Rr.set4 R3.out hne2 _ _ _ _, fr_set4 F3.out (Nat.le_refl _) _ _ _ _, ?_⟩
      rw [HD.out]
      obtain ⟨h1, h2⟩ | ⟨h1, h2⟩ := HC.out
      · rw [ED] at h2
        obtain ⟨h3, h4⟩ | ⟨h3, h4⟩ := HC3.out
        · rw [toB_list] at h3
          exact .inl ⟨by rw [h2]; show (if n = -1 then _ else _) = _; rw [if_neg H1.out, h3]; rfl, h4.trans h1⟩
        · rw [toB_list] at h3
          exact .inr ⟨by rw [h2]; show (if n = -1 then _ else _) = _; rw [if_neg H1.out, h3]; rfl, h4⟩
      · rw [ED] at h2
        refine .inr ⟨by rw [h2]; rfl, ?_⟩
        obtain ⟨h3, h4⟩ | ⟨h3, h4⟩ := HC3.out
        · exact h4.trans h1
        · exact h4
  have HD := Lib.hid (show dec1 s.data.toList = none from by rw [hc]; exact dec1_else (by omega) (by omega) (by omega) (by omega))
  by_cases h42 : byteAt s 0 = 42
  · have hne43 := hy
    clear hy
    have hy := h42
    have e43 : ((byteAt s 0 : Int) == 43) = false := by rw [hy]; rfl
    have e45 : ((byteAt s 0 : Int) == 45) = false := by rw [hy]; rfl
    have e58 : ((byteAt s 0 : Int) == 58) = false := by rw [hy]; rfl
    have e36 : ((byteAt s 0 : Int) == 36) = false := by rw [hy]; rfl
    have e42 : ((byteAt s 0 : Int) == 42) = true := by rw [hy]; rfl
    have NU := Lib.hid (list_no w0 g _ _ hsr HS.out XS.out)
    clear hy hc ec h42 h45 h58 h36 hne43
    go_enter Tryd.func14, Tryd.ntmps14
    go_wp2_with fail
    refine NU.out.mono ?_
    rintro e w1 ⟨⟨r, rfl, r1⟩, f1⟩
    have F2 := Lib.hid (FS.out.trans f1)
    have R2 := Lib.hid r1
    have V2 := Lib.hid (VS.out.fr f1 (by simpa using hne))
    have X2 := Lib.hid (XS.out.go f1)
    clear f1 r1 NU
    clear c0 c1 z0 z1
    obtain ⟨a0, a1, a2, a3⟩ := four V2.out
    obtain ⟨b0, b1, b2, b3⟩ := fourF V2.out
    obtain ⟨⟨c0, c1⟩, z0, z1⟩ := R2.out.two
    have hh := V2.out.lt
    have hgg := R2.out.lt
    go_wp2
    refine bodyPost_ret (v := .agg #[.int .i64 6, .string ⟨#[]⟩, .int .i64 0, .slice none 0 0]) (by simp [results, Tryd.results14, go_sem, a0, a1, a2, a3]) rfl ?_
    exact ⟨6, ⟨#[]⟩, 0, true, r, rfl, Rr.set4 R2.out hne2 _ _ _ _, fr_set4 F2.out (Nat.le_refl _) _ _ _ _, .inr ⟨HD.out, rfl⟩⟩
  · have hne43 := hy
    have e43 : ((byteAt s 0 : Int) == 43) = false := beq_eq_false_iff_ne.2 (by omega)
    have e45 : ((byteAt s 0 : Int) == 45) = false := beq_eq_false_iff_ne.2 (by omega)
    have e58 : ((byteAt s 0 : Int) == 58) = false := beq_eq_false_iff_ne.2 (by omega)
    have e36 : ((byteAt s 0 : Int) == 36) = false := beq_eq_false_iff_ne.2 (by omega)
    have e42 : ((byteAt s 0 : Int) == 42) = false := beq_eq_false_iff_ne.2 (by omega)
    obtain ⟨⟨d0, d1⟩, y0, y1⟩ := HS.out.two
    clear hc ec h42 h45 h58 h36 hne43 hy
    go_enter Tryd.func14, Tryd.ntmps14
    go_wp2
    refine bodyPost_ret (v := .agg #[.int .i64 0, .string ⟨#[]⟩, .int .i64 0, .slice none 0 0]) (by simp [results, Tryd.results14, go_sem]) rfl ?_
    refine ⟨0, ⟨#[]⟩, 0, true, rr, rfl, by rw [← ED, toB_of]; exact HE.out, ?_, .inr ⟨HD.out, rfl⟩⟩
    exact (((Fr.refl [g] w).setCell (p := ⟨g, 0, none⟩) (.inl (by simp)) _).gone _).alloc _
end Go.Proofs.YtoabjcnacnojbaaDoor
