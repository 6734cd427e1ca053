/- The walk of the reader of replies: a reply. -/
import Derived.Test.YtoabjcnacnojbaaDoorReH
set_option linter.unusedVariables false
set_option linter.unusedSimpArgs false
namespace Go.Proofs.YtoabjcnacnojbaaDoor
open Go.RowKit
attribute [local go_sem] byteAt_eq

def RepP (g : Nat) (s : ByteArray) (w : World) (e : Ending) (w' : World) : Prop :=
  (∃ (rp : Rep) (v : Value) (r : List UInt8), e = .returned v ∧ decL s.data.toList = some (rp, r) ∧ RepO w' w.heap.size v rp ∧ Rr g (toB r) false w' ∧ Fr [g] w w') ∨
  (∃ r k t n A m c, e = .returned (.agg #[.int .i64 k, .string t, .int .i64 n, .slice A m c]) ∧ decL s.data.toList = none ∧ Rr g (toB r) true w' ∧ Fr [g] w w')
theorem rep_of_one {g : Nat} {s : ByteArray} {w w' : World} {e : Ending} (hm : decL s.data.toList = (dec1 s.data.toList).map fun p => (p.1.rep, p.2)) (h : OneP g s w e w') : RepP g s w e w' := by
  obtain ⟨k, t, n, b, r, rfl, hR, hF, h⟩ := h
  obtain ⟨h1, rfl⟩ | ⟨h1, rfl⟩ := h
  · exact .inl ⟨⟨k, t, n, []⟩, _, r, rfl, by rw [hm, h1]; rfl, RepO.bare _ _ _ _ _, hR, hF⟩
  · exact .inr ⟨r, k, t, n, none, 0, 0, rfl, by rw [hm, h1]; rfl, hR, hF⟩
theorem decL_nil {l : List UInt8} (h : l.length = 0) : decL l = (dec1 l).map fun p => (p.1.rep, p.2) := by
  cases l with
  | nil => rfl
  | cons x l => simp at h
theorem decL_one {c : UInt8} {r : List UInt8} (h : c.toNat ≠ 42) : decL (c :: r) = (dec1 (c :: r)).map fun p => (p.1.rep, p.2) := if_neg h
theorem decL_list {c : UInt8} {r : List UInt8} (h : c.toNat = 42) : decL (c :: r) = decLL r := if_pos h
theorem decL_mk {l : List UInt8} {c : UInt8} {r : List UInt8} (e : l = c :: r) (h : c.toNat ≠ 42) : decL l = (dec1 l).map fun p => (p.1.rep, p.2) := by
  subst e; exact decL_one h
theorem RepO.set4 {w : World} {base o : Nat} {v : Value} {r : Rep} (h : RepO w base v r) (ho : o < base) (a b c d : Value) : RepO (set4 w o a b c d) base v r := by
  obtain ⟨h0, u, rfl, hw⟩ := h
  exact ⟨h0, _, rfl, own_set4 hw ho _ _ _ _⟩

set_option maxHeartbeats 4000000 in
set_option maxRecDepth 100000 in
theorem reply_rd (w0 : World) (g : Nat) (s : ByteArray) (w : World) (hs : s.size < 4294967281) (h : Rr g s false w) (hx : Ctx w0 g w) :
    Calls Tryd.prog 14 #[.pointer (some ⟨g, 0, none⟩), .bool true] w (RepP g s w) := by
  have hg := h.lt
  have hne : w.heap.size ≠ g := by omega
  have hne2 : g ≠ w.heap.size := by omega
  have A1 := (Fr.refl [] w).alloc (.cells #[.int .i64 0, .string ⟨#[]⟩, .int .i64 0, .slice none 0 0] 24)
  have V1 := Lib.hid (Whole.new w 24 zero4)
  obtain ⟨⟨c0, c1⟩, z0, z1⟩ := h.two
  obtain ⟨q0, q0'⟩ := emptyT s
  by_cases he : s.size = 0
  · rw [decide_eq_true he] at q0 q0'
    have HA := Lib.hid (show Rr g s true ((w.setCell ⟨g, 1, none⟩ (.bool true)).alloc (.cells #[.int .i64 0, .string ⟨#[]⟩, .int .i64 0, .slice none 0 0] 24)) from Whole.alloc (Rr.set1 h) _)
    have FA := Lib.hid (show Fr [g] w ((w.setCell ⟨g, 1, none⟩ (.bool true)).alloc (.cells #[.int .i64 0, .string ⟨#[]⟩, .int .i64 0, .slice none 0 0] 24)) from ((Fr.refl [g] w).gone _).alloc _)
    have HN := Lib.hid (show dec1 s.data.toList = none from dec1_nil (by simpa using he))
    have HM := Lib.hid (decL_nil (l := s.data.toList) (by simpa using he))
    clear h hx A1 he
    go_enter Tryd.func14, Tryd.ntmps14
    go_wp2
    refine bodyPost_ret (v := .agg #[.int .i64 0, .string ⟨#[]⟩, .int .i64 0, .slice none 0 0]) (by simp [results, Tryd.results14, go_sem]) rfl ?_
    refine rep_of_one HM.out ?_
    exact ⟨0, ⟨#[]⟩, 0, true, s.data.toList, rfl, by rw [toB_of]; exact HA.out, FA.out, .inr ⟨HN.out, rfl⟩⟩
  rw [decide_eq_false he] at q0 q0'
  obtain ⟨c, hc, ec⟩ := drop_byte s 0 (by omega)
  rw [List.drop_zero, Nat.zero_add] at hc
  have X1 := ext_end s 1 (by omega)
  obtain ⟨rr, hrr⟩ : ∃ rr, rr = s.data.toList.drop 1 := ⟨_, rfl⟩
  rw [← hrr] at hc X1
  have hlen : rr.length ≤ s.size := by rw [hrr]; simp
  clear hrr
  have hsr : (s.extract 1 s.size).size < 4294967281 := by rw [X1, toB_size]; omega
  have HS := Lib.hid (show Rr g (s.extract 1 s.size) false ((w.setCell ⟨g, 0, none⟩ (.string (s.extract 1 s.size))).alloc (.cells #[.int .i64 0, .string ⟨#[]⟩, .int .i64 0, .slice none 0 0] 24)) from Whole.alloc (Rr.set0 h) _)
  have FS : Fr [g] w ((w.setCell ⟨g, 0, none⟩ (.string (s.extract 1 s.size))).alloc (.cells #[.int .i64 0, .string ⟨#[]⟩, .int .i64 0, .slice none 0 0] 24)) := ((Fr.refl [g] w).setCell (p := ⟨g, 0, none⟩) (.inl (by simp)) _).alloc _
  have XS := Lib.hid (hx.go FS)
  have VS := Lib.hid (new_set w ⟨g, 0, none⟩ (.string (s.extract 1 s.size)) 24 zero4)
  have FS := Lib.hid FS
  have HE := Lib.hid (show Rr g (s.extract 1 s.size) true (((w.setCell ⟨g, 0, none⟩ (.string (s.extract 1 s.size))).setCell ⟨g, 1, none⟩ (.bool true)).alloc (.cells #[.int .i64 0, .string ⟨#[]⟩, .int .i64 0, .slice none 0 0] 24)) from Whole.alloc (Rr.set1 (Rr.set0 h)) _)
  have hss : 0 < s.size := by omega
  have ED : (s.extract 1 s.size).data.toList = rr := by rw [X1, toB_list]
  clear h hx A1 V1 X1
  by_cases hy : byteAt s 0 = 43
  · have HD := Lib.hid ((congrArg dec1 hc).trans (dec1_plus (ec.trans hy)))
    have e43 : ((byteAt s 0 : Int) == 43) = true := by rw [hy]; rfl
    have LA := Lib.hid (line_any g _ _ hsr HS.out XS.out.mx)
    have HM := Lib.hid (decL_mk hc (by omega))
    clear hy hc ec
    go_enter Tryd.func14, Tryd.ntmps14
    go_wp2_with fail
    refine LA.out.mono ?_
    rintro e w1 ⟨a, r, b, rfl, r1, f1, -, -, hcu⟩
    have F2 := Lib.hid (FS.out.trans f1)
    have R2 := Lib.hid r1
    have V2 := Lib.hid (VS.out.fr f1 (by simpa using hne))
    have X2 := Lib.hid (XS.out.go f1)
    have HC := Lib.hid hcu
    clear f1 r1 LA hcu
    clear c0 c1 z0 z1
    obtain ⟨a0, a1, a2, a3⟩ := four V2.out
    obtain ⟨b0, b1, b2, b3⟩ := fourF V2.out
    obtain ⟨⟨c0, c1⟩, z0, z1⟩ := R2.out.two
    have hh := V2.out.lt
    have hgg := R2.out.lt
    go_wp2
    refine bodyPost_ret (v := .agg #[.int .i64 1, .string (toB a), .int .i64 0, .slice none 0 0]) (by simp [results, Tryd.results14, go_sem, a0, a1, a2, a3]) rfl ?_
    refine rep_of_one HM.out ?_
    refine ⟨1, toB a, 0, b, r, rfl, Rr.set4 R2.out hne2 _ _ _ _, fr_set4 F2.out (Nat.le_refl _) _ _ _ _, ?_⟩
    rw [HD.out]
    obtain ⟨h1, h2⟩ | ⟨h1, h2⟩ := HC.out
    · rw [ED] at h2; exact .inl ⟨by rw [h2]; rfl, h1⟩
    · rw [ED] at h2; exact .inr ⟨by rw [h2]; rfl, h1⟩
  by_cases h45 : byteAt s 0 = 45
  · have hy := h45
    have HD := Lib.hid ((congrArg dec1 hc).trans (dec1_minus (ec.trans hy)))
    have e43 : ((byteAt s 0 : Int) == 43) = false := by rw [hy]; rfl
    have e45 : ((byteAt s 0 : Int) == 45) = true := by rw [hy]; rfl
    have NU := Lib.hid (number_rd w0 g _ _ hsr HS.out XS.out)
    have HM := Lib.hid (decL_mk hc (by omega))
    clear hy hc ec h45
    go_enter Tryd.func14, Tryd.ntmps14
    go_wp2_with fail
    refine NU.out.mono ?_
    rintro e w1 ⟨n, r, b, rfl, hn, r1, f1, -, hcu⟩
    have F2 := Lib.hid (FS.out.trans f1)
    have R2 := Lib.hid r1
    have V2 := Lib.hid (VS.out.fr f1 (by simpa using hne))
    have X2 := Lib.hid (XS.out.go f1)
    have HC := Lib.hid hcu
    clear f1 r1 NU hcu
    clear c0 c1 z0 z1
    obtain ⟨a0, a1, a2, a3⟩ := four V2.out
    obtain ⟨b0, b1, b2, b3⟩ := fourF V2.out
    obtain ⟨⟨c0, c1⟩, z0, z1⟩ := R2.out.two
    have hh := V2.out.lt
    have hgg := R2.out.lt
    go_wp2
    refine bodyPost_ret (v := .agg #[.int .i64 2, .string ⟨#[]⟩, .int .i64 n, .slice none 0 0]) (by simp [results, Tryd.results14, go_sem, a0, a1, a2, a3]) rfl ?_
    refine rep_of_one HM.out ?_
    refine ⟨2, ⟨#[]⟩, n, b, r, rfl, Rr.set4 R2.out hne2 _ _ _ _, fr_set4 F2.out (Nat.le_refl _) _ _ _ _, ?_⟩
    rw [HD.out]
    obtain ⟨h1, h2⟩ | ⟨h1, h2⟩ := HC.out
    · rw [ED] at h2; exact .inl ⟨by rw [h2]; rfl, h1⟩
    · rw [ED] at h2; exact .inr ⟨by rw [h2]; rfl, h1⟩
  by_cases h58 : byteAt s 0 = 58
  · have hy := h58
    have HD := Lib.hid ((congrArg dec1 hc).trans (dec1_colon (ec.trans hy)))
    have e43 : ((byteAt s 0 : Int) == 43) = false := by rw [hy]; rfl
    have e45 : ((byteAt s 0 : Int) == 45) = false := by rw [hy]; rfl
    have e58 : ((byteAt s 0 : Int) == 58) = true := by rw [hy]; rfl
    have NU := Lib.hid (number_rd w0 g _ _ hsr HS.out XS.out)
    have HM := Lib.hid (decL_mk hc (by omega))
    clear hy hc ec h58
    go_enter Tryd.func14, Tryd.ntmps14
    go_wp2_with fail
    refine NU.out.mono ?_
    rintro e w1 ⟨n, r, b, rfl, hn, r1, f1, -, hcu⟩
    have F2 := Lib.hid (FS.out.trans f1)
    have R2 := Lib.hid r1
    have V2 := Lib.hid (VS.out.fr f1 (by simpa using hne))
    have X2 := Lib.hid (XS.out.go f1)
    have HC := Lib.hid hcu
    clear f1 r1 NU hcu
    clear c0 c1 z0 z1
    obtain ⟨a0, a1, a2, a3⟩ := four V2.out
    obtain ⟨b0, b1, b2, b3⟩ := fourF V2.out
    obtain ⟨⟨c0, c1⟩, z0, z1⟩ := R2.out.two
    have hh := V2.out.lt
    have hgg := R2.out.lt
    go_wp2
    refine bodyPost_ret (v := .agg #[.int .i64 3, .string ⟨#[]⟩, .int .i64 n, .slice none 0 0]) (by simp [results, Tryd.results14, go_sem, a0, a1, a2, a3]) rfl ?_
    refine rep_of_one HM.out ?_
    refine ⟨3, ⟨#[]⟩, n, b, r, rfl, Rr.set4 R2.out hne2 _ _ _ _, fr_set4 F2.out (Nat.le_refl _) _ _ _ _, ?_⟩
    rw [HD.out]
    obtain ⟨h1, h2⟩ | ⟨h1, h2⟩ := HC.out
    · rw [ED] at h2; exact .inl ⟨by rw [h2]; rfl, h1⟩
    · rw [ED] at h2; exact .inr ⟨by rw [h2]; rfl, h1⟩
  by_cases h36 : byteAt s 0 = 36
  · have hy := h36
    have HD := Lib.hid ((congrArg dec1 hc).trans (dec1_dollar (ec.trans hy)))
    have e43 : ((byteAt s 0 : Int) == 43) = false := by rw [hy]; rfl
    have e45 : ((byteAt s 0 : Int) == 45) = false := by rw [hy]; rfl
    have e58 : ((byteAt s 0 : Int) == 58) = false := by rw [hy]; rfl
    have e36 : ((byteAt s 0 : Int) == 36) = true := by rw [hy]; rfl
    have NU := Lib.hid (number_rd w0 g _ _ hsr HS.out XS.out)
    have HM := Lib.hid (decL_mk hc (by omega))
    clear hy hc ec h36
    go_enter Tryd.func14, Tryd.ntmps14
    go_wp2_with fail
    refine NU.out.mono ?_
    rintro e w1 ⟨n, r, b, rfl, hn, r1, f1, hrl, hcu⟩
    have F2 := Lib.hid (FS.out.trans f1)
    have R2 := Lib.hid r1
    have V2 := Lib.hid (VS.out.fr f1 (by simpa using hne))
    have X2 := Lib.hid (XS.out.go f1)
    have HC := Lib.hid hcu
    clear f1 r1 NU hcu
    by_cases h1 : n = -1
    · subst h1
      clear c0 c1 z0 z1
      obtain ⟨a0, a1, a2, a3⟩ := four V2.out
      obtain ⟨b0, b1, b2, b3⟩ := fourF V2.out
      obtain ⟨⟨c0, c1⟩, z0, z1⟩ := R2.out.two
      have hh := V2.out.lt
      have hgg := R2.out.lt
      go_wp2
      refine bodyPost_ret (v := .agg #[.int .i64 5, .string ⟨#[]⟩, .int .i64 0, .slice none 0 0]) (by simp [results, Tryd.results14, go_sem, a0, a1, a2, a3]) rfl ?_
      refine rep_of_one HM.out ?_
      refine ⟨5, ⟨#[]⟩, 0, b, r, rfl, Rr.set4 R2.out hne2 _ _ _ _, fr_set4 F2.out (Nat.le_refl _) _ _ _ _, ?_⟩
      rw [HD.out]
      obtain ⟨h1, h2⟩ | ⟨h1, h2⟩ := HC.out
      · rw [ED] at h2; exact .inl ⟨by rw [h2]; rfl, h1⟩
      · rw [ED] at h2; exact .inr ⟨by rw [h2]; rfl, h1⟩
    · have qn : (n == -1) = false := beq_eq_false_iff_ne.2 h1
      have TX := Lib.hid (text_rd n b g (toB r) w1 hn (by rw [toB_size]; omega) R2.out)
      have H1 := Lib.hid h1
      clear h1
      clear c0 c1 z0 z1
      obtain ⟨a0, a1, a2, a3⟩ := four V2.out
      obtain ⟨b0, b1, b2, b3⟩ := fourF V2.out
      obtain ⟨⟨c0, c1⟩, z0, z1⟩ := R2.out.two
      have hh := V2.out.lt
      have hgg := R2.out.lt
      go_wp2_with fail
      refine TX.out.mono ?_
      rintro e w2 ⟨ta, r3, bz, rfl, r1, f1, hcu⟩
      have F3 := Lib.hid (F2.out.trans f1)
      have R3 := Lib.hid r1
      have V3 := Lib.hid (V2.out.fr f1 (by simpa using hne))
      have HC3 := Lib.hid hcu
      clear f1 r1 hcu TX a0 a1 a2 a3 b0 b1 b2 b3 hh hgg
      clear c0 c1 z0 z1
      obtain ⟨a0, a1, a2, a3⟩ := four V3.out
      obtain ⟨b0, b1, b2, b3⟩ := fourF V3.out
      obtain ⟨⟨c0, c1⟩, z0, z1⟩ := R3.out.two
      have hh := V3.out.lt
      have hgg := R3.out.lt
      go_wp2
      refine bodyPost_ret (v := .agg #[.int .i64 4, .string (toB ta), .int .i64 0, .slice none 0 0]) (by simp [results, Tryd.results14, go_sem, a0, a1, a2, a3]) rfl ?_
      refine rep_of_one HM.out ?_
      refine ⟨4, toB ta, 0, bz, r3, rfl, Rr.set4 R3.out hne2 _ _ _ _, fr_set4 F3.out (Nat.le_refl _) _ _ _ _, ?_⟩
      rw [HD.out]
      obtain ⟨h1, h2⟩ | ⟨h1, h2⟩ := HC.out
      · rw [ED] at h2
        obtain ⟨h3, h4⟩ | ⟨h3, h4⟩ := HC3.out
        · rw [toB_list] at h3
          exact .inl ⟨by rw [h2]; show (if n = -1 then _ else _) = _; rw [if_neg H1.out, h3]; rfl, h4.trans h1⟩
        · rw [toB_list] at h3
          exact .inr ⟨by rw [h2]; show (if n = -1 then _ else _) = _; rw [if_neg H1.out, h3]; rfl, h4⟩
      · rw [ED] at h2
        refine .inr ⟨by rw [h2]; rfl, ?_⟩
        obtain ⟨h3, h4⟩ | ⟨h3, h4⟩ := HC3.out
        · exact h4.trans h1
        · exact h4
  have HD := Lib.hid (show dec1 s.data.toList = none from by rw [hc]; exact dec1_else (by omega) (by omega) (by omega) (by omega))
  by_cases h42 : byteAt s 0 = 42
  · have hne43 := hy
    clear hy
    have hy := h42
    have HDL := Lib.hid ((congrArg decL hc).trans (decL_list (ec.trans hy)))
    have e43 : ((byteAt s 0 : Int) == 43) = false := by rw [hy]; rfl
    have e45 : ((byteAt s 0 : Int) == 45) = false := by rw [hy]; rfl
    have e58 : ((byteAt s 0 : Int) == 58) = false := by rw [hy]; rfl
    have e36 : ((byteAt s 0 : Int) == 36) = false := by rw [hy]; rfl
    have e42 : ((byteAt s 0 : Int) == 42) = true := by rw [hy]; rfl
    have NU := Lib.hid (list_yes w0 g _ _ hsr HS.out XS.out)
    clear hy hc ec h42 h45 h58 h36 hne43 HD
    go_enter Tryd.func14, Tryd.ntmps14
    go_wp2_with fail
    refine NU.out.mono ?_
    rintro e w1 (⟨rp, v, r, rfl, hdl, hv, r1, f1⟩ | ⟨r, A, m, cc, rfl, hdl, r1, f1⟩)
    · have F2 := Lib.hid (FS.out.trans f1)
      have R2 := Lib.hid r1
      have V2 := Lib.hid (VS.out.fr f1 (by simpa using hne))
      have X2 := Lib.hid (XS.out.go f1)
      have HDD := Lib.hid hdl
      have HV := Lib.hid (show RepO w1 (w.heap.size + 1) v rp from by have := hv; rwa [show ((w.setCell ⟨g, 0, none⟩ (.string (s.extract 1 s.size))).alloc (.cells #[.int .i64 0, .string ⟨#[]⟩, .int .i64 0, .slice none 0 0] 24)).heap.size = w.heap.size + 1 from by simp [World.setCell]] at this)
      obtain ⟨A, cc, rfl⟩ := hv.form
      clear f1 r1 NU hdl hv
      clear c0 c1 z0 z1
      obtain ⟨a0, a1, a2, a3⟩ := four V2.out
      obtain ⟨b0, b1, b2, b3⟩ := fourF V2.out
      obtain ⟨⟨c0, c1⟩, z0, z1⟩ := R2.out.two
      have hh := V2.out.lt
      have hgg := R2.out.lt
      go_wp2
      refine bodyPost_ret (v := .agg #[.int .i64 rp.kind, .string rp.text, .int .i64 rp.n, .slice A rp.list.length cc]) (by simp [results, Tryd.results14, go_sem, a0, a1, a2, a3]) rfl ?_
      exact .inl ⟨rp, _, r, rfl, by rw [HDL.out, ← ED]; exact HDD.out, (HV.out.set4 (Nat.lt_succ_self _) _ _ _ _).base (Nat.le_succ _), Rr.set4 R2.out hne2 _ _ _ _, fr_set4 F2.out (Nat.le_refl _) _ _ _ _⟩
    · have F2 := Lib.hid (FS.out.trans f1)
      have R2 := Lib.hid r1
      have V2 := Lib.hid (VS.out.fr f1 (by simpa using hne))
      have X2 := Lib.hid (XS.out.go f1)
      have HDD := Lib.hid hdl
      clear f1 r1 NU hdl
      clear c0 c1 z0 z1
      obtain ⟨a0, a1, a2, a3⟩ := four V2.out
      obtain ⟨b0, b1, b2, b3⟩ := fourF V2.out
      obtain ⟨⟨c0, c1⟩, z0, z1⟩ := R2.out.two
      have hh := V2.out.lt
      have hgg := R2.out.lt
      go_wp2
      refine bodyPost_ret (v := .agg #[.int .i64 6, .string ⟨#[]⟩, .int .i64 0, .slice A m cc]) (by simp [results, Tryd.results14, go_sem, a0, a1, a2, a3]) rfl ?_
      exact .inr ⟨r, 6, ⟨#[]⟩, 0, A, m, cc, rfl, by rw [HDL.out, ← ED]; exact HDD.out, Rr.set4 R2.out hne2 _ _ _ _, fr_set4 F2.out (Nat.le_refl _) _ _ _ _⟩
  · have hne43 := hy
    have e43 : ((byteAt s 0 : Int) == 43) = false := beq_eq_false_iff_ne.2 (by omega)
    have e45 : ((byteAt s 0 : Int) == 45) = false := beq_eq_false_iff_ne.2 (by omega)
    have e58 : ((byteAt s 0 : Int) == 58) = false := beq_eq_false_iff_ne.2 (by omega)
    have e36 : ((byteAt s 0 : Int) == 36) = false := beq_eq_false_iff_ne.2 (by omega)
    have e42 : ((byteAt s 0 : Int) == 42) = false := beq_eq_false_iff_ne.2 (by omega)
    obtain ⟨⟨d0, d1⟩, y0, y1⟩ := HS.out.two
    have HM := Lib.hid (decL_mk hc (by omega))
    clear hc ec h42 h45 h58 h36 hne43 hy
    go_enter Tryd.func14, Tryd.ntmps14
    go_wp2
    refine bodyPost_ret (v := .agg #[.int .i64 0, .string ⟨#[]⟩, .int .i64 0, .slice none 0 0]) (by simp [results, Tryd.results14, go_sem]) rfl ?_
    refine rep_of_one HM.out ?_
    refine ⟨0, ⟨#[]⟩, 0, true, rr, rfl, by rw [← ED, toB_of]; exact HE.out, ?_, .inr ⟨HD.out, rfl⟩⟩
    exact (((Fr.refl [g] w).setCell (p := ⟨g, 0, none⟩) (.inl (by simp)) _).gone _).alloc _
end Go.Proofs.YtoabjcnacnojbaaDoor
