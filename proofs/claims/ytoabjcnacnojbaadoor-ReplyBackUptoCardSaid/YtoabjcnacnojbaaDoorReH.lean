/- The walk of the reader of replies: a list. -/
import Derived.Test.YtoabjcnacnojbaaDoorReG
set_option linter.unusedVariables false
set_option linter.unusedSimpArgs false
namespace Go.Proofs.YtoabjcnacnojbaaDoor
open Go.RowKit

theorem numC_some {l r : List UInt8} {n : Int} (h : numC l = some (n, r)) : isInt n = true ∧ r.length ≤ l.length := by
  obtain ⟨p, hp, h⟩ := Option.bind_eq_some_iff.1 h
  obtain ⟨m, hm, e⟩ := Option.map_eq_some_iff.1 h
  cases e
  have := cut_size (a := p.1) (b := p.2) hp
  exact ⟨(intL_iff.1 hm).1, by omega⟩
theorem textC_len {n : Int} {l a r : List UInt8} (h : textC n l = some (a, r)) : r.length ≤ l.length := by
  unfold textC at h
  split at h
  · cases h
  · split at h
    · cases h; simp
    · cases h
theorem dec1_len {l m : List UInt8} {x : Rp1} (h : dec1 l = some (x, m)) : m.length ≤ l.length ∧ x.sub = 0 := by
  cases l with
  | nil => cases h
  | cons c r =>
    by_cases h1 : c.toNat = 43
    · rw [dec1_plus h1] at h
      obtain ⟨p, hp, e⟩ := Option.map_eq_some_iff.1 h
      cases e
      have := cut_size (a := p.1) (b := p.2) hp
      exact ⟨by simp; omega, rfl⟩
    · by_cases h2 : c.toNat = 45
      · rw [dec1_minus h2] at h
        obtain ⟨p, hp, e⟩ := Option.map_eq_some_iff.1 h
        cases e
        have := (numC_some (n := p.1) (r := p.2) hp).2
        exact ⟨by simp; omega, rfl⟩
      · by_cases h3 : c.toNat = 58
        · rw [dec1_colon h3] at h
          obtain ⟨p, hp, e⟩ := Option.map_eq_some_iff.1 h
          cases e
          have := (numC_some (n := p.1) (r := p.2) hp).2
          exact ⟨by simp; omega, rfl⟩
        · by_cases h4 : c.toNat = 36
          · rw [dec1_dollar h4] at h
            obtain ⟨p, hp, e⟩ := Option.bind_eq_some_iff.1 h
            have := (numC_some (n := p.1) (r := p.2) hp).2
            by_cases h5 : p.1 = -1
            · rw [if_pos h5] at e
              cases e
              exact ⟨by simp; omega, rfl⟩
            · rw [if_neg h5] at e
              obtain ⟨q, hq, e⟩ := Option.map_eq_some_iff.1 e
              cases e
              have := textC_len (a := q.1) (r := q.2) hq
              exact ⟨by simp; omega, rfl⟩
          · rw [dec1_else h1 h2 h3 h4] at h; cases h
theorem decLL_num (l : List UInt8) : decLL l = (numC l).bind fun p => decI p.2 p.1 := by
  unfold decLL numC
  rcases cutC l with _ | p
  · rfl
  · rw [Option.bind_some, Option.bind_some]
    rcases intL p.1 with _ | n <;> rfl
theorem decN_step (k : Nat) (l : List UInt8) (acc : List Rp1) : decN (k + 1) l acc = (dec1 l).bind fun p => decN k p.2 (acc ++ [p.1]) := rfl
def ListP (g : Nat) (s : ByteArray) (w : World) (e : Ending) (w' : World) : Prop :=
  (∃ (rp : Rep) (v : Value) (r : List UInt8), e = .returned v ∧ decLL s.data.toList = some (rp, r) ∧ RepO w' w.heap.size v rp ∧ Rr g (toB r) false w' ∧ Fr [g] w w') ∨
  (∃ r A m c, e = .returned (.agg #[.int .i64 6, .string ⟨#[]⟩, .int .i64 0, .slice A m c]) ∧ decLL s.data.toList = none ∧ Rr g (toB r) true w' ∧ Fr [g] w w')
theorem own_laterR {w : World} {base e size n : Nat} {v : Value} {xs : List Value} (h : w.ownsRow base e size v n xs) {p : Addr} (hp : p.block < base) (u : Value) : (w.setCell p u).ownsRow base e size v n xs :=
  own_set u h (fun he => by have := (h.lt _ he).1; omega)
theorem own_set4 {w : World} {base e size n o : Nat} {v : Value} {xs : List Value} (h : w.ownsRow base e size v n xs) (ho : o < base) (a b c d : Value) : (set4 w o a b c d).ownsRow base e size v n xs :=
  own_laterR (own_laterR (own_laterR (own_laterR h ho _) ho _) ho _) ho _
theorem rpCells_snoc (l : List Rp1) (x : Rp1) : rpCells (l ++ [x]) = rpCells l ++ rp4 x none 0 := by simp [rpCells]
theorem rp4_one (k n : Int) (t : ByteArray) : ∀ u ∈ [Value.int .i64 k, .string t, .int .i64 n, .slice none 0 0], u.oneCell' = true := by
  intro u hu
  simp at hu
  rcases hu with rfl | rfl | rfl | rfl <;> rfl

set_option maxHeartbeats 4000000 in
set_option maxRecDepth 100000 in
theorem list_yes (w0 : World) (g : Nat) (s : ByteArray) (w : World) (hs : s.size < 4294967281) (h : Rr g s false w) (hx : Ctx w0 g w) :
    Calls Tryd.prog 26 #[.pointer (some ⟨g, 0, none⟩), .bool true] w (ListP g s w) := by
  have hg := h.lt
  have hne : w.heap.size ≠ g := by omega
  have A1 := (Fr.refl [] w).alloc (.cells #[.int .i64 0, .string ⟨#[]⟩, .int .i64 0, .slice none 0 0] 24)
  have NU := Lib.hid (number_rd w0 g s _ hs (h.fr A1) (hx.same A1))
  have V1 := Lib.hid (Whole.new w 24 zero4)
  have FA := Lib.hid A1
  have HX := Lib.hid hx
  have HD := Lib.hid (decLL_num s.data.toList)
  obtain ⟨i0, hi, hz0, hz1, hz2⟩ := info_parts replyInfo
  clear h hx A1
  go_enter Tryd.func26, Tryd.ntmps26
  go_wp2_with fail
  refine NU.out.mono ?_
  rintro e w1 ⟨n, r, b, rfl, hn, r1, f1, lr, hc⟩
  have F1 := Lib.hid (FA.out.up.trans f1)
  have R1 := Lib.hid r1
  have V2 := Lib.hid (V1.out.fr f1 (by simpa using hne))
  have hsz := f1.size
  have hg1 := r1.lt
  have hh1 := V2.out.lt
  obtain ⟨⟨c0, c1⟩, z0, z1⟩ := R1.out.two
  obtain ⟨a0, a1, a2, a3⟩ := four V2.out
  obtain ⟨b0, b1, b2, b3⟩ := fourF V2.out
  have hne1 : ¬ w.heap.size = g := hne
  have hne2 : ¬ g = w.heap.size := fun e => hne e.symm
  have hhn : w.heap.size < w1.heap.size := hh1
  have HC := Lib.hid hc
  clear f1 r1 NU V1 hc
  by_cases hbad : b = true ∨ n < 0
  · have HN := Lib.hid (show decLL s.data.toList = none from by
      rw [HD.out]
      obtain ⟨h1, h2⟩ | ⟨h1, h2⟩ := HC.out
      · rw [h2]
        obtain h | h := hbad
        · rw [h1] at h; cases h
        · exact if_pos h
      · rw [h2]; rfl)
    clear HC HD
    have hcase : (b = true ∧ n > 0) ∨ (b = true ∧ ¬ n > 0) ∨ (b = false ∧ n < 0 ∧ ¬ n > 0) := by
      cases b
      · obtain h | h := hbad
        · cases h
        · exact .inr (.inr ⟨rfl, h, by omega⟩)
      · by_cases h : n > 0
        · exact .inl ⟨rfl, h⟩
        · exact .inr (.inl ⟨rfl, h⟩)
    clear hbad
    rcases hcase with ⟨rfl, hp⟩ | ⟨rfl, hp⟩ | ⟨rfl, hm, hp⟩
    · go_wp2
      go_loopg [5] 0 (fun x s5 wr => x = 0 ∧ s5 = .int .i64 n ∧ Rr g (toB r) true wr ∧ Whole wr w.heap.size 24 zero4 ∧ Whole wr w1.heap.size 24 [.int .i64 6, .string ⟨#[]⟩, .int .i64 0, .slice none 0 0] ∧ Fr [g] w wr)
      case atStart => exact ⟨rfl, rfl, Whole.alloc (Rr.set1 (b' := true) R1.out) _, Whole.alloc (Whole.far V2.out (p := ⟨g, 1, none⟩) hne _) _, new_set _ _ _ _ _, (F1.out.gone _).alloc _⟩
      case round =>
        obtain ⟨rfl, rfl, hR, hV, hO, hF⟩ := hrel
        have RR := Lib.hid hR
        have VV := Lib.hid hV
        have OO := Lib.hid hO
        have FF := Lib.hid hF
        clear c0 c1 z0 z1 a0 a1 a2 a3 b0 b1 b2 b3 hR hV hO hF
        obtain ⟨⟨c0, c1⟩, z0, z1⟩ := RR.out.two
        obtain ⟨a0, a1, a2, a3⟩ := four VV.out
        obtain ⟨b0, b1, b2, b3⟩ := fourF VV.out
        obtain ⟨o0, o1, o2, o3⟩ := four OO.out
        go_wp2
        refine bodyPost_ret (v := .agg #[.int .i64 6, .string ⟨#[]⟩, .int .i64 0, .slice none 0 0]) (by simp [results, Tryd.results26, go_sem, a0, a1, a2, a3]) rfl ?_
        exact .inr ⟨r, _, _, _, rfl, HN.out, Rr.set4 RR.out (fun e => hne e.symm) _ _ _ _, fr_set4 FF.out (Nat.le_refl _) _ _ _ _⟩
    · go_wp2
      go_loopg [5] 0 (fun x s5 wr => x = 0 ∧ s5 = .int .i64 n ∧ Rr g (toB r) true wr ∧ Whole wr w.heap.size 24 zero4 ∧ Whole wr w1.heap.size 24 [.int .i64 6, .string ⟨#[]⟩, .int .i64 0, .slice none 0 0] ∧ Fr [g] w wr)
      case atStart => exact ⟨rfl, rfl, Whole.alloc (Rr.set1 (b' := true) R1.out) _, Whole.alloc (Whole.far V2.out (p := ⟨g, 1, none⟩) hne _) _, new_set _ _ _ _ _, (F1.out.gone _).alloc _⟩
      case round =>
        obtain ⟨rfl, rfl, hR, hV, hO, hF⟩ := hrel
        have RR := Lib.hid hR
        have VV := Lib.hid hV
        have OO := Lib.hid hO
        have FF := Lib.hid hF
        clear c0 c1 z0 z1 a0 a1 a2 a3 b0 b1 b2 b3 hR hV hO hF
        obtain ⟨⟨c0, c1⟩, z0, z1⟩ := RR.out.two
        obtain ⟨a0, a1, a2, a3⟩ := four VV.out
        obtain ⟨b0, b1, b2, b3⟩ := fourF VV.out
        obtain ⟨o0, o1, o2, o3⟩ := four OO.out
        go_wp2
        refine bodyPost_ret (v := .agg #[.int .i64 6, .string ⟨#[]⟩, .int .i64 0, .slice none 0 0]) (by simp [results, Tryd.results26, go_sem, a0, a1, a2, a3]) rfl ?_
        exact .inr ⟨r, _, _, _, rfl, HN.out, Rr.set4 RR.out (fun e => hne e.symm) _ _ _ _, fr_set4 FF.out (Nat.le_refl _) _ _ _ _⟩
    · go_wp2
      go_loopg [5] 0 (fun x s5 wr => x = 0 ∧ s5 = .int .i64 n ∧ Rr g (toB r) true wr ∧ Whole wr w.heap.size 24 zero4 ∧ Whole wr w1.heap.size 24 [.int .i64 6, .string ⟨#[]⟩, .int .i64 0, .slice none 0 0] ∧ Fr [g] w wr)
      case atStart => exact ⟨rfl, rfl, Whole.alloc (Rr.set1 (b' := true) R1.out) _, Whole.alloc (Whole.far V2.out (p := ⟨g, 1, none⟩) hne _) _, new_set _ _ _ _ _, (F1.out.gone _).alloc _⟩
      case round =>
        obtain ⟨rfl, rfl, hR, hV, hO, hF⟩ := hrel
        have RR := Lib.hid hR
        have VV := Lib.hid hV
        have OO := Lib.hid hO
        have FF := Lib.hid hF
        clear c0 c1 z0 z1 a0 a1 a2 a3 b0 b1 b2 b3 hR hV hO hF
        obtain ⟨⟨c0, c1⟩, z0, z1⟩ := RR.out.two
        obtain ⟨a0, a1, a2, a3⟩ := four VV.out
        obtain ⟨b0, b1, b2, b3⟩ := fourF VV.out
        obtain ⟨o0, o1, o2, o3⟩ := four OO.out
        go_wp2
        refine bodyPost_ret (v := .agg #[.int .i64 6, .string ⟨#[]⟩, .int .i64 0, .slice none 0 0]) (by simp [results, Tryd.results26, go_sem, a0, a1, a2, a3]) rfl ?_
        exact .inr ⟨r, _, _, _, rfl, HN.out, Rr.set4 RR.out (fun e => hne e.symm) _ _ _ _, fr_set4 FF.out (Nat.le_refl _) _ _ _ _⟩
  · have hb : b = false := by cases b; rfl; exact absurd (.inl rfl) hbad
    subst hb
    obtain ⟨N, rfl⟩ : ∃ N : Nat, n = N := ⟨n.toNat, by omega⟩
    have hnum : numC s.data.toList = some ((N : Int), r) := by
      obtain ⟨_, h2⟩ | ⟨h1, _⟩ := HC.out
      · exact h2
      · cases h1
    have hNi : isInt (N : Int) = true := (numC_some hnum).1
    have hN : N ≤ 999999999 := by
      unfold isInt at hNi
      simp at hNi
      omega
    have HD2 := Lib.hid (show decLL s.data.toList = (decN N r []).map (fun q => ((⟨6, ⟨#[]⟩, 0, q.1⟩ : Rep), q.2)) from by
      rw [HD.out, hnum]
      show decI r N = _
      unfold decI
      rw [if_neg (by omega), Int.toNat_natCast])
    have hlt0 : ¬ (N : Int) < 0 := by omega
    clear HC HD hnum hNi hbad
    generalize hDD : decN N r [] = D at *
    have H0 := Lib.hid hDD
    clear hDD
    go_wp2
    go_loopg [5] N (fun x s5 wr => ∃ (j : Nat) (b : Bool) (rr : List UInt8) (acc : List Rp1) (Ao : Option Addr) (co : Nat), x = N - j ∧ j ≤ N ∧ s5 = .int .i64 ((N - j : Nat) : Int) ∧ Rr g (toB rr) b wr ∧ Whole wr w.heap.size 24 zero4 ∧ Whole wr w1.heap.size 24 [.int .i64 6, .string ⟨#[]⟩, .int .i64 0, .slice Ao acc.length co] ∧ wr.ownsRow (w1.heap.size + 1) 24 4 (.slice Ao acc.length co) acc.length (rpCells acc) ∧ Fr [g] w wr ∧ acc.length = j ∧ (∀ x ∈ acc, x.sub = 0) ∧ Hid ((b = false ∧ rr.length ≤ s.size ∧ D = decN (N - j) rr acc) ∨ (b = true ∧ D = none)))
    case atStart =>
      refine ⟨0, false, r, [], none, 0, rfl, Nat.zero_le _, by simp, ?_, ?_, ?_, World.ownsRow_nil _ _ _ _, ?_, rfl, by simp, Lib.hid (.inl ⟨rfl, lr, H0.out.symm⟩)⟩
      · exact Whole.alloc (Rr.set1 (b' := false) R1.out) _
      · exact Whole.alloc (Whole.far V2.out (p := ⟨g, 1, none⟩) hne _) _
      · exact new_set _ _ _ _ _
      · exact (F1.out.gone _).alloc _
    case round =>
      obtain ⟨j, b, rr, acc, Ao, co, rfl, hj, rfl, hR, hV, hO, hW, hF, hacc, hsub, HE⟩ := hrel
      have RR := Lib.hid hR
      have VV := Lib.hid hV
      have OO := Lib.hid hO
      have OW := Lib.hid hW
      have FF := Lib.hid hF
      have HSB := Lib.hid hsub
      have hzr := OO.out.lt
      have HAC := Lib.hid hacc
      clear c0 c1 z0 z1 a0 a1 a2 a3 b0 b1 b2 b3 hR hV hO hW hF hsub hacc
      obtain ⟨⟨c0, c1⟩, z0, z1⟩ := RR.out.two
      obtain ⟨a0, a1, a2, a3⟩ := four VV.out
      obtain ⟨b0, b1, b2, b3⟩ := fourF VV.out
      obtain ⟨o0, o1, o2, o3⟩ := four OO.out
      obtain ⟨p0, p1, p2, p3⟩ := fourF OO.out
      cases b
      · have HEE := Lib.hid (show rr.length ≤ s.size ∧ D = decN (N - j) rr acc from by
          obtain ⟨_, h⟩ | ⟨h, _⟩ := HE.out
          · exact h
          · cases h)
        have hrl := HEE.out.1
        clear HE
        by_cases hlt : j < N
        · have q1 : ((N - j : Nat) : Int) > 0 := by omega
          have NU := Lib.hid (one_rd w0 g (toB rr) wr (by rw [toB_size]; omega) RR.out (HX.out.go FF.out))
          have hjN : N - j = (N - (j + 1)) + 1 := by omega
          have EDN := Lib.hid (show D = (dec1 rr).bind fun p => decN (N - (j + 1)) p.2 (acc ++ [p.1]) from by rw [HEE.out.2, hjN, decN_step])
          have hw5 : IntKind.i64.wrap (((N - j : Nat) : Int) - 1) = ((N - (j + 1) : Nat) : Int) := by rw [IntKind.wrap_i64]; omega
          clear HEE hjN
          go_wp2_with fail
          refine NU.out.mono ?_
          rintro e w2 ⟨k, tx, m, bz, r2, rfl, r1, f1, hc⟩
          have R2 := Lib.hid r1
          have F2 := Lib.hid (FF.out.trans f1)
          have V3 := Lib.hid (VV.out.fr f1 (by simpa using hne))
          have O3 := Lib.hid (OO.out.fr f1 (by simp; omega))
          have WO := Lib.hid (own_fr OW.out f1 (fun x hx => by have := (OW.out.lt x hx).1; simp; omega))
          have HC2 := Lib.hid hc
          have hsw := f1.size
          have hl3 := O3.out.lt
          have hl4 := R2.out.lt
          have hl5 := V3.out.lt
          clear r1 f1 hc NU
          clear c0 c1 z0 z1 a0 a1 a2 a3 b0 b1 b2 b3 o0 o1 o2 o3 p0 p1 p2 p3
          obtain ⟨o0, o1, o2, o3⟩ := four O3.out
          obtain ⟨p0, p1, p2, p3⟩ := fourF O3.out
          have hlo := HAC.out
          have hO0 := own_sl (World.ownsRow_lit (base := (w2.alloc (.cells #[.int .i64 k, .string tx, .int .i64 m, .slice none 0 0] 24)).heap.size) (e := 24) (size := 4) (w2.alloc (.cells #[.int .i64 k, .string tx, .int .i64 m, .slice none 0 0] 24)) #[.int .i64 k, .string tx, .int .i64 m, .slice none 0 0] 1 (Nat.le_refl _) (by decide) rfl)
          rw [show (w2.alloc (.cells #[.int .i64 k, .string tx, .int .i64 m, .slice none 0 0] 24)).heap.size = w2.heap.size + 1 from by simp] at hO0
          have hO1 := Lib.hid hO0
          clear hO0
          have WA := Lib.hid (WO.out.alloc (.cells #[.int .i64 k, .string tx, .int .i64 m, .slice none 0 0] 24))
          have R3 := Lib.hid (show Rr g (toB r2) bz (w2.alloc (.cells #[.int .i64 k, .string tx, .int .i64 m, .slice none 0 0] 24)) from Whole.alloc R2.out _)
          have V4 := Lib.hid (V3.out.alloc (.cells #[.int .i64 k, .string tx, .int .i64 m, .slice none 0 0] 24))
          have O4 := Lib.hid (O3.out.alloc (.cells #[.int .i64 k, .string tx, .int .i64 m, .slice none 0 0] 24))
          have F3 := Lib.hid (F2.out.alloc (.cells #[.int .i64 k, .string tx, .int .i64 m, .slice none 0 0] 24))
          clear hlo
          have hal : acc.length ≤ 999999999 := by have := HAC.out; omega
          go_wp2_with (at_builtin; refine wpList_append_sl _ rfl _ _ 22 rfl (w1.heap.size + 1) 24 i0 _ 4 56 Tryd.underlying22 hi hz0 hz1 hz2 rfl (by decide) _ _ _ rfl (WA.out.alloc _) _ _ 1 _ rfl hO1.out (rp4_one k m tx) ?c1 ?c2 ?c3 ?_)
          case c1 => unfold maxLen; omega
          case c2 => omega
          case c3 => first | omega | (simp; omega)
          intro v' w5 hown hgrow hat5
          have nb : ∀ x, x < w1.heap.size + 1 → x ∉ ownL (.slice Ao acc.length co) := fun x hx hm => by have := ownL_base WO.out hm; omega
          have ff := fr_ownL hgrow
          have R5 := Lib.hid (show Rr g (toB r2) bz w5 from Whole.fr (Whole.alloc R3.out _) ff (nb g (by omega)))
          have V5 := Lib.hid (Whole.fr (Whole.alloc V4.out _) ff (nb _ (by omega)))
          have O5 := Lib.hid (Whole.fr (Whole.alloc O4.out _) ff (nb _ (by omega)))
          have F5 := Lib.hid ((F3.out.alloc (.cells #[.int .i64 k, .string tx, .int .i64 m, .slice none 0 0] 24)).grown hgrow (fun j hj => .inr (by have := (WO.out.lt j hj).1; omega)))
          have WO5 := Lib.hid (show w5.ownsRow (w1.heap.size + 1) 24 4 v' (acc ++ [(⟨k, tx, m, 0⟩ : Rp1)]).length (rpCells (acc ++ [(⟨k, tx, m, 0⟩ : Rp1)])) from by
            rw [rpCells_snoc, List.length_append]
            exact hown)
          clear hown hgrow hat5 nb ff o0 o1 o2 o3 p0 p1 p2 p3
          obtain ⟨A5, c5, rfl, -⟩ := own_slice WO5.out
          obtain ⟨o0, o1, o2, o3⟩ := four O5.out
          obtain ⟨p0, p1, p2, p3⟩ := fourF O5.out
          have SB5 := Lib.hid (show ∀ x ∈ acc ++ [(⟨k, tx, m, 0⟩ : Rp1)], x.sub = 0 from fun x hx => by
            rcases List.mem_append.1 hx with hx | hx
            · exact HSB.out x hx
            · simp at hx; rw [hx])
          have HD5 := Lib.hid (show (bz = false ∧ r2.length ≤ s.size ∧ D = decN (N - (j + 1)) r2 (acc ++ [⟨k, tx, m, 0⟩])) ∨ (bz = true ∧ D = none) from by
            have hc := HC2.out
            rw [toB_list] at hc
            obtain ⟨h1, h2⟩ | ⟨h1, h2⟩ := hc
            · have := (dec1_len h1).1
              exact .inl ⟨h2, by omega, by rw [EDN.out, h1]; rfl⟩
            · exact .inr ⟨h2, by rw [EDN.out, h1]; rfl⟩)
          have HL5 := Lib.hid (show (acc ++ [(⟨k, tx, m, 0⟩ : Rp1)]).length = j + 1 from by rw [List.length_append, HAC.out]; rfl)
          clear EDN HC2 HD2
          generalize acc ++ [(⟨k, tx, m, 0⟩ : Rp1)] = acc5 at *
          go_wp2
          go_roundg (N - (j + 1))
          case measure => omega
          case rel => exact ⟨j + 1, bz, r2, acc5, A5, c5, rfl, by omega, by first | rw [hw5] | go_num, Whole.far R5.out (p := ⟨w1.heap.size, 3, none⟩) (by show g ≠ w1.heap.size; omega) _, Whole.far V5.out (p := ⟨w1.heap.size, 3, none⟩) (by show w.heap.size ≠ w1.heap.size; omega) _, Whole.set_ O5.out 3 _, own_laterR WO5.out (p := ⟨w1.heap.size, 3, none⟩) (Nat.lt_succ_self _) _, F5.out.setCell (p := ⟨w1.heap.size, 3, none⟩) (.inr (by show w.heap.size ≤ w1.heap.size; omega)) _, HL5.out, SB5.out, Lib.hid HD5.out⟩
        · have q1 : ¬ ((N - j : Nat) : Int) > 0 := by omega
          have HDN := Lib.hid (show decLL s.data.toList = some (⟨6, ⟨#[]⟩, 0, acc⟩, rr) from by
            rw [HD2.out, HEE.out.2, show N - j = 0 by omega]; rfl)
          go_wp2
          refine bodyPost_ret (v := .agg #[.int .i64 6, .string ⟨#[]⟩, .int .i64 0, .slice Ao acc.length co]) (by simp [results, Tryd.results26, go_sem, a0, a1, a2, a3]) rfl ?_
          exact .inl ⟨_, _, rr, rfl, HDN.out, ⟨HSB.out, _, rfl, own_base (own_set4 OW.out (by omega) _ _ _ _) (by omega)⟩, Rr.set4 RR.out (fun e => hne e.symm) _ _ _ _, fr_set4 FF.out (Nat.le_refl _) _ _ _ _⟩
      · have HDN := Lib.hid (show decLL s.data.toList = none from by
          obtain ⟨h, _⟩ | ⟨_, h⟩ := HE.out
          · cases h
          · rw [HD2.out, h]; rfl)
        clear HE
        by_cases hlt : j < N
        · have q1 : ((N - j : Nat) : Int) > 0 := by omega
          go_wp2
          refine bodyPost_ret (v := .agg #[.int .i64 6, .string ⟨#[]⟩, .int .i64 0, .slice Ao acc.length co]) (by simp [results, Tryd.results26, go_sem, a0, a1, a2, a3]) rfl ?_
          exact .inr ⟨rr, _, _, _, rfl, HDN.out, Rr.set4 RR.out (fun e => hne e.symm) _ _ _ _, fr_set4 FF.out (Nat.le_refl _) _ _ _ _⟩
        · have q1 : ¬ ((N - j : Nat) : Int) > 0 := by omega
          go_wp2
          refine bodyPost_ret (v := .agg #[.int .i64 6, .string ⟨#[]⟩, .int .i64 0, .slice Ao acc.length co]) (by simp [results, Tryd.results26, go_sem, a0, a1, a2, a3]) rfl ?_
          exact .inr ⟨rr, _, _, _, rfl, HDN.out, Rr.set4 RR.out (fun e => hne e.symm) _ _ _ _, fr_set4 FF.out (Nat.le_refl _) _ _ _ _⟩
end Go.Proofs.YtoabjcnacnojbaaDoor
