/- The walk of the document's replyAt: any reply; and of its ReplyOf. -/
import Derived.Test.YtoabjcnacnojbaaDoorReU
import Derived.Test.YtoabjcnacnojbaaDoorReN
import Derived.Test.YtoabjcnacnojbaaDoorReT
set_option linter.unusedVariables false
set_option linter.unusedSimpArgs false
namespace Go.Proofs.YtoabjcnacnojbaaDoor
open Go.RowKit
attribute [local go_sem] byteAt_eq

def AtP (s : ByteArray) (a : Nat) (w : World) (e : Ending) (w' : World) : Prop :=
  ∃ (k : Int) (tx : ByteArray) (n : Int) (A : Option Addr) (m c : Nat) (t : Int) (b : Bool), e = .returned (.tuple #[.agg #[.int .i64 k, .string tx, .int .i64 n, .slice A m c], .int .i64 t, .bool b]) ∧
    ((∃ (t' : Nat) (rp : Rep), b = true ∧ t = t' ∧ t' ≤ s.size ∧ decL (s.data.toList.drop a) = some (rp, s.data.toList.drop t') ∧ RepO w' w.heap.size (.agg #[.int .i64 k, .string tx, .int .i64 n, .slice A m c]) rp) ∨ (b = false ∧ decL (s.data.toList.drop a) = none)) ∧ Fr [] w w'
theorem at_of_one {s : ByteArray} {a : Nat} {w w' : World} {e : Ending} (hm : decL (s.data.toList.drop a) = (dec1 (s.data.toList.drop a)).map fun p => (p.1.rep, p.2)) (h : At1P s a w e w') : AtP s a w e w' := by
  obtain ⟨k, tx, n, t, b, rfl, h, hf⟩ := h
  refine ⟨k, tx, n, none, 0, 0, t, b, rfl, ?_, hf⟩
  rcases h with ⟨t', h1, h2, h3, h4⟩ | ⟨h1, h2⟩
  · exact .inl ⟨t', ⟨k, tx, n, []⟩, h1, h2, h3, by rw [hm, h4]; rfl, RepO.bare _ _ _ _ _⟩
  · exact .inr ⟨h1, by rw [hm, h2]; rfl⟩
theorem at_no {s : ByteArray} {a : Nat} {w w' : World} {k n t : Int} {tx : ByteArray} {A : Option Addr} {m c : Nat} {x : UInt8} (hc : s.data.toList.drop a = x :: s.data.toList.drop (a + 1)) (hd : decL (x :: s.data.toList.drop (a + 1)) = none) (hf : Fr [] w w') :
    AtP s a w (.returned (.tuple #[.agg #[.int .i64 k, .string tx, .int .i64 n, .slice A m c], .int .i64 t, .bool false])) w' :=
  ⟨k, tx, n, A, m, c, t, false, rfl, .inr ⟨rfl, by rw [hc]; exact hd⟩, hf⟩
theorem at_yes {s : ByteArray} {a : Nat} {w w' : World} {t : Nat} {A : Option Addr} {m c : Nat} {rp : Rep} {x : UInt8} (hc : s.data.toList.drop a = x :: s.data.toList.drop (a + 1)) (hd : decL (x :: s.data.toList.drop (a + 1)) = some (rp, s.data.toList.drop t)) (ht : t ≤ s.size) (ho : RepO w' w.heap.size (.agg #[.int .i64 6, .string ⟨#[]⟩, .int .i64 0, .slice A m c]) rp) (hf : Fr [] w w') :
    AtP s a w (.returned (.tuple #[.agg #[.int .i64 6, .string ⟨#[]⟩, .int .i64 0, .slice A m c], .int .i64 t, .bool true])) w' :=
  ⟨6, ⟨#[]⟩, 0, A, m, c, t, true, rfl, .inl ⟨t, rp, rfl, rfl, ht, by rw [hc]; exact hd, ho⟩, hf⟩

set_option maxHeartbeats 4000000 in
set_option maxRecDepth 100000 in
theorem at_any (s : ByteArray) (a : Nat) (w : World) (hs : s.size < 4294967281) (ha : a ≤ s.size) :
    Calls Tryd.prog 17 #[.string s, .int .i64 a, .bool true] w (AtP s a w) := by
  by_cases he : a < s.size ∧ byteAt s a = 42
  rotate_left
  · refine (at1_any s a true w hs ha (.inr he)).mono ?_
    intro e w' h
    refine at_of_one ?_ h
    by_cases hl : a < s.size
    · obtain ⟨c, hc, ec⟩ := drop_byte s a hl
      rw [hc]
      exact decL_one (fun h42 => he ⟨hl, by rw [← ec]; exact h42⟩)
    · exact decL_nil (by rw [List.length_drop]; simp; omega)
  obtain ⟨he, h42⟩ := he
  obtain ⟨c, hc, ec⟩ := drop_byte s a he
  have LA := Lib.hid (fun W => lineAt_any s (a + 1) W (by omega) (by omega))
  have hw1 : IntKind.i64.wrap ((a : Int) + 1) = ((a + 1 : Nat) : Int) := by rw [IntKind.wrap_i64]; omega
  have F0 := Lib.hid (((Fr.refl [] w).alloc (.cells #[.int .i64 0, .string ⟨#[]⟩, .int .i64 0, .slice none 0 0] 24)).alloc (.cells #[.int .i64 0, .string ⟨#[]⟩, .int .i64 0, .slice none 0 0] 24))
  have V0 := Lib.hid (show Whole ((w.alloc (.cells #[.int .i64 0, .string ⟨#[]⟩, .int .i64 0, .slice none 0 0] 24)).alloc (.cells #[.int .i64 0, .string ⟨#[]⟩, .int .i64 0, .slice none 0 0] 24)) w.heap.size 24 zero4 from Whole.alloc (Whole.new w _ _) _)
  have O0 := Lib.hid (show Whole ((w.alloc (.cells #[.int .i64 0, .string ⟨#[]⟩, .int .i64 0, .slice none 0 0] 24)).alloc (.cells #[.int .i64 0, .string ⟨#[]⟩, .int .i64 0, .slice none 0 0] 24)) (w.heap.size + 1) 24 zero4 from by
    have := Whole.new (w.alloc (.cells #[.int .i64 0, .string ⟨#[]⟩, .int .i64 0, .slice none 0 0] 24)) 24 zero4
    rwa [show (w.alloc (.cells #[.int .i64 0, .string ⟨#[]⟩, .int .i64 0, .slice none 0 0] 24)).heap.size = w.heap.size + 1 from by simp] at this)
  have HC := Lib.hid hc
  have DL := Lib.hid ((decL_list (r := s.data.toList.drop (a + 1)) (ec.trans h42)).trans (decLL_num _))
  have hy := h42
  have e43 : ((byteAt s a : Int) == 43) = false := by rw [hy]; rfl
  have e45 : ((byteAt s a : Int) == 45) = false := by rw [hy]; rfl
  have e58 : ((byteAt s a : Int) == 58) = false := by rw [hy]; rfl
  have e36 : ((byteAt s a : Int) == 36) = false := by rw [hy]; rfl
  have e42 : ((byteAt s a : Int) == 42) = true := by rw [hy]; rfl
  obtain ⟨i0, hi, hz0, hz1, hz2⟩ := info_parts replyInfo
  clear ec hc h42 hy
  go_enter Tryd.func17, Tryd.ntmps17
  go_wp2_with fail
  refine (LA.out _).mono ?_
  rintro e w1 ⟨hcut, hw1'⟩
  have F1 := Lib.hid (hw1' ▸ F0.out)
  have V1 := Lib.hid (hw1' ▸ V0.out)
  have O1 := Lib.hid (hw1' ▸ O0.out)
  clear hw1' F0 V0 O0 LA
  rcases hcut with ⟨p, t, rfl, hp, ht, hdt⟩ | ⟨rfl, hp⟩
  rotate_left
  · have HN := Lib.hid (show decL (c :: s.data.toList.drop (a + 1)) = none from by rw [DL.out]; unfold numC; rw [hp]; rfl)
    obtain ⟨a0, a1, a2, a3⟩ := four V1.out
    obtain ⟨b0, b1, b2, b3⟩ := fourF V1.out
    obtain ⟨o0, o1, o2, o3⟩ := four O1.out
    have hh := V1.out.lt
    clear hp
    go_wp2
    refine bodyPost_ret (v := .tuple #[.agg #[.int .i64 0, .string ⟨#[]⟩, .int .i64 0, .slice none 0 0], .int .i64 a, .bool false]) (by simp [results, Tryd.results17, go_sem, a0, a1, a2, a3]) rfl ?_
    exact at_no HC.out HN.out (fr_set4 F1.out (Nat.le_refl _) _ _ _ _)
  have hpl : p.1.length ≤ s.size := by
    have := cut_size (a := p.1) (b := p.2) hp
    rw [List.length_drop] at this
    simp at this
    omega
  obtain ⟨l, r⟩ := p
  simp only at hdt hpl
  subst hdt
  have IO := Lib.hid (intOf_any (toB l) w1 (by rw [toB_size]; omega))
  rw [toB_list] at IO
  rw [numC_cut hp] at DL
  clear hp hpl
  go_wp2_with fail
  refine IO.out.mono ?_
  rintro e w2 ⟨rfl, f2⟩
  have F2 := Lib.hid (F1.out.trans f2)
  have V2 := Lib.hid (V1.out.fr f2 (by simp))
  have O2 := Lib.hid (O1.out.fr f2 (by simp))
  obtain ⟨a0, a1, a2, a3⟩ := four V2.out
  obtain ⟨b0, b1, b2, b3⟩ := fourF V2.out
  obtain ⟨o0, o1, o2, o3⟩ := four O2.out
  obtain ⟨p0, p1, p2, p3⟩ := fourF O2.out
  have hh := V2.out.lt
  have hh2 := O2.out.lt
  clear f2 F1 V1 O1 IO
  rcases hn : intL l with _ | n
  · rw [hn] at DL
    simp only [hn, Option.getD, Option.isSome] at *
    have HN := Lib.hid (show decL (c :: s.data.toList.drop (a + 1)) = none from by rw [DL.out]; rfl)
    clear DL hn
    go_wp2
    refine bodyPost_ret (v := .tuple #[.agg #[.int .i64 0, .string ⟨#[]⟩, .int .i64 0, .slice none 0 0], .int .i64 a, .bool false]) (by simp [results, Tryd.results17, go_sem, a0, a1, a2, a3]) rfl ?_
    exact at_no HC.out HN.out (fr_set4 F2.out (Nat.le_refl _) _ _ _ _)
  have hnb := int_bound (intL_iff.1 hn).1
  rw [hn] at DL
  simp only [hn, Option.getD, Option.isSome] at *
  have DI := Lib.hid (show decL (c :: s.data.toList.drop (a + 1)) = decI (s.data.toList.drop t) n from DL.out)
  clear DL hn
  by_cases h0 : n < 0
  · have HN := Lib.hid (show decL (c :: s.data.toList.drop (a + 1)) = none from by rw [DI.out]; exact if_pos h0)
    clear DI
    go_wp2
    refine bodyPost_ret (v := .tuple #[.agg #[.int .i64 0, .string ⟨#[]⟩, .int .i64 0, .slice none 0 0], .int .i64 a, .bool false]) (by simp [results, Tryd.results17, go_sem, a0, a1, a2, a3]) rfl ?_
    exact at_no HC.out HN.out (fr_set4 F2.out (Nat.le_refl _) _ _ _ _)
  obtain ⟨N, rfl⟩ : ∃ N : Nat, n = N := ⟨n.toNat, by omega⟩
  have DN := Lib.hid (show decL (c :: s.data.toList.drop (a + 1)) = (decN N (s.data.toList.drop t) []).map (fun q => ((⟨6, ⟨#[]⟩, 0, q.1⟩ : Rep), q.2)) from by
    rw [DI.out]
    unfold decI
    rw [if_neg h0, Int.toNat_natCast])
  clear DI
  generalize hDD : decN N (s.data.toList.drop t) [] = D at *
  have H0 := Lib.hid hDD
  clear hDD
  go_wp2
  go_loopg [11, 15] N (fun x vt vi wr => ∃ (j u : Nat) (acc : List Rp1) (Ao : Option Addr) (co : Nat), x = N - j ∧ j ≤ N ∧ vt = .int .i64 u ∧ vi = .int .i64 j ∧ u ≤ s.size ∧ Whole wr w.heap.size 24 zero4 ∧ Whole wr (w.heap.size + 1) 24 [.int .i64 6, .string ⟨#[]⟩, .int .i64 0, .slice Ao acc.length co] ∧ wr.ownsRow (w.heap.size + 2) 24 4 (.slice Ao acc.length co) acc.length (rpCells acc) ∧ Fr [] w wr ∧ acc.length = j ∧ (∀ x ∈ acc, x.sub = 0) ∧ Hid (D = decN (N - j) (s.data.toList.drop u) acc))
  case atStart =>
    exact ⟨0, t, [], none, 0, rfl, Nat.zero_le _, rfl, rfl, ht, Whole.far V2.out (p := ⟨w.heap.size + 1, 0, none⟩) (by show w.heap.size ≠ w.heap.size + 1; omega) _, Whole.set_ O2.out 0 _, World.ownsRow_nil _ _ _ _, F2.out.setCell (p := ⟨w.heap.size + 1, 0, none⟩) (.inr (by show w.heap.size ≤ w.heap.size + 1; omega)) _, rfl, by simp, Lib.hid H0.out.symm⟩
  case round =>
    obtain ⟨j, u, acc, Ao, co, rfl, hj, rfl, rfl, hu, hV, hO, hW, hF, hacc, hsub, HE⟩ := hrel
    have VV := Lib.hid hV
    have OO := Lib.hid hO
    have OW := Lib.hid hW
    have FF := Lib.hid hF
    have HSB := Lib.hid hsub
    have hzr := OO.out.lt
    have hzv := VV.out.lt
    have HAC := Lib.hid hacc
    clear a0 a1 a2 a3 b0 b1 b2 b3 o0 o1 o2 o3 p0 p1 p2 p3 hV hO hW hF hsub hacc
    obtain ⟨a0, a1, a2, a3⟩ := four VV.out
    obtain ⟨b0, b1, b2, b3⟩ := fourF VV.out
    obtain ⟨o0, o1, o2, o3⟩ := four OO.out
    obtain ⟨p0, p1, p2, p3⟩ := fourF OO.out
    by_cases hlt : j < N
    · have NU := Lib.hid (at1_any s u false wr hs hu (.inl rfl))
      have hjN : N - j = (N - (j + 1)) + 1 := by omega
      have EDN := Lib.hid (show D = (dec1 (s.data.toList.drop u)).bind fun p => decN (N - (j + 1)) p.2 (acc ++ [p.1]) from by rw [HE.out, hjN, decN_step])
      clear HE hjN
      go_wp2_with fail
      refine NU.out.mono ?_
      rintro e w3 ⟨k, tx, m, ti, bz, rfl, hc, f1⟩
      have F3 := Lib.hid (FF.out.trans f1)
      have V3 := Lib.hid (VV.out.fr f1 (by simp))
      have O3 := Lib.hid (OO.out.fr f1 (by simp))
      have WO := Lib.hid (own_fr OW.out f1 (by simp))
      have HC2 := Lib.hid hc
      have hsw := f1.size
      have hl3 := O3.out.lt
      have hl5 := V3.out.lt
      clear f1 hc NU
      clear a0 a1 a2 a3 b0 b1 b2 b3 o0 o1 o2 o3 p0 p1 p2 p3
      obtain ⟨a0, a1, a2, a3⟩ := four V3.out
      obtain ⟨b0, b1, b2, b3⟩ := fourF V3.out
      obtain ⟨o0, o1, o2, o3⟩ := four O3.out
      obtain ⟨p0, p1, p2, p3⟩ := fourF O3.out
      cases bz
      · have HN := Lib.hid (show decL (c :: s.data.toList.drop (a + 1)) = none from by
          rw [DN.out, EDN.out]
          obtain ⟨_, h, _⟩ | ⟨_, h⟩ := HC2.out
          · cases h
          · rw [h]; rfl)
        clear HC2 EDN DN
        go_wp2
        obtain ⟨y0, y1, y2, y3⟩ := four (show Whole (((((w3.setCell ⟨w.heap.size, 0, none⟩ (.int .i64 6)).setCell ⟨w.heap.size, 1, none⟩ (.string ⟨#[]⟩)).setCell ⟨w.heap.size, 2, none⟩ (.int .i64 0)).setCell ⟨w.heap.size, 3, none⟩ (.slice Ao acc.length co)).alloc (.cells #[.int .i64 k, .string tx, .int .i64 m, .slice none 0 0] 24)) w.heap.size 24 [.int .i64 6, .string ⟨#[]⟩, .int .i64 0, .slice Ao acc.length co] from Whole.alloc (Whole.set_ (Whole.set_ (Whole.set_ (Whole.set_ V3.out 0 _) 1 _) 2 _) 3 _) _)
        refine bodyPost_ret (v := .tuple #[.agg #[.int .i64 6, .string ⟨#[]⟩, .int .i64 0, .slice Ao acc.length co], .int .i64 a, .bool false]) (by simp [results, Tryd.results17, go_sem, y0, y1, y2, y3]) rfl ?_
        exact at_no HC.out HN.out ((fr_set4 F3.out (Nat.le_refl _) _ _ _ _).alloc _)
      · obtain ⟨t2, rfl, ht2, hd2⟩ : ∃ t2 : Nat, ti = t2 ∧ t2 ≤ s.size ∧ dec1 (s.data.toList.drop u) = some (⟨k, tx, m, 0⟩, s.data.toList.drop t2) := by
          obtain ⟨t', _, h2, h3, h4⟩ | ⟨h, _⟩ := HC2.out
          · exact ⟨t', h2, h3, h4⟩
          · cases h
        have HD2 := Lib.hid (show D = decN (N - (j + 1)) (s.data.toList.drop t2) (acc ++ [⟨k, tx, m, 0⟩]) from by rw [EDN.out, hd2]; rfl)
        clear hd2 HC2 EDN
        have hO0 := own_sl (World.ownsRow_lit (base := (w3.alloc (.cells #[.int .i64 k, .string tx, .int .i64 m, .slice none 0 0] 24)).heap.size) (e := 24) (size := 4) (w3.alloc (.cells #[.int .i64 k, .string tx, .int .i64 m, .slice none 0 0] 24)) #[.int .i64 k, .string tx, .int .i64 m, .slice none 0 0] 1 (Nat.le_refl _) (by decide) rfl)
        rw [show (w3.alloc (.cells #[.int .i64 k, .string tx, .int .i64 m, .slice none 0 0] 24)).heap.size = w3.heap.size + 1 from by simp] at hO0
        have hO1 := Lib.hid hO0
        clear hO0
        have WA := Lib.hid (WO.out.alloc (.cells #[.int .i64 k, .string tx, .int .i64 m, .slice none 0 0] 24))
        have V4 := Lib.hid (V3.out.alloc (.cells #[.int .i64 k, .string tx, .int .i64 m, .slice none 0 0] 24))
        have O4 := Lib.hid (O3.out.alloc (.cells #[.int .i64 k, .string tx, .int .i64 m, .slice none 0 0] 24))
        have F4 := Lib.hid (F3.out.alloc (.cells #[.int .i64 k, .string tx, .int .i64 m, .slice none 0 0] 24))
        have hal : acc.length ≤ 999999999 := by have := HAC.out; omega
        go_wp2_with (at_builtin; refine wpList_append_sl _ rfl _ _ 22 rfl (w.heap.size + 2) 24 i0 _ 4 56 Tryd.underlying22 hi hz0 hz1 hz2 rfl (by decide) _ _ _ rfl (WA.out.alloc _) _ _ 1 _ rfl hO1.out (rp4_one k m tx) ?c1 ?c2 ?c3 ?_)
        case c1 => unfold maxLen; omega
        case c2 => omega
        case c3 => first | omega | (simp; omega)
        intro v' w5 hown hgrow hat5
        have nb : ∀ x, x < w.heap.size + 2 → x ∉ ownL (.slice Ao acc.length co) := fun x hx hm => by have := ownL_base WO.out hm; omega
        have ff := fr_ownL hgrow
        have V5 := Lib.hid (Whole.fr (Whole.alloc V4.out _) ff (nb _ (by omega)))
        have O5 := Lib.hid (Whole.fr (Whole.alloc O4.out _) ff (nb _ (by omega)))
        have F5 := Lib.hid ((F4.out.alloc (.cells #[.int .i64 k, .string tx, .int .i64 m, .slice none 0 0] 24)).grown hgrow (fun j hj => .inr (by have := (WO.out.lt j hj).1; omega)))
        have WO5 := Lib.hid (show w5.ownsRow (w.heap.size + 2) 24 4 v' (acc ++ [(⟨k, tx, m, 0⟩ : Rp1)]).length (rpCells (acc ++ [(⟨k, tx, m, 0⟩ : Rp1)])) from by
          rw [rpCells_snoc, List.length_append]
          exact hown)
        clear hown hgrow hat5 nb ff a0 a1 a2 a3 b0 b1 b2 b3 o0 o1 o2 o3 p0 p1 p2 p3
        obtain ⟨A5, c5, rfl, -⟩ := own_slice WO5.out
        obtain ⟨o0, o1, o2, o3⟩ := four O5.out
        obtain ⟨p0, p1, p2, p3⟩ := fourF O5.out
        have SB5 := Lib.hid (show ∀ x ∈ acc ++ [(⟨k, tx, m, 0⟩ : Rp1)], x.sub = 0 from fun x hx => by
          rcases List.mem_append.1 hx with hx | hx
          · exact HSB.out x hx
          · simp at hx; rw [hx])
        have HL5 := Lib.hid (show (acc ++ [(⟨k, tx, m, 0⟩ : Rp1)]).length = j + 1 from by rw [List.length_append, HAC.out]; rfl)
        generalize acc ++ [(⟨k, tx, m, 0⟩ : Rp1)] = acc5 at *
        go_wp2
        go_roundg (N - (j + 1))
        case measure => omega
        case rel => exact ⟨j + 1, t2, acc5, A5, c5, rfl, by omega, by go_num, by go_num, ht2, Whole.far V5.out (p := ⟨w.heap.size + 1, 3, none⟩) (by show w.heap.size ≠ w.heap.size + 1; omega) _, Whole.set_ O5.out 3 _, own_laterR WO5.out (p := ⟨w.heap.size + 1, 3, none⟩) (by show w.heap.size + 1 < w.heap.size + 2; omega) _, F5.out.setCell (p := ⟨w.heap.size + 1, 3, none⟩) (.inr (by show w.heap.size ≤ w.heap.size + 1; omega)) _, HL5.out, SB5.out, HD2⟩
    · have HDN := Lib.hid (show decL (c :: s.data.toList.drop (a + 1)) = some (⟨6, ⟨#[]⟩, 0, acc⟩, s.data.toList.drop u) from by
        rw [DN.out, HE.out, show N - j = 0 by omega]; rfl)
      clear HE DN
      go_wp2
      refine bodyPost_ret (v := .tuple #[.agg #[.int .i64 6, .string ⟨#[]⟩, .int .i64 0, .slice Ao acc.length co], .int .i64 u, .bool true]) (by simp [results, Tryd.results17, go_sem, a0, a1, a2, a3]) rfl ?_
      exact at_yes HC.out HDN.out hu ⟨HSB.out, _, rfl, own_base (own_set4 OW.out (by omega) _ _ _ _) (by omega)⟩ (fr_set4 FF.out (Nat.le_refl _) _ _ _ _)
end Go.Proofs.YtoabjcnacnojbaaDoor
