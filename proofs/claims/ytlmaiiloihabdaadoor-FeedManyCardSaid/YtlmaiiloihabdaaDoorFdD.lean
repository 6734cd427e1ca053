/- The walks of a command's reading: what is recovered from; a command. -/
import Derived.Test.YtlmaiiloihabdaaDoorFdC
import Derived.Test.YtlmaiiloihabdaaDoorRo
import Derived.Defers
import Derived.Recover
import Derived.Laws.Pointers
set_option linter.unusedVariables false
set_option linter.unusedSimpArgs false
namespace Go.Proofs.YtlmaiiloihabdaaDoor
open Go.RowKit

theorem isErrno (v : Value) (w : World) : (Instr.typeAssert (.iface 23 v) 20 23 true).run Tryd.prog w = .ok (.tuple #[v, .bool true]) w := by kernel_rfl

set_option maxHeartbeats 1000000 in
set_option maxRecDepth 100000 in
theorem catch_panicking (b0 b1 b2 : Nat) (x0 x1 x2 : Value) (e : Int) (older : List PanicEntry) (w : World) (h0 : Whole w b0 22 [x0]) (h1 : Whole w b1 3 [x1]) (h2 : Whole w b2 23 [x2]) :
    CallsD Tryd.prog 41 #[.pointer (some ⟨b0, 0, none⟩), .pointer (some ⟨b1, 0, none⟩), .pointer (some ⟨b2, 0, none⟩)] (.panicking ({ v := .iface 23 (.int .i64 e), recovered := false } :: older)) w fun r u' w' =>
      r = .returned (.tuple #[]) ∧ u' = .panicking ({ v := .iface 23 (.int .i64 e), recovered := true } :: older) ∧
      w' = ((w.setCell ⟨b0, 0, none⟩ (.slice none 0 0)).setCell ⟨b1, 0, none⟩ (.int .i64 0)).setCell ⟨b2, 0, none⟩ (.int .i64 e) := by
  have c0 := h0.cell 0
  have c1 := h1.cell 0
  have c2 := h2.cell 0
  have z0 := h0.frozen 0
  have z1 := h1.frozen 0
  have z2 := h2.frozen 0
  simp only [List.getElem?_cons_zero] at c0 c1 c2
  have n01 : b0 ≠ b1 := h0.ne_ h1 (by decide)
  have n02 : b0 ≠ b2 := h0.ne_ h2 (by decide)
  have n12 : b1 ≠ b2 := h1.ne_ h2 (by decide)
  have ta := isErrno (.int .i64 e)
  refine callsD_of_wpS Tryd.func41 rfl fun c₀ cs hu => ?_
  apply wpS_seq
  apply wpS_region
  simp [wpOpsS, go_sem, recoverD, hu, Tryd.ntmps41, Exit.thenS]
  refine wpS_of_wp ?_
  rw [show (#[Value.pointer (some { block := b0, off := 0 }), Value.pointer (some { block := b1, off := 0 }), Value.pointer (some { block := b2, off := 0 })] ++
          ((Array.replicate 15 undef).setIfInBounds 3 (Value.iface 23 (Value.int IntKind.i64 e))).setIfInBounds 0 (Value.iface 23 (Value.int IntKind.i64 e))) =
    #[Value.pointer (some { block := b0, off := 0 }), Value.pointer (some { block := b1, off := 0 }), Value.pointer (some { block := b2, off := 0 }), Value.iface 23 (Value.int IntKind.i64 e), undef, undef, Value.iface 23 (Value.int IntKind.i64 e), undef, undef, undef, undef, undef, undef, undef, undef, undef, undef, undef] from rfl]
  go_wp2
  simp [bodyPostS, results, Tryd.results41]
theorem catch_idle (p q r : Addr) (w : World) :
    CallsD Tryd.prog 41 #[.pointer (some p), .pointer (some q), .pointer (some r)] .returning w fun e u' w' => e = .returned (.tuple #[]) ∧ u' = .returning ∧ w' = w := by
  refine callsD_of_wpS Tryd.func41 rfl fun c₀ cs hu => ?_
  apply wpS_seq
  apply wpS_region
  simp [wpOpsS, go_sem, recoverD, hu, Tryd.ntmps41, Exit.thenS]
  apply wpS_seq
  apply wpS_region
  simp [wpOpsS, go_sem, Exit.thenS]
  refine wpS_cond (t := false) (by simp [Act.eval, Array.replicate]) ?_
  simp only [Bool.false_eq_true, if_false]
  refine wpS_of_wp (wp_skip ?_)
  cases c₀
  simp_all [bodyPostS, results, Tryd.results41]

/-- the blocks of a command's reading. -/
structure CmdB (w : World) (v : Value) (wr : World) : Prop where
  o0 : Whole wr w.heap.size 22 [v]
  o1 : Whole wr (w.heap.size + 1) 3 [.int .i64 0]
  o2 : Whole wr (w.heap.size + 2) 23 [.int .i64 0]
  f : Fr [] w wr
structure CmdW (w : World) (s : ByteArray) (a : Nat) (v : Value) (wr : World) : Prop extends CmdB w v wr where
  rd : Rd (w.heap.size + 3) s a wr
theorem CmdB.gone {w wr w1 : World} {v : Value} (h : CmdB w v wr) (k : Fr [w.heap.size + 3] wr w1) : CmdB w v w1 :=
  ⟨h.o0.fr k (by simp), h.o1.fr k (by simp), h.o2.fr k (by simp), h.f.step k (fun x hx => by simp at hx; subst hx; exact .inr (by omega))⟩
theorem CmdW.start (w : World) (s : ByteArray) : CmdW w s 0 (.slice none 0 0) ((((w.alloc (.cells #[.slice none 0 0] 22)).alloc (.cells #[.int .i64 0] 3)).alloc (.cells #[.int .i64 0] 23)).alloc (.cells #[.string s, .int .i64 0] 74)) := by
  refine ⟨⟨(((Whole.new w _ _).alloc _).alloc _).alloc _, ?_, ?_, ((((Fr.refl [] w).alloc _).alloc _).alloc _).alloc _⟩, ?_⟩
  · have := ((Whole.new (w.alloc (.cells #[.slice none 0 0] 22)) 3 [.int .i64 0]).alloc (.cells #[.int .i64 0] 23)).alloc (.cells #[.string s, .int .i64 0] 74)
    simpa using this
  · have := (Whole.new ((w.alloc (.cells #[.slice none 0 0] 22)).alloc (.cells #[.int .i64 0] 3)) 23 [.int .i64 0]).alloc (.cells #[.string s, .int .i64 0] 74)
    simpa using this
  · have := Whole.new (((w.alloc (.cells #[.slice none 0 0] 22)).alloc (.cells #[.int .i64 0] 3)).alloc (.cells #[.int .i64 0] 23)) 74 [.string s, .int .i64 0]
    unfold Rd
    simpa using this
theorem CmdW.go {w wr w1 : World} {s : ByteArray} {a b : Nat} {v : Value} (h : CmdW w s a v wr) (k : Fr [w.heap.size + 3] wr w1) (hr : Rd (w.heap.size + 3) s b w1) : CmdW w s b v w1 :=
  ⟨h.toCmdB.gone k, hr⟩
theorem CmdW.fr {w wr w1 : World} {s : ByteArray} {a : Nat} {v : Value} (h : CmdW w s a v wr) (k : Fr [] wr w1) : CmdW w s a v w1 := h.go k.up (h.rd.fr k)
def CmdP (r : List ByteArray × List UInt8 × Int) (s : ByteArray) (w : World) (e : Ending) (w' : World) : Prop :=
  ∃ v n, e = .returned (.tuple #[v, .int .i64 n, .int .i64 r.2.2]) ∧ TxO w' w.heap.size v r.1 ∧ (r.2.2 = 0 → ∃ a : Nat, n = a ∧ a ≤ s.size ∧ s.data.toList.drop a = r.2.1) ∧ Fr [] w w'
theorem cmdP_no {w wr : World} {s : ByteArray} {v : Value} {c : Int} (hc : c ≠ 0) (h : CmdB w v wr) :
    CmdP ([], [], c) s w (.returned (.tuple #[.slice none 0 0, .int .i64 0, .int .i64 c])) (((wr.setCell ⟨w.heap.size, 0, none⟩ (.slice none 0 0)).setCell ⟨w.heap.size + 1, 0, none⟩ (.int .i64 0)).setCell ⟨w.heap.size + 2, 0, none⟩ (.int .i64 c)) :=
  ⟨_, _, rfl, World.ownsRow_nil _ _ _ _, fun h0 => absurd h0 hc, ((h.f.setCell (p := ⟨w.heap.size, 0, none⟩) (.inr (Nat.le_refl _)) _).setCell (p := ⟨w.heap.size + 1, 0, none⟩) (.inr (by show w.heap.size ≤ w.heap.size + 1; omega)) _).setCell (p := ⟨w.heap.size + 2, 0, none⟩) (.inr (by show w.heap.size ≤ w.heap.size + 2; omega)) _⟩

theorem CmdW.grown {w wr w1 : World} {s : ByteArray} {a n base : Nat} {v vo : Value} {xs : List Value} (h : CmdW w s a v wr) (ho : wr.ownsRow base 9 1 vo n xs) (hg : wr.grownBy w1 vo.ownBlock) (hb : w.heap.size ≤ base) : CmdW w s a v w1 := by
  have n0 := own_ne ho h.o0 (by decide)
  have n1 := own_ne ho h.o1 (by decide)
  have n2 := own_ne ho h.o2 (by decide)
  have n3 := own_ne ho h.rd (by decide)
  exact ⟨⟨h.o0.grown hg (Ne.symm n0), h.o1.grown hg (Ne.symm n1), h.o2.grown hg (Ne.symm n2), h.f.grown hg (fun k hk => .inr (Nat.le_trans hb (ho.lt k hk).1))⟩, Whole.grown h.rd hg (Ne.symm n3)⟩
theorem CmdW.store {w wr : World} {s : ByteArray} {a : Nat} {v : Value} (h : CmdW w s a v wr) (u : Value) : CmdW w s a u (wr.setCell ⟨w.heap.size, 0, none⟩ u) :=
  ⟨⟨h.o0.set_ 0 u, h.o1.far (p := ⟨w.heap.size, 0, none⟩) (by show w.heap.size + 1 ≠ w.heap.size; omega) u, h.o2.far (p := ⟨w.heap.size, 0, none⟩) (by show w.heap.size + 2 ≠ w.heap.size; omega) u, h.f.setCell (p := ⟨w.heap.size, 0, none⟩) (.inr (Nat.le_refl _)) u⟩, Whole.far h.rd (p := ⟨w.heap.size, 0, none⟩) (by show w.heap.size + 3 ≠ w.heap.size; omega) u⟩

/-- what the three cells hold when they have been written. -/
theorem cmd_cells {w1 : World} {b : Nat} {x0 x1 x2 : Value} (h0 : Whole w1 b 22 [x0]) (h1 : Whole w1 (b + 1) 3 [x1]) (h2 : Whole w1 (b + 2) 23 [x2]) (v0 v1 v2 : Value) :
    (((w1.setCell ⟨b, 0, none⟩ v0).setCell ⟨b + 1, 0, none⟩ v1).setCell ⟨b + 2, 0, none⟩ v2).cell? ⟨b, 0, none⟩ = some v0 ∧
    (((w1.setCell ⟨b, 0, none⟩ v0).setCell ⟨b + 1, 0, none⟩ v1).setCell ⟨b + 2, 0, none⟩ v2).cell? ⟨b + 1, 0, none⟩ = some v1 ∧
    (((w1.setCell ⟨b, 0, none⟩ v0).setCell ⟨b + 1, 0, none⟩ v1).setCell ⟨b + 2, 0, none⟩ v2).cell? ⟨b + 1 + 1, 0, none⟩ = some v2 := by
  refine ⟨?_, ?_, ?_⟩
  · exact (((h0.set_ 0 v0).far (p := ⟨b + 1, 0, none⟩) (by show b ≠ b + 1; omega) v1).far (p := ⟨b + 2, 0, none⟩) (by show b ≠ b + 2; omega) v2).cell 0
  · exact (((h1.far (p := ⟨b, 0, none⟩) (by show b + 1 ≠ b; omega) v0).set_ 0 v1).far (p := ⟨b + 2, 0, none⟩) (by show b + 1 ≠ b + 2; omega) v2).cell 0
  · exact (((h2.far (p := ⟨b, 0, none⟩) (by show b + 2 ≠ b; omega) v0).far (p := ⟨b + 1, 0, none⟩) (by show b + 2 ≠ b + 1; omega) v1).set_ 0 v2).cell 0

set_option maxHeartbeats 4000000 in
set_option maxRecDepth 100000 in
theorem command_any (s : ByteArray) (w : World) (hs : s.size ≤ 4611686018427387904) :
    Calls Tryd.prog 27 #[.string s] w (CmdP (cmdL s.data.toList) s w) := by
  have hmf : ∀ (fn : Fn) (first cap : Array Value) (w : World), (Instr.makeFunc fn first cap).run Tryd.prog w = .ok (.func fn first cap) w := fun _ _ _ _ => rfl
  have D0 := Lib.hid (CmdW.start w s)
  have NM := Lib.hid (number_any 42 12 (w.heap.size + 3) s 0 _ hs (Nat.zero_le _) (by decide) (by decide) D0.out.rd)
  have hmo := countMost 42 12 s.data.toList
  rw [List.drop_zero] at NM
  obtain ⟨R, hR⟩ : ∃ R, R = cmdL s.data.toList := ⟨_, rfl⟩
  rw [← hR]
  unfold cmdL at hR
  unfold NumP at NM
  generalize countL 42 12 s.data.toList = C at *
  obtain ⟨n, r, code⟩ := C
  simp only at NM hR hmo
  by_cases hc : code = 0
  · subst hc
    rw [if_neg (fun h => h rfl)] at hR
    by_cases hn : n = 0
    · subst hn
      rw [if_pos rfl] at hR
      have EX := Lib.hid hR
      have HC9 : Hid ((1 : Int) ≠ 0) := Lib.hid (by decide)
      clear hR
      go_enter_defers Tryd.func27, Tryd.ntmps27
      go_wp2_with fail
      refine NM.out.mono ?_
      rintro e w1 ⟨⟨h0, rfl, p, hp, hd, r1⟩ | ⟨h0, rfl⟩, f1⟩
      rotate_left
      · exact absurd rfl h0
      have D9 := Lib.hid (D0.out.toCmdB.gone f1)
      clear r1 f1 hd
      go_wp2_with fail
      refine (fail_any 1 _).mono ?_
      rintro e w2 ⟨rfl, rfl⟩
      go_wp2
      refine leaves_cons (f := 41) (args := #[.pointer (some ⟨w.heap.size, 0, none⟩), .pointer (some ⟨w.heap.size + 1, 0, none⟩), .pointer (some ⟨w.heap.size + 2, 0, none⟩)]) (by simp) (by simp [go_sem]) ?_
      refine (catch_panicking _ _ _ _ _ _ 1 [] _ D9.out.o0 D9.out.o1 D9.out.o2).mono ?_
      rintro e u' w'' ⟨rfl, rfl, rfl⟩
      obtain ⟨x0, x1, x2⟩ := cmd_cells D9.out.o0 D9.out.o1 D9.out.o2 (.slice none 0 0) (.int .i64 0) (.int .i64 1)
      have PO := Lib.hid (cmdP_no (s := s) HC9.out D9.out)
      generalize ((w2.setCell ⟨w.heap.size, 0, none⟩ (.slice none 0 0)).setCell ⟨w.heap.size + 1, 0, none⟩ (.int .i64 0)).setCell ⟨w.heap.size + 2, 0, none⟩ (.int .i64 1) = W at *
      simp [Leaves, settle, results, Tryd.results27, go_sem, x0, x1, x2]
      rw [EX.out]
      exact PO.out
    · rw [if_neg hn] at hR
      have HR := Lib.hid hR
      obtain ⟨i0, hi, hz0, hz1, hz2⟩ := info_parts stringInfo
      clear hR
      go_enter_defers Tryd.func27, Tryd.ntmps27
      go_wp2_with fail
      refine NM.out.mono ?_
      rintro e w1 ⟨⟨h0, rfl, p, hp, hd, r1⟩ | ⟨h0, rfl⟩, f1⟩
      rotate_left
      · exact absurd rfl h0
      have D1 := Lib.hid (D0.out.go f1 r1)
      have HD := Lib.hid hd
      clear r1 f1 hd NM
      have qn : ((n : Int) == 0) = false := by simp; omega
      go_wp2
      go_loopg [18] n (fun x i wr => ∃ (k p : Nat) (acc : List ByteArray) (v : Value), x = n - k ∧ k ≤ n ∧ i = .int .i64 k ∧ acc.length = k ∧ p ≤ s.size ∧ Hid (R = wordsA (n - k) (s.data.toList.drop p) acc) ∧ CmdW w s p v wr ∧ TxO wr w.heap.size v acc)
      case atStart => exact ⟨0, p, [], _, rfl, Nat.zero_le _, rfl, rfl, hp, Lib.hid (by rw [HR.out, HD.out]; rfl), D1.out, World.ownsRow_nil _ _ _ _⟩
      case round =>
        obtain ⟨k, p2, acc, v, rfl, hk, rfl, hacc, hp2, HE, hD, hT⟩ := hrel
        have DD := Lib.hid hD
        have HT := Lib.hid hT
        obtain ⟨Av, cv, rfl, -⟩ := own_slice hT
        clear hD hT qn
        by_cases hlt : k < n
        · have WD := Lib.hid (word_any (w.heap.size + 3) s p2 wr hs hp2 DD.out.rd)
          have ST := Lib.hid (show R = if (wordL (s.data.toList.drop p2)).2.2 = 0 then wordsA (n - (k + 1)) (wordL (s.data.toList.drop p2)).2.1 (acc ++ [toB (wordL (s.data.toList.drop p2)).1]) else ([], [], (wordL (s.data.toList.drop p2)).2.2) from by
            rw [HE.out, show n - k = (n - (k + 1)) + 1 by omega]
            rfl)
          have hle := fun h => (wordLess (l := s.data.toList.drop p2) h).2
          unfold WordP at WD
          generalize wordL (s.data.toList.drop p2) = T at *
          obtain ⟨tw, tr, tc⟩ := T
          simp only at WD ST hle
          by_cases htc : tc = 0
          · subst htc
            rw [if_pos rfl] at ST
            have hlen : tw.length ≤ 60 := hle (by trivial)
            clear hle
            have nb := own_ne HT.out DD.out.rd (show 74 ≠ 9 by decide)
            go_wp2_with fail
            refine WD.out.mono ?_
            rintro e w2 ⟨⟨h0, rfl, p3, hp3, hd3, r2⟩ | ⟨h0, rfl⟩, f2⟩
            rotate_left
            · exact absurd rfl h0
            have D2 := Lib.hid (DD.out.go f2 r2)
            have HT2 := Lib.hid (own_fr HT.out f2 (fun j hj hm => nb (by simp at hm; rw [hm] at hj; exact hj)))
            have H3 := Lib.hid hd3
            have c0 := D2.out.o0.cell 0
            simp only [List.getElem?_cons_zero] at c0
            have z0 := D2.out.o0.frozen 0
            have hlt2 := D2.out.o0.lt
            clear f2 r2 hd3 nb
            have hsz : (toB tw).size ≤ 60 := by rw [toB_size]; exact hlen
            generalize toB tw = t at *
            have HO2 := Lib.hid (HT2.out.alloc (.cells #[.string t] 9))
            have hO1 := Lib.hid (own_sl (World.ownsRow_lit (base := w2.heap.size) (e := 9) (size := 1) w2 #[.string t] 1 (Nat.le_refl _) (by decide) rfl))
            have h1 : ∀ u ∈ [Value.string t], u.oneCell' = true := fun u hu => by simp at hu; subst hu; rfl
            have hfz := D2.out.f.size
            rw [hacc] at HO2
            go_wp2_with (at_builtin; refine wpList_append_sl _ rfl _ _ 22 rfl w.heap.size 9 i0 _ 1 16 Tryd.underlying22 hi hz0 hz1 hz2 rfl (by decide) _ _ _ rfl HO2.out _ _ 1 _ rfl hO1.out h1 ?c1 ?c2 ?c3 ?_)
            case c1 => unfold maxLen; omega
            case c2 => omega
            case c3 => first | omega | (simp; omega)
            intro v' w5 hown hgrow hat5
            obtain ⟨A5, c5, rfl, -⟩ := own_slice hown
            have D5 := Lib.hid (((D2.out.fr ((Fr.refl [] w2).alloc (.cells #[.string t] 9))).grown HO2.out hgrow (Nat.le_refl _)))
            have D6 := Lib.hid (D5.out.store (.slice A5 (k + 1) c5))
            have nb5 := own_ne hown D5.out.o0 (by decide)
            have T6 := Lib.hid (show TxO (w5.setCell ⟨w.heap.size, 0, none⟩ (.slice A5 (k + 1) c5)) w.heap.size (.slice A5 (k + 1) c5) (acc ++ [t]) from own_set _ (by rw [textsV_append, List.length_append, hacc]; exact hown) nb5)
            have x0 := D5.out.o0.cell 0
            simp only [List.getElem?_cons_zero] at x0
            have y0 := D5.out.o0.frozen 0
            have EN := Lib.hid (show R = wordsA (n - (k + 1)) (s.data.toList.drop p3) (acc ++ [t]) from by rw [ST.out, H3.out])
            clear hown hgrow hat5 nb5 c0 z0
            go_wp2
            go_roundg (n - (k + 1))
            case measure => omega
            case rel => exact ⟨k + 1, p3, acc ++ [t], _, rfl, by omega, by go_num, by rw [List.length_append, hacc]; rfl, hp3, EN, D6.out, T6.out⟩
          · rw [if_neg htc] at ST
            have EX := ST
            have HC9 := Lib.hid htc
            clear htc
            go_wp2_with fail
            refine WD.out.mono ?_
            rintro e w2 ⟨⟨h0, rfl, p3, hp3, hd3, r2⟩ | ⟨h0, rfl⟩, f2⟩
            · exact absurd h0 HC9.out
            have D9 := Lib.hid (DD.out.toCmdB.gone f2)
            clear f2
            go_wp2
            refine leaves_cons (f := 41) (args := #[.pointer (some ⟨w.heap.size, 0, none⟩), .pointer (some ⟨w.heap.size + 1, 0, none⟩), .pointer (some ⟨w.heap.size + 2, 0, none⟩)]) (by simp) (by simp [go_sem]) ?_
            refine (catch_panicking _ _ _ _ _ _ tc [] _ D9.out.o0 D9.out.o1 D9.out.o2).mono ?_
            rintro e u' w'' ⟨rfl, rfl, rfl⟩
            obtain ⟨x0, x1, x2⟩ := cmd_cells D9.out.o0 D9.out.o1 D9.out.o2 (.slice none 0 0) (.int .i64 0) (.int .i64 tc)
            have PO := Lib.hid (cmdP_no (s := s) HC9.out D9.out)
            generalize ((w2.setCell ⟨w.heap.size, 0, none⟩ (.slice none 0 0)).setCell ⟨w.heap.size + 1, 0, none⟩ (.int .i64 0)).setCell ⟨w.heap.size + 2, 0, none⟩ (.int .i64 tc) = W at *
            simp [Leaves, settle, results, Tryd.results27, go_sem, x0, x1, x2]
            rw [EX.out]
            exact PO.out
        · obtain rfl : k = n := by omega
          have EX := Lib.hid (show R = (acc, s.data.toList.drop p2, 0) from by rw [HE.out, Nat.sub_self]; rfl)
          have c0 := DD.out.o0.cell 0
          have c1 : wr.cell? ⟨w.heap.size + 1 + 1 + 1, 1, none⟩ = some (.int .i64 p2) := Whole.cell DD.out.rd 1
          have c2 := DD.out.o1.cell 0
          have c3 : wr.cell? ⟨w.heap.size + 1 + 1, 0, none⟩ = some (.int .i64 0) := DD.out.o2.cell 0
          simp only [List.getElem?_cons_zero, List.getElem?_cons_succ] at c0 c2
          have z0 := DD.out.o0.frozen 0
          have z2 := DD.out.o1.frozen 0
          have z3 : wr.frozen? ⟨w.heap.size + 1 + 1, 0, none⟩ = false := DD.out.o2.frozen 0
          go_wp2
          go_region
          go_wp2
          refine leaves_cons (f := 41) (args := #[.pointer (some ⟨w.heap.size, 0, none⟩), .pointer (some ⟨w.heap.size + 1, 0, none⟩), .pointer (some ⟨w.heap.size + 1 + 1, 0, none⟩)]) (by simp) (by simp [go_sem]) ?_
          refine (catch_idle _ _ _ _).mono ?_
          rintro e u' w'' ⟨rfl, rfl, rfl⟩
          obtain ⟨x0, x1, x2⟩ := cmd_cells DD.out.o0 DD.out.o1 DD.out.o2 (.slice Av k cv) (.int .i64 p2) (.int .i64 0)
          have e2 : w.heap.size + 2 = w.heap.size + 1 + 1 := rfl
          have hT2 := HT.out
          rw [hacc] at hT2
          have PO := Lib.hid (show CmdP R s w (.returned (.tuple #[.slice Av k cv, .int .i64 p2, .int .i64 0])) (((wr.setCell ⟨w.heap.size, 0, none⟩ (.slice Av k cv)).setCell ⟨w.heap.size + 1, 0, none⟩ (.int .i64 p2)).setCell ⟨w.heap.size + 2, 0, none⟩ (.int .i64 0)).drew from by
            rw [EX.out]
            refine ⟨_, _, rfl, ?_, fun _ => ⟨p2, rfl, hp2, rfl⟩, (((DD.out.f.setCell (p := ⟨w.heap.size, 0, none⟩) (.inr (Nat.le_refl _)) _).setCell (p := ⟨w.heap.size + 1, 0, none⟩) (.inr (by show w.heap.size ≤ w.heap.size + 1; omega)) _).setCell (p := ⟨w.heap.size + 2, 0, none⟩) (.inr (by show w.heap.size ≤ w.heap.size + 2; omega)) _).drew⟩
            exact own_set _ (own_set _ (own_set _ hT2 (own_ne hT2 DD.out.o0 (by decide))) (own_ne hT2 DD.out.o1 (by decide))) (own_ne hT2 DD.out.o2 (by decide)))
          rw [e2] at PO x0 x1 x2
          clear e2 hT2
          generalize (((wr.setCell ⟨w.heap.size, 0, none⟩ (.slice Av k cv)).setCell ⟨w.heap.size + 1, 0, none⟩ (.int .i64 p2)).setCell ⟨w.heap.size + 1 + 1, 0, none⟩ (.int .i64 0)) = W at *
          simp [Leaves, settle, results, Tryd.results27, go_sem, x0, x1, x2]
          exact PO.out
  · rw [if_pos hc] at hR
    have HR := Lib.hid hR
    have HC := Lib.hid hc
    clear hR hc
    go_enter_defers Tryd.func27, Tryd.ntmps27
    go_wp2_with fail
    refine NM.out.mono ?_
    rintro e w1 ⟨⟨h0, rfl, p, hp, hd, r1⟩ | ⟨h0, rfl⟩, f1⟩
    · exact absurd h0 HC.out
    have D1 := Lib.hid (D0.out.toCmdB.gone f1)
    go_wp2
    refine leaves_cons (f := 41) (args := #[.pointer (some ⟨w.heap.size, 0, none⟩), .pointer (some ⟨w.heap.size + 1, 0, none⟩), .pointer (some ⟨w.heap.size + 2, 0, none⟩)]) (by simp) (by simp [go_sem]) ?_
    refine (catch_panicking _ _ _ _ _ _ code [] _ D1.out.o0 D1.out.o1 D1.out.o2).mono ?_
    rintro e u' w'' ⟨rfl, rfl, rfl⟩
    obtain ⟨x0, x1, x2⟩ := cmd_cells D1.out.o0 D1.out.o1 D1.out.o2 (.slice none 0 0) (.int .i64 0) (.int .i64 code)
    have PO := Lib.hid (cmdP_no (s := s) HC.out D1.out)
    generalize ((w1.setCell ⟨w.heap.size, 0, none⟩ (.slice none 0 0)).setCell ⟨w.heap.size + 1, 0, none⟩ (.int .i64 0)).setCell ⟨w.heap.size + 2, 0, none⟩ (.int .i64 code) = W at *
    simp [Leaves, settle, results, Tryd.results27, go_sem, x0, x1, x2]
    rw [HR.out]
    exact PO.out
end Go.Proofs.YtlmaiiloihabdaaDoor
