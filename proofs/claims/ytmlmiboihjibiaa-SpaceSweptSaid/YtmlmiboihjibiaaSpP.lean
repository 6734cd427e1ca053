/- The walk of the laws' spaceBegun. What a law of spaces holds; the walk of the laws' spaceIs. Spaces: what a put, a sweep, a look for keys make of a row's bounds. (Was the head of SpQ.) -/
import Derived.Test.YtmlmiboihjibiaaSpN
set_option linter.unusedVariables false
set_option linter.unusedSimpArgs false
namespace Go.Proofs.Ytmlmiboihjibiaa
open Go.RowKit

set_option maxHeartbeats 8000000 in
set_option maxRecDepth 100000 in
theorem spaceBegun_any (w : World) : Calls Try.prog 39 #[] w fun e w' => e = .returned (.bool true) ∧ Fr [] w w' := by
  have SO := Lib.hid (fun W => some_any W)
  have RO := Lib.hid (fun W => row_any W)
  have G9 := Lib.hid (fun (W : World) v (h : EntsV W W.heap.size v someE) => (show Calls Try.prog 26 #[v, .int .i64 9, .string ⟨#[116]⟩] W (IEP sevI 0 W) from by
    have := spaceGet_any someE v 9 ⟨#[116]⟩ W W.heap.size some_small (by decide) (by decide) (Nat.le_refl _) h
    rw [sb_get9.1, sb_get9.2] at this
    exact this))
  have G10 := Lib.hid (fun (W : World) v (h : EntsV W W.heap.size v someE) => (show Calls Try.prog 26 #[v, .int .i64 10, .string ⟨#[116]⟩] W (IEP (newI 0) 0 W) from by
    have := spaceGet_any someE v 10 ⟨#[116]⟩ W W.heap.size some_small (by decide) (by decide) (Nat.le_refl _) h
    rw [sb_get10.1, sb_get10.2] at this
    exact this))
  have PU := Lib.hid (fun (W : World) v u (h : EntsV W W.heap.size v someE) (k : ItemV W W.heap.size u rowI) => (show Calls Try.prog 27 #[v, .int .i64 5, .string ⟨#[107]⟩, u, .int .i64 0] W (SCP [⟨⟨#[107]⟩, rowI, 0⟩, ⟨⟨#[108]⟩, rowI, 0⟩, ⟨⟨#[116]⟩, sevI, 10⟩] 0 W) from by
    have := spacePut_any someE v 5 ⟨#[107]⟩ rowI u 0 W W.heap.size some_small (by decide) (by decide) row_small (Nat.le_refl _) h k
    rw [sb_put.1, sb_put.2] at this
    exact this))
  have UN := Lib.hid (fun (W : World) v (h : EntsV W W.heap.size v someE) => (show Calls Try.prog 28 #[v, .int .i64 9, .string ⟨#[116]⟩] W fun e w' => e = .returned (.tuple #[.int .i64 10, .int .i64 0]) ∧ Fr [] W w' from by
    have := spaceUntil_any someE v 9 ⟨#[116]⟩ W W.heap.size some_small (by decide) (by decide) (Nat.le_refl _) h
    rw [sb_until.1, sb_until.2] at this
    exact this))
  have KE := Lib.hid (fun (W : World) v (h : EntsV W W.heap.size v someE) => (show Calls Try.prog 29 #[v, .int .i64 10, .string ⟨#[42]⟩] W (TCP [⟨#[108]⟩] 0 W) from by
    have := spaceKeys_any someE v 10 ⟨#[42]⟩ W W.heap.size some_small (by decide) (by decide) (Nat.le_refl _) h
    rw [sb_keys.1, sb_keys.2] at this
    exact this))
  have SW := Lib.hid (fun (W : World) v (h : EntsV W W.heap.size v someE) => (show Calls Try.prog 30 #[v, .int .i64 10] W (SNC [⟨⟨#[108]⟩, rowI, 0⟩] 1 0 W) from by
    have := spaceSweep_any someE v 10 W W.heap.size some_small (by decide) (Nat.le_refl _) h
    rw [sb_sweep.1, sb_sweep.2.1, sb_sweep.2.2] at this
    exact this))
  have CH := Lib.hid (fun (W : World) v (h : EntsV W W.heap.size v someE) => (show Calls Try.prog 40 #[v] W fun e w' => e = .returned (.int .i64 0) ∧ Fr [] W w' from by
    have := spaceCheck_any someE v W W.heap.size some_small (by decide) (Nat.le_refl _) h
    rw [sb_check] at this
    exact this))
  have IN := Lib.hid (fun (W : World) v (h : ItemV W W.heap.size v (newI 0)) => (show Calls Try.prog 32 #[v] W fun e w' => e = .returned (.bool true) ∧ Fr [] W w' from by
    have := isNothing_any (newI 0) v W W.heap.size newI0_small (Nat.le_refl _) h
    rw [show nothingI (newI 0) = true from by kernel_rfl] at this
    exact this))
  have ST := Lib.hid (fun (W : World) (A B : Option Addr) c d (h : Sl W W.heap.size 1 (.slice A 1 c) 1 (textsV [⟨#[108]⟩])) (k : Sl W W.heap.size 1 (.slice B 1 d) 1 (textsV [⟨#[108]⟩])) => (show Calls Try.prog 25 #[.slice A 1 c, .slice B 1 d] W fun e w' => e = .returned (.bool true) ∧ Fr [] W w' from by
    have := sameTexts_any [⟨#[108]⟩] [⟨#[108]⟩] A B c d W.heap.size W (by decide) (by decide) (Nat.le_refl _) h k
    rw [show sameT [⟨#[108]⟩] [⟨#[108]⟩] = true from by kernel_rfl] at this
    exact this))
  go_enter Try.func39, Try.ntmps39
  go_wp2_with fail
  refine (SO.out _).mono ?_
  rintro e1 w1 ⟨u1, rfl, o1, f1⟩
  obtain ⟨A1, c1, rfl⟩ := o1.form
  have F1 := Lib.hid f1
  go_wp2_with fail
  refine (G9.out _ _ o1.v).mono ?_
  rintro e2 w2 ⟨u2, rfl, o2, f2⟩
  obtain ⟨X1, x1, X2, x2, X3, x3, rfl⟩ := o2.form
  have F2 := Lib.hid (F1.out.trans f2)
  have B2 := Lib.hid (Whole.new w2 26 [.int .i64 sevI.kind, .string sevI.text, .slice X1 sevI.list.length x1, .slice X2 sevI.pairs.length x2, .slice X3 sevI.scores.length x3])
  have F2b := Lib.hid (F2.out.alloc (.cells #[.int .i64 sevI.kind, .string sevI.text, .slice X1 sevI.list.length x1, .slice X2 sevI.pairs.length x2, .slice X3 sevI.scores.length x3] 26))
  clear o1 f1 o2 f2 F1 F2
  go_wp2_with fail
  refine (SO.out _).mono ?_
  rintro e3 w3 ⟨u3, rfl, o3, f3⟩
  obtain ⟨A3, c3, rfl⟩ := o3.form
  have F3 := Lib.hid (F2b.out.trans f3)
  have B3 := Lib.hid (B2.out.fr f3 (by simp))
  clear B2 F2b f3
  go_wp2_with fail
  refine (G10.out _ _ o3.v).mono ?_
  rintro e4 w4 ⟨u4, rfl, o4, f4⟩
  obtain ⟨Y1, y1, Y2, y2, Y3, y3, rfl⟩ := o4.form
  have F4 := Lib.hid (F3.out.trans f4)
  have B4 := Lib.hid (B3.out.fr f4 (by simp))
  have C4 := Lib.hid (Whole.new w4 26 [.int .i64 (newI 0).kind, .string (newI 0).text, .slice Y1 (newI 0).list.length y1, .slice Y2 (newI 0).pairs.length y2, .slice Y3 (newI 0).scores.length y3])
  have K4 := Lib.hid ((Fr.refl [] w4).alloc (.cells #[.int .i64 (newI 0).kind, .string (newI 0).text, .slice Y1 (newI 0).list.length y1, .slice Y2 (newI 0).pairs.length y2, .slice Y3 (newI 0).scores.length y3] 26))
  have HY4 := Lib.hid (o4.go K4.out)
  have F4b := Lib.hid (F4.out.trans K4.out)
  have B4b := Lib.hid (B4.out.fr K4.out (by simp))
  clear o3 o4 f4 F4 B4 B3 F3 K4
  go_wp2_with fail
  refine (SO.out _).mono ?_
  rintro e5 w5 ⟨u5, rfl, o5, f5⟩
  obtain ⟨A5, c5, rfl⟩ := o5.form
  go_wp2_with fail
  refine (RO.out _).mono ?_
  rintro e6 w6 ⟨u6, rfl, o6, f6⟩
  obtain ⟨Z1, z1, Z2, z2, Z3, z3, rfl⟩ := o6.form
  go_wp2_with fail
  refine (PU.out _ _ _ (o5.fr f6).v o6.item).mono ?_
  rintro e7 w7 ⟨u7, rfl, o7, f7⟩
  obtain ⟨A7, c7, rfl⟩ := o7.form
  have N7 := Lib.hid (((f5.trans f6).trans f7))
  have F7 := Lib.hid (F4b.out.trans N7.out)
  have B7 := Lib.hid (B4b.out.fr N7.out (by simp))
  have C7 := Lib.hid (C4.out.fr N7.out (by simp))
  have HY7 := Lib.hid (HY4.out.go N7.out)
  clear o5 o6 o7 f5 f6 f7 N7 F4b B4b C4 HY4
  go_wp2_with fail
  refine (SO.out _).mono ?_
  rintro e8 w8 ⟨u8, rfl, o8, f8⟩
  obtain ⟨A8, c8, rfl⟩ := o8.form
  go_wp2_with fail
  refine (UN.out _ _ o8.v).mono ?_
  rintro e9 w9 ⟨rfl, f9⟩
  go_wp2_with fail
  refine (SO.out _).mono ?_
  rintro ea wa ⟨ua, rfl, oa, fa⟩
  obtain ⟨Aa, ca, rfl⟩ := oa.form
  go_wp2_with fail
  refine (KE.out _ _ oa.v).mono ?_
  rintro eb wb ⟨Ab, cb, rfl, ob, fb⟩
  have Nb := Lib.hid (((f8.trans f9).trans fa).trans fb)
  have HB := Lib.hid ob
  clear o8 f8 f9 oa fa ob fb
  go_wp2_with fail
  refine (SO.out _).mono ?_
  rintro ec w10 ⟨uc, rfl, oc, fc⟩
  obtain ⟨Ac, cc, rfl⟩ := oc.form
  go_wp2_with fail
  refine (SW.out _ _ oc.v).mono ?_
  rintro ed wd ⟨ud, rfl, od, fd⟩
  obtain ⟨Ad, cd, rfl⟩ := od.form
  go_wp2_with fail
  refine (SO.out _).mono ?_
  rintro ee we ⟨ue, rfl, oe, fe⟩
  obtain ⟨Ae, ce, rfl⟩ := oe.form
  go_wp2_with fail
  refine (CH.out _ _ oe.v).mono ?_
  rintro eg wg ⟨rfl, fg⟩
  have Ng := Lib.hid (((fc.trans fd).trans fe).trans fg)
  have Nh := Lib.hid (Nb.out.trans Ng.out)
  have Fg := Lib.hid (F7.out.trans Nh.out)
  have Bg := Lib.hid (B7.out.fr Nh.out (by simp))
  have Cg := Lib.hid (C7.out.fr Nh.out (by simp))
  have HYg := Lib.hid (HY7.out.go Nh.out)
  have HBg := Lib.hid (own_fr HB.out Ng.out (by simp))
  clear oc fc od fd oe fe fg Nb Ng Nh F7 B7 C7 HY7 HB
  obtain ⟨p0, p1, p2, p3, p4⟩ := five Bg.out
  have hst : sevI.text.toList = [55] := by decide +kernel
  obtain ⟨q0, q1, q2, q3, q4⟩ := five Cg.out
  go_wp2_with fail
  refine (IN.out _ _ HYg.out.item).mono ?_
  rintro ei wi ⟨rfl, fi⟩
  have Fi := Lib.hid (Fg.out.trans fi)
  have HBi := Lib.hid ((own_fr HBg.out fi (by simp)))
  clear fi
  have L1 := Lib.hid (own_sl (World.ownsRow_lit (base := wi.heap.size) (e := 9) (size := 1) wi #[.string ⟨#[108]⟩] 1 (Nat.le_refl _) (by decide) rfl))
  have Fj := Lib.hid (Fi.out.alloc (.cells #[.string ⟨#[108]⟩] 9))
  have HBj := Lib.hid (own_sl (HBi.out.alloc (.cells #[.string ⟨#[108]⟩] 9)))
  go_wp2_with fail
  refine (ST.out _ _ _ _ _ HBj.out L1.out).mono ?_
  rintro ek wk ⟨rfl, fk⟩
  have Fk := Lib.hid (Fj.out.trans fk)
  clear fk
  go_wp2
  go_ret
  exact ⟨rfl, Fk.out⟩
end Go.Proofs.Ytmlmiboihjibiaa

namespace Go.Proofs.Ytmlmiboihjibiaa
open Go.RowKit

theorem EntsV.go {w w' : World} {v : Value} {l : List Ent} (h : EntsV w w.heap.size v l) (hf : Fr [] w w') : EntsV w' w'.heap.size v l := (h.fr hf (Nat.le_refl _) (by simp)).more hf.size
/-- blocks of items, items and rows that read, spaces that read. -/
structure SE (w0 : World) (bl : List (Nat × List Value)) (its : List (Value × Itm)) (rs : List (Nat × Value × Nat × List Value)) (es : List (Value × List Ent)) (wr : World) : Prop where
  env : Env w0 bl its rs wr
  es : ∀ p ∈ es, EntsV wr wr.heap.size p.1 p.2
section
variable {w0 wr w1 : World} {bl : List (Nat × List Value)} {its : List (Value × Itm)} {rs : List (Nat × Value × Nat × List Value)} {es : List (Value × List Ent)}
theorem SE.go (h : SE w0 bl its rs es wr) (k : Fr [] wr w1) : SE w0 bl its rs es w1 := ⟨h.env.go k, fun p hp => (h.es p hp).go k⟩
theorem SE.box (h : SE w0 bl its rs es wr) (a b c d e : Value) : SE w0 ((wr.heap.size, [a, b, c, d, e]) :: bl) its rs es (wr.alloc (.cells #[a, b, c, d, e] 26)) :=
  ⟨h.env.box a b c d e, fun p hp => (h.es p hp).go ((Fr.refl [] wr).alloc _)⟩
theorem SE.item {v : Value} {x : Itm} (h : SE w0 bl its rs es wr) (hv : ItemV wr wr.heap.size v x) : SE w0 bl ((v, x) :: its) rs es wr := ⟨h.env.item hv, h.es⟩
theorem SE.row {size n : Nat} {v : Value} {xs : List Value} (h : SE w0 bl its rs es wr) (hv : Sl wr wr.heap.size size v n xs) : SE w0 bl its ((size, v, n, xs) :: rs) es wr := ⟨h.env.row hv, h.es⟩
theorem SE.ents {v : Value} {l : List Ent} (h : SE w0 bl its rs es wr) (hv : EntsV wr wr.heap.size v l) : SE w0 bl its rs ((v, l) :: es) wr :=
  ⟨h.env, fun p hp => by
    rcases List.mem_cons.1 hp with rfl | hp
    · exact hv
    · exact h.es p hp⟩
theorem SE.put {g : Nat} {cs : List Value} (h : SE w0 bl its rs es wr) (hw : Whole wr g 26 cs) : SE w0 ((g, cs) :: bl) its rs es wr := ⟨h.env.put hw, h.es⟩
end

set_option maxHeartbeats 2000000 in
set_option maxRecDepth 100000 in
theorem spaceIs_any (l : List Ent) (v u : Value) (c : Int) (w : World) (B : Nat) (hs : ∀ e ∈ l, e.Small) (hl : l.length ≤ 281474976710656) (hB : B ≤ w.heap.size) (h : EntsV w B v l) (h0 : c = 0 → EntsV w B u l) (h1 : c ≠ 0 → l = []) :
    Calls Try.prog 43 #[v, .int .i64 c, .int .i64 c, u] w fun e w' => e = .returned (.bool true) ∧ Fr [] w w' := by
  have q0 : (c == c) = true := by simp
  by_cases hc : c = 0
  · have S := Lib.hid (sameSpace_any l v u w B hs hl hB h (h0 hc))
    have q1 : (c != 0) = false := by simpa using hc
    clear h h0 h1 hc
    go_enter Try.func43, Try.ntmps43
    go_wp2_with fail
    refine S.out.mono ?_
    rintro e w1 ⟨rfl, f1⟩
    go_wp2
    go_ret
    exact ⟨rfl, f1⟩
  · obtain rfl := h1 hc
    have S := Lib.hid (sameSpace_any [] v (.slice none 0 0) w B hs hl hB h (EntsV.nil _ _))
    have q1 : (c != 0) = true := by simpa using hc
    clear h h0 h1 hc
    go_enter Try.func43, Try.ntmps43
    go_wp2_with fail
    refine S.out.mono ?_
    rintro e w1 ⟨rfl, f1⟩
    go_wp2
    go_ret
    exact ⟨rfl, f1⟩
end Go.Proofs.Ytmlmiboihjibiaa

namespace Go.Proofs.Ytmlmiboihjibiaa
open Go.RowKit

theorem insAt_mem {l : List Ent} {p q : Ent} {j : Nat} (h : q ∈ insAt l p j) : q = p ∨ q ∈ l := by
  unfold insAt at h
  rcases List.mem_append.1 h with h | h
  · exact .inr (List.mem_of_mem_take h)
  · rcases List.mem_cons.1 h with h | h
    · exact .inl h
    · exact .inr (List.mem_of_mem_drop h)
theorem put2_all {P : Ent → Prop} {l : List Ent} {now : Int} {s : ByteArray} {x : Itm} {u : Int} (hl : ∀ e ∈ l, P e) (hn : P ⟨s, x, u⟩) : ∀ e ∈ put2 l now s x u, P e := by
  have h1 : ∀ e ∈ insE (offE l s) ⟨s, x, u⟩, P e := fun e he => by
    rcases insAt_mem he with rfl | h
    · exact hn
    · exact hl _ (List.mem_filter.1 h).1
  intro e he
  unfold put2 at he
  split at he
  · exact h1 e (List.mem_filter.1 he).1
  · exact h1 e he
theorem putLL_all {P : Ent → Prop} {l : List Ent} {now : Int} {s : ByteArray} {x : Itm} {u : Int} (hl : ∀ e ∈ l, P e) (hn : P ⟨s, x, u⟩) : ∀ e ∈ putLL l now s x u, P e := by
  intro e he
  unfold putLL putE at he
  split at he
  · split at he
    · exact hl _ (List.mem_filter.1 he).1
    · split at he
      · cases he
      · exact put2_all hl hn e he
  · cases he
theorem put2_len (l : List Ent) (now : Int) (s : ByteArray) (x : Itm) (u : Int) : (put2 l now s x u).length ≤ l.length + 1 := by
  have h1 : (insE (offE l s) ⟨s, x, u⟩).length ≤ l.length + 1 := by
    unfold insE
    rw [insAt_length _ _ (lowK_le _ _ _)]
    have := off_len l s
    omega
  unfold put2
  split
  · exact Nat.le_trans (List.length_filter_le _ _) h1
  · exact h1
theorem putLL_len (l : List Ent) (now : Int) (s : ByteArray) (x : Itm) (u : Int) : (putLL l now s x u).length ≤ l.length + 1 := by
  unfold putLL putE
  split
  · split
    · have := off_len l s; omega
    · split
      · simp
      · exact put2_len l now s x u
  · simp
theorem swL_mem {l : List Ent} {now : Int} {e : Ent} (h : e ∈ swL l now) : e ∈ l := by
  unfold swL at h
  split at h
  · exact (List.mem_filter.1 h).1
  · cases h
theorem swL_len (l : List Ent) (now : Int) : (swL l now).length ≤ l.length := by
  unfold swL
  split
  · exact List.length_filter_le _ _
  · simp
theorem getI_small {l : List Ent} (hs : ∀ e ∈ l, e.Small) (now : Int) (s : ByteArray) : (getI l now s).Small := by
  unfold getI
  split
  · exact (lookE_small hs now s).item
  · exact newI0_small
theorem keysR_len (l : List Ent) (now : Int) (p : ByteArray) : (keysR l now p).length ≤ l.length := by
  unfold keysR keysL
  split
  · rw [List.length_map]; exact List.length_filter_le _ _
  · simp
end Go.Proofs.Ytmlmiboihjibiaa
