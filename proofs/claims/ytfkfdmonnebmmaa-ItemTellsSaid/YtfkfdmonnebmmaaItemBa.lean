/- The walks of the reference's one and ItemBytes. -/
import Derived.Test.YtfkfdmonnebmmaaItemY
import Derived.Test.YtfkfdmonnebmmaaItemW
import Derived.Laws.IdiomStrings
import Derived.Deep.RegionHeld3
import Derived.Deep.DrawnRows
set_option linter.unusedVariables false
set_option linter.unusedSimpArgs false
namespace Go.Proofs.Ytfkfdmonnebmmaa
open Go.RowKit

theorem addS (a b : ByteArray) (hs : a.size + b.size ≤ 9223372036854775807) (W : World) : (Op.stringOp .add a b).run Try.prog W = .ok (.string (a ++ b)) W :=
  run_string_add_sum W a b hs

/-- one byte, as a text. -/
def one8 (n : Nat) : ByteArray := toB [byteN n]
theorem one8_size (n : Nat) : (one8 n).size = 1 := toB_size _
theorem toB_append (a b : List UInt8) : toB a ++ toB b = toB (a ++ b) := by
  apply ext_list
  rw [toB_list]
  simp [toB]

theorem one_any (v : Int) (w : World) (h0 : 0 ≤ v) (h1 : v < 256) : Calls Try.prog 61 #[.int .i64 v] w fun e w' => e = .returned (.string (one8 v.toNat)) ∧ Fr [] w w' := by
  have hb : (convert 125 9 (.slice (some ⟨w.heap.size, 0, none⟩) 1 1)).run Try.prog (w.alloc (.cells #[.int .u8 v] 5)) = .ok (.string (one8 v.toNat)) (w.alloc (.cells #[.int .u8 v] 5)) := by
    have := run_convert_bytes_back (P := Try.prog) (w.alloc (.cells #[.int .u8 v] 5)) 125 9 5 ⟨w.heap.size, 0, none⟩ 1 [byteN v.toNat] Try.underlying125 Try.underlying5 Try.underlying9 (fun j hj => by
      have e : j = 0 := by simp at hj; exact hj
      subst e
      have hc := (Whole.new w 5 [.int .u8 v]).cell 0
      have e2 : (⟨w.heap.size, 0, none⟩ : Addr).add 0 = ⟨w.heap.size, 0, none⟩ := rfl
      rw [e2, hc]
      have : ((byteN v.toNat).toNat : Int) = v := by rw [byteN_toNat]; omega
      simp [this])
    exact this
  have HB := Lib.hid hb
  clear hb
  go_enter Try.func61, Try.ntmps61
  have hb := HB.out
  generalize one8 v.toNat = r at *
  go_wp2
  go_ret
  exact ⟨rfl, (Fr.refl [] w).alloc _⟩

theorem oneN_any (n : Nat) (w : World) (h : n < 256) : Calls Try.prog 61 #[.int .i64 n] w fun e w' => e = .returned (.string (one8 n)) ∧ Fr [] w w' := one_any n w (by omega) (by omega)

/-- the item's block, and what has turned since. -/
structure Bxo (w : World) (cs : List Value) (wr : World) : Prop where
  box : Whole wr w.heap.size 33 cs
  fr : Fr [] w wr
theorem Bxo.step {w wr w1 : World} {cs : List Value} (h : Bxo w cs wr) (f : Fr [] wr w1) : Bxo w cs w1 := ⟨h.box.fr f (by simp), h.fr.trans f⟩

/-- what has been told so far. -/
structure Told (w : World) (cs : List Value) (l : List UInt8) (q : ByteArray) (wr : World) : Prop where
  bx : Bxo w cs wr
  text : q = toB l
theorem Told.step {w wr w1 : World} {cs : List Value} {l : List UInt8} {q : ByteArray} (h : Told w cs l q wr) (f : Fr [] wr w1) : Told w cs l q w1 := ⟨h.bx.step f, h.text⟩
theorem oneV_any (k : Nat) (W : World) (h : k < 256) (v : Int) (hv : v = k) :
    Calls Try.prog 61 #[.int .i64 v] W fun e w' => e = .returned (.string (one8 k)) ∧ Fr [] W w' := by
  subst hv; exact oneN_any k W h
theorem one8_enc (s : ByteArray) : one8 s.size ++ s = toB (encText s) := by
  rw [show s = toB s.data.toList from (toB_of s).symm]
  unfold one8
  rw [toB_append, toB_of]
  rfl

set_option maxHeartbeats 1000000 in
set_option maxRecDepth 100000 in
theorem refBytesT_any (x : Itm) (v : Value) (w : World) (B : Nat) (hx : RightI x) (h : ItemV w B v x) (hk : x.kind = 1) :
    Calls Try.prog 20 #[v] w fun e w' => e = .returned (.string (toB (encItm x))) ∧ Fr [] w w' := by
  obtain ⟨A1, c1, A2, c2, A3, c3, rfl, h1, h2, h3⟩ := h
  have hE : toB (encItm x) = one8 1 ++ x.text := by
    unfold encItm one8
    rw [if_pos hk, hk]
    rw [show x.text = toB x.text.data.toList from (toB_of _).symm, toB_append, toB_of]
    rfl
  have ht := hx.text
  have O := Lib.hid (fun W => oneN_any 1 W (by omega))
  have AD := addS (one8 1) x.text (by rw [one8_size]; omega)
  rw [hE, hk]
  clear h1 h2 h3 hE hk hx
  generalize x.text = t at *
  generalize one8 1 = o at *
  generalize x.list.length = n1 at *
  generalize x.pairs.length = n2 at *
  generalize x.scores.length = n3 at *
  go_enter Try.func20, Try.ntmps20
  go_wp2_with fail
  refine (O.out _).mono ?_
  rintro e w1 ⟨rfl, f1⟩
  have F1 : Fr [] w w1 := ((Fr.refl [] w).alloc _).trans f1
  obtain ⟨d0, d1, d2, d3, d4⟩ := five ((Whole.new w 33 [.int .i64 1, .string t, .slice A1 n1 c1, .slice A2 n2 c2, .slice A3 n3 c3]).fr f1 (by simp))
  go_wp2
  go_ret
  exact ⟨rfl, F1⟩

set_option maxHeartbeats 4000000 in
set_option maxRecDepth 100000 in
theorem refBytesL_any (x : Itm) (v : Value) (w : World) (B : Nat) (hs : x.Small) (hB : B ≤ w.heap.size) (hx : RightI x) (h : ItemV w B v x) (hk : x.kind ≠ 1) :
    Calls Try.prog 20 #[v] w fun e w' => e = .returned (.string (toB (encItm x))) ∧ Fr [] w w' := by
  obtain ⟨A1, c1, A2, c2, A3, c3, rfl, h1, h2, h3⟩ := h
  have hE : encItm x = ([byteN x.kind.toNat] ++ [byteN (many x)]) ++ x.list.flatMap encText ++ x.pairs.flatMap encPair ++ x.scores.flatMap encScore := by unfold encItm; rw [if_neg hk]; simp
  have hm := hx.many
  have hmm : many x = x.list.length + x.pairs.length + x.scores.length := rfl
  have l1 : x.list.length ≤ 24 := by omega
  have l2 : x.pairs.length ≤ 24 := by omega
  have l3 : x.scores.length ≤ 24 := by omega
  obtain ⟨hk1, hk2⟩ := hx.kind
  have k1 : (x.kind == 1) = false := by simpa using hk
  have O1 := Lib.hid (fun W => one_any x.kind W (by omega) (by omega))
  have O2 := Lib.hid (fun W => one_any ((x.list.length : Int) + (x.pairs.length : Int) + (x.scores.length : Int)) W (by omega) (by omega))
  rw [show ((x.list.length : Int) + (x.pairs.length : Int) + (x.scores.length : Int)).toNat = many x by omega] at O2
  have AD := addS (one8 x.kind.toNat) (one8 (many x)) (by rw [one8_size, one8_size]; omega)
  have T0 := Lib.hid (show one8 x.kind.toNat ++ one8 (many x) = toB ([byteN x.kind.toNat] ++ [byteN (many x)]) from toB_append _ _)
  have Z0 := Lib.hid (show (one8 x.kind.toNat ++ one8 (many x)).size = 2 by rw [T0.out, toB_size]; rfl)
  have P0 := Lib.hid (show ([byteN x.kind.toNat] ++ [byteN (many x)]).length = 2 from rfl)
  have HE := Lib.hid hE
  have HX := Lib.hid hx
  have H1 := Lib.hid h1
  have H2 := Lib.hid h2
  have H3 := Lib.hid h3
  have B0 := Lib.hid (show Bxo w [.int .i64 x.kind, .string x.text, .slice A1 x.list.length c1, .slice A2 x.pairs.length c2, .slice A3 x.scores.length c3] (w.alloc (.cells #[.int .i64 x.kind, .string x.text, .slice A1 x.list.length c1, .slice A2 x.pairs.length c2, .slice A3 x.scores.length c3] 33)) from ⟨Whole.new w _ _, (Fr.refl [] w).alloc _⟩)
  clear h1 h2 h3 hE hk hx hs hmm
  generalize [byteN x.kind.toNat] ++ [byteN (many x)] = p0 at *
  generalize hq0 : one8 x.kind.toNat ++ one8 (many x) = q0 at *
  have HQ0 := Lib.hid hq0
  generalize one8 x.kind.toNat = o1 at *
  generalize one8 (many x) = o2 at *
  go_enter Try.func20, Try.ntmps20
  go_wp2_with fail
  refine (O1.out _).mono ?_
  rintro e w1 ⟨rfl, f1⟩
  have B1 := Lib.hid (B0.out.step f1)
  obtain ⟨d0, d1, d2, d3, d4⟩ := five B1.out.box
  go_wp2_with fail
  refine (O2.out _).mono ?_
  rintro e w2 ⟨rfl, f2⟩
  have B2 := Lib.hid (B1.out.step f2)
  clear d0 d1 d2 d3 d4 f1 f2 hq0
  go_wp2
  have TD := Lib.hid (show Told w [.int .i64 x.kind, .string x.text, .slice A1 x.list.length c1, .slice A2 x.pairs.length c2, .slice A3 x.scores.length c3] p0 q0 w2 from ⟨B2.out, T0.out⟩)
  clear AD
  go_loopg [3, 4] x.list.length (fun g sv i wr => ∃ (m : Nat) (q : ByteArray), g = x.list.length - m ∧ sv = .string q ∧ i = .int .i64 m ∧ m ≤ x.list.length ∧ Told w [.int .i64 x.kind, .string x.text, .slice A1 x.list.length c1, .slice A2 x.pairs.length c2, .slice A3 x.scores.length c3] (p0 ++ (x.list.take m).flatMap encText) q wr)
  case atStart => exact ⟨0, _, rfl, rfl, rfl, Nat.zero_le _, by simpa using TD.out⟩
  clear TD
  case round =>
  obtain ⟨m, q, rfl, rfl, rfl, hm1, hT⟩ := hrel
  have HT := Lib.hid hT
  obtain ⟨d0, d1, d2, d3, d4⟩ := five hT.bx.box
  have hlen : q.size ≤ 90000 := by
    rw [hT.text, toB_size]
    have := flat_le encText 61 (x.list.take m) (fun y hy => by rw [encText_length]; have := HX.out.texts y (List.mem_of_mem_take hy); omega)
    have h2 := List.length_take_le m x.list
    rw [List.length_append]
    have : (x.list.take m).length * 61 ≤ 24 * 61 := Nat.mul_le_mul_right _ (by omega)
    have := P0.out
    omega
  clear hT
  by_cases hlt : m < x.list.length
  · obtain ⟨b, off, e, hb, hc, hmx, hcell⟩ := H1.out.at_ (by omega)
    obtain ⟨s, hs⟩ : ∃ s, x.list[m]? = some s := ⟨_, List.getElem?_eq_getElem hlt⟩
    have TK := Lib.hid (take_flat encText hs)
    have ix0 : (0 : Int) ≤ (m : Int) := by omega
    have ix1 : (m : Int) < (x.list.length : Int) := by omega
    rw [e] at d2
    clear e
    have hc1 : wr.cell? ⟨b, off + m, none⟩ = some (.string s) := HT.out.bx.fr.cell (hcell m _ (textsV_get _ m s hs)) (by simp)
    have hs60 := HX.out.texts s (List.mem_of_getElem? hs)
    have O := Lib.hid (fun W => oneN_any s.size W (by omega))
    have A1' := addS (one8 s.size) s (by rw [one8_size]; omega)
    have A2' := addS q (one8 s.size ++ s) (by rw [ByteArray.size_append, one8_size]; omega)
    have HQ := Lib.hid (show q ++ (one8 s.size ++ s) = toB ((p0 ++ (x.list.take m).flatMap encText) ++ encText s) by rw [HT.out.text, one8_enc, toB_append])
    clear hcell hs
    generalize one8 s.size = o at *
    have tok : True := trivial
    go_wp2
    go_region_held3 (fun wx => wx.cell? ⟨w.heap.size, 2, none⟩ = some (.slice (some ⟨b, off, none⟩) x.list.length c1) ∧ wx.cell? ⟨b, off + m, none⟩ = some (.string s)) (go_keep) (first | (go_at_call 61; have _t := tok; go_must ((first | (with_reducible refine (O.out _).mono ?_)); clear tok _t; rintro e w5 ⟨rfl, f5⟩; have g5 : Fr [] wr w5 := ⟨f5.os, f5.tape, f5.output, f5.size, f5.block⟩; clear f5; have d2 := g5.cell d2 (by simp); have hc1 := g5.cell hc1 (by simp); have G := Lib.hid g5; clear g5)) | (go_at_call 61; (first | (with_reducible refine (O.out _).mono ?_)); rintro e w6 ⟨rfl, f6⟩; have d2 := f6.cell d2 (by simp); have hc1 := f6.cell hc1 (by simp); have G := Lib.hid (G.out.trans f6); clear f6))
    all_goals
      go_wp2
      go_roundg (x.list.length - (m + 1))
      case measure => omega
      case rel => exact ⟨m + 1, _, rfl, rfl, rfl, by omega, ⟨HT.out.bx.step G.out, by rw [TK.out, ← List.append_assoc]; exact HQ.out⟩⟩
  have HTa := Lib.hid (show Told w [.int .i64 x.kind, .string x.text, .slice A1 x.list.length c1, .slice A2 x.pairs.length c2, .slice A3 x.scores.length c3] (p0 ++ x.list.flatMap encText) q wr by have := HT.out; rw [List.take_of_length_le (by omega)] at this; exact this)
  clear HT hlen
  go_wp2
  clear d0 d1 d2 d3 d4 hlt hm1
  have P1 := Lib.hid (show (p0 ++ x.list.flatMap encText).length ≤ 10000 by
    have := flat_le encText 61 x.list (fun y hy => by rw [encText_length]; have := HX.out.texts y hy; omega)
    rw [List.length_append, P0.out]
    have : x.list.length * 61 ≤ 24 * 61 := Nat.mul_le_mul_right _ (by omega)
    omega)
  clear P0
  generalize p0 ++ x.list.flatMap encText = p1 at *
  go_loopg [3, 5] x.pairs.length (fun g sv i wr => ∃ (m : Nat) (q : ByteArray), g = x.pairs.length - m ∧ sv = .string q ∧ i = .int .i64 m ∧ m ≤ x.pairs.length ∧ Told w [.int .i64 x.kind, .string x.text, .slice A1 x.list.length c1, .slice A2 x.pairs.length c2, .slice A3 x.scores.length c3] (p1 ++ (x.pairs.take m).flatMap encPair) q wr)
  case atStart => exact ⟨0, _, rfl, rfl, rfl, Nat.zero_le _, by simpa using HTa.out⟩
  clear HTa
  case round =>
  obtain ⟨m, q, rfl, rfl, rfl, hm1, hT⟩ := hrel
  have HT := Lib.hid hT
  obtain ⟨d0, d1, d2, d3, d4⟩ := five hT.bx.box
  have hlen : q.size ≤ 90000 := by
    rw [hT.text, toB_size]
    have := flat_le encPair 130 (x.pairs.take m) (fun y hy => by have := HX.out.fields y (List.mem_of_mem_take hy); simp only [encPair, List.length_append, encText_length]; omega)
    have h2 := List.length_take_le m x.pairs
    rw [List.length_append]
    have : (x.pairs.take m).length * 130 ≤ 24 * 130 := Nat.mul_le_mul_right _ (by omega)
    have := P1.out
    omega
  clear hT
  by_cases hlt : m < x.pairs.length
  · obtain ⟨b, off, e, hb, hc, hmx, hcell⟩ := H2.out.at_ (by omega)
    obtain ⟨s, hs⟩ : ∃ s, x.pairs[m]? = some s := ⟨_, List.getElem?_eq_getElem hlt⟩
    have TK := Lib.hid (take_flat encPair hs)
    have ix0 : (0 : Int) ≤ (m : Int) := by omega
    have ix1 : (m : Int) < (x.pairs.length : Int) := by omega
    rw [e] at d3
    clear e
    have hc1 : wr.cell? ⟨b, off + 2 * m, none⟩ = some (.string s.1) := HT.out.bx.fr.cell (hcell _ _ (pairsV_get _ m s hs).1) (by simp)
    have hc2 : wr.cell? ⟨b, off + 2 * m + 1, none⟩ = some (.string s.2) := HT.out.bx.fr.cell (hcell _ _ (pairsV_get _ m s hs).2) (by simp)
    rw [Nat.mul_comm 2 m] at hc1 hc2
    obtain ⟨hs60, hs61⟩ := HX.out.fields s (List.mem_of_getElem? hs)
    have O := Lib.hid (fun W => oneN_any s.1.size W (by omega))
    have O2 := Lib.hid (fun W => oneN_any s.2.size W (by omega))
    have A1' := addS (one8 s.1.size) s.1 (by rw [one8_size]; omega)
    have A2' := addS (one8 s.1.size ++ s.1) (one8 s.2.size) (by simp only [ByteArray.size_append, one8_size]; omega)
    have A3' := addS (one8 s.1.size ++ s.1 ++ one8 s.2.size) s.2 (by simp only [ByteArray.size_append, one8_size]; omega)
    have A4' := addS q (one8 s.1.size ++ s.1 ++ one8 s.2.size ++ s.2) (by simp only [ByteArray.size_append, one8_size]; omega)
    have HQ := Lib.hid (show q ++ (one8 s.1.size ++ s.1 ++ one8 s.2.size ++ s.2) = toB ((p1 ++ (x.pairs.take m).flatMap encPair) ++ encPair s) by rw [HT.out.text, ByteArray.append_assoc (a := one8 s.1.size ++ s.1), one8_enc, one8_enc, toB_append, toB_append]; rfl)
    clear hcell hs
    generalize one8 s.1.size = o at *
    generalize one8 s.2.size = o2 at *
    have tok : True := trivial
    go_wp2
    go_region_held3 (fun wx => wx.cell? ⟨w.heap.size, 3, none⟩ = some (.slice (some ⟨b, off, none⟩) x.pairs.length c2) ∧ wx.cell? ⟨b, off + m * 2, none⟩ = some (.string s.1) ∧ wx.cell? ⟨b, off + m * 2 + 1, none⟩ = some (.string s.2)) (go_keep) (first | (go_at_call 61; have _t := tok; go_must ((first | (with_reducible refine (O.out _).mono ?_) | (with_reducible refine (O2.out _).mono ?_)); clear tok _t; rintro e w5 ⟨rfl, f5⟩; have g5 : Fr [] wr w5 := ⟨f5.os, f5.tape, f5.output, f5.size, f5.block⟩; clear f5; have d3 := g5.cell d3 (by simp); have hc1 := g5.cell hc1 (by simp); have hc2 := g5.cell hc2 (by simp); have G := Lib.hid g5; clear g5)) | (go_at_call 61; (first | (with_reducible refine (O.out _).mono ?_) | (with_reducible refine (O2.out _).mono ?_)); rintro e w6 ⟨rfl, f6⟩; have d3 := f6.cell d3 (by simp); have hc1 := f6.cell hc1 (by simp); have hc2 := f6.cell hc2 (by simp); have G := Lib.hid (G.out.trans f6); clear f6))
    all_goals
      go_wp2
      go_roundg (x.pairs.length - (m + 1))
      case measure => omega
      case rel => exact ⟨m + 1, _, rfl, rfl, rfl, by omega, ⟨HT.out.bx.step G.out, by rw [TK.out, ← List.append_assoc]; exact HQ.out⟩⟩
  have HTa := Lib.hid (show Told w [.int .i64 x.kind, .string x.text, .slice A1 x.list.length c1, .slice A2 x.pairs.length c2, .slice A3 x.scores.length c3] (p1 ++ x.pairs.flatMap encPair) q wr by have := HT.out; rw [List.take_of_length_le (by omega)] at this; exact this)
  clear HT hlen
  go_wp2
  clear d0 d1 d2 d3 d4 hlt hm1
  have P2 := Lib.hid (show (p1 ++ x.pairs.flatMap encPair).length ≤ 20000 by
    have := flat_le encPair 130 x.pairs (fun y hy => by have := HX.out.fields y hy; simp only [encPair, List.length_append, encText_length]; omega)
    have h3 := P1.out
    rw [List.length_append]
    have : x.pairs.length * 130 ≤ 24 * 130 := Nat.mul_le_mul_right _ (by omega)
    omega)
  have HE2 := Lib.hid (show encItm x = (p1 ++ x.pairs.flatMap encPair) ++ x.scores.flatMap encScore from HE.out)
  clear P1 HE
  generalize p1 ++ x.pairs.flatMap encPair = p2 at *
  go_loopg [3, 6] x.scores.length (fun g sv i wr => ∃ (m : Nat) (q : ByteArray), g = x.scores.length - m ∧ sv = .string q ∧ i = .int .i64 m ∧ m ≤ x.scores.length ∧ Told w [.int .i64 x.kind, .string x.text, .slice A1 x.list.length c1, .slice A2 x.pairs.length c2, .slice A3 x.scores.length c3] (p2 ++ (x.scores.take m).flatMap encScore) q wr)
  case atStart => exact ⟨0, _, rfl, rfl, rfl, Nat.zero_le _, by simpa using HTa.out⟩
  clear HTa
  case round =>
  obtain ⟨m, q, rfl, rfl, rfl, hm1, hT⟩ := hrel
  have HT := Lib.hid hT
  obtain ⟨d0, d1, d2, d3, d4⟩ := five hT.bx.box
  have hlen : q.size ≤ 90000 := by
    rw [hT.text, toB_size]
    have := flat_le encScore 130 (x.scores.take m) (fun y hy => by have := HX.out.members y (List.mem_of_mem_take hy); simp only [encScore, List.length_append, encText_length, encNum_length]; omega)
    have h2 := List.length_take_le m x.scores
    rw [List.length_append]
    have : (x.scores.take m).length * 130 ≤ 24 * 130 := Nat.mul_le_mul_right _ (by omega)
    have := P2.out
    omega
  clear hT
  by_cases hlt : m < x.scores.length
  · obtain ⟨b, off, e, hb, hc, hmx, hcell⟩ := H3.out.at_ (by omega)
    obtain ⟨s, hs⟩ : ∃ s, x.scores[m]? = some s := ⟨_, List.getElem?_eq_getElem hlt⟩
    have TK := Lib.hid (take_flat encScore hs)
    have ix0 : (0 : Int) ≤ (m : Int) := by omega
    have ix1 : (m : Int) < (x.scores.length : Int) := by omega
    rw [e] at d4
    clear e
    have hc1 : wr.cell? ⟨b, off + 2 * m, none⟩ = some (.int .i64 s.1) := HT.out.bx.fr.cell (hcell _ _ (scoresV_get _ m s hs).1) (by simp)
    have hc2 : wr.cell? ⟨b, off + 2 * m + 1, none⟩ = some (.string s.2) := HT.out.bx.fr.cell (hcell _ _ (scoresV_get _ m s hs).2) (by simp)
    rw [Nat.mul_comm 2 m] at hc1 hc2
    obtain ⟨hsi, hs61⟩ := HX.out.members s (List.mem_of_getElem? hs)
    obtain ⟨hn1, hn2⟩ := scoreNum hsi
    have HSI := Lib.hid hsi
    have HNN := Lib.hid (show (s.1 + 999999999).toNat = (s.1 + 999999999).toNat from rfl)
    have wn : IntKind.i64.wrap (s.1 + 999999999) = s.1 + 999999999 := IntWalk.i64_in _ (by omega)
    have HEN := Lib.hid (show encScore s = encNum (s.1 + 999999999).toNat ++ encText s.2 from rfl)
    generalize hnn : (s.1 + 999999999).toNat = nn at *
    have q0 : (nn : Int).tdiv 16777216 = ((nn / 16777216 : Nat) : Int) := rfl
    have q1 : (nn : Int).tdiv 65536 = ((nn / 65536 : Nat) : Int) := rfl
    have q2 : (nn : Int).tdiv 256 = ((nn / 256 : Nat) : Int) := rfl
    have q3 : (nn : Int).tmod 256 = ((nn % 256 : Nat) : Int) := rfl
    have q4 : ((nn / 65536 : Nat) : Int).tmod 256 = ((nn / 65536 % 256 : Nat) : Int) := rfl
    have q5 : ((nn / 256 : Nat) : Int).tmod 256 = ((nn / 256 % 256 : Nat) : Int) := rfl
    have g0 : nn / 16777216 < 256 := by omega
    have g1 : nn / 65536 % 256 < 256 := by omega
    have g2 : nn / 256 % 256 < 256 := by omega
    have g3 : nn % 256 < 256 := by omega
    have O := Lib.hid (fun W => oneV_any (nn / 16777216) W g0)
    have O2 := Lib.hid (fun W => oneV_any (nn / 65536 % 256) W g1)
    have O3 := Lib.hid (fun W => oneV_any (nn / 256 % 256) W g2)
    have O4 := Lib.hid (fun W => oneV_any (nn % 256) W g3)
    have O5 := Lib.hid (fun W => oneV_any s.2.size W (by omega))
    have HB := Lib.hid (show one8 (nn / 16777216) ++ one8 (nn / 65536 % 256) ++ one8 (nn / 256 % 256) ++ one8 (nn % 256) = toB (encNum nn) by
      unfold one8
      rw [toB_append, toB_append, toB_append]
      congr 1
      have e : ∀ k : Nat, byteN (k % 256) = byteN k := fun k => by apply UInt8.toNat.inj; rw [byteN_toNat, byteN_toNat]; omega
      rw [e, e, e]
      rfl)
    have ZB := Lib.hid (fun k => one8_size k)
    have A1' := addS (one8 (nn / 16777216)) (one8 (nn / 65536 % 256)) (by simp only [one8_size]; omega)
    have A2' := addS (one8 (nn / 16777216) ++ one8 (nn / 65536 % 256)) (one8 (nn / 256 % 256)) (by simp only [ByteArray.size_append, one8_size]; omega)
    have A3' := addS (one8 (nn / 16777216) ++ one8 (nn / 65536 % 256) ++ one8 (nn / 256 % 256)) (one8 (nn % 256)) (by simp only [ByteArray.size_append, one8_size]; omega)
    have A4' := addS (one8 (nn / 16777216) ++ one8 (nn / 65536 % 256) ++ one8 (nn / 256 % 256) ++ one8 (nn % 256)) (one8 s.2.size) (by simp only [ByteArray.size_append, one8_size]; omega)
    have A5' := addS (one8 (nn / 16777216) ++ one8 (nn / 65536 % 256) ++ one8 (nn / 256 % 256) ++ one8 (nn % 256) ++ one8 s.2.size) s.2 (by simp only [ByteArray.size_append, one8_size]; omega)
    have A6' := addS q (one8 (nn / 16777216) ++ one8 (nn / 65536 % 256) ++ one8 (nn / 256 % 256) ++ one8 (nn % 256) ++ one8 s.2.size ++ s.2) (by simp only [ByteArray.size_append, one8_size]; omega)
    have HQ := Lib.hid (show q ++ (one8 (nn / 16777216) ++ one8 (nn / 65536 % 256) ++ one8 (nn / 256 % 256) ++ one8 (nn % 256) ++ one8 s.2.size ++ s.2) = toB ((p2 ++ (x.scores.take m).flatMap encScore) ++ encScore s) by
      rw [HT.out.text, HB.out, HEN.out, ByteArray.append_assoc (a := toB (encNum nn)), one8_enc, toB_append, toB_append])
    clear hcell hs hnn HB HEN HNN ZB HSI hsi
    generalize one8 s.2.size = o5 at *
    generalize one8 (nn / 16777216) = o1 at *
    generalize one8 (nn / 65536 % 256) = o2 at *
    generalize one8 (nn / 256 % 256) = o3 at *
    generalize one8 (nn % 256) = o4 at *
    have tok : True := trivial
    go_wp2
    go_region_held3 (fun wx => wx.cell? ⟨w.heap.size, 4, none⟩ = some (.slice (some ⟨b, off, none⟩) x.scores.length c3) ∧ wx.cell? ⟨b, off + m * 2, none⟩ = some (.int .i64 s.1) ∧ wx.cell? ⟨b, off + m * 2 + 1, none⟩ = some (.string s.2)) (go_keep) (first | (go_at_call 61; have _t := tok; go_must ((first | (with_reducible refine (O.out _ _ ?hv).mono ?_; (case hv => first | rfl | (first | omega | (rw [IntWalk.i64_in _ (by omega)]; omega) | (rw [Int.tmod_eq_emod_of_nonneg (by omega)]; omega) | (rw [Int.tdiv_eq_ediv_of_nonneg (by omega)]; omega) | (rw [IntWalk.i64_in _ (by omega), Int.tmod_eq_emod_of_nonneg (by omega)]; omega) | (rw [IntWalk.i64_in _ (by rw [Int.tmod_eq_emod_of_nonneg (by omega)]; omega), Int.tmod_eq_emod_of_nonneg (by omega)]; omega)))) | (with_reducible refine (O2.out _ _ ?hv).mono ?_; (case hv => first | rfl | (first | omega | (rw [IntWalk.i64_in _ (by omega)]; omega) | (rw [Int.tmod_eq_emod_of_nonneg (by omega)]; omega) | (rw [Int.tdiv_eq_ediv_of_nonneg (by omega)]; omega) | (rw [IntWalk.i64_in _ (by omega), Int.tmod_eq_emod_of_nonneg (by omega)]; omega) | (rw [IntWalk.i64_in _ (by rw [Int.tmod_eq_emod_of_nonneg (by omega)]; omega), Int.tmod_eq_emod_of_nonneg (by omega)]; omega)))) | (with_reducible refine (O3.out _ _ ?hv).mono ?_; (case hv => first | rfl | (first | omega | (rw [IntWalk.i64_in _ (by omega)]; omega) | (rw [Int.tmod_eq_emod_of_nonneg (by omega)]; omega) | (rw [Int.tdiv_eq_ediv_of_nonneg (by omega)]; omega) | (rw [IntWalk.i64_in _ (by omega), Int.tmod_eq_emod_of_nonneg (by omega)]; omega) | (rw [IntWalk.i64_in _ (by rw [Int.tmod_eq_emod_of_nonneg (by omega)]; omega), Int.tmod_eq_emod_of_nonneg (by omega)]; omega)))) | (with_reducible refine (O4.out _ _ ?hv).mono ?_; (case hv => first | rfl | (first | omega | (rw [IntWalk.i64_in _ (by omega)]; omega) | (rw [Int.tmod_eq_emod_of_nonneg (by omega)]; omega) | (rw [Int.tdiv_eq_ediv_of_nonneg (by omega)]; omega) | (rw [IntWalk.i64_in _ (by omega), Int.tmod_eq_emod_of_nonneg (by omega)]; omega) | (rw [IntWalk.i64_in _ (by rw [Int.tmod_eq_emod_of_nonneg (by omega)]; omega), Int.tmod_eq_emod_of_nonneg (by omega)]; omega)))) | (with_reducible refine (O5.out _ _ ?hv).mono ?_; (case hv => first | rfl | (first | omega | (rw [IntWalk.i64_in _ (by omega)]; omega) | (rw [Int.tmod_eq_emod_of_nonneg (by omega)]; omega) | (rw [Int.tdiv_eq_ediv_of_nonneg (by omega)]; omega) | (rw [IntWalk.i64_in _ (by omega), Int.tmod_eq_emod_of_nonneg (by omega)]; omega) | (rw [IntWalk.i64_in _ (by rw [Int.tmod_eq_emod_of_nonneg (by omega)]; omega), Int.tmod_eq_emod_of_nonneg (by omega)]; omega))))); clear tok _t; rintro e w5 ⟨rfl, f5⟩; have g5 : Fr [] wr w5 := ⟨f5.os, f5.tape, f5.output, f5.size, f5.block⟩; clear f5; have d4 := g5.cell d4 (by simp); have hc1 := g5.cell hc1 (by simp); have hc2 := g5.cell hc2 (by simp); have G := Lib.hid g5; clear g5)) | (go_at_call 61; (first | (with_reducible refine (O.out _ _ ?hv).mono ?_; (case hv => first | rfl | (first | omega | (rw [IntWalk.i64_in _ (by omega)]; omega) | (rw [Int.tmod_eq_emod_of_nonneg (by omega)]; omega) | (rw [Int.tdiv_eq_ediv_of_nonneg (by omega)]; omega) | (rw [IntWalk.i64_in _ (by omega), Int.tmod_eq_emod_of_nonneg (by omega)]; omega) | (rw [IntWalk.i64_in _ (by rw [Int.tmod_eq_emod_of_nonneg (by omega)]; omega), Int.tmod_eq_emod_of_nonneg (by omega)]; omega)))) | (with_reducible refine (O2.out _ _ ?hv).mono ?_; (case hv => first | rfl | (first | omega | (rw [IntWalk.i64_in _ (by omega)]; omega) | (rw [Int.tmod_eq_emod_of_nonneg (by omega)]; omega) | (rw [Int.tdiv_eq_ediv_of_nonneg (by omega)]; omega) | (rw [IntWalk.i64_in _ (by omega), Int.tmod_eq_emod_of_nonneg (by omega)]; omega) | (rw [IntWalk.i64_in _ (by rw [Int.tmod_eq_emod_of_nonneg (by omega)]; omega), Int.tmod_eq_emod_of_nonneg (by omega)]; omega)))) | (with_reducible refine (O3.out _ _ ?hv).mono ?_; (case hv => first | rfl | (first | omega | (rw [IntWalk.i64_in _ (by omega)]; omega) | (rw [Int.tmod_eq_emod_of_nonneg (by omega)]; omega) | (rw [Int.tdiv_eq_ediv_of_nonneg (by omega)]; omega) | (rw [IntWalk.i64_in _ (by omega), Int.tmod_eq_emod_of_nonneg (by omega)]; omega) | (rw [IntWalk.i64_in _ (by rw [Int.tmod_eq_emod_of_nonneg (by omega)]; omega), Int.tmod_eq_emod_of_nonneg (by omega)]; omega)))) | (with_reducible refine (O4.out _ _ ?hv).mono ?_; (case hv => first | rfl | (first | omega | (rw [IntWalk.i64_in _ (by omega)]; omega) | (rw [Int.tmod_eq_emod_of_nonneg (by omega)]; omega) | (rw [Int.tdiv_eq_ediv_of_nonneg (by omega)]; omega) | (rw [IntWalk.i64_in _ (by omega), Int.tmod_eq_emod_of_nonneg (by omega)]; omega) | (rw [IntWalk.i64_in _ (by rw [Int.tmod_eq_emod_of_nonneg (by omega)]; omega), Int.tmod_eq_emod_of_nonneg (by omega)]; omega)))) | (with_reducible refine (O5.out _ _ ?hv).mono ?_; (case hv => first | rfl | (first | omega | (rw [IntWalk.i64_in _ (by omega)]; omega) | (rw [Int.tmod_eq_emod_of_nonneg (by omega)]; omega) | (rw [Int.tdiv_eq_ediv_of_nonneg (by omega)]; omega) | (rw [IntWalk.i64_in _ (by omega), Int.tmod_eq_emod_of_nonneg (by omega)]; omega) | (rw [IntWalk.i64_in _ (by rw [Int.tmod_eq_emod_of_nonneg (by omega)]; omega), Int.tmod_eq_emod_of_nonneg (by omega)]; omega))))); rintro e w6 ⟨rfl, f6⟩; have d4 := f6.cell d4 (by simp); have hc1 := f6.cell hc1 (by simp); have hc2 := f6.cell hc2 (by simp); have G := Lib.hid (G.out.trans f6); clear f6))
    all_goals
      go_wp2
      go_roundg (x.scores.length - (m + 1))
      case measure => omega
      case rel => exact ⟨m + 1, _, rfl, rfl, rfl, by omega, ⟨HT.out.bx.step G.out, by rw [TK.out, ← List.append_assoc]; exact HQ.out⟩⟩
  have HTa := Lib.hid (show Told w [.int .i64 x.kind, .string x.text, .slice A1 x.list.length c1, .slice A2 x.pairs.length c2, .slice A3 x.scores.length c3] (p2 ++ x.scores.flatMap encScore) q wr by have := HT.out; rw [List.take_of_length_le (by omega)] at this; exact this)
  clear HT hlen
  go_wp2
  go_ret
  rw [HE2.out, ← HTa.out.text]
  exact ⟨rfl, HTa.out.bx.fr⟩

theorem refBytes_any (x : Itm) (v : Value) (w : World) (B : Nat) (hs : x.Small) (hB : B ≤ w.heap.size) (hx : RightI x) (h : ItemV w B v x) :
    Calls Try.prog 20 #[v] w fun e w' => e = .returned (.string (toB (encItm x))) ∧ Fr [] w w' := by
  by_cases hk : x.kind = 1
  · exact refBytesT_any x v w B hx h hk
  · exact refBytesL_any x v w B hs hB hx h hk
end Go.Proofs.Ytfkfdmonnebmmaa
