/- The walks of the laws' tally and itemBegun. -/
import Derived.Test.YtfkfdmonnebmmaaItemU
import Derived.Test.YtfkfdmonnebmmaaItemW
import Derived.Test.YtfkfdmonnebmmaaItemX
import Derived.Test.YtfkfdmonnebmmaaItemY
import Derived.Deep.RegionHeld3
import Derived.Deep.DrawnRows
set_option linter.unusedVariables false
set_option linter.unusedSimpArgs false
namespace Go.Proofs.Ytfkfdmonnebmmaa
open Go.RowKit

def bsI (l : List UInt8) : ByteArray := ⟨l.toArray⟩
/-- the item that the laws begin with. -/
def tallyI : Itm := ⟨5, ⟨#[]⟩, [], [], [(-1, bsI [98]), (2, bsI [97]), (2, bsI [99])]⟩

def SomeItem (x : Itm) (w : World) (e : Ending) (w' : World) : Prop := ∃ v, e = .returned v ∧ ItemO w' w.heap.size v x ∧ Fr [] w w'

set_option maxRecDepth 100000 in
theorem tally_any (w : World) : Calls Try.prog 65 #[] w (SomeItem tallyI w) := by
  go_enter Try.func65, Try.ntmps65
  go_wp2
  refine bodyPost_ret (v := .agg #[.int .i64 5, .string ⟨#[]⟩, .slice none 0 0, .slice none 0 0, .slice (some ⟨w.heap.size + 1, 0, none⟩) 3 3]) (by simp [results, Try.results65, go_sem]) rfl ?_
  have hb := heap_alloc_new (w.alloc (.cells #[.int .i64 5, .string ⟨#[]⟩, .slice none 0 0, .slice none 0 0, .slice (some ⟨w.heap.size + 1, 0, none⟩) 3 3] 33)) (.cells #[.int .i64 (-1), .string ⟨#[98]⟩, .int .i64 2, .string ⟨#[97]⟩, .int .i64 2, .string ⟨#[99]⟩] 84)
  have hz : (w.alloc (.cells #[.int .i64 5, .string ⟨#[]⟩, .slice none 0 0, .slice none 0 0, .slice (some ⟨w.heap.size + 1, 0, none⟩) 3 3] 33)).heap.size = w.heap.size + 1 := by simp
  rw [hz] at hb
  exact ⟨_, rfl, ⟨_, _, _, rfl, World.ownsRow_nil _ _ _ _, ⟨rfl, .inl ⟨rfl, rfl⟩⟩, rfl, .inr ⟨w.heap.size + 1, 3, _, rfl, by omega, hb, Nat.le_refl _, by decide, rfl, rfl⟩⟩, ((Fr.refl [] w).alloc _).alloc _⟩

theorem tally_small : tallyI.Small := ⟨by decide, by decide, by decide, by decide, by decide, by decide, by decide, by decide⟩
theorem tally_check : checkItm tallyI = 0 := by decide +kernel
theorem tally_enc : encAns tallyI = bsI [5, 3, 59, 154, 201, 254, 1, 98, 59, 154, 202, 1, 1, 97, 59, 154, 202, 1, 1, 99] := by decide +kernel
theorem tally_dec : decCode (bsI [5, 3, 59, 154, 201, 254, 1, 98, 59, 154, 202, 1, 1, 97, 59, 154, 202, 1, 1, 99]) = 0 ∧ decAns (bsI [5, 3, 59, 154, 201, 254, 1, 98, 59, 154, 202, 1, 1, 97, 59, 154, 202, 1, 1, 99]) = tallyI := by
  have h := dec_enc (right_of tally_check)
  have e : toB (encItm tallyI) = bsI [5, 3, 59, 154, 201, 254, 1, 98, 59, 154, 202, 1, 1, 97, 59, 154, 202, 1, 1, 99] := by
    rw [← tally_enc]
    unfold encAns
    rw [if_pos tally_check]
    rfl
  rw [e] at h
  exact dec_ok h tally_check

theorem ItemO.fr0 {w w' : World} {base : Nat} {v : Value} {x : Itm} (h : ItemO w base v x) (hf : Fr [] w w') : ItemO w' base v x := by
  obtain ⟨v1, v2, v3, rfl, o1, o2, o3⟩ := h
  exact ⟨v1, v2, v3, rfl, own_fr o1 hf (fun k _ => by simp), own_fr o2 hf (fun k _ => by simp), own_fr o3 hf (fun k _ => by simp)⟩

theorem Fr.dr {S : List Nat} {w w' : World} (h : Fr S w.drew w') : Fr S w w' := ⟨h.os, h.tape, h.output, h.size, h.block⟩

theorem begun_bytes : ((bsI [5, 3, 59, 154, 201, 254, 1, 98, 59, 154, 202, 1, 1, 97, 59, 154, 202, 1, 1, 99]).extract 0 8) = ⟨#[5, 3, 59, 154, 201, 254, 1, 98]⟩ := by decide +kernel
theorem begun_size : (bsI [5, 3, 59, 154, 201, 254, 1, 98, 59, 154, 202, 1, 1, 97, 59, 154, 202, 1, 1, 99]).size = 20 := by decide +kernel

attribute [local go_sem ↓] Go.wp_at_zero Go.wp_at_succ

set_option maxHeartbeats 400000 in
set_option maxRecDepth 100000 in
theorem itemBegun_any (w : World) : Calls Try.prog 22 #[] w fun e w' => e = .returned (.bool true) ∧ Fr [] w w' := by
  have C1 := Lib.hid (fun (W : World) v (h : ItemO W w.heap.size v tallyI) => (show Calls Try.prog 17 #[v] W fun e w' => e = .returned (.tuple #[.string (bsI [5, 3, 59, 154, 201, 254, 1, 98, 59, 154, 202, 1, 1, 97, 59, 154, 202, 1, 1, 99]), .int .i64 0]) ∧ Fr [] W w' from by
    have := encode_any tallyI v W W.heap.size tally_small (Nat.le_refl _) h.item
    rw [tally_check, tally_enc] at this
    exact this))
  have C2 := Lib.hid (fun (W : World) => (show Calls Try.prog 18 #[.string (bsI [5, 3, 59, 154, 201, 254, 1, 98, 59, 154, 202, 1, 1, 97, 59, 154, 202, 1, 1, 99])] W fun e w' => ∃ v, e = .returned (.tuple #[v, .int .i64 0]) ∧ ItemO w' W.heap.size v tallyI ∧ Fr [] W w' from by
    have := decode_any (bsI [5, 3, 59, 154, 201, 254, 1, 98, 59, 154, 202, 1, 1, 97, 59, 154, 202, 1, 1, 99]) W (by rw [begun_size]; omega)
    unfold DecPost at this
    rw [tally_dec.1, tally_dec.2] at this
    exact this))
  have C3 := Lib.hid (fun (W : World) v b (h : ItemO W b v tallyI) => (show Calls Try.prog 23 #[v] W fun e w' => e = .returned (.int .i64 0) ∧ Fr [] W w' from by
    have := itemCheck_any tallyI v W W.heap.size tally_small (Nat.le_refl _) h.item
    rw [tally_check] at this
    exact this))
  have C4 := Lib.hid (fun (W : World) v u b b' (h : ItemO W b v tallyI) (k : ItemO W b' u tallyI) => (show Calls Try.prog 24 #[v, u] W fun e w' => e = .returned (.bool true) ∧ Fr [] W w' from by
    have := sameItem_any tallyI tallyI v u W W.heap.size tally_small tally_small (Nat.le_refl _) h.item k.item
    rw [sameI_refl] at this
    exact this))
  have HS := Lib.hid begun_bytes
  have HZ := begun_size
  generalize bsI [5, 3, 59, 154, 201, 254, 1, 98, 59, 154, 202, 1, 1, 97, 59, 154, 202, 1, 1, 99] = B at *
  have hz : 20 ≤ B.size := by omega
  have hz2 : B.size ≤ 20 := by omega
  clear HZ
  go_enter Try.func22, Try.ntmps22
  go_wp2_with fail
  refine (tally_any _).mono ?_
  rintro e w1 ⟨va, rfl, h1, f1⟩
  have H1 := Lib.hid h1
  clear h1
  go_wp2_with fail
  refine (C1.out _ _ H1.out).mono ?_
  rintro e w2 ⟨rfl, f2⟩
  go_wp2_with fail
  refine (C2.out _).mono ?_
  rintro e w3 ⟨v, rfl, h3, f3⟩
  have H3 := Lib.hid h3
  obtain ⟨v1, v2, v3, rfl, o1, o2, o3⟩ := h3
  obtain ⟨A1, c1, rfl⟩ := sl_form (own_sl o1)
  obtain ⟨A2, c2, rfl⟩ := sl_form (own_sl o2)
  obtain ⟨A3, c3, rfl⟩ := sl_form (own_sl o3)
  clear o1 o2 o3
  go_wp2_with fail
  have hz8 : (8 : Int) ≤ (B.size : Int) := by omega
  have hz9 : (0 : Int) ≤ (B.size : Int) := by omega
  have qz : ((B.size : Int) == 20) = true := by simp; omega
  have hs8 := HS.out
  have fz : Fr [] w (w3.alloc (.cells #[.int .i64 tallyI.kind, .string tallyI.text, .slice A1 tallyI.list.length c1, .slice A2 tallyI.pairs.length c2, .slice A3 tallyI.scores.length c3] 33)) := ((f1.trans f2).trans f3).alloc _
  have HF := Lib.hid fz
  have HV := Lib.hid (show Whole (w3.alloc (.cells #[.int .i64 tallyI.kind, .string tallyI.text, .slice A1 tallyI.list.length c1, .slice A2 tallyI.pairs.length c2, .slice A3 tallyI.scores.length c3] 33)) w3.heap.size 33 [.int .i64 tallyI.kind, .string tallyI.text, .slice A1 tallyI.list.length c1, .slice A2 tallyI.pairs.length c2, .slice A3 tallyI.scores.length c3] from Whole.new w3 _ _)
  have H4 := Lib.hid (show ItemO (w3.alloc (.cells #[.int .i64 tallyI.kind, .string tallyI.text, .slice A1 tallyI.list.length c1, .slice A2 tallyI.pairs.length c2, .slice A3 tallyI.scores.length c3] 33)) w2.heap.size (.agg #[.int .i64 tallyI.kind, .string tallyI.text, .slice A1 tallyI.list.length c1, .slice A2 tallyI.pairs.length c2, .slice A3 tallyI.scores.length c3]) tallyI from H3.out.fr0 ((Fr.refl [] w3).alloc _))
  clear fz f1 f2 f3
  obtain ⟨z0, z1, z2, z3, z4⟩ := five HV.out
  have tok1 : True := trivial
  go_region_held3 (fun wx => wx.cell? ⟨w3.heap.size, 0, none⟩ = some (.int .i64 tallyI.kind) ∧ wx.cell? ⟨w3.heap.size, 1, none⟩ = some (.string tallyI.text) ∧ wx.cell? ⟨w3.heap.size, 2, none⟩ = some (.slice A1 tallyI.list.length c1) ∧ wx.cell? ⟨w3.heap.size, 3, none⟩ = some (.slice A2 tallyI.pairs.length c2) ∧ wx.cell? ⟨w3.heap.size, 4, none⟩ = some (.slice A3 tallyI.scores.length c3)) (go_keep) (first
    | (go_at_call 65
       have _t := tok1
       refine (tally_any _).mono ?_
       rintro e w5 ⟨vb, rfl, h5, f5⟩
       have H5 := Lib.hid h5
       have F5 := Lib.hid f5.dr
       obtain ⟨z0, z1, z2, z3, z4⟩ := five (HV.out.fr F5.out (by simp))
       clear h5 f5 tok1 _t)
    | (go_at_call 23
       have hq := C3.out _ _ _ H5.out
       refine hq.mono ?_
       clear hq
       rintro e w6 ⟨rfl, f6⟩
       have F6 := Lib.hid (F5.out.trans f6)
       obtain ⟨d0, d1, d2, d3, d4⟩ := five (HV.out.fr F6.out (by simp))
       clear f6)
    | (go_at_call 65
       refine (tally_any _).mono ?_
       rintro e w7 ⟨vc, rfl, h7, f7⟩
       have H7 := Lib.hid h7
       have F7 := Lib.hid (F6.out.trans f7)
       obtain ⟨e0, e1, e2, e3, e4⟩ := five (HV.out.fr F7.out (by simp))
       clear h7 f7)
    | (go_at_call 24
       have hq := C4.out _ _ _ _ _ (H4.out.fr0 F7.out) H7.out
       refine hq.mono ?_
       clear hq
       rintro e w8 ⟨rfl, f8⟩
       have F8 := Lib.hid (HF.out.trans (F7.out.trans f8))
       obtain ⟨g0, g1, g2, g3, g4⟩ := five ((HV.out.fr F7.out (by simp)).fr f8 (by simp))
       clear f8))
  all_goals
    go_wp2
    go_ret
    exact ⟨rfl, F8.out⟩
end Go.Proofs.Ytfkfdmonnebmmaa
