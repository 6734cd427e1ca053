/- The walks of text.ready, Of, Append, Len and Range, and of the reference's AppendOf and RangeText. (Printed by numbers.py.) -/
import Derived.Test.YtmlmiboihjibiaaDoorNuA
import Derived.Test.YtmlmiboihjibiaaDoorLpB
import Derived.Test.YtmlmiboihjibiaaDoorBo
import Derived.IntWalk
import Derived.Deep.RegionHeld3
set_option linter.unusedVariables false
set_option linter.unusedSimpArgs false
namespace Go.Proofs.YtmlmiboihjibiaaDoor
open Go.RowKit

theorem addS (a b : ByteArray) (hs : a.size + b.size ≤ 9223372036854775807) (W : World) : (Op.stringOp .add a b).run Tryd.prog W = .ok (.string (a ++ b)) W :=
  run_string_add_sum W a b hs

/-- an item that is a text. -/
def textI (s : ByteArray) : Itm := ⟨1, s, [], [], []⟩
theorem ItemO.text (w : World) (base : Nat) (s : ByteArray) : ItemO w base (.agg #[.int .i64 1, .string s, .slice none 0 0, .slice none 0 0, .slice none 0 0]) (textI s) :=
  ⟨_, _, _, rfl, World.ownsRow_nil _ _ _ _, ⟨rfl, .inl ⟨rfl, rfl⟩⟩, ⟨rfl, .inl ⟨rfl, rfl⟩⟩⟩
theorem textI_small {s : ByteArray} (h : s.size ≤ 281474976710656) : (textI s).Small :=
  ⟨⟨by show -9223372036854775808 ≤ (1 : Int); omega, by show (1 : Int) ≤ 9223372036854775807; omega⟩, h, by show (0 : Nat) ≤ _; omega, by show (0 : Nat) ≤ _; omega, by show (0 : Nat) ≤ _; omega, fun s hs => absurd hs (by simp [textI]), fun s hs => absurd hs (by simp [textI]), fun s hs => absurd hs (by simp [textI])⟩
/-- what the calls of texts answer. -/
def apCode (x : Itm) (s : ByteArray) : Int := if asCode 1 x ≠ 0 then asCode 1 x else if 60 < x.text.size + s.size then 2 else 0
def apY (x : Itm) (s : ByteArray) : Itm := if apCode x s = 0 then textI (x.text ++ s) else newI 0
def apN (x : Itm) (s : ByteArray) : Int := if apCode x s = 0 then ((x.text.size + s.size : Nat) : Int) else 0
def lnN (x : Itm) : Int := if asCode 1 x = 0 then (x.text.size : Int) else 0
def rgS (x : Itm) (f t : Int) : ByteArray := if asCode 1 x = 0 then x.text.extract (spanA x.text.size f t) (spanB x.text.size f t) else ⟨#[]⟩
def LNPost (n code : Int) (w : World) (e : Ending) (w' : World) : Prop := e = .returned (.tuple #[.int .i64 n, .int .i64 code]) ∧ Fr [] w w'
theorem extract_range (s : ByteArray) (f t : Int) : (s.extract (spanA s.size f t) (spanB s.size f t)).data.toList = rangeOf s.data.toList f t := by
  have := span_le s.size f t
  have e : s.data.toList.length = s.size := by simp
  unfold rangeOf
  rw [e]
  simp only [ByteArray.data_extract, Array.toList_extract, List.extract_eq_take_drop]
  rw [List.take_drop]
  congr 2
  omega
theorem range_text (s : ByteArray) (f t : Int) (h : s.size ≤ 900) : (⟨(takeR s.data.toList (clampI f) (clampI t) s.data.toList.length).toArray⟩ : ByteArray) = s.extract (spanA s.size f t) (spanB s.size f t) := by
  have e : s.data.toList.length = s.size := by simp
  rw [takeR_range _ f t (by omega), ← extract_range]

set_option maxHeartbeats 1000000 in
set_option maxRecDepth 100000 in
theorem tready_any (x : Itm) (v : Value) (w : World) (B : Nat) (hs : x.Small) (hB : B ≤ w.heap.size) (h : ItemV w B v x) :
    Calls Tryd.prog 19 #[v] w fun e w' => e = .returned (.int .i64 (asCode 1 x)) ∧ Fr [] w w' := by
  have M := Lib.hid (fun W (hf : Fr [] w W) => as_any x 1 v W B hs (Nat.le_trans hB hf.size) (h.fr hf hB (by simp)))
  obtain ⟨A1, c1, A2, c2, A3, c3, rfl, h1, h2, h3⟩ := h
  have F1 : Fr [] w (w.alloc (.cells #[.int .i64 x.kind, .string x.text, .slice A1 x.list.length c1, .slice A2 x.pairs.length c2, .slice A3 x.scores.length c3] 26)) := (Fr.refl [] w).alloc _
  go_enter Tryd.func19, Tryd.ntmps19
  go_wp2_with fail
  refine (M.out _ F1).mono ?_
  rintro e w1 ⟨rfl, f1⟩
  go_wp2
  go_ret
  exact ⟨rfl, F1.trans f1⟩
set_option maxHeartbeats 1000000 in
set_option maxRecDepth 100000 in
theorem tof_any (s : ByteArray) (w : World) :
    Calls Tryd.prog 22 #[.string s] w fun e w' => e = .returned (.agg #[.int .i64 1, .string s, .slice none 0 0, .slice none 0 0, .slice none 0 0]) ∧ Fr [] w w' := by
  have F1 : Fr [] w (w.alloc (.cells #[.int .i64 0, .string ⟨#[]⟩, .slice none 0 0, .slice none 0 0, .slice none 0 0] 26)) := (Fr.refl [] w).alloc _
  have R2 := Lib.hid (show Whole (w.alloc (.cells #[.int .i64 0, .string ⟨#[]⟩, .slice none 0 0, .slice none 0 0, .slice none 0 0] 26)) w.heap.size 26 [.int .i64 0, .string ⟨#[]⟩, .slice none 0 0, .slice none 0 0, .slice none 0 0] from Whole.new w _ _)
  obtain ⟨a0, a1, a2, a3, a4⟩ := five R2.out
  obtain ⟨b0, b2, b3, b4, b5⟩ := fiveF R2.out
  go_enter Tryd.func22, Tryd.ntmps22
  go_wp2
  refine bodyPost_ret (v := .agg #[.int .i64 1, .string s, .slice none 0 0, .slice none 0 0, .slice none 0 0]) (by simp [results, Tryd.results22, go_sem, a0, a1, a2, a3, a4]) rfl ?_
  exact ⟨rfl, (Fr.refl [] w).alloc _⟩


set_option maxHeartbeats 1000000 in
set_option maxRecDepth 100000 in
theorem tappend_any (x : Itm) (v : Value) (s : ByteArray) (w : World) (B : Nat) (hs : x.Small) (hB : B ≤ w.heap.size) (h : ItemV w B v x) (hq : s.size ≤ 281474976710656) :
    Calls Tryd.prog 10 #[v, .string s] w (INPost (apN x s) (apCode x s) (apY x s) w) := by
  have RD := Lib.hid (fun W (hf : Fr [] w W) => tready_any x v W B hs (Nat.le_trans hB hf.size) (h.fr hf hB (by simp)))
  obtain ⟨A1, c1, A2, c2, A3, c3, rfl, h1, h2, h3⟩ := h
  have D0 := Lib.hid (BO.new w (.int .i64 x.kind) (.string x.text) (.slice A1 x.list.length c1) (.slice A2 x.pairs.length c2) (.slice A3 x.scores.length c3))
  obtain ⟨d0, d1, d2, d3, d4⟩ := five D0.out.b
  have OK := Lib.hid (fun (h : asCode 1 x = 0) => (asOk_of h).text)
  have hz := hs.text
  clear h1 h2 h3 hs
  have EC := Lib.hid (show apCode x s = if asCode 1 x ≠ 0 then asCode 1 x else if 60 < x.text.size + s.size then 2 else 0 from rfl)
  have EY := Lib.hid (show apY x s = if apCode x s = 0 then textI (x.text ++ s) else newI 0 from rfl)
  have EN := Lib.hid (show apN x s = if apCode x s = 0 then ((x.text.size + s.size : Nat) : Int) else 0 from rfl)
  have AD := Lib.hid (addS x.text s (by omega))
  have SZ := Lib.hid (show (x.text ++ s).size = x.text.size + s.size from by simp)
  by_cases ha : asCode 1 x = 0
  · rw [ha] at RD
    by_cases hc : 60 < x.text.size + s.size
    · have E := Lib.hid (show apCode x s = 2 from by rw [EC.out, if_neg (by simpa using ha), if_pos hc])
      have e1 : apY x s = newI 0 := by rw [EY.out, E.out]; rfl
      have e2 : apN x s = 0 := by rw [EN.out, E.out]; rfl
      rw [e1, e2, E.out]
      have q : (x.text.size : Int) + (s.size : Int) > 60 := by omega
      clear e1 e2 E EC EY EN OK ha hc
      go_enter Tryd.func10, Tryd.ntmps10
      go_wp2_with fail
      refine (RD.out _ D0.out.f).mono ?_
      rintro e w1 ⟨rfl, f1⟩
      have D1 := Lib.hid (D0.out.go f1)
      clear d0 d1 d2 d3 d4
      obtain ⟨d0, d1, d2, d3, d4⟩ := five D1.out.b
      obtain ⟨a0, a1, a2, a3, a4⟩ := five D1.out.o
      obtain ⟨b0, b2, b3, b4, b5⟩ := fiveF D1.out.o
      go_wp2
      refine bodyPost_ret (v := .tuple #[.agg #[.int .i64 0, .string ⟨#[]⟩, .slice none 0 0, .slice none 0 0, .slice none 0 0], .int .i64 0, .int .i64 2]) (by simp [results, Tryd.results10, go_sem, a0, a1, a2, a3, a4]) rfl ?_
      exact ⟨_, rfl, ItemO.nothing _ _, D1.out.end5 _ _ _ _ _⟩
    · have E := Lib.hid (show apCode x s = 0 from by rw [EC.out, if_neg (by simpa using ha), if_neg hc])
      have e1 : apY x s = textI (x.text ++ s) := by rw [EY.out, E.out]; rfl
      have e2 : apN x s = ((x.text.size + s.size : Nat) : Int) := by rw [EN.out, E.out]; rfl
      rw [e1, e2, E.out]
      have q : ¬ ((x.text.size : Int) + (s.size : Int) > 60) := by omega
      have ADo := AD.out
      have SZo := SZ.out
      clear e1 e2 E EC EY EN OK ha hc AD SZ
      go_enter Tryd.func10, Tryd.ntmps10
      go_wp2_with fail
      refine (RD.out _ D0.out.f).mono ?_
      rintro e w1 ⟨rfl, f1⟩
      have D1 := Lib.hid (D0.out.go f1)
      clear d0 d1 d2 d3 d4
      obtain ⟨d0, d1, d2, d3, d4⟩ := five D1.out.b
      generalize x.text ++ s = y at *
      go_wp2_with fail
      refine (tof_any y _).mono ?_
      rintro e w2 ⟨rfl, f2⟩
      have D2 := Lib.hid ((D1.out.go f2).alloc (.cells #[.int .i64 1, .string y, .slice none 0 0, .slice none 0 0, .slice none 0 0] 26))
      have V2 := Lib.hid (Whole.new w2 26 [.int .i64 1, .string y, .slice none 0 0, .slice none 0 0, .slice none 0 0])
      clear d0 d1 d2 d3 d4
      obtain ⟨d0, d1, d2, d3, d4⟩ := five V2.out
      obtain ⟨a0, a1, a2, a3, a4⟩ := five D2.out.o
      obtain ⟨b0, b2, b3, b4, b5⟩ := fiveF D2.out.o
      have hz2 := (D1.out.go f2).lt
      have n0 : ¬ (w.heap.size + 1 = w2.heap.size) := by omega
      have n1 : ¬ (w2.heap.size = w.heap.size + 1) := by omega
      clear hz2
      go_wp2_with fail
      go_region_held3 (fun wx => wx.cell? ⟨w2.heap.size, 0, none⟩ = some (.int .i64 1) ∧ wx.cell? ⟨w2.heap.size, 1, none⟩ = some (.string y) ∧ wx.cell? ⟨w2.heap.size, 2, none⟩ = some (.slice none 0 0) ∧ wx.cell? ⟨w2.heap.size, 3, none⟩ = some (.slice none 0 0) ∧ wx.cell? ⟨w2.heap.size, 4, none⟩ = some (.slice none 0 0)) (go_keep) (first | fail)
      go_wp2
      refine bodyPost_ret (v := .tuple #[.agg #[.int .i64 1, .string y, .slice none 0 0, .slice none 0 0, .slice none 0 0], .int .i64 ((x.text.size : Int) + (s.size : Int)), .int .i64 0]) (by simp [results, Tryd.results10, go_sem, a0, a1, a2, a3, a4, SZo]) rfl ?_
      exact ⟨_, rfl, ItemO.text _ _ _, (D2.out.end5 _ _ _ _ _).drew⟩
  · have E := Lib.hid (show apCode x s = asCode 1 x from by rw [EC.out, if_pos ha])
    have e1 : apY x s = newI 0 := by rw [EY.out, E.out, if_neg ha]
    have e2 : apN x s = 0 := by rw [EN.out, E.out, if_neg ha]
    rw [e1, e2, E.out]
    have q : (asCode 1 x != 0) = true := by simpa using ha
    have q' : (asCode 1 x == 0) = false := by simpa using ha
    clear e1 e2 E EC EY EN OK ha
    generalize asCode 1 x = r at *
    go_enter Tryd.func10, Tryd.ntmps10
    go_wp2_with fail
    refine (RD.out _ D0.out.f).mono ?_
    rintro e w1 ⟨rfl, f1⟩
    have D1 := Lib.hid (D0.out.go f1)
    clear d0 d1 d2 d3 d4
    obtain ⟨d0, d1, d2, d3, d4⟩ := five D1.out.b
    obtain ⟨a0, a1, a2, a3, a4⟩ := five D1.out.o
    obtain ⟨b0, b2, b3, b4, b5⟩ := fiveF D1.out.o
    go_wp2
    refine bodyPost_ret (v := .tuple #[.agg #[.int .i64 0, .string ⟨#[]⟩, .slice none 0 0, .slice none 0 0, .slice none 0 0], .int .i64 0, .int .i64 r]) (by simp [results, Tryd.results10, go_sem, a0, a1, a2, a3, a4]) rfl ?_
    exact ⟨_, rfl, ItemO.nothing _ _, D1.out.end5 _ _ _ _ _⟩

set_option maxHeartbeats 1000000 in
set_option maxRecDepth 100000 in
theorem refAppend_any (x : Itm) (v : Value) (s : ByteArray) (w : World) (B : Nat) (hs : x.Small) (hB : B ≤ w.heap.size) (h : ItemV w B v x) (hq : s.size ≤ 281474976710656) :
    Calls Tryd.prog 12 #[v, .string s] w (INPost (apN x s) (apCode x s) (apY x s) w) := by
  have RD := Lib.hid (fun W (hf : Fr [] w W) => checkAs_any x 1 v W B hs (Nat.le_trans hB hf.size) (h.fr hf hB (by simp)))
  obtain ⟨A1, c1, A2, c2, A3, c3, rfl, h1, h2, h3⟩ := h
  have D0 := Lib.hid (BO.new w (.int .i64 x.kind) (.string x.text) (.slice A1 x.list.length c1) (.slice A2 x.pairs.length c2) (.slice A3 x.scores.length c3))
  obtain ⟨d0, d1, d2, d3, d4⟩ := five D0.out.b
  have OK := Lib.hid (fun (h : asCode 1 x = 0) => (asOk_of h).text)
  have hz := hs.text
  clear h1 h2 h3 hs
  have EC := Lib.hid (show apCode x s = if asCode 1 x ≠ 0 then asCode 1 x else if 60 < x.text.size + s.size then 2 else 0 from rfl)
  have EY := Lib.hid (show apY x s = if apCode x s = 0 then textI (x.text ++ s) else newI 0 from rfl)
  have EN := Lib.hid (show apN x s = if apCode x s = 0 then ((x.text.size + s.size : Nat) : Int) else 0 from rfl)
  have AD := Lib.hid (addS x.text s (by omega))
  have SZ := Lib.hid (show (x.text ++ s).size = x.text.size + s.size from by simp)
  by_cases ha : asCode 1 x = 0
  · rw [ha] at RD
    by_cases hc : 60 < x.text.size + s.size
    · have E := Lib.hid (show apCode x s = 2 from by rw [EC.out, if_neg (by simpa using ha), if_pos hc])
      have e1 : apY x s = newI 0 := by rw [EY.out, E.out]; rfl
      have e2 : apN x s = 0 := by rw [EN.out, E.out]; rfl
      rw [e1, e2, E.out]
      have q : (x.text.size : Int) + (s.size : Int) > 60 := by omega
      clear e1 e2 E EC EY EN OK ha hc
      go_enter Tryd.func12, Tryd.ntmps12
      go_wp2_with fail
      refine (RD.out _ D0.out.f).mono ?_
      rintro e w1 ⟨rfl, f1⟩
      have D1 := Lib.hid (D0.out.go f1)
      clear d0 d1 d2 d3 d4
      obtain ⟨d0, d1, d2, d3, d4⟩ := five D1.out.b
      obtain ⟨a0, a1, a2, a3, a4⟩ := five D1.out.o
      obtain ⟨b0, b2, b3, b4, b5⟩ := fiveF D1.out.o
      go_wp2
      refine bodyPost_ret (v := .tuple #[.agg #[.int .i64 0, .string ⟨#[]⟩, .slice none 0 0, .slice none 0 0, .slice none 0 0], .int .i64 0, .int .i64 2]) (by simp [results, Tryd.results12, go_sem, a0, a1, a2, a3, a4]) rfl ?_
      exact ⟨_, rfl, ItemO.nothing _ _, D1.out.end5 _ _ _ _ _⟩
    · have E := Lib.hid (show apCode x s = 0 from by rw [EC.out, if_neg (by simpa using ha), if_neg hc])
      have e1 : apY x s = textI (x.text ++ s) := by rw [EY.out, E.out]; rfl
      have e2 : apN x s = ((x.text.size + s.size : Nat) : Int) := by rw [EN.out, E.out]; rfl
      rw [e1, e2, E.out]
      have q : ¬ ((x.text.size : Int) + (s.size : Int) > 60) := by omega
      have ADo := AD.out
      have SZo := SZ.out
      clear e1 e2 E EC EY EN OK ha hc AD SZ
      go_enter Tryd.func12, Tryd.ntmps12
      go_wp2_with fail
      refine (RD.out _ D0.out.f).mono ?_
      rintro e w1 ⟨rfl, f1⟩
      have D1 := Lib.hid (D0.out.go f1)
      clear d0 d1 d2 d3 d4
      obtain ⟨d0, d1, d2, d3, d4⟩ := five D1.out.b
      generalize x.text ++ s = y at *
      obtain ⟨a0, a1, a2, a3, a4⟩ := five D1.out.o
      obtain ⟨b0, b2, b3, b4, b5⟩ := fiveF D1.out.o
      go_wp2_with fail
      go_region_held3 (fun wx => wx.cell? ⟨w.heap.size, 1, none⟩ = some (.string x.text)) (go_keep) (first | fail)
      go_wp2
      refine bodyPost_ret (v := .tuple #[.agg #[.int .i64 1, .string y, .slice none 0 0, .slice none 0 0, .slice none 0 0], .int .i64 ((x.text.size : Int) + (s.size : Int)), .int .i64 0]) (by simp [results, Tryd.results12, go_sem, a0, a1, a2, a3, a4, SZo]) rfl ?_
      exact ⟨_, rfl, ItemO.text _ _ _, (D1.out.end5 _ _ _ _ _).drew⟩
  · have E := Lib.hid (show apCode x s = asCode 1 x from by rw [EC.out, if_pos ha])
    have e1 : apY x s = newI 0 := by rw [EY.out, E.out, if_neg ha]
    have e2 : apN x s = 0 := by rw [EN.out, E.out, if_neg ha]
    rw [e1, e2, E.out]
    have q : (asCode 1 x != 0) = true := by simpa using ha
    have q' : (asCode 1 x == 0) = false := by simpa using ha
    clear e1 e2 E EC EY EN OK ha
    generalize asCode 1 x = r at *
    go_enter Tryd.func12, Tryd.ntmps12
    go_wp2_with fail
    refine (RD.out _ D0.out.f).mono ?_
    rintro e w1 ⟨rfl, f1⟩
    have D1 := Lib.hid (D0.out.go f1)
    clear d0 d1 d2 d3 d4
    obtain ⟨d0, d1, d2, d3, d4⟩ := five D1.out.b
    obtain ⟨a0, a1, a2, a3, a4⟩ := five D1.out.o
    obtain ⟨b0, b2, b3, b4, b5⟩ := fiveF D1.out.o
    go_wp2
    refine bodyPost_ret (v := .tuple #[.agg #[.int .i64 0, .string ⟨#[]⟩, .slice none 0 0, .slice none 0 0, .slice none 0 0], .int .i64 0, .int .i64 r]) (by simp [results, Tryd.results12, go_sem, a0, a1, a2, a3, a4]) rfl ?_
    exact ⟨_, rfl, ItemO.nothing _ _, D1.out.end5 _ _ _ _ _⟩

set_option maxHeartbeats 1000000 in
set_option maxRecDepth 100000 in
theorem tlen_any (x : Itm) (v : Value) (w : World) (B : Nat) (hs : x.Small) (hB : B ≤ w.heap.size) (h : ItemV w B v x) :
    Calls Tryd.prog 11 #[v] w (LNPost (lnN x) (asCode 1 x) w) := by
  have RD := Lib.hid (fun W (hf : Fr [] w W) => tready_any x v W B hs (Nat.le_trans hB hf.size) (h.fr hf hB (by simp)))
  obtain ⟨A1, c1, A2, c2, A3, c3, rfl, h1, h2, h3⟩ := h
  have D0 := Lib.hid (BX.new w (.int .i64 x.kind) (.string x.text) (.slice A1 x.list.length c1) (.slice A2 x.pairs.length c2) (.slice A3 x.scores.length c3))
  obtain ⟨d0, d1, d2, d3, d4⟩ := five D0.out.b
  have OK := Lib.hid (fun (h : asCode 1 x = 0) => (asOk_of h).text)
  have hz := hs.text
  clear h1 h2 h3 hs
  have EN := Lib.hid (show lnN x = if asCode 1 x = 0 then (x.text.size : Int) else 0 from rfl)
  by_cases ha : asCode 1 x = 0
  · rw [if_pos ha] at EN
    rw [ha] at RD
    rw [EN.out, ha]
    clear EN ha OK
    go_enter Tryd.func11, Tryd.ntmps11
    go_wp2_with fail
    refine (RD.out _ D0.out.f).mono ?_
    rintro e w1 ⟨rfl, f1⟩
    have D1 := Lib.hid (D0.out.go f1)
    clear d0 d1 d2 d3 d4
    obtain ⟨d0, d1, d2, d3, d4⟩ := five D1.out.b
    go_wp2
    go_ret2
    exact ⟨rfl, D1.out.f⟩
  · rw [if_neg ha] at EN
    rw [EN.out]
    have q : (asCode 1 x != 0) = true := by simpa using ha
    clear EN ha OK
    generalize asCode 1 x = r at *
    go_enter Tryd.func11, Tryd.ntmps11
    go_wp2_with fail
    refine (RD.out _ D0.out.f).mono ?_
    rintro e w1 ⟨rfl, f1⟩
    have D1 := Lib.hid (D0.out.go f1)
    clear d0 d1 d2 d3 d4
    obtain ⟨d0, d1, d2, d3, d4⟩ := five D1.out.b
    go_wp2
    go_ret2
    exact ⟨rfl, D1.out.f⟩

set_option maxHeartbeats 1000000 in
set_option maxRecDepth 100000 in
theorem trange_any (x : Itm) (v : Value) (f t : Int) (w : World) (B : Nat) (hs : x.Small) (hB : B ≤ w.heap.size) (h : ItemV w B v x) (hf : -9223372036854775808 ≤ f ∧ f ≤ 9223372036854775807) (ht : -9223372036854775808 ≤ t ∧ t ≤ 9223372036854775807) :
    Calls Tryd.prog 8 #[v, .int .i64 f, .int .i64 t] w (SEPost (rgS x f t) (asCode 1 x) w) := by
  have RD := Lib.hid (fun W (hf : Fr [] w W) => tready_any x v W B hs (Nat.le_trans hB hf.size) (h.fr hf hB (by simp)))
  obtain ⟨A1, c1, A2, c2, A3, c3, rfl, h1, h2, h3⟩ := h
  have D0 := Lib.hid (BX.new w (.int .i64 x.kind) (.string x.text) (.slice A1 x.list.length c1) (.slice A2 x.pairs.length c2) (.slice A3 x.scores.length c3))
  obtain ⟨d0, d1, d2, d3, d4⟩ := five D0.out.b
  have OK := Lib.hid (fun (h : asCode 1 x = 0) => (asOk_of h).text)
  have hz := hs.text
  clear h1 h2 h3 hs
  have EN := Lib.hid (show rgS x f t = if asCode 1 x = 0 then x.text.extract (spanA x.text.size f t) (spanB x.text.size f t) else ⟨#[]⟩ from rfl)
  have SP := Lib.hid (fun W => span_any x.text.size f t W hz hf ht)
  obtain ⟨l1, l2⟩ := span_le x.text.size f t
  clear hf ht
  by_cases ha : asCode 1 x = 0
  · rw [if_pos ha] at EN
    rw [ha] at RD
    rw [EN.out, ha]
    clear EN ha OK
    generalize spanA x.text.size f t = a at *
    generalize spanB x.text.size f t = b at *
    go_enter Tryd.func8, Tryd.ntmps8
    go_wp2_with fail
    refine (RD.out _ D0.out.f).mono ?_
    rintro e w1 ⟨rfl, f1⟩
    have D1 := Lib.hid (D0.out.go f1)
    clear d0 d1 d2 d3 d4
    obtain ⟨d0, d1, d2, d3, d4⟩ := five D1.out.b
    go_wp2_with fail
    refine (SP.out _).mono ?_
    rintro e w2 ⟨rfl, rfl⟩
    go_wp2
    go_ret2
    exact ⟨rfl, D1.out.f⟩
  · rw [if_neg ha] at EN
    rw [EN.out]
    have q : (asCode 1 x != 0) = true := by simpa using ha
    clear EN ha OK SP l1 l2
    generalize asCode 1 x = r at *
    go_enter Tryd.func8, Tryd.ntmps8
    go_wp2_with fail
    refine (RD.out _ D0.out.f).mono ?_
    rintro e w1 ⟨rfl, f1⟩
    have D1 := Lib.hid (D0.out.go f1)
    clear d0 d1 d2 d3 d4
    obtain ⟨d0, d1, d2, d3, d4⟩ := five D1.out.b
    go_wp2
    go_ret2
    exact ⟨rfl, D1.out.f⟩

set_option maxHeartbeats 1000000 in
set_option maxRecDepth 100000 in
theorem refText_any (s : ByteArray) (f t : Int) (w : World) (hs : s.size ≤ 1000000) (hf : -1000000 ≤ f ∧ f ≤ 1000000) (ht : -1000000 ≤ t ∧ t ≤ 1000000) :
    Calls Tryd.prog 15 #[.string s, .int .i64 f, .int .i64 t] w fun e w' => e = .returned (.string ⟨(takeR s.data.toList f t s.data.toList.length).toArray⟩) ∧ w = w' := by
  have IR := Lib.hid (fun W i (hi : i ≤ 281474976710656) => inRange_any i s.size f t W hi (by omega) hf ht)
  have el : s.data.toList.length = s.size := by simp
  clear hf ht
  go_enter Tryd.func15, Tryd.ntmps15
  go_wp2
  go_loopg [7, 8] s.size (fun g v i wr => ∃ (k : Nat) (o : ByteArray), g = s.size - k ∧ k ≤ s.size ∧ i = .int .i64 k ∧ v = .string o ∧ o.data.toList = takeR s.data.toList f t k ∧ w = wr)
  case atStart => exact ⟨0, _, rfl, Nat.zero_le _, rfl, rfl, by rw [takeR_zero], rfl⟩
  case round =>
    obtain ⟨k, o, rfl, hk, rfl, rfl, ho, rfl⟩ := hrel
    by_cases hlt : k < s.size
    · obtain ⟨c, hs1⟩ : ∃ c, s.data.toList[k]? = some c := ⟨_, List.getElem?_eq_getElem (by omega)⟩
      have ST := Lib.hid (takeR_step f t hs1)
      rw [el] at ST
      have I := Lib.hid (fun W => IR.out W k (by omega))
      have hos : o.size ≤ 1000000 := by
        have e : o.size = o.data.toList.length := by simp
        rw [e, ho]
        unfold takeR
        simp only [List.length_drop, List.length_take]
        omega
      have hX : (s.extract k (k + 1)).size = 1 := by simp; omega
      have hx : (s.extract k (k + 1)).data.toList = [c] := by
        have hl : k < s.data.toList.length := by omega
        simp only [ByteArray.data_extract, Array.toList_extract]
        rw [List.extract_eq_take_drop, List.drop_eq_getElem_cons hl]
        rw [List.getElem?_eq_getElem hl] at hs1
        injection hs1 with hs1
        rw [hs1]
        simp
      have S1 := addS o (s.extract k (k + 1)) (by omega)
      have N := Lib.hid (show (o ++ s.extract k (k + 1)).data.toList = takeR s.data.toList f t k ++ [c] from by rw [ByteArray.data_append, Array.toList_append, ho, hx])
      have HO := Lib.hid ho
      clear hs1 hx ho
      by_cases hr : inR k s.size f t = true
      · rw [if_pos hr] at ST
        rw [hr] at I
        clear hr
        go_wp2_with fail
        refine (I.out _).mono ?_
        rintro e w1 ⟨rfl, rfl⟩
        go_wp2
        go_roundg (s.size - (k + 1))
        case measure => omega
        case rel => exact ⟨k + 1, _, rfl, by omega, by go_num, rfl, by rw [ST.out, N.out], rfl⟩
      · rw [if_neg hr] at ST
        rw [show inR k s.size f t = false by simpa using hr] at I
        clear hr
        go_wp2_with fail
        refine (I.out _).mono ?_
        rintro e w1 ⟨rfl, rfl⟩
        go_wp2
        go_roundg (s.size - (k + 1))
        case measure => omega
        case rel => exact ⟨k + 1, _, rfl, by omega, by go_num, rfl, by rw [ST.out, HO.out], rfl⟩
    · obtain rfl : k = s.size := by omega
      have E := Lib.hid (show (⟨(takeR s.data.toList f t s.data.toList.length).toArray⟩ : ByteArray) = o from by rw [el, ← ho])
      go_wp2
      go_ret
      exact ⟨by rw [E.out]; rfl, rfl⟩
end Go.Proofs.YtmlmiboihjibiaaDoor
