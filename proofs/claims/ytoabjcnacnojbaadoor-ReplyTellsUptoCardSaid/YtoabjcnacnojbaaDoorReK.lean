/- The walks of reply.Bytes and of the document's ReplyBytes at one that is no list. -/
import Derived.Test.YtoabjcnacnojbaaDoorReF
import Derived.Test.YtoabjcnacnojbaaDoorFdH
import Derived.Test.YtoabjcnacnojbaaDoorFdI
set_option linter.unusedVariables false
set_option linter.unusedSimpArgs false
namespace Go.Proofs.YtoabjcnacnojbaaDoor
open Go.RowKit

theorem right1_int {x : Rp1} (h : Right1 x) : isInt x.n = true := by
  by_cases h2 : x.kind = 2
  · exact small_int (by have := h.err h2; omega)
  · by_cases h3 : x.kind = 3
    · exact h.int h3
    · rw [h.num h2 h3]; rfl
theorem int_bound {n : Int} (h : isInt n = true) : -999999999 ≤ n ∧ n ≤ 999999999 := by
  unfold isInt at h
  simpa using h
theorem dig_nat (n : Nat) (w : World) (hn : n ≤ 1000) : Calls Tryd.prog 16 #[.int .i64 n] w fun e w' => e = .returned (.string (toB (Lib.decDigits n))) ∧ Fr [] w w' := by
  have := digits_any n w (by omega)
  rw [itoa_nat] at this
  exact this
theorem itoa_nat_any (n : Nat) (w : World) (hv : Tab w) (hn : n ≤ 1000) : Calls Tryd.prog 20 #[.int .i64 n] w fun e w' => e = .returned (.string (toB (Lib.decDigits n))) ∧ Fr [] w w' := by
  have := itoaT_any n w hv (by omega)
  rw [itoa_nat] at this
  exact this

set_option maxHeartbeats 4000000 in
set_option maxRecDepth 100000 in
theorem rBytesOne_any (x : Rp1) (A : Option Addr) (c : Nat) (w : World) (hv : Tab w) (hr : Right1 x) :
    Calls Tryd.prog 13 #[.agg #[.int .i64 x.kind, .string x.text, .int .i64 x.n, .slice A x.sub c]] w fun e w' => e = .returned (.string (toB (oneBs x))) ∧ Fr [] w w' := by
  have F1 := Lib.hid ((Fr.refl [] w).alloc (.cells #[.int .i64 x.kind, .string x.text, .int .i64 x.n, .slice A x.sub c] 24))
  have V1 := Lib.hid (Whole.new w 24 [.int .i64 x.kind, .string x.text, .int .i64 x.n, .slice A x.sub c])
  have hi := right1_int hr
  have hb := int_bound hi
  have hil := (itoa_len hi).2
  obtain ⟨R, hR⟩ : ∃ R, R = toB (oneBs x) := ⟨_, rfl⟩
  rw [← hR]
  obtain ⟨k, t, n, m⟩ := x
  have hk : k = 1 ∨ k = 2 ∨ k = 3 ∨ k = 4 ∨ k = 5 := by have : 1 ≤ k ∧ k ≤ 5 := hr.kind; omega
  have hw := hr.word
  have h4 := hr.bytes
  simp only at F1 V1 hi hb hil hw h4 ⊢
  have hz : (toB (Lib.itoa n)).size ≤ 10 := by rw [toB_size]; exact hil
  have IN := Lib.hid (fun (W : World) (hW : Fr [] w W) => itoaT_any n W (hv.fr hW) (by omega))
  have IZ := Lib.hid (fun (W : World) (hW : Fr [] w W) (z : Nat) (hz : z ≤ 1000) => itoa_nat_any z W (hv.fr hW) hz)
  have e1 : (⟨#[43]⟩ : ByteArray).size = 1 := rfl
  have e2 : (⟨#[13, 10]⟩ : ByteArray).size = 2 := rfl
  have e3 : (⟨#[45]⟩ : ByteArray).size = 1 := rfl
  have e4 : (⟨#[58]⟩ : ByteArray).size = 1 := rfl
  have e5 : (⟨#[36]⟩ : ByteArray).size = 1 := rfl
  have e6 : (⟨#[36, 45, 49]⟩ : ByteArray).size = 3 := rfl
  clear hr hi hv
  rcases hk with rfl | rfl | rfl | rfl | rfl
  · have ht : t.size ≤ 20 := (hw rfl).1
    have TR : (⟨#[43]⟩ ++ t ++ ⟨#[13, 10]⟩ : ByteArray) = R := by
      rw [hR]
      apply ByteArray.ext
      simp [toB, oneBs]
    have ad1 : ∀ W, (Op.stringOp .add ⟨#[43]⟩ t).run Tryd.prog W = .ok (.string (⟨#[43]⟩ ++ t)) W := fun W => run_string_add_sum W _ _ (by simp only [ByteArray.size_append, e1, e2, e3, e4, e5, e6]; omega)
    have ad2 : ∀ W, (Op.stringOp .add (⟨#[43]⟩ ++ t) ⟨#[13, 10]⟩).run Tryd.prog W = .ok (.string (⟨#[43]⟩ ++ t ++ ⟨#[13, 10]⟩)) W := fun W => run_string_add_sum W _ _ (by simp only [ByteArray.size_append, e1, e2, e3, e4, e5, e6]; omega)
    rw [TR] at ad2
    clear e1 e2 e3 e4 e5 e6
    clear TR hR hw h4
    go_enter Tryd.func13, Tryd.ntmps13
    go_wp2_with fail
    refine (IN.out _ F1.out).mono ?_
    rintro e w1 ⟨rfl, f1⟩
    have F2 := Lib.hid (F1.out.trans f1)
    have V2 := Lib.hid (V1.out.fr f1 (by simp))
    clear f1
    obtain ⟨c0, c1, c2, c3⟩ := four V2.out
    go_wp2
    go_ret
    exact ⟨rfl, F2.out⟩
  · have TR : (⟨#[45]⟩ ++ toB (Lib.itoa n) ++ ⟨#[13, 10]⟩ : ByteArray) = R := by
      rw [hR]
      apply ByteArray.ext
      simp [toB, oneBs]
    have IN : Hid (∀ W, Fr [] w W → Calls Tryd.prog 20 #[.int .i64 n] W fun e w' => e = .returned (.string (toB (Lib.itoa n))) ∧ Fr [] W w') := IN
    generalize toB (Lib.itoa n) = tn at *
    have ad1 : ∀ W, (Op.stringOp .add ⟨#[45]⟩ tn).run Tryd.prog W = .ok (.string (⟨#[45]⟩ ++ tn)) W := fun W => run_string_add_sum W _ _ (by simp only [ByteArray.size_append, e1, e2, e3, e4, e5, e6]; omega)
    have ad2 : ∀ W, (Op.stringOp .add (⟨#[45]⟩ ++ tn) ⟨#[13, 10]⟩).run Tryd.prog W = .ok (.string (⟨#[45]⟩ ++ tn ++ ⟨#[13, 10]⟩)) W := fun W => run_string_add_sum W _ _ (by simp only [ByteArray.size_append, e1, e2, e3, e4, e5, e6]; omega)
    rw [TR] at ad2
    clear e1 e2 e3 e4 e5 e6
    clear TR hR hw h4
    go_enter Tryd.func13, Tryd.ntmps13
    go_wp2_with fail
    refine (IN.out _ F1.out).mono ?_
    rintro e w1 ⟨rfl, f1⟩
    have F2 := Lib.hid (F1.out.trans f1)
    have V2 := Lib.hid (V1.out.fr f1 (by simp))
    clear f1
    obtain ⟨c0, c1, c2, c3⟩ := four V2.out
    go_wp2
    go_ret
    exact ⟨rfl, F2.out⟩
  · have TR : (⟨#[58]⟩ ++ toB (Lib.itoa n) ++ ⟨#[13, 10]⟩ : ByteArray) = R := by
      rw [hR]
      apply ByteArray.ext
      simp [toB, oneBs]
    have IN : Hid (∀ W, Fr [] w W → Calls Tryd.prog 20 #[.int .i64 n] W fun e w' => e = .returned (.string (toB (Lib.itoa n))) ∧ Fr [] W w') := IN
    generalize toB (Lib.itoa n) = tn at *
    have ad1 : ∀ W, (Op.stringOp .add ⟨#[58]⟩ tn).run Tryd.prog W = .ok (.string (⟨#[58]⟩ ++ tn)) W := fun W => run_string_add_sum W _ _ (by simp only [ByteArray.size_append, e1, e2, e3, e4, e5, e6]; omega)
    have ad2 : ∀ W, (Op.stringOp .add (⟨#[58]⟩ ++ tn) ⟨#[13, 10]⟩).run Tryd.prog W = .ok (.string (⟨#[58]⟩ ++ tn ++ ⟨#[13, 10]⟩)) W := fun W => run_string_add_sum W _ _ (by simp only [ByteArray.size_append, e1, e2, e3, e4, e5, e6]; omega)
    rw [TR] at ad2
    clear e1 e2 e3 e4 e5 e6
    clear TR hR hw h4
    go_enter Tryd.func13, Tryd.ntmps13
    go_wp2_with fail
    refine (IN.out _ F1.out).mono ?_
    rintro e w1 ⟨rfl, f1⟩
    have F2 := Lib.hid (F1.out.trans f1)
    have V2 := Lib.hid (V1.out.fr f1 (by simp))
    clear f1
    obtain ⟨c0, c1, c2, c3⟩ := four V2.out
    go_wp2
    go_ret
    exact ⟨rfl, F2.out⟩
  · have ht : t.size ≤ 60 := h4 rfl
    have dz : (toB (Lib.decDigits t.size)).size ≤ 2 := by rw [toB_size]; exact dec_two_len (by omega)
    have TR : (⟨#[36]⟩ ++ toB (Lib.decDigits t.size) ++ ⟨#[13, 10]⟩ ++ t ++ ⟨#[13, 10]⟩ : ByteArray) = R := by
      rw [hR]
      apply ByteArray.ext
      simp [toB, oneBs]
    have IZ := Lib.hid (fun W hW => IZ.out W hW t.size (by omega))
    generalize toB (Lib.decDigits t.size) = td at *
    have ad1 : ∀ W, (Op.stringOp .add ⟨#[36]⟩ td).run Tryd.prog W = .ok (.string (⟨#[36]⟩ ++ td)) W := fun W => run_string_add_sum W _ _ (by simp only [ByteArray.size_append, e1, e2, e3, e4, e5, e6]; omega)
    have ad2 : ∀ W, (Op.stringOp .add (⟨#[36]⟩ ++ td) ⟨#[13, 10]⟩).run Tryd.prog W = .ok (.string (⟨#[36]⟩ ++ td ++ ⟨#[13, 10]⟩)) W := fun W => run_string_add_sum W _ _ (by simp only [ByteArray.size_append, e1, e2, e3, e4, e5, e6]; omega)
    have ad3 : ∀ W, (Op.stringOp .add (⟨#[36]⟩ ++ td ++ ⟨#[13, 10]⟩) t).run Tryd.prog W = .ok (.string (⟨#[36]⟩ ++ td ++ ⟨#[13, 10]⟩ ++ t)) W := fun W => run_string_add_sum W _ _ (by simp only [ByteArray.size_append, e1, e2, e3, e4, e5, e6]; omega)
    have ad4 : ∀ W, (Op.stringOp .add (⟨#[36]⟩ ++ td ++ ⟨#[13, 10]⟩ ++ t) ⟨#[13, 10]⟩).run Tryd.prog W = .ok (.string (⟨#[36]⟩ ++ td ++ ⟨#[13, 10]⟩ ++ t ++ ⟨#[13, 10]⟩)) W := fun W => run_string_add_sum W _ _ (by simp only [ByteArray.size_append, e1, e2, e3, e4, e5, e6]; omega)
    rw [TR] at ad4
    clear e1 e2 e3 e4 e5 e6
    clear TR hR hw h4
    generalize ⟨#[36]⟩ ++ td ++ ⟨#[13, 10]⟩ ++ t = t4 at *
    generalize ⟨#[36]⟩ ++ td ++ ⟨#[13, 10]⟩ = t3 at *
    generalize ⟨#[36]⟩ ++ td = t2 at *
    go_enter Tryd.func13, Tryd.ntmps13
    go_wp2_with fail
    refine (IN.out _ F1.out).mono ?_
    rintro e w1 ⟨rfl, f1⟩
    have F2 := Lib.hid (F1.out.trans f1)
    have V2 := Lib.hid (V1.out.fr f1 (by simp))
    clear f1
    obtain ⟨c0, c1, c2, c3⟩ := four V2.out
    have IK := Lib.hid (IZ.out w1.drew F2.out.drew)
    go_wp2
    go_region_held3 (fun wx => wx.cell? ⟨w.heap.size, 1, none⟩ = some (.string t)) (go_keep) ((go_at_call 20; refine IK.out.mono ?_; rintro e9 w2 ⟨rfl, f2⟩; have G2 := Lib.hid (fr_predrew f2); have y1 := G2.out.cell c1 (by simp); clear f2 c1; have c1 := y1; clear y1))
    go_wp2
    go_ret
    exact ⟨rfl, F2.out.trans G2.out⟩
  · have TR : (⟨#[36, 45, 49, 13, 10]⟩ : ByteArray) = R := by rw [hR]; rfl
    rw [← TR]
    clear e1 e2 e3 e4 e5 e6 TR hR hw h4
    go_enter Tryd.func13, Tryd.ntmps13
    go_wp2_with fail
    refine (IN.out _ F1.out).mono ?_
    rintro e w1 ⟨rfl, f1⟩
    have F2 := Lib.hid (F1.out.trans f1)
    have V2 := Lib.hid (V1.out.fr f1 (by simp))
    clear f1
    obtain ⟨c0, c1, c2, c3⟩ := four V2.out
    go_wp2
    go_ret
    exact ⟨rfl, F2.out⟩

set_option maxHeartbeats 4000000 in
set_option maxRecDepth 100000 in
theorem dBytesOne_any (x : Rp1) (A : Option Addr) (c : Nat) (w : World) (hr : Right1 x) :
    Calls Tryd.prog 8 #[.agg #[.int .i64 x.kind, .string x.text, .int .i64 x.n, .slice A x.sub c]] w fun e w' => e = .returned (.string (toB (oneBs x))) ∧ Fr [] w w' := by
  have F1 := Lib.hid ((Fr.refl [] w).alloc (.cells #[.int .i64 x.kind, .string x.text, .int .i64 x.n, .slice A x.sub c] 24))
  have V1 := Lib.hid (Whole.new w 24 [.int .i64 x.kind, .string x.text, .int .i64 x.n, .slice A x.sub c])
  have hi := right1_int hr
  have hb := int_bound hi
  have hil := (itoa_len hi).2
  obtain ⟨R, hR⟩ : ∃ R, R = toB (oneBs x) := ⟨_, rfl⟩
  rw [← hR]
  obtain ⟨k, t, n, m⟩ := x
  have hk : k = 1 ∨ k = 2 ∨ k = 3 ∨ k = 4 ∨ k = 5 := by have : 1 ≤ k ∧ k ≤ 5 := hr.kind; omega
  have hw := hr.word
  have h4 := hr.bytes
  simp only at F1 V1 hi hb hil hw h4 ⊢
  have hz : (toB (Lib.itoa n)).size ≤ 10 := by rw [toB_size]; exact hil
  have IN := Lib.hid (fun (W : World) (hW : Fr [] w W) => digits_any n W (by omega))
  have IZ := Lib.hid (fun (W : World) (hW : Fr [] w W) (z : Nat) (hz : z ≤ 1000) => dig_nat z W hz)
  have e1 : (⟨#[43]⟩ : ByteArray).size = 1 := rfl
  have e2 : (⟨#[13, 10]⟩ : ByteArray).size = 2 := rfl
  have e3 : (⟨#[45]⟩ : ByteArray).size = 1 := rfl
  have e4 : (⟨#[58]⟩ : ByteArray).size = 1 := rfl
  have e5 : (⟨#[36]⟩ : ByteArray).size = 1 := rfl
  have e6 : (⟨#[36, 45, 49]⟩ : ByteArray).size = 3 := rfl
  clear hr hi
  rcases hk with rfl | rfl | rfl | rfl | rfl
  · have ht : t.size ≤ 20 := (hw rfl).1
    have TR : (⟨#[43]⟩ ++ t ++ ⟨#[13, 10]⟩ : ByteArray) = R := by
      rw [hR]
      apply ByteArray.ext
      simp [toB, oneBs]
    have ad1 : ∀ W, (Op.stringOp .add ⟨#[43]⟩ t).run Tryd.prog W = .ok (.string (⟨#[43]⟩ ++ t)) W := fun W => run_string_add_sum W _ _ (by simp only [ByteArray.size_append, e1, e2, e3, e4, e5, e6]; omega)
    have ad2 : ∀ W, (Op.stringOp .add (⟨#[43]⟩ ++ t) ⟨#[13, 10]⟩).run Tryd.prog W = .ok (.string (⟨#[43]⟩ ++ t ++ ⟨#[13, 10]⟩)) W := fun W => run_string_add_sum W _ _ (by simp only [ByteArray.size_append, e1, e2, e3, e4, e5, e6]; omega)
    rw [TR] at ad2
    clear e1 e2 e3 e4 e5 e6
    clear TR hR hw h4
    go_enter Tryd.func8, Tryd.ntmps8
    go_wp2
    go_ret
    exact ⟨rfl, F1.out⟩
  · have TR : (⟨#[45]⟩ ++ toB (Lib.itoa n) ++ ⟨#[13, 10]⟩ : ByteArray) = R := by
      rw [hR]
      apply ByteArray.ext
      simp [toB, oneBs]
    have IN : Hid (∀ W, Fr [] w W → Calls Tryd.prog 16 #[.int .i64 n] W fun e w' => e = .returned (.string (toB (Lib.itoa n))) ∧ Fr [] W w') := IN
    generalize toB (Lib.itoa n) = tn at *
    have ad1 : ∀ W, (Op.stringOp .add ⟨#[45]⟩ tn).run Tryd.prog W = .ok (.string (⟨#[45]⟩ ++ tn)) W := fun W => run_string_add_sum W _ _ (by simp only [ByteArray.size_append, e1, e2, e3, e4, e5, e6]; omega)
    have ad2 : ∀ W, (Op.stringOp .add (⟨#[45]⟩ ++ tn) ⟨#[13, 10]⟩).run Tryd.prog W = .ok (.string (⟨#[45]⟩ ++ tn ++ ⟨#[13, 10]⟩)) W := fun W => run_string_add_sum W _ _ (by simp only [ByteArray.size_append, e1, e2, e3, e4, e5, e6]; omega)
    rw [TR] at ad2
    clear e1 e2 e3 e4 e5 e6
    clear TR hR hw h4
    go_enter Tryd.func8, Tryd.ntmps8
    go_wp2_with fail
    refine (IN.out _ F1.out).mono ?_
    rintro e w1 ⟨rfl, f1⟩
    have F2 := Lib.hid (F1.out.trans f1)
    have V2 := Lib.hid (V1.out.fr f1 (by simp))
    clear f1
    obtain ⟨c0, c1, c2, c3⟩ := four V2.out
    go_wp2
    go_ret
    exact ⟨rfl, F2.out⟩
  · have TR : (⟨#[58]⟩ ++ toB (Lib.itoa n) ++ ⟨#[13, 10]⟩ : ByteArray) = R := by
      rw [hR]
      apply ByteArray.ext
      simp [toB, oneBs]
    have IN : Hid (∀ W, Fr [] w W → Calls Tryd.prog 16 #[.int .i64 n] W fun e w' => e = .returned (.string (toB (Lib.itoa n))) ∧ Fr [] W w') := IN
    generalize toB (Lib.itoa n) = tn at *
    have ad1 : ∀ W, (Op.stringOp .add ⟨#[58]⟩ tn).run Tryd.prog W = .ok (.string (⟨#[58]⟩ ++ tn)) W := fun W => run_string_add_sum W _ _ (by simp only [ByteArray.size_append, e1, e2, e3, e4, e5, e6]; omega)
    have ad2 : ∀ W, (Op.stringOp .add (⟨#[58]⟩ ++ tn) ⟨#[13, 10]⟩).run Tryd.prog W = .ok (.string (⟨#[58]⟩ ++ tn ++ ⟨#[13, 10]⟩)) W := fun W => run_string_add_sum W _ _ (by simp only [ByteArray.size_append, e1, e2, e3, e4, e5, e6]; omega)
    rw [TR] at ad2
    clear e1 e2 e3 e4 e5 e6
    clear TR hR hw h4
    go_enter Tryd.func8, Tryd.ntmps8
    go_wp2_with fail
    refine (IN.out _ F1.out).mono ?_
    rintro e w1 ⟨rfl, f1⟩
    have F2 := Lib.hid (F1.out.trans f1)
    have V2 := Lib.hid (V1.out.fr f1 (by simp))
    clear f1
    obtain ⟨c0, c1, c2, c3⟩ := four V2.out
    go_wp2
    go_ret
    exact ⟨rfl, F2.out⟩
  · have ht : t.size ≤ 60 := h4 rfl
    have dz : (toB (Lib.decDigits t.size)).size ≤ 2 := by rw [toB_size]; exact dec_two_len (by omega)
    have TR : (⟨#[36]⟩ ++ toB (Lib.decDigits t.size) ++ ⟨#[13, 10]⟩ ++ t ++ ⟨#[13, 10]⟩ : ByteArray) = R := by
      rw [hR]
      apply ByteArray.ext
      simp [toB, oneBs]
    have IZ := Lib.hid (fun W hW => IZ.out W hW t.size (by omega))
    generalize toB (Lib.decDigits t.size) = td at *
    have ad1 : ∀ W, (Op.stringOp .add ⟨#[36]⟩ td).run Tryd.prog W = .ok (.string (⟨#[36]⟩ ++ td)) W := fun W => run_string_add_sum W _ _ (by simp only [ByteArray.size_append, e1, e2, e3, e4, e5, e6]; omega)
    have ad2 : ∀ W, (Op.stringOp .add (⟨#[36]⟩ ++ td) ⟨#[13, 10]⟩).run Tryd.prog W = .ok (.string (⟨#[36]⟩ ++ td ++ ⟨#[13, 10]⟩)) W := fun W => run_string_add_sum W _ _ (by simp only [ByteArray.size_append, e1, e2, e3, e4, e5, e6]; omega)
    have ad3 : ∀ W, (Op.stringOp .add (⟨#[36]⟩ ++ td ++ ⟨#[13, 10]⟩) t).run Tryd.prog W = .ok (.string (⟨#[36]⟩ ++ td ++ ⟨#[13, 10]⟩ ++ t)) W := fun W => run_string_add_sum W _ _ (by simp only [ByteArray.size_append, e1, e2, e3, e4, e5, e6]; omega)
    have ad4 : ∀ W, (Op.stringOp .add (⟨#[36]⟩ ++ td ++ ⟨#[13, 10]⟩ ++ t) ⟨#[13, 10]⟩).run Tryd.prog W = .ok (.string (⟨#[36]⟩ ++ td ++ ⟨#[13, 10]⟩ ++ t ++ ⟨#[13, 10]⟩)) W := fun W => run_string_add_sum W _ _ (by simp only [ByteArray.size_append, e1, e2, e3, e4, e5, e6]; omega)
    rw [TR] at ad4
    clear e1 e2 e3 e4 e5 e6
    clear TR hR hw h4
    generalize ⟨#[36]⟩ ++ td ++ ⟨#[13, 10]⟩ ++ t = t4 at *
    generalize ⟨#[36]⟩ ++ td ++ ⟨#[13, 10]⟩ = t3 at *
    generalize ⟨#[36]⟩ ++ td = t2 at *
    go_enter Tryd.func8, Tryd.ntmps8
    obtain ⟨c0, c1, c2, c3⟩ := four V1.out
    have IK := Lib.hid (IZ.out _ F1.out.drew)
    go_wp2
    go_region_held3 (fun wx => wx.cell? ⟨w.heap.size, 1, none⟩ = some (.string t)) (go_keep) ((go_at_call 16; refine IK.out.mono ?_; rintro e9 w2 ⟨rfl, f2⟩; have G2 := Lib.hid (fr_predrew f2); have y1 := G2.out.cell c1 (by simp); clear f2 c1; have c1 := y1; clear y1))
    go_wp2
    go_ret
    exact ⟨rfl, F1.out.trans G2.out⟩
  · have TR : (⟨#[36, 45, 49]⟩ ++ ⟨#[13, 10]⟩ : ByteArray) = R := by
      rw [hR]
      apply ByteArray.ext
      simp [toB, oneBs]
    have ad1 : ∀ W, (Op.stringOp .add (⟨#[36, 45, 49]⟩) ⟨#[13, 10]⟩).run Tryd.prog W = .ok (.string (⟨#[36, 45, 49]⟩ ++ ⟨#[13, 10]⟩)) W := fun W => run_string_add_sum W _ _ (by simp only [ByteArray.size_append, e1, e2, e3, e4, e5, e6]; omega)
    rw [TR] at ad1
    clear e1 e2 e3 e4 e5 e6
    clear TR hR hw h4
    go_enter Tryd.func8, Tryd.ntmps8
    go_wp2
    go_ret
    exact ⟨rfl, F1.out⟩
end Go.Proofs.YtoabjcnacnojbaaDoor
