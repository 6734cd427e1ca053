/- The walks of reply.within, word, bare, one. -/
import Derived.Test.YtoabjcnacnojbaaDoorReV
import Derived.Test.YtoabjcnacnojbaaDoorItB
set_option linter.unusedVariables false
set_option linter.unusedSimpArgs false
namespace Go.Proofs.YtoabjcnacnojbaaDoor
open Go.RowKit
attribute [local go_sem] byteAt_eq

theorem rWithin_any (n a b : Int) (w : World) : Calls Tryd.prog 31 #[.int .i64 n, .int .i64 a, .int .i64 b] w fun e w' => e = .returned (.bool (decide (a ≤ n) && decide (n ≤ b))) ∧ w' = w := by
  by_cases h : a ≤ n
  · go_enter Tryd.func31, Tryd.ntmps31
    go_wp2
    go_ret
    simp [h]
  · go_enter Tryd.func31, Tryd.ntmps31
    go_wp2
    go_ret
    simp [h]
    try omega
theorem rWithin_b {n a b : Int} {t : Bool} (h : (decide (a ≤ n) && decide (n ≤ b)) = t) (w : World) : Calls Tryd.prog 31 #[.int .i64 n, .int .i64 a, .int .i64 b] w fun e w' => e = .returned (.bool t) ∧ w' = w :=
  h ▸ rWithin_any n a b w

theorem all_drop {p : UInt8 → Bool} {s : ByteArray} {k : Nat} (h : k < s.size) : ∃ x : UInt8, x.toNat = byteAt s k ∧ (s.data.toList.drop k).all p = (p x && (s.data.toList.drop (k + 1)).all p) := by
  obtain ⟨x, hx, ex⟩ := drop_byte s k h
  exact ⟨x, ex, by rw [hx]; rfl⟩
theorem emptyT (t : ByteArray) : (t.toList == []) = decide (t.size = 0) ∧ t.toList.isEmpty = decide (t.size = 0) := by
  have e : t.toList = t.data.toList := by rw [ByteArray.toList_eq]
  rw [e]
  by_cases h : t.size = 0
  · rw [decide_eq_true h]
    have : t.data.toList = [] := List.eq_nil_of_length_eq_zero (by simpa using h)
    rw [this]; exact ⟨rfl, rfl⟩
  · rw [decide_eq_false h]
    have : t.data.toList ≠ [] := fun hn => h (by have := congrArg List.length hn; simpa using this)
    exact ⟨by simpa using this, by simpa using this⟩
theorem st_t {R a b c : Bool} (h : R = ((a && b) && c)) (ha : a = true) : R = (b && c) := by
  subst ha; simpa using h
theorem st_f {R a b c : Bool} (h : R = ((a && b) && c)) (ha : a = false) : R = false := by
  subst ha; simpa using h
set_option maxHeartbeats 4000000 in
set_option maxRecDepth 100000 in
theorem rWord_any (s : ByteArray) (w : World) (hs : s.size ≤ 281474976710656) : Calls Tryd.prog 32 #[.string s] w fun e w' => e = .returned (.bool (wordS s && decide (s.size ≠ 0))) ∧ w' = w := by
  obtain ⟨R, hR⟩ : ∃ R, R = (wordS s && decide (s.size ≠ 0)) := ⟨_, rfl⟩
  rw [← hR]
  have E0 := Lib.hid (show R = ((s.data.toList.drop 0).all (fun c => wordB c.toNat) && decide (s.size ≠ 0)) from hR)
  have EN := Lib.hid (show (s.toList != []) = decide (s.size ≠ 0) from by
    have e : s.toList = s.data.toList := by rw [ByteArray.toList_eq]
    rw [e]
    by_cases h : s.size = 0
    · rw [decide_eq_false (by simpa using h)]
      have : s.data.toList = [] := List.eq_nil_of_length_eq_zero (by simpa using h)
      rw [this]; rfl
    · rw [decide_eq_true h]
      have : s.data.toList ≠ [] := fun hn => h (by have := congrArg List.length hn; simpa using this)
      simpa using this)
  clear hR
  go_enter Tryd.func32, Tryd.ntmps32
  go_wp2
  go_loopg [7] s.size (fun x i wr => ∃ (k : Nat), x = s.size - k ∧ k ≤ s.size ∧ i = .int .i64 k ∧ Hid (R = ((s.data.toList.drop k).all (fun c => wordB c.toNat) && decide (s.size ≠ 0))) ∧ wr = w)
  case atStart => exact ⟨0, rfl, Nat.zero_le _, rfl, E0, rfl⟩
  case round =>
    obtain ⟨k, rfl, hk, rfl, HE, rfl⟩ := hrel
    by_cases hlt : k < s.size
    · obtain ⟨x, ex, hx⟩ := all_drop (p := fun c => wordB c.toNat) hlt
      have ST := Lib.hid (HE.out.trans (by rw [hx]))
      have hy := byteAt_lt s k
      rw [ex] at ST
      clear hx ex x HE E0
      obtain ⟨y, ey⟩ : ∃ y, y = byteAt s k := ⟨_, rfl⟩
      rw [← ey] at ST hy
      have hwr : wrap64 (byteAt s k : Int) = (y : Int) := by rw [← ey]; exact IntWalk.wrap64_in _ (by omega)
      have W1 := Lib.hid (fun W => rWithin_any (y : Int) 97 122 W)
      have W2 := Lib.hid (fun W => rWithin_any (y : Int) 65 90 W)
      have W3 := Lib.hid (fun W => rWithin_any (y : Int) 48 57 W)
      have d1 : (decide ((97 : Int) ≤ (y : Int)) && decide ((y : Int) ≤ 122)) = (decide (97 ≤ y) && decide (y ≤ 122)) := by congr 1 <;> exact decide_eq_decide.2 (by omega)
      have d2 : (decide ((65 : Int) ≤ (y : Int)) && decide ((y : Int) ≤ 90)) = (decide (65 ≤ y) && decide (y ≤ 90)) := by congr 1 <;> exact decide_eq_decide.2 (by omega)
      have d3 : (decide ((48 : Int) ≤ (y : Int)) && decide ((y : Int) ≤ 57)) = (decide (48 ≤ y) && decide (y ≤ 57)) := by congr 1 <;> exact decide_eq_decide.2 (by omega)
      rw [d1, ← hwr] at W1
      rw [d2, ← hwr] at W2
      rw [d3, ← hwr] at W3
      have EB : wordB y = ((decide (97 ≤ y) && decide (y ≤ 122)) || (decide (65 ≤ y) && decide (y ≤ 90)) || (decide (48 ≤ y) && decide (y ≤ 57)) || decide (y = 32)) := rfl
      rw [EB] at ST
      have hq : ((byteAt s k : Int) != 32) = !decide (y = 32) := by
        rw [← ey]
        by_cases h : y = 32
        · subst h; rfl
        · rw [decide_eq_false h]; simp; omega
      clear d1 d2 d3 EB hwr
      generalize (decide (97 ≤ y) && decide (y ≤ 122)) = b1 at *
      generalize (decide (65 ≤ y) && decide (y ≤ 90)) = b2 at *
      generalize (decide (48 ≤ y) && decide (y ≤ 57)) = b3 at *
      generalize decide (y = 32) = b4 at *
      clear ey hy y
      cases b1
      rotate_left
      · have NX := Lib.hid (st_t ST.out rfl)
        clear hq ST
        go_wp2_with fail
        refine (W1.out _).mono ?_
        rintro e w1 ⟨rfl, hw1⟩
        subst hw1
        go_wp2
        go_roundg (s.size - (k + 1))
        case measure => omega
        case rel => exact ⟨k + 1, rfl, by omega, by go_num, NX, rfl⟩
      · cases b2
        rotate_left
        · have NX := Lib.hid (st_t ST.out rfl)
          clear hq ST
          go_wp2_with fail
          refine (W1.out _).mono ?_
          rintro e w1 ⟨rfl, hw1⟩
          subst hw1
          go_wp2_with fail
          refine (W2.out _).mono ?_
          rintro e w1 ⟨rfl, hw1⟩
          subst hw1
          go_wp2
          go_roundg (s.size - (k + 1))
          case measure => omega
          case rel => exact ⟨k + 1, rfl, by omega, by go_num, NX, rfl⟩
        · cases b3
          rotate_left
          · have NX := Lib.hid (st_t ST.out rfl)
            clear hq ST
            go_wp2_with fail
            refine (W1.out _).mono ?_
            rintro e w1 ⟨rfl, hw1⟩
            subst hw1
            go_wp2_with fail
            refine (W2.out _).mono ?_
            rintro e w1 ⟨rfl, hw1⟩
            subst hw1
            go_wp2_with fail
            refine (W3.out _).mono ?_
            rintro e w1 ⟨rfl, hw1⟩
            subst hw1
            go_wp2
            go_roundg (s.size - (k + 1))
            case measure => omega
            case rel => exact ⟨k + 1, rfl, by omega, by go_num, NX, rfl⟩
          · cases b4
            · have NX := Lib.hid (st_f ST.out rfl)
              have q1 : ((byteAt s k : Int) != 32) = true := hq
              clear hq ST
              go_wp2_with fail
              refine (W1.out _).mono ?_
              rintro e w1 ⟨rfl, hw1⟩
              subst hw1
              go_wp2_with fail
              refine (W2.out _).mono ?_
              rintro e w1 ⟨rfl, hw1⟩
              subst hw1
              go_wp2_with fail
              refine (W3.out _).mono ?_
              rintro e w1 ⟨rfl, hw1⟩
              subst hw1
              go_wp2
              go_ret
              rw [NX.out]
              exact ⟨rfl, rfl⟩
            · have NX := Lib.hid (st_t ST.out rfl)
              have q1 : ((byteAt s k : Int) != 32) = false := hq
              clear hq ST
              go_wp2_with fail
              refine (W1.out _).mono ?_
              rintro e w1 ⟨rfl, hw1⟩
              subst hw1
              go_wp2_with fail
              refine (W2.out _).mono ?_
              rintro e w1 ⟨rfl, hw1⟩
              subst hw1
              go_wp2_with fail
              refine (W3.out _).mono ?_
              rintro e w1 ⟨rfl, hw1⟩
              subst hw1
              go_wp2
              go_roundg (s.size - (k + 1))
              case measure => omega
              case rel => exact ⟨k + 1, rfl, by omega, by go_num, NX, rfl⟩
    · obtain rfl : k = s.size := by omega
      have NX := Lib.hid (show R = decide (s.size ≠ 0) from by
        rw [HE.out, List.drop_of_length_le (by simp)]
        simp)
      have q1 := EN.out
      go_wp2
      go_ret
      rw [NX.out]
      obtain ⟨q0, q0'⟩ := emptyT s
      have e3 : decide (s.size ≠ 0) = !decide (s.size = 0) := by simp
      refine ⟨?_, rfl⟩
      rw [e3, ← q0']
      first
        | rfl
        | (unfold bne; rw [q0, q0'])
        | (rw [q0', ← q0]; rfl)
end Go.Proofs.YtoabjcnacnojbaaDoor
