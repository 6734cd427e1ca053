/- The walk of the document's lineAt. -/
import Derived.Test.YtoabjcnacnojbaaDoorReF
set_option linter.unusedVariables false
set_option linter.unusedSimpArgs false
namespace Go.Proofs.YtoabjcnacnojbaaDoor
open Go.RowKit
attribute [local go_sem] byteAt_eq

theorem cut_at {s : ByteArray} {i : Nat} (h : i + 1 < s.size) : cutC (s.data.toList.drop i) = if byteAt s i = 13 ∧ byteAt s (i + 1) = 10 then some ([], s.data.toList.drop (i + 2)) else (cutC (s.data.toList.drop (i + 1))).map fun p => ((s.data.toList.drop i).take 1 ++ p.1, p.2) := by
  obtain ⟨x, hx, ex⟩ := drop_byte s i (by omega)
  obtain ⟨y, hy, ey⟩ := drop_byte s (i + 1) h
  rw [hx, hy, ← ex, ← ey]
  rfl
theorem cut_over {s : ByteArray} {i : Nat} (h : ¬ i + 1 < s.size) : cutC (s.data.toList.drop i) = none := by
  have hl : (s.data.toList.drop i).length ≤ 1 := by rw [List.length_drop]; simp; omega
  rcases hd : s.data.toList.drop i with _ | ⟨x, _ | ⟨y, u⟩⟩
  · rfl
  · rfl
  · rw [hd] at hl
    simp at hl
def LineAtP (s : ByteArray) (a : Nat) (w : World) (e : Ending) (w' : World) : Prop :=
  ((∃ (p : List UInt8 × List UInt8) (t : Nat), e = .returned (.tuple #[.string (toB p.1), .int .i64 t, .bool true]) ∧ cutC (s.data.toList.drop a) = some p ∧ t ≤ s.size ∧ s.data.toList.drop t = p.2) ∨ (e = .returned (.tuple #[.string ⟨#[]⟩, .int .i64 a, .bool false]) ∧ cutC (s.data.toList.drop a) = none)) ∧ w' = w

set_option maxHeartbeats 2000000 in
set_option maxRecDepth 100000 in
theorem lineAt_any (s : ByteArray) (a : Nat) (w : World) (hs : s.size ≤ 281474976710656) (ha : a ≤ s.size) :
    Calls Tryd.prog 29 #[.string s, .int .i64 a] w (LineAtP s a w) := by
  obtain ⟨C, hC⟩ : ∃ C, C = cutC (s.data.toList.drop a) := ⟨_, rfl⟩
  have E0 := Lib.hid (show C = (cutC (s.data.toList.drop (a + 0))).map (fun p => ((s.data.toList.drop a).take 0 ++ p.1, p.2)) from by
    rw [hC, Nat.add_zero]
    rcases cutC (s.data.toList.drop a) with _ | p <;> rfl)
  unfold LineAtP
  rw [← hC]
  clear hC
  go_enter Tryd.func29, Tryd.ntmps29
  go_wp2
  go_loopg [7] (s.size - a) (fun x i wr => ∃ (k : Nat), x = s.size - a - k ∧ a + k ≤ s.size ∧ i = .int .i64 ((a + k : Nat) : Int) ∧ Hid (C = (cutC (s.data.toList.drop (a + k))).map (fun p => ((s.data.toList.drop a).take k ++ p.1, p.2))) ∧ wr = w)
  case atStart => exact ⟨0, rfl, ha, rfl, E0, rfl⟩
  case round =>
    obtain ⟨k, rfl, hk, rfl, HE, rfl⟩ := hrel
    clear E0
    by_cases hlt : a + k + 1 < s.size
    · have hw1 : (((a + k : Nat) : Int) + 1) = ((a + k + 1 : Nat) : Int) := by omega
      have hy1 := byteAt_lt s (a + k)
      have ST := HE.out
      rw [cut_at hlt] at ST
      have ex1 : (s.data.toList.drop a).take (k + 1) = (s.data.toList.drop a).take k ++ (s.data.toList.drop (a + k)).take 1 := by
        rw [List.take_add, List.drop_drop]
      by_cases h13 : byteAt s (a + k) = 13
      · by_cases h10 : byteAt s (a + k + 1) = 10
        · rw [if_pos ⟨h13, h10⟩] at ST
          have EX := extract_toB s a k
          have EC := Lib.hid (show C = some ((s.data.toList.drop a).take k, s.data.toList.drop (a + k + 2)) from by rw [ST]; simp)
          have q1 : ((byteAt s (a + k) : Int) == 13) = true := by rw [h13]; rfl
          have q2 : ((byteAt s (a + k + 1) : Int) == 10) = true := by rw [h10]; rfl
          clear ST HE ex1 h13 h10
          go_wp2
          go_ret3
          exact ⟨.inl ⟨_, a + k + 2, by rw [← EX]; rfl, EC.out, by omega, rfl⟩, rfl⟩
        · rw [if_neg (fun h => h10 h.2)] at ST
          have NX := Lib.hid (show C = (cutC (s.data.toList.drop (a + (k + 1)))).map (fun p => ((s.data.toList.drop a).take (k + 1) ++ p.1, p.2)) from by
            rw [ST, Option.map_map, ex1]
            show Option.map _ (cutC (s.data.toList.drop (a + k + 1))) = _
            congr 1
            funext p
            simp)
          have q1 : ((byteAt s (a + k) : Int) == 13) = true := by rw [h13]; rfl
          have q2 : ((byteAt s (a + k + 1) : Int) == 10) = false := beq_eq_false_iff_ne.2 (by omega)
          clear ST HE ex1 h13 h10
          go_wp2
          go_roundg (s.size - a - (k + 1))
          case measure => omega
          case rel => exact ⟨k + 1, rfl, by omega, by go_num, NX, rfl⟩
      · rw [if_neg (fun h => h13 h.1)] at ST
        have NX := Lib.hid (show C = (cutC (s.data.toList.drop (a + (k + 1)))).map (fun p => ((s.data.toList.drop a).take (k + 1) ++ p.1, p.2)) from by
          rw [ST, Option.map_map, ex1]
          show Option.map _ (cutC (s.data.toList.drop (a + k + 1))) = _
          congr 1
          funext p
          simp)
        have q1 : ((byteAt s (a + k) : Int) == 13) = false := beq_eq_false_iff_ne.2 (by omega)
        clear ST HE ex1 h13
        go_wp2
        go_roundg (s.size - a - (k + 1))
        case measure => omega
        case rel => exact ⟨k + 1, rfl, by omega, by go_num, NX, rfl⟩
    · have EC := Lib.hid (show C = none from by rw [HE.out, cut_over hlt]; rfl)
      clear HE
      go_wp2
      go_ret3
      exact ⟨.inr ⟨rfl, EC.out⟩, rfl⟩
end Go.Proofs.YtoabjcnacnojbaaDoor
