/- The walks of the orders of pairs and scores. -/
import Derived.Test.YtfkfdmonnebmmaaItemF
set_option linter.unusedVariables false
set_option linter.unusedSimpArgs false
namespace Go.Proofs.Ytfkfdmonnebmmaa
open Go.RowKit

def ltP (a b : ByteArray × ByteArray) : Bool := decide (ordB a.1 b.1 < 0)
/-- the order of scores, of numbers that are not too far apart. -/
def ordC (a b : Int × ByteArray) : Int := if a.1 = b.1 then ordB a.2 b.2 else a.1 - b.1
def ltC (a b : Int × ByteArray) : Bool := decide (ordC a b < 0)

theorem fields_any (a b : ByteArray × ByteArray) (w : World) : Calls Try.prog 73 #[.agg #[.string a.1, .string a.2], .agg #[.string b.1, .string b.2]] w fun e w' => e = .returned (.int .i64 (ordB a.1 b.1)) ∧ Fr [] w w' := by
  go_enter Try.func73, Try.ntmps73
  go_wp2_with fail
  refine (compare_any _ _ _).mono ?_
  rintro e w1 ⟨rfl, rfl⟩
  go_wp2
  go_ret
  exact ⟨rfl, ((Fr.refl [] w).alloc _).alloc _⟩

theorem scores_any (a b : Int × ByteArray) (w : World) (ha : isInt a.1 = true) (hb : isInt b.1 = true) : Calls Try.prog 116 #[.agg #[.int .i64 a.1, .string a.2], .agg #[.int .i64 b.1, .string b.2]] w fun e w' => e = .returned (.int .i64 (ordC a b)) ∧ Fr [] w w' := by
  simp only [isInt, Bool.and_eq_true, decide_eq_true_eq] at ha hb
  by_cases h : a.1 = b.1
  · have E := Lib.hid (show ordC a b = ordB a.2 b.2 by unfold ordC; rw [if_pos h])
    have hne : (a.1 != b.1) = false := by simpa using h
    clear h
    go_enter Try.func116, Try.ntmps116
    go_wp2_with fail
    refine (compare_any _ _ _).mono ?_
    rintro e w1 ⟨rfl, rfl⟩
    go_wp2
    go_ret
    rw [E.out]
    exact ⟨rfl, ((Fr.refl [] w).alloc _).alloc _⟩
  · have E := Lib.hid (show ordC a b = a.1 - b.1 by unfold ordC; rw [if_neg h])
    have hne : (a.1 != b.1) = true := by simpa using h
    have hw : IntKind.i64.wrap (a.1 - b.1) = a.1 - b.1 := IntWalk.i64_in _ (by omega)
    clear h
    go_enter Try.func116, Try.ntmps116
    go_wp2
    go_ret
    rw [E.out]
    exact ⟨rfl, ((Fr.refl [] w).alloc _).alloc _⟩
end Go.Proofs.Ytfkfdmonnebmmaa
