/- The laws' row: a list of three. -/
import Derived.Test.YtmlmiboihjibiaaLs
import Derived.Test.YtmlmiboihjibiaaItf
set_option linter.unusedVariables false
set_option linter.unusedSimpArgs false
namespace Go.Proofs.Ytmlmiboihjibiaa
open Go.RowKit

theorem listI_small {l : List ByteArray} (hl : l.length ≤ 1000000) (ht : ∀ s ∈ l, s.size ≤ 281474976710656) : (listI l).Small :=
  ⟨by show -9223372036854775808 ≤ (2 : Int) ∧ (2 : Int) ≤ 9223372036854775807; omega, by show (⟨#[]⟩ : ByteArray).size ≤ _; decide, by show l.length ≤ _; omega, by show 0 ≤ _; omega, by show 0 ≤ _; omega, ht, (fun p hp => by cases hp), (fun p hp => by cases hp)⟩
def tA : ByteArray := ⟨#[97]⟩
def tB : ByteArray := ⟨#[98]⟩
def tC : ByteArray := ⟨#[99]⟩
def tD : ByteArray := ⟨#[100]⟩
def rowI : Itm := listI [tA, tB, tA]
theorem row_small : rowI.Small := listI_small (by decide) (by decide)

set_option maxRecDepth 100000 in
theorem row_any (w : World) : Calls Try.prog 96 #[] w (SomeItem rowI w) := by
  go_enter Try.func96, Try.ntmps96
  go_wp2
  refine bodyPost_ret (v := .agg #[.int .i64 2, .string ⟨#[]⟩, .slice (some ⟨w.heap.size + 1, 0, none⟩) 3 3, .slice none 0 0, .slice none 0 0]) (by simp [results, Try.results96, go_sem]) rfl ?_
  have hb := heap_alloc_new (w.alloc (.cells #[.int .i64 2, .string ⟨#[]⟩, .slice (some ⟨w.heap.size + 1, 0, none⟩) 3 3, .slice none 0 0, .slice none 0 0] 26)) (.cells #[.string ⟨#[97]⟩, .string ⟨#[98]⟩, .string ⟨#[97]⟩] 9)
  have hz : (w.alloc (.cells #[.int .i64 2, .string ⟨#[]⟩, .slice (some ⟨w.heap.size + 1, 0, none⟩) 3 3, .slice none 0 0, .slice none 0 0] 26)).heap.size = w.heap.size + 1 := by simp
  rw [hz] at hb
  exact ⟨_, rfl, ⟨_, _, _, rfl, ⟨rfl, .inr ⟨w.heap.size + 1, 3, _, rfl, by omega, hb, Nat.le_refl _, by decide, rfl, rfl⟩⟩, ⟨rfl, .inl ⟨rfl, rfl⟩⟩, ⟨rfl, .inl ⟨rfl, rfl⟩⟩⟩, ((Fr.refl [] w).alloc _).alloc _⟩
end Go.Proofs.Ytmlmiboihjibiaa
