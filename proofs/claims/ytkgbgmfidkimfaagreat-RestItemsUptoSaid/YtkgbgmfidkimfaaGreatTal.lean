/- The item that the laws begin with. -/
import Derived.Test.YtkgbgmfidkimfaaGreatItf
set_option linter.unusedVariables false
set_option linter.unusedSimpArgs false
namespace Go.Proofs.YtkgbgmfidkimfaaGreat
open Go.RowKit

set_option maxRecDepth 100000 in
theorem tally_any (w : World) : Calls Tryz.prog 31 #[] w (SomeItem tallyI w) := by
  go_enter Tryz.func31, Tryz.ntmps31
  go_wp2
  refine bodyPost_ret (v := .agg #[.int .i64 5, .string ⟨#[]⟩, .slice none 0 0, .slice none 0 0, .slice (some ⟨w.heap.size + 1, 0, none⟩) 3 3]) (by simp [results, Tryz.results31, go_sem]) rfl ?_
  have hb := heap_alloc_new (w.alloc (.cells #[.int .i64 5, .string ⟨#[]⟩, .slice none 0 0, .slice none 0 0, .slice (some ⟨w.heap.size + 1, 0, none⟩) 3 3] 26)) (.cells #[.int .i64 (-1), .string ⟨#[98]⟩, .int .i64 2, .string ⟨#[97]⟩, .int .i64 2, .string ⟨#[99]⟩] 60)
  have hz : (w.alloc (.cells #[.int .i64 5, .string ⟨#[]⟩, .slice none 0 0, .slice none 0 0, .slice (some ⟨w.heap.size + 1, 0, none⟩) 3 3] 26)).heap.size = w.heap.size + 1 := by simp
  rw [hz] at hb
  exact ⟨_, rfl, ⟨_, _, _, rfl, World.ownsRow_nil _ _ _ _, ⟨rfl, .inl ⟨rfl, rfl⟩⟩, rfl, .inr ⟨w.heap.size + 1, 3, _, rfl, by omega, hb, Nat.le_refl _, by decide, rfl, rfl⟩⟩, ((Fr.refl [] w).alloc _).alloc _⟩
end Go.Proofs.YtkgbgmfidkimfaaGreat
