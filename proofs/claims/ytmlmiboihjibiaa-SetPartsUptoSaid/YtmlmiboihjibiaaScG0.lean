/- Rows of texts that are written out. -/
import Derived.Test.YtmlmiboihjibiaaItf
set_option linter.unusedVariables false
set_option linter.unusedSimpArgs false
namespace Go.Proofs.Ytmlmiboihjibiaa
open Go.RowKit
theorem slT_lit1 (w : World) (a : ByteArray) : Sl (w.alloc (.cells #[.string a] 9)) (w.alloc (.cells #[.string a] 9)).heap.size 1 (.slice (some ⟨w.heap.size, 0, none⟩) 1 1) 1 (textsV [a]) :=
  own_sl (World.ownsRow_lit (base := w.heap.size) (e := 9) (size := 1) w #[.string a] 1 (Nat.le_refl _) (by decide) rfl)
theorem slT_lit2 (w : World) (a b : ByteArray) : Sl (w.alloc (.cells #[.string a, .string b] 9)) (w.alloc (.cells #[.string a, .string b] 9)).heap.size 1 (.slice (some ⟨w.heap.size, 0, none⟩) 2 2) 2 (textsV [a, b]) :=
  own_sl (World.ownsRow_lit (base := w.heap.size) (e := 9) (size := 1) w #[.string a, .string b] 2 (Nat.le_refl _) (by decide) rfl)
theorem slT_lit3 (w : World) (a b c : ByteArray) : Sl (w.alloc (.cells #[.string a, .string b, .string c] 9)) (w.alloc (.cells #[.string a, .string b, .string c] 9)).heap.size 1 (.slice (some ⟨w.heap.size, 0, none⟩) 3 3) 3 (textsV [a, b, c]) :=
  own_sl (World.ownsRow_lit (base := w.heap.size) (e := 9) (size := 1) w #[.string a, .string b, .string c] 3 (Nat.le_refl _) (by decide) rfl)
theorem slT_lit2b (w : World) (o : Obj) (a b : ByteArray) : Sl ((w.alloc o).alloc (.cells #[.string a, .string b] 9)) ((w.alloc o).alloc (.cells #[.string a, .string b] 9)).heap.size 1 (.slice (some ⟨w.heap.size + 1, 0, none⟩) 2 2) 2 (textsV [a, b]) := by
  have := slT_lit2 (w.alloc o) a b
  simpa using this
end Go.Proofs.Ytmlmiboihjibiaa
