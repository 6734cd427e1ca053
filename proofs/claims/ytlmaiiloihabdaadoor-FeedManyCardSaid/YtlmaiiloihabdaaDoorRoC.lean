/- The walk of the reference's SameCommands, of two that are. -/
import Derived.Test.YtlmaiiloihabdaaDoorRo
import Derived.Deep.RegionHeld3
set_option linter.unusedVariables false
set_option linter.unusedSimpArgs false
namespace Go.Proofs.YtlmaiiloihabdaaDoor
open Go.RowKit

set_option maxHeartbeats 1000000 in
set_option maxRecDepth 100000 in
theorem sameCommands_any (ls : List (List ByteArray)) (v u : Value) (w : World) (B : Nat) (hs : ∀ l ∈ ls, l.length ≤ 281474976710656) (hl : ls.length ≤ 281474976710656) (hB : B ≤ w.heap.size) (h : RowsV w B v ls) (k : RowsV w B u ls) :
    Calls Tryd.prog 14 #[v, u] w fun e w' => e = .returned (.bool true) ∧ Fr [] w w' := by
  obtain ⟨A, c, rfl⟩ := h.form
  obtain ⟨A', c', rfl⟩ := k.form
  have HV := Lib.hid h
  have KV := Lib.hid k
  have HS := Lib.hid hs
  clear h k hs
  go_enter Tryd.func14, Tryd.ntmps14
  go_wp2
  go_loopg [5] ls.length (fun g i wr => ∃ (k : Nat), g = ls.length - k ∧ k ≤ ls.length ∧ i = .int .i64 k ∧ Fr [] w wr)
  case atStart => exact ⟨0, rfl, Nat.zero_le _, rfl, Fr.refl _ _⟩
  case round =>
    obtain ⟨k, rfl, hk, rfl, hf⟩ := hrel
    have HF := Lib.hid hf
    clear hf
    by_cases hlt : k < ls.length
    · obtain ⟨b, off, rfl, hb, hc, hmx, hat⟩ := HV.out.at_ (by omega)
      obtain ⟨b2, off2, rfl, hb2, hc2, hmx2, hat2⟩ := KV.out.at_ (by omega)
      obtain ⟨l, he⟩ : ∃ l, ls[k]? = some l := ⟨_, List.getElem?_eq_getElem hlt⟩
      obtain ⟨A1, c1, x1, s1⟩ := hat k l he
      obtain ⟨A2, c2, x2, s2⟩ := hat2 k l he
      have y1 := HF.out.cell x1 (by simp)
      have y2 := HF.out.cell x2 (by simp)
      have hem := HS.out l (List.mem_of_getElem? he)
      have ST := Lib.hid (fun W (hW : Fr [] wr W) => (show Calls Tryd.prog 30 #[.slice A1 l.length c1, .slice A2 l.length c2] W fun e w' => e = .returned (.bool true) ∧ Fr [] W w' from by
        have hW2 := HF.out.trans hW
        have := sameTexts_any l l A1 A2 c1 c2 B W hem hem (Nat.le_trans hB hW2.size) (s1.fr hW2 hB (by simp)) (s2.fr hW2 hB (by simp))
        rw [show sameT l l = true from by unfold sameT; simp] at this
        exact this))
      clear hat hat2 x1 x2 s1 s2 he hem
      go_wp2
      go_region_held3 (fun wx => wx.cell? ⟨b, off + k, none⟩ = some (.slice A1 l.length c1) ∧ wx.cell? ⟨b2, off2 + k, none⟩ = some (.slice A2 l.length c2)) (go_keep) ((go_at_call 30; refine (ST.out _ (Fr.refl [] _).drew).mono ?_; rintro e9 w2 ⟨rfl, f2⟩; have G2 := Lib.hid (fr_predrew f2); have z1 := G2.out.cell y1 (by simp); have z2 := G2.out.cell y2 (by simp); clear f2 y1 y2; have y1 := z1; have y2 := z2; clear z1 z2))
      go_wp2
      go_roundg (ls.length - (k + 1))
      case measure => omega
      case rel => exact ⟨k + 1, rfl, by omega, by go_num, HF.out.trans G2.out⟩
    · obtain rfl : k = ls.length := by omega
      go_wp2
      go_ret
      exact ⟨rfl, HF.out⟩
end Go.Proofs.YtlmaiiloihabdaaDoor
