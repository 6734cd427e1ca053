/- slices.Reverse at texts: an owned row is turned round in place. slices.Grow at nil, and slices.Concat of two, at texts: a row of the call's own. -/
import Derived.Test.YtkgbgmfidkimfaaGreatMgRestItemsUpto4
import Derived.Test.YtkgbgmfidkimfaaGreatSlG
import Derived.Test.YtkgbgmfidkimfaaGreatSlA
import Derived.ChangeAlike
import Derived.RegionTactic
import Derived.Lib.AppendZerosOnto
import Derived.Lib.AppendZeros
set_option linter.unusedVariables false
set_option linter.unusedSimpArgs false
namespace Go.Proofs.YtkgbgmfidkimfaaGreat
open Go.RowKit

/-- from both ends up to m turned round. -/
def Turned (l d : List ByteArray) (m : Nat) : Prop := d.length = l.length ∧ ∀ t, t < l.length → d[t]? = if t < m ∨ l.length < t + 1 + m then l[l.length - 1 - t]? else l[t]?

theorem turned_zero (l : List ByteArray) : Turned l l 0 := ⟨rfl, fun t ht => by rw [if_neg (by omega)]⟩
theorem turned_step {l d : List ByteArray} {m : Nat} {a b : ByteArray} (h : Turned l d m) (hm : m + 1 + m < l.length) (ha : d[m]? = some a) (hb : d[l.length - 1 - m]? = some b) :
    Turned l ((d.set m b).set (l.length - 1 - m) a) (m + 1) := by
  refine ⟨by simp [h.1], fun t ht => ?_⟩
  have hl := h.1
  have e1 := h.2 m (by omega)
  have e2 := h.2 (l.length - 1 - m) (by omega)
  rw [if_neg (by omega), ha] at e1
  rw [if_neg (by omega), hb] at e2
  by_cases h1 : t = l.length - 1 - m
  · rw [h1, List.getElem?_set_self (by simp; omega), if_pos (by omega), show l.length - 1 - (l.length - 1 - m) = m by omega]
    exact e1
  · rw [List.getElem?_set_ne (by omega)]
    by_cases h2 : t = m
    · rw [h2, List.getElem?_set_self (by omega), if_pos (by omega)]
      exact e2
    · rw [List.getElem?_set_ne (by omega), h.2 t ht]
      by_cases h3 : t < m ∨ l.length < t + 1 + m
      · rw [if_pos h3, if_pos (by omega)]
      · rw [if_neg h3, if_neg (by omega)]
theorem turned_end {l d : List ByteArray} {m : Nat} (h : Turned l d m) (hm : l.length ≤ m + 1 + m) : d = l.reverse := by
  apply List.ext_getElem?
  intro t
  by_cases ht : t < l.length
  · rw [h.2 t ht, List.getElem?_reverse ht]
    by_cases h3 : t < m ∨ l.length < t + 1 + m
    · rw [if_pos h3]
    · rw [if_neg h3]
      congr 1
      omega
  · rw [List.getElem?_eq_none (by have := h.1; omega), List.getElem?_eq_none (by simp; omega)]


def RevPost (l : List ByteArray) (base : Nat) (v : Value) (w : World) (e : Ending) (w' : World) : Prop := e = .returned (.tuple #[]) ∧ w'.ownsRow base 9 1 v l.length (textsV l.reverse) ∧ w.grownBy w' v.ownBlock


set_option maxHeartbeats 800000 in
set_option maxRecDepth 100000 in
theorem rev_any (l : List ByteArray) (base : Nat) (v : Value) (w : World) (hl : l.length ≤ 1000000) (h : w.ownsRow base 9 1 v l.length (textsV l)) :
    Calls Tryz.prog 47 #[v] w (RevPost l base v w) := by
  obtain ⟨A, c, rfl, hA, hc, hm⟩ := own_slice h
  rcases hA with rfl | ⟨g, rfl⟩
  · have h0 : l.length = 0 := by
      rcases h.2 with ⟨_, h0⟩ | ⟨g', cap', cur, h', _⟩
      · exact h0
      · cases h'
    obtain rfl : l = [] := List.eq_nil_of_length_eq_zero h0
    have H := Lib.hid h
    clear h h0
    go_enter Tryz.func47, Tryz.ntmps47
    go_wp2
    go_loopg [2, 3] 0 (fun _ s2 s3 wr => s2 = .int .i64 0 ∧ s3 = .int .i64 (-1) ∧ wr = w)
    case atStart => exact ⟨rfl, rfl, rfl⟩
    case round =>
      obtain ⟨rfl, rfl, rfl⟩ := hrel
      go_wp2
      go_end0
      exact ⟨rfl, H.out, grown_refl _ _⟩
  · have H := Lib.hid h
    clear h
    go_enter Tryz.func47, Tryz.ntmps47
    go_wp2
    go_loopg [2, 3] l.length (fun k s2 s3 wr => ∃ (m : Nat) (d : List ByteArray), k = l.length - m ∧ m ≤ l.length ∧ s2 = .int .i64 m ∧ s3 = .int .i64 ((l.length : Int) - 1 - (m : Int)) ∧ Turned l d m ∧
      wr.ownsRow base 9 1 (.slice (some ⟨g, 0, none⟩) l.length c) l.length (textsV d) ∧ w.grownBy wr (some g))
    case atStart => exact ⟨0, l, rfl, Nat.zero_le _, rfl, by simp, turned_zero l, H.out, grown_refl _ _⟩
    case round =>
      obtain ⟨m, d, rfl, hml, rfl, rfl, hT, ho, hg⟩ := hrel
      have HT := Lib.hid hT
      have hdl := hT.1
      by_cases hlt : m + 1 + m < l.length
      · obtain ⟨a, ha⟩ : ∃ a, d[m]? = some a := ⟨_, List.getElem?_eq_getElem (by omega)⟩
        obtain ⟨b, hb⟩ : ∃ b, d[l.length - 1 - m]? = some b := ⟨_, List.getElem?_eq_getElem (by omega)⟩
        obtain ⟨j, hj⟩ : ∃ j, j = l.length - 1 - m := ⟨_, rfl⟩
        have c1 : wr.cell? ⟨g, m, none⟩ = some (.string a) := (ho.cellAt m (by omega)).trans (textsV_get d m a ha)
        have c2 : wr.cell? ⟨g, j, none⟩ = some (.string b) := (ho.cellAt j (by omega)).trans (textsV_get d j b (by rw [hj]; exact hb))
        have f1 := ho.frozenAt m
        have f2 := ho.frozenAt j
        have HA := Lib.hid ha
        have HB := Lib.hid hb
        have HO := Lib.hid ho
        have HG := Lib.hid hg
        have ej : (l.length : Int) - 1 - (m : Int) = (j : Int) := by omega
        rw [ej]
        have hjl : j < l.length := by omega
        have hmj : m < j := by omega
        have HJ := Lib.hid hj
        clear hT ho hg ha hb hj ej hdl
        go_wp2_with fail
        go_region
        go_wp2
        go_roundg (l.length - (m + 1))
        case measure => omega
        case rel =>
          have o1 := (HO.out.stored m (.string b))
          have o2 := (o1.1.stored j (.string a))
          have N := turned_step HT.out hlt HA.out HB.out
          have hj := HJ.out
          refine ⟨m + 1, (d.set m b).set j a, rfl, by omega, by simp, ?_, by rw [hj]; exact N, by rw [textsV_set, textsV_set]; exact o2.1, grown_drew ((HG.out.trans o1.2).trans o2.2)⟩
          congr 1
          omega
      · have N := turned_end HT.out (by omega)
        clear hT hdl
        have HO := Lib.hid ho
        have HG := Lib.hid hg
        have HN := Lib.hid N
        clear ho hg N
        go_wp2
        go_end0
        exact ⟨rfl, by rw [← HN.out]; exact HO.out, HG.out⟩
end Go.Proofs.YtkgbgmfidkimfaaGreat
