/- A drawn region by an invariant: what holds at its beginning, and behind each operation that may come up, holds at its end. -/
import Derived.Test.YtkgbgmfidkimfaaGreatMgRestItemsUpto2
import Derived.Orders
set_option linter.unusedVariables false
set_option linter.unusedSimpArgs false
namespace Go.Proofs.YtkgbgmfidkimfaaGreat
open Go.RowKit

section
variable {P : Program} {ops : Array Oper} {Q : Exit → Act → World → Prop} {md : Region.Mode}
theorem ready_false {listed : Array Bool} {i : Nat} (h : i ∈ Region.ready md ops listed) : ∃ hi : i < listed.toList.length, listed.toList[i] = false := by
  have h1 := (mem_ready.1 h).1
  rcases Nat.lt_or_ge i listed.size with hlt | hge
  · refine ⟨by simpa using hlt, ?_⟩
    simp [hlt] at h1
    simpa using h1
  · simp [Array.getElem?_eq_none hge] at h1
theorem wpAny_inv {I : Array Bool → Act → World → Prop} (hstep : ∀ listed a w i, I listed a w → i ∈ Region.ready md ops listed → wpOp P ops Q i (fun a' w' => I (listed.setIfInBounds i true) a' w') a w)
    (hend : ∀ listed a w, I listed a w → Region.ready md ops listed = [] → Q .normal a w) :
    ∀ (fuel : Nat) (listed : Array Bool) (a : Act) (w : World), listed.toList.count false ≤ fuel → I listed a w → wpAny P md ops Q fuel listed a w
  | 0, listed, a, w, hc, hI => by
    have hr : Region.ready md ops listed = [] := by
      rcases hq : Region.ready md ops listed with _ | ⟨i, l⟩
      · rfl
      · obtain ⟨hi, hf⟩ := ready_false (md := md) (ops := ops) (i := i) (listed := listed) (by rw [hq]; simp)
        have : 0 < listed.toList.count false := List.count_pos_iff.2 (by rw [← hf]; exact List.getElem_mem hi)
        omega
    exact ⟨hr, hend listed a w hI hr⟩
  | fuel + 1, listed, a, w, hc, hI => by
    refine ⟨fun hr => hend listed a w hI hr, fun i hi => ?_⟩
    obtain ⟨hlt, hf⟩ := ready_false hi
    refine wpOp_mono (fun a' w' h' => wpAny_inv hstep hend fuel _ a' w' ?_ h') (hstep listed a w i hI hi)
    rw [Array.toList_setIfInBounds, List.count_set hlt, hf]
    have : 0 < listed.toList.count false := List.count_pos_iff.2 (by rw [← hf]; exact List.getElem_mem hlt)
    show listed.toList.count false - 1 + 0 ≤ fuel
    omega
theorem region_inv {id : Nat} {a : Act} {w : World} (hm : P.follows .mixedOrders = true) {I : Array Bool → Act → World → Prop}
    (h0 : I (Array.replicate ops.size false) a { w with drawn := w.drawn + 1 })
    (hstep : ∀ listed a w i, I listed a w → i ∈ Region.ready .any ops listed → wpOp P ops Q i (fun a' w' => I (listed.setIfInBounds i true) a' w') a w)
    (hend : ∀ listed a w, I listed a w → Region.ready .any ops listed = [] → Q .normal a w) : (Code.region id ops true).wp P Q a w :=
  wp_region_any hm (wpAny_inv hstep hend _ _ _ _ (by simp) h0)
end
end Go.Proofs.YtkgbgmfidkimfaaGreat
