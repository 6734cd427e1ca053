/- A map that counts texts, as a datum. No walk. -/
import Derived.Test.YtfkfdmonnebmmaaItemK
import Derived.Maps.Own
import Derived.Maps.OwnOps
import Derived.Maps.Views
import Derived.StringKeys
set_option linter.unusedVariables false
set_option linter.unusedSimpArgs false
namespace Go.Proofs.Ytfkfdmonnebmmaa
open Go.RowKit Go.WideMaps Go.Maps

/-- how often. -/
def often (ms : List ByteArray) (s : ByteArray) : Nat := ms.countP (fun t => decide (t = s))

/-- the datum reads, at each text, as how often it is among these. -/
structure Counts {H : Type} (D : DataW H) (ms : List ByteArray) : Prop where
  isMap : IsMap D
  at_ : ∀ s : ByteArray, D.atKey (.string s.data.toList) (.lit (.int .i64 0)) = .lit (.int .i64 (often ms s : Nat))

theorem Counts.nil {H : Type} : Counts (H := H) (.map []) [] := ⟨⟨[], rfl⟩, fun s => rfl⟩

theorem Counts.step {H : Type} {D : DataW H} {ms : List ByteArray} {s : ByteArray} {c : Int} (h : Counts D ms) (hc : D.atKey (.string s.data.toList) (.lit (.int .i64 0)) = .lit (.int .i64 c)) :
    c = (often ms s : Nat) ∧ Counts (D.put (.string s.data.toList) (.lit (.int .i64 (c + 1)))) (ms ++ [s]) := by
  have e : c = (often ms s : Nat) := by
    rw [h.at_ s] at hc
    injection hc with hc
    injection hc with _ hc
    exact hc.symm
  refine ⟨e, ?_, fun t => ?_⟩
  · obtain ⟨es, rfl⟩ := h.isMap
    exact ⟨_, rfl⟩
  · by_cases ht : t = s
    · subst ht
      rw [atKey_put_same h.isMap (by trivial), e]
      simp [often, List.countP_append]
    · rw [atKey_put_other (fun he => ht (by
        injection he with he
        cases t; cases s
        congr 1
        exact Array.toList_inj.1 he)), h.at_ t]
      simp [often, List.countP_append, Ne.symm ht]

theorem often_pos {ms : List ByteArray} {s : ByteArray} : 0 < often ms s ↔ s ∈ ms := by
  unfold often
  rw [List.countP_pos_iff]
  constructor
  · rintro ⟨t, ht, h⟩
    rw [← of_decide_eq_true h]
    exact ht
  · intro h
    exact ⟨s, h, decide_eq_true rfl⟩

theorem nodup_snoc {ms : List ByteArray} {s : ByteArray} : (ms ++ [s]).Nodup ↔ ms.Nodup ∧ ¬ 0 < often ms s := by
  rw [often_pos, List.nodup_append]
  constructor
  · rintro ⟨h1, _, h3⟩
    exact ⟨h1, fun hm => h3 s hm s (by simp) rfl⟩
  · rintro ⟨h1, h2⟩
    refine ⟨h1, by simp, fun a ha b hb => ?_⟩
    rw [List.mem_singleton.1 hb]
    rintro rfl
    exact h2 ha
end Go.Proofs.Ytfkfdmonnebmmaa
