/- The walks of the reference's hasText and less. -/
import Derived.Test.YtmlmiboihjibiaaLpA
import Derived.Test.YtmlmiboihjibiaaSlS
set_option linter.unusedVariables false
set_option linter.unusedSimpArgs false
namespace Go.Proofs.Ytmlmiboihjibiaa
open Go.RowKit

def hasT (l : List ByteArray) (s : ByteArray) : Bool := l.any fun y => decide (y = s)
theorem hasT_iff {l : List ByteArray} {s : ByteArray} : hasT l s = true ↔ s ∈ l := by
  unfold hasT
  rw [List.any_eq_true]
  constructor
  · rintro ⟨y, hy, he⟩
    have : y = s := by simpa using he
    exact this ▸ hy
  · intro h
    exact ⟨s, h, by simp⟩
theorem hasT_no {l : List ByteArray} {s : ByteArray} (h : s ∉ l) : hasT l s = false := by
  rw [Bool.eq_false_iff]
  exact fun he => h (hasT_iff.1 he)
def lessL (l m : List ByteArray) : List ByteArray := l.filter fun y => !hasT m y

theorem neqB' {s t : ByteArray} (h : s ≠ t) : (s.toList == t.toList) = false := by
  have := eqB s t
  rw [decide_eq_false h] at this
  exact this

set_option maxHeartbeats 400000 in
theorem hasText_any (l : List ByteArray) (s : ByteArray) (A : Option Addr) (c B : Nat) (w : World) (hl : l.length ≤ 281474976710656) (hB : B ≤ w.heap.size) (h : Sl w B 1 (.slice A l.length c) l.length (textsV l)) :
    Calls Try.prog 76 #[.slice A l.length c, .string s] w fun e w' => e = .returned (.bool (hasT l s)) ∧ w = w' := by
  have HS := Lib.hid h
  clear h
  go_enter Try.func76, Try.ntmps76
  go_wp2
  go_loopg [5] l.length (fun g i wr => ∃ (k : Nat), g = l.length - k ∧ k ≤ l.length ∧ i = .int .i64 k ∧ (∀ (j : Nat) t, j < k → l[j]? = some t → t ≠ s) ∧ w = wr)
  case atStart => exact ⟨0, rfl, Nat.zero_le _, rfl, fun j t hj => absurd hj (Nat.not_lt_zero _), rfl⟩
  case round =>
    obtain ⟨k, rfl, hk, rfl, hno, rfl⟩ := hrel
    by_cases hlt : k < l.length
    · obtain ⟨b, off, rfl, hb, hc, hm, hcell⟩ := HS.out.at_ (by omega)
      obtain ⟨t, ht⟩ : ∃ t, l[k]? = some t := ⟨_, List.getElem?_eq_getElem hlt⟩
      have hc1 : w.cell? ⟨b, off + k, none⟩ = some (.string t) := hcell k _ (textsV_get l k t ht)
      by_cases hq : t = s
      · have E := Lib.hid (show hasT l s = true from hasT_iff.2 (hq ▸ List.mem_of_getElem? ht))
        have q : (t.toList == s.toList) = true := by have := eqB t s; rw [decide_eq_true hq] at this; exact this
        clear hno hcell ht hq
        go_wp2
        go_ret
        rw [E.out]
        exact ⟨rfl, rfl⟩
      · have q : (t.toList == s.toList) = false := neqB' hq
        have N := Lib.hid (fun j t' (hj : j < k + 1) (ht' : l[j]? = some t') => (show t' ≠ s by
          rcases Nat.lt_or_ge j k with h | h
          · exact hno j t' h ht'
          · have e : j = k := by omega
            subst e
            rw [ht] at ht'
            cases ht'
            exact hq))
        clear hno hcell ht hq
        go_wp2
        go_roundg (l.length - (k + 1))
        case measure => omega
        case rel => exact ⟨k + 1, rfl, by omega, by go_num, N.out, rfl⟩
    · have E := Lib.hid (show hasT l s = false from hasT_no (fun hm => by
        obtain ⟨j, hj⟩ := List.getElem?_of_mem hm
        exact hno j s (by have := (List.getElem?_eq_some_iff.1 hj).1; omega) hj rfl))
      clear hno
      go_wp2
      go_ret
      rw [E.out]
      exact ⟨rfl, rfl⟩

theorem less_step {l m : List ByteArray} {k : Nat} {s : ByteArray} (h : l[k]? = some s) : lessL (l.take (k + 1)) m = if hasT m s = true then lessL (l.take k) m else lessL (l.take k) m ++ [s] := by
  unfold lessL
  rw [List.take_add_one, h, Option.toList_some, List.filter_append]
  cases hs : hasT m s <;> simp [hs]

set_option maxHeartbeats 800000 in
set_option maxRecDepth 100000 in
theorem less_any (l m : List ByteArray) (A A2 : Option Addr) (c c2 B : Nat) (w : World) (hl : l.length ≤ 1000000) (hm : m.length ≤ 281474976710656) (hB : B ≤ w.heap.size) (h : Sl w B 1 (.slice A l.length c) l.length (textsV l)) (h2 : Sl w B 1 (.slice A2 m.length c2) m.length (textsV m)) :
    Calls Try.prog 113 #[.slice A l.length c, .slice A2 m.length c2] w (RowPost 9 1 (lessL l m).length (textsV (lessL l m)) w) := by
  obtain ⟨i0, hi, hz0, hz1, hz2⟩ := info_parts stringInfo
  have H := Lib.hid h
  have HT := Lib.hid (fun W s (hf : Fr [] w W) => hasText_any m s A2 c2 B W hm (Nat.le_trans hB hf.size) (h2.fr hf hB (by simp)))
  clear h h2
  go_enter Try.func113, Try.ntmps113
  go_wp2
  go_loopg [5, 6] l.length (fun g v i wr => ∃ (k : Nat), g = l.length - k ∧ k ≤ l.length ∧ i = .int .i64 k ∧ wr.ownsRow w.heap.size 9 1 v (lessL (l.take k) m).length (textsV (lessL (l.take k) m)) ∧ Fr [] w wr)
  case atStart => exact ⟨0, rfl, Nat.zero_le _, rfl, World.ownsRow_nil _ _ _ _, Fr.refl _ _⟩
  case round =>
    obtain ⟨k, rfl, hk, rfl, ho, hf⟩ := hrel
    have HO := Lib.hid ho
    have HF := Lib.hid hf
    have hsz := hf.size
    obtain ⟨Av, cv, rfl, -⟩ := own_slice ho
    clear ho hf
    by_cases hlt : k < l.length
    · obtain ⟨b, off, rfl, hb, hc, hmx, hcell⟩ := H.out.at_ (by omega)
      obtain ⟨s, hs⟩ : ∃ s, l[k]? = some s := ⟨_, List.getElem?_eq_getElem hlt⟩
      have hc1 : wr.cell? ⟨b, off + k, none⟩ = some (.string s) := HF.out.cell (hcell k _ (textsV_get l k s hs)) (by simp)
      have ST := Lib.hid (less_step (m := m) hs)
      have I := Lib.hid (HT.out wr s HF.out)
      have hle : (lessL (l.take k) m).length ≤ 1000000 := by unfold lessL; have := List.length_filter_le (fun y => !hasT m y) (l.take k); rw [List.length_take] at this; omega
      by_cases hr : hasT m s = true
      · rw [if_pos hr] at ST
        rw [hr] at I
        clear hr hcell hs
        go_wp2_with fail
        refine I.out.mono ?_
        rintro e w1 ⟨rfl, rfl⟩
        go_wp2
        go_roundg (l.length - (k + 1))
        case measure => omega
        case rel => exact ⟨k + 1, rfl, by omega, by go_num, by rw [ST.out]; exact HO.out, HF.out⟩
      · rw [if_neg hr] at ST
        rw [show hasT m s = false by simpa using hr] at I
        clear hr hcell hs
        go_wp2_with fail
        refine I.out.mono ?_
        rintro e w1 ⟨rfl, rfl⟩
        generalize lessL (l.take k) m = d at *
        go_wp2_with (at_builtin; refine wpList_append_own_at _ rfl _ _ 22 rfl w.heap.size 9 i0 _ 1 16 Try.underlying22 hi hz0 hz1 hz2 rfl (by decide) _ _ _ rfl (HO.out.alloc _) ⟨wr.heap.size, 0, none⟩ 1 1 [.string s] rfl rfl ?c1 ?c2 ?c3 ?c4 ?c5 ?_)
        case c1 => exact cell_one_new _ _ _
        case c2 => intro u hu; simp at hu; subst hu; rfl
        case c3 => unfold maxLen; omega
        case c4 => omega
        case c5 => simp; omega
        intro v' w2 hown' hgrow _ hat
        have HO2 := Lib.hid hown'
        have HF2 := Lib.hid ((HF.out.alloc (.cells #[.string s] 9)).grown hgrow (fun k hk => .inr (HO.out.lt k hk).1))
        clear hown' hgrow hat hc1
        go_wp2
        go_roundg (l.length - (k + 1))
        case measure => omega
        case rel => exact ⟨k + 1, rfl, by omega, by go_num, by rw [ST.out, textsV_append]; simpa [textsV] using HO2.out, HF2.out⟩
    · obtain rfl : k = l.length := by omega
      rw [List.take_length] at HO
      go_wp2
      go_ret
      rw [List.take_length]
      exact ⟨_, rfl, HO.out, HF.out⟩
end Go.Proofs.Ytmlmiboihjibiaa
