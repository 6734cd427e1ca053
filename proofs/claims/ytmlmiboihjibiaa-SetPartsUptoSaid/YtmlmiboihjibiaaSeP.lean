/- What the three of several sets are to each other (no walk); the law's inList; a row of items put together. (Printed by sets5.py.) -/
import Derived.Test.YtmlmiboihjibiaaSeJ
import Derived.Test.YtmlmiboihjibiaaIts
import Derived.Test.YtmlmiboihjibiaaLqA
set_option linter.unusedVariables false
set_option linter.unusedSimpArgs false
namespace Go.Proofs.Ytmlmiboihjibiaa
open Go.RowKit

theorem hasN_cons (x : Itm) (l : List Itm) (s : ByteArray) : hasN (x :: l) s = (if hasT x.list s = true then 1 else 0) + hasN l s := by
  unfold hasN
  rw [List.filter_cons]
  split
  · rw [List.length_cons]; omega
  · omega
theorem hasN_all {l : List Itm} {s : ByteArray} (h : hasN l s = l.length) : ∀ x ∈ l, hasT x.list s = true := by
  unfold hasN at h
  intro x hx
  have := List.length_filter_eq_length_iff.1 h x hx
  simpa using this
theorem hasN_pos {l : List Itm} {s : ByteArray} : 0 < hasN l s ↔ s ∈ allT l := by
  rw [mem_allT]
  unfold hasN
  rw [List.length_pos_iff_exists_mem]
  constructor
  · rintro ⟨x, hx⟩
    obtain ⟨h1, h2⟩ := List.mem_filter.1 hx
    obtain ⟨j, hj⟩ := List.getElem?_of_mem h1
    exact ⟨j, x, hj, hasT_iff.1 h2⟩
  · rintro ⟨j, x, hj, hs⟩
    exact ⟨x, List.mem_filter.2 ⟨List.mem_of_getElem? hj, hasT_iff.2 hs⟩⟩
theorem mem_setsR {p : Nat → Bool → Bool} {l : List Itm} (hc : setsCode l = 0) {s : ByteArray} : s ∈ setsR p l ↔ s ∈ allT l ∧ p (hasN l s) (hasT (firstL l) s) = true := by
  unfold setsR
  rw [if_pos hc, setU_mem, List.mem_filter]
  rfl
theorem setsCode_as {l : List Itm} (hc : setsCode l = 0) : (∀ x ∈ l, asCode 3 x = 0) ∧ 0 < l.length := by
  unfold setsCode at hc
  by_cases h0 : l.length = 0
  · rw [if_pos h0] at hc; cases hc
  · rw [if_neg h0] at hc
    exact ⟨firstCode_ok hc, by omega⟩
theorem setsCode_of {l : List Itm} (h : ∀ x ∈ l, asCode 3 x = 0) (h0 : 0 < l.length) : setsCode l = 0 := by
  unfold setsCode
  rw [if_neg (by omega)]
  exact firstCode_all h
/-- MEET is in each. -/
theorem meet_in {l : List Itm} (hc : setsCode l = 0) {s : ByteArray} (hs : s ∈ setsR (meetP l.length) l) {x : Itm} (hx : x ∈ l) : (decide (asCode 3 x = 0) && hasT x.list s) = true := by
  obtain ⟨h1, h2⟩ := (mem_setsR hc).1 hs
  rw [decide_eq_true ((setsCode_as hc).1 x hx), Bool.true_and]
  exact hasN_all (by simpa [meetP] using h2) x hx
/-- each is in JOIN. -/
theorem in_join {l : List Itm} (hc : setsCode l = 0) {s : ByteArray} {x : Itm} (hx : x ∈ l) (hs : s ∈ x.list) : hasT (setsR joinP l) s = true := by
  rw [hasT_iff, mem_setsR hc, mem_allT]
  obtain ⟨j, hj⟩ := List.getElem?_of_mem hx
  exact ⟨⟨j, x, hj, hs⟩, rfl⟩
theorem one_all {x : Itm} (hc : setsCode [x] = 0) : setsR lessP [x] = x.list ∧ setsR (meetP [x].length) [x] = x.list ∧ setsR joinP [x] = x.list := by
  have hx := (setsCode_as hc).1 x (by simp)
  have hr := (setOk hx).1
  have rs : ∀ p, rises ltS (setsR p [x]) = true := fun p => by
    unfold setsR
    rw [if_pos hc]
    exact setU_rises _
  have ha : ∀ s, s ∈ allT [x] ↔ s ∈ x.list := fun s => by simp [allT]
  have hn : ∀ s, s ∈ x.list → hasN [x] s = 1 := fun s hs => by rw [hasN_cons, if_pos (hasT_iff.2 hs)]; rfl
  refine ⟨rises_ext (rs _) hr (fun s => ?_), rises_ext (rs _) hr (fun s => ?_), rises_ext (rs _) hr (fun s => ?_)⟩
  · rw [mem_setsR hc, ha]
    exact ⟨fun h => h.1, fun h => ⟨h, by rw [hn s h]; show (hasT x.list s && decide (1 = 1)) = true; rw [hasT_iff.2 h]; rfl⟩⟩
  · rw [mem_setsR hc, ha]
    exact ⟨fun h => h.1, fun h => ⟨h, by rw [hn s h]; rfl⟩⟩
  · rw [mem_setsR hc, ha]
    exact ⟨fun h => h.1, fun h => ⟨h, rfl⟩⟩
/-- of the first one, LESS has what JOIN of the others has not. -/
theorem less_or {x : Itm} {os : List Itm} (hc : setsCode (x :: os) = 0) (h0 : 0 < os.length) {s : ByteArray} (hs : s ∈ x.list) : hasT (setsR lessP (x :: os)) s = !hasT (setsR joinP os) s := by
  have hco : setsCode os = 0 := setsCode_of (fun y hy => (setsCode_as hc).1 y (by simp [hy])) h0
  have hn := hasN_cons x os s
  rw [if_pos (hasT_iff.2 hs)] at hn
  have h1 : hasT (setsR lessP (x :: os)) s = true ↔ hasN os s = 0 := by
    rw [hasT_iff, mem_setsR hc, mem_allT]
    constructor
    · rintro ⟨_, h⟩
      simp [lessP] at h
      omega
    · intro h
      refine ⟨⟨0, x, rfl, hs⟩, ?_⟩
      simp [lessP, firstL, hasT_iff.2 hs]
      omega
  have h2 : hasT (setsR joinP os) s = true ↔ 0 < hasN os s := by
    rw [hasT_iff, mem_setsR hco, hasN_pos]
    exact ⟨fun h => h.1, fun h => ⟨h, rfl⟩⟩
  rcases h3 : hasT (setsR joinP os) s with _ | _
  · rw [show (!false) = true from rfl, h1]
    rcases Nat.eq_zero_or_pos (hasN os s) with h4 | h4
    · exact h4
    · rw [h2.2 h4] at h3; cases h3
  · have h4 := h2.1 h3
    rcases h5 : hasT (setsR lessP (x :: os)) s with _ | _
    · rfl
    · have := h1.1 h5; omega
/-- LESS is of the first one. -/
theorem less_in {x : Itm} {os : List Itm} (hc : setsCode (x :: os) = 0) {s : ByteArray} (hs : s ∈ setsR lessP (x :: os)) : hasT x.list s = true := by
  have h := ((mem_setsR hc).1 hs).2
  simp [lessP, firstL] at h
  exact h.1
set_option maxRecDepth 100000 in
theorem inList_any (l : List ByteArray) (s : ByteArray) (A : Option Addr) (c B : Nat) (w : World) (hl : l.length ≤ 281474976710656) (hB : B ≤ w.heap.size) (h : Sl w B 1 (.slice A l.length c) l.length (textsV l)) :
    Calls Try.prog 56 #[.slice A l.length c, .string s] w fun e w' => e = .returned (.bool (hasT l s)) ∧ w = w' := by
  have HS := Lib.hid h
  clear h
  go_enter Try.func56, Try.ntmps56
  go_wp2
  go_loopg [5] l.length (fun g i wr => ∃ (k : Nat), g = l.length - k ∧ k ≤ l.length ∧ i = .int .i64 k ∧ (∀ (j : Nat) t, j < k → l[j]? = some t → t ≠ s) ∧ w = wr)
  case atStart => exact ⟨0, rfl, Nat.zero_le _, rfl, fun j t hj => absurd hj (Nat.not_lt_zero _), rfl⟩
  case round =>
    obtain ⟨k, rfl, hk, rfl, hno, rfl⟩ := hrel
    by_cases hlt : k < l.length
    · obtain ⟨b, off, rfl, hb, hc, hm, hcell⟩ := HS.out.at_ (by omega)
      obtain ⟨t, ht⟩ : ∃ t, l[k]? = some t := ⟨_, List.getElem?_eq_getElem hlt⟩
      have hc1 : w.cell? ⟨b, off + k, none⟩ = some (.string t) := hcell k _ (textsV_get l k t ht)
      by_cases hq : t = s
      · have E := Lib.hid (show hasT l s = true from hasT_iff.2 (hq ▸ List.mem_of_getElem? ht))
        have q : (t.toList == s.toList) = true := by have := eqB t s; rw [decide_eq_true hq] at this; exact this
        clear hno hcell ht hq
        go_wp2
        go_ret
        rw [E.out]
        exact ⟨rfl, rfl⟩
      · have q : (t.toList == s.toList) = false := neqB' hq
        have N := Lib.hid (fun j t' (hj : j < k + 1) (ht' : l[j]? = some t') => (show t' ≠ s by
          rcases Nat.lt_or_ge j k with h | h
          · exact hno j t' h ht'
          · have e : j = k := by omega
            subst e
            rw [ht] at ht'
            cases ht'
            exact hq))
        clear hno hcell ht hq
        go_wp2
        go_roundg (l.length - (k + 1))
        case measure => omega
        case rel => exact ⟨k + 1, rfl, by omega, by go_num, N.out, rfl⟩
    · have E := Lib.hid (show hasT l s = false from hasT_no (fun hm => by
        obtain ⟨j, hj⟩ := List.getElem?_of_mem hm
        exact hno j s (by have := (List.getElem?_eq_some_iff.1 hj).1; omega) hj rfl))
      clear hno
      go_wp2
      go_ret
      rw [E.out]
      exact ⟨rfl, rfl⟩

theorem itemInfo : (Try.prog.info? 26).map (fun i => (i.zero, i.size, i.bytes)) = some (some (.agg #[.int .i64 0, .string ⟨#[]⟩, .slice none 0 0, .slice none 0 0, .slice none 0 0]), 5, 96) := by kernel_rfl
theorem items_one {w : World} {B : Nat} {l : List Itm} {rs : List (List Value)} (hl : rs.length = l.length) (h : ∀ (i : Nat) (x : Itm), l[i]? = some x → ∃ cs : List Value, rs[i]? = some cs ∧ cs.length = 5 ∧ ItemV w B (.agg cs.toArray) x) : ∀ u ∈ rs.flatten, u.oneCell' = true := by
  intro u hu
  obtain ⟨cs, hcs, huc⟩ := List.mem_flatten.1 hu
  obtain ⟨i, hi⟩ := List.getElem?_of_mem hcs
  obtain ⟨cs', h1, h2, A1, c1, A2, c2, A3, c3, he, _⟩ := h i _ (List.getElem?_eq_getElem (show i < l.length by rw [← hl]; exact (List.getElem?_eq_some_iff.1 hi).1))
  rw [hi] at h1
  cases h1
  have := congrArg Array.toList (Value.agg.inj he)
  simp at this
  rw [this] at huc
  simp at huc
  rcases huc with rfl | rfl | rfl | rfl | rfl <;> rfl
theorem items_cons {w : World} {base : Nat} {v : Value} {x : Itm} {os : List Itm} {c5 : List Value} {rs : List (List Value)} (h5 : c5.length = 5) (hx : ItemV w w.heap.size (.agg c5.toArray) x) (hl : rs.length = os.length) (h : ∀ (i : Nat) (y : Itm), os[i]? = some y → ∃ cs : List Value, rs[i]? = some cs ∧ cs.length = 5 ∧ ItemV w w.heap.size (.agg cs.toArray) y)
    (ho : w.ownsRow base 26 5 v (1 + os.length) (c5 ++ rs.flatten)) : ItemsV w w.heap.size v (x :: os) := by
  obtain ⟨A, c, hv, -⟩ := own_slice ho
  have hs := own_sl ho
  rw [Nat.add_comm] at hv hs
  refine ⟨A, c, c5 :: rs, hv, by rw [List.length_cons, List.length_cons, hl], fun i y hy => ?_, hs⟩
  cases i with
  | zero => simp at hy; subst hy; exact ⟨c5, rfl, h5, hx⟩
  | succ i => exact h i y (by simpa using hy)

theorem setsR_len {p : Nat → Bool → Bool} {l : List Itm} (hl : l.length ≤ 1048576) : (setsR p l).length ≤ 281474976710656 := by
  unfold setsR
  split
  · rename_i h
    unfold setsCode at h
    by_cases h0 : l.length = 0
    · rw [if_pos h0] at h; cases h
    · rw [if_neg h0] at h
      have h1 := allT_len (firstCode_ok h)
      have h2 := setU_len ((allT l).filter (pick p l))
      have h3 := List.length_filter_le (pick p l) (allT l)
      omega
  · simp
end Go.Proofs.Ytmlmiboihjibiaa
