/- The walk of the reference's putText, and what it puts. (Printed by sets.py.) -/
import Derived.Test.YtmlmiboihjibiaaSeA
import Derived.Test.YtmlmiboihjibiaaLqA
import Derived.Test.YtmlmiboihjibiaaItB
set_option linter.unusedVariables false
set_option linter.unusedSimpArgs false
namespace Go.Proofs.Ytmlmiboihjibiaa
open Go.RowKit

def putGo (s : ByteArray) : Bool → List ByteArray → List ByteArray
  | p, [] => if p = true then [] else [s]
  | p, y :: r => if p = true then y :: putGo s true r else if 0 < ordB y s then s :: y :: putGo s true r else y :: putGo s false r
theorem putGo_true (s : ByteArray) : ∀ r, putGo s true r = r
  | [] => rfl
  | y :: r => by show y :: putGo s true r = _; rw [putGo_true s r]
theorem putGo_mem {s t : ByteArray} : ∀ {r : List ByteArray}, t ∈ putGo s false r ↔ t = s ∨ t ∈ r
  | [] => by simp [putGo]
  | y :: r => by
    have ih := putGo_mem (s := s) (t := t) (r := r)
    unfold putGo
    rw [if_neg (by decide)]
    by_cases h : 0 < ordB y s
    · rw [if_pos h, putGo_true]; simp
    · rw [if_neg h, List.mem_cons, ih, List.mem_cons]
      constructor
      · rintro (h | h | h)
        · exact .inr (.inl h)
        · exact .inl h
        · exact .inr (.inr h)
      · rintro (h | h | h)
        · exact .inr (.inl h)
        · exact .inl h
        · exact .inr (.inr h)
theorem putGo_pw {s : ByteArray} : ∀ {r : List ByteArray}, r.Pairwise (fun a b => ltS a b = true) → s ∉ r → (putGo s false r).Pairwise (fun a b => ltS a b = true)
  | [], _, _ => by simp [putGo]
  | y :: r, h, hn => by
    have h' := List.pairwise_cons.1 h
    have hy : y ≠ s := fun e => hn (by rw [e]; simp)
    unfold putGo
    rw [if_neg (by decide)]
    by_cases hp : 0 < ordB y s
    · rw [if_pos hp, putGo_true]
      have hsy : ltS s y = true := decide_eq_true (by have := ordB_anti y s; omega)
      refine List.pairwise_cons.2 ⟨fun t ht => ?_, h⟩
      rcases List.mem_cons.1 ht with rfl | ht
      · exact hsy
      · exact ltS_tr _ _ _ hsy (h'.1 t ht)
    · rw [if_neg hp]
      have hys : ltS y s = true := decide_eq_true (by
        rcases Int.lt_trichotomy (ordB y s) 0 with h1 | h1 | h1
        · exact h1
        · exact absurd (ordB_eq h1) hy
        · exact absurd h1 hp)
      refine List.pairwise_cons.2 ⟨fun t ht => ?_, putGo_pw h'.2 (fun e => hn (List.mem_cons_of_mem _ e))⟩
      rcases putGo_mem.1 ht with rfl | ht
      · exact hys
      · exact h'.1 t ht
theorem putGo_put {l : List ByteArray} {s : ByteArray} (h : rises ltS l = true) : putGo s (hasT l s) l = putT l s := by
  by_cases hh : hasT l s = true
  · rw [hh, putGo_true]
    unfold putT
    rw [if_pos hh]
  · have e : hasT l s = false := by simpa using hh
    have hn : s ∉ l := fun hm => hh (hasT_iff.2 hm)
    rw [e]
    refine rises_ext (pw_rises (putGo_pw (rises_pw ltS_tr h) hn)) (putT_rises h) (fun t => ?_)
    rw [putGo_mem, putT_mem]
    exact Or.comm

set_option maxHeartbeats 2000000 in
set_option maxRecDepth 100000 in
theorem putText_any (l : List ByteArray) (s : ByteArray) (A : Option Addr) (c B : Nat) (w : World) (hr : rises ltS l = true) (hl : l.length ≤ 1000000000) (hs : s.size ≤ 281474976710656) (ht : ∀ t ∈ l, t.size ≤ 281474976710656) (hB : B ≤ w.heap.size) (h : Sl w B 1 (.slice A l.length c) l.length (textsV l)) :
    Calls Try.prog 112 #[.slice A l.length c, .string s] w (RowPost 9 1 (putT l s).length (textsV (putT l s)) w) := by
  obtain ⟨i0, hi, hz0, hz1, hz2⟩ := info_parts stringInfo
  have H := Lib.hid h
  have HT := Lib.hid (hasText_any l s A c B w (by omega) hB h)
  have EP := Lib.hid (putGo_put (s := s) hr)
  have TS := Lib.hid ht
  clear h hr ht
  go_enter Try.func112, Try.ntmps112
  go_wp2_with fail
  refine HT.out.mono ?_
  rintro e w1 ⟨rfl, rfl⟩
  clear HT
  go_wp2
  go_loopg [5, 6, 7] l.length (fun g v p i wr => ∃ (k : Nat) (b : Bool) (d : List ByteArray), g = l.length - k ∧ k ≤ l.length ∧ i = .int .i64 k ∧ p = .bool b ∧ d ++ putGo s b (l.drop k) = putT l s ∧ d.length ≤ k + b.toNat ∧ wr.ownsRow w.heap.size 9 1 v d.length (textsV d) ∧ Fr [] w wr)
  case atStart => exact ⟨0, hasT l s, [], rfl, Nat.zero_le _, rfl, rfl, by rw [List.drop_zero, ← EP.out]; rfl, by simp, World.ownsRow_nil _ _ _ _, Fr.refl _ _⟩
  case round =>
    obtain ⟨k, b, d, rfl, hk, rfl, rfl, hd, hdl, ho, hf⟩ := hrel
    have hb1 : b.toNat ≤ 1 := Bool.toNat_le b
    have HO := Lib.hid ho
    have HF := Lib.hid hf
    have HD := Lib.hid hd
    have hsz := hf.size
    obtain ⟨Av, cv, rfl, -⟩ := own_slice ho
    clear ho hf hd
    by_cases hlt : k < l.length
    · obtain ⟨bb, off, rfl, hb, hc, hmx, hcell⟩ := H.out.at_ (by omega)
      obtain ⟨y, hy⟩ : ∃ y, l[k]? = some y := ⟨_, List.getElem?_eq_getElem hlt⟩
      have cc := HF.out.cell (show w.cell? ⟨bb, off + k, none⟩ = some (.string y) from hcell k _ (textsV_get l k y hy)) (by simp)
      have CC := Lib.hid cc
      have XC := Lib.hid (hcell k _ (textsV_get l k y hy))
      have ED := Lib.hid (show l.drop k = y :: l.drop (k + 1) from by
        obtain ⟨h1, h2⟩ := List.getElem?_eq_some_iff.1 hy
        rw [List.drop_eq_getElem_cons h1, h2])
      have hys := TS.out y (List.mem_of_getElem? hy)
      have TO := Lib.hid (fun W => textOrder_any y s W (by omega) (by omega))
      clear hcell hy
      cases b with
      | true =>
        have hdl : d.length ≤ k + 1 := hdl
        have HD2 := Lib.hid (show (d ++ [y]) ++ putGo s true (l.drop (k + 1)) = putT l s from by rw [← HD.out, ED.out, List.append_assoc]; rfl)
        clear HD ED TO

        go_wp2_with (at_builtin; refine wpList_append_own_at _ rfl _ _ 22 rfl w.heap.size 9 i0 _ 1 16 Try.underlying22 hi hz0 hz1 hz2 rfl (by decide) _ _ _ rfl (HO.out.alloc _) ⟨wr.heap.size, 0, none⟩ 1 1 [.string y] rfl rfl ?c1a ?c2a ?c3a ?c4a ?c5a ?_)
        case c1a => exact cell_one_new _ _ _
        case c2a => intro u hu; simp at hu; subst hu; rfl
        case c3a => unfold maxLen; omega
        case c4a => omega
        case c5a => simp; omega
        intro va w2 hown' hgrow _ hat
        have HOa := Lib.hid hown'
        have HFa := Lib.hid ((HF.out.alloc (.cells #[.string y] 9)).grown hgrow (fun k hk => .inr (HO.out.lt k hk).1))
        clear hown' hgrow hat
        go_wp2
        go_roundg (l.length - (k + 1))
        case measure => omega
        case rel => exact ⟨k + 1, true, d ++ [y], rfl, by omega, by go_num, rfl, HD2.out, by simp [Bool.toNat]; omega, by rw [textsV_append, List.length_append]; simpa [textsV] using HOa.out, HFa.out⟩
      | false =>
        have hdl : d.length ≤ k := hdl
        by_cases hq : 0 < ordB y s
        · have HD2 := Lib.hid (show (d ++ [s] ++ [y]) ++ putGo s true (l.drop (k + 1)) = putT l s from by
            rw [← HD.out, ED.out, List.append_assoc, List.append_assoc]
            show _ = d ++ (if false = true then _ else if 0 < ordB y s then _ else _)
            rw [if_neg (by decide), if_pos hq]
            rfl)
          clear HD ED
          generalize ordB y s = od at *
          go_wp2_with fail
          refine (TO.out _).mono ?_
          rintro e w9 ⟨rfl, n9, hw9⟩
          clear cc
          have f9 := Lib.hid (show Fr [] wr w9 from by rw [hw9]; exact (Fr.refl _ _).drewN _)
          have HO9 := Lib.hid (own_fr HO.out f9.out (by simp))
          have HF9 := Lib.hid (HF.out.trans f9.out)
          have cc := f9.out.cell CC.out (by simp)
          have CC9 := Lib.hid cc
          have hsz9 := HF9.out.size
          clear hw9

          go_wp2_with (at_builtin; refine wpList_append_own_at _ rfl _ _ 22 rfl w.heap.size 9 i0 _ 1 16 Try.underlying22 hi hz0 hz1 hz2 rfl (by decide) _ _ _ rfl (HO9.out.alloc _) ⟨w9.heap.size, 0, none⟩ 1 1 [.string s] rfl rfl ?c1a ?c2a ?c3a ?c4a ?c5a ?_)
          case c1a => exact cell_one_new _ _ _
          case c2a => intro u hu; simp at hu; subst hu; rfl
          case c3a => unfold maxLen; omega
          case c4a => omega
          case c5a => simp; omega
          intro va w2 hown' hgrow _ hat
          have HOa := Lib.hid hown'
          have HFa := Lib.hid ((HF9.out.alloc (.cells #[.string s] 9)).grown hgrow (fun k hk => .inr (HO9.out.lt k hk).1))
          clear hown' hgrow hat
          have cc2 := HFa.out.cell (show w.cell? ⟨bb, off + k, none⟩ = some (.string y) from XC.out) (by simp)
          have hsza := HFa.out.size
          obtain ⟨Ava, cva, rfl, -⟩ := own_slice HOa.out

          go_wp2_with (at_builtin; refine wpList_append_own_at _ rfl _ _ 22 rfl w.heap.size 9 i0 _ 1 16 Try.underlying22 hi hz0 hz1 hz2 rfl (by decide) _ _ _ rfl (HOa.out.alloc _) ⟨w2.heap.size, 0, none⟩ 1 1 [.string y] rfl rfl ?c1b ?c2b ?c3b ?c4b ?c5b ?_)
          case c1b => exact cell_one_new _ _ _
          case c2b => intro u hu; simp at hu; subst hu; rfl
          case c3b => unfold maxLen; omega
          case c4b => omega
          case c5b => simp; omega
          intro vb w3 hown' hgrow _ hat
          have HOb := Lib.hid hown'
          have HFb := Lib.hid ((HFa.out.alloc (.cells #[.string y] 9)).grown hgrow (fun k hk => .inr (HOa.out.lt k hk).1))
          clear hown' hgrow hat
          go_wp2
          go_roundg (l.length - (k + 1))
          case measure => omega
          case rel => exact ⟨k + 1, true, d ++ [s] ++ [y], rfl, by omega, by go_num, rfl, HD2.out, by simp [Bool.toNat]; omega, by rw [textsV_append, textsV_append, List.length_append, List.length_append]; simpa [textsV] using HOb.out, HFb.out⟩
        · have HD2 := Lib.hid (show (d ++ [y]) ++ putGo s false (l.drop (k + 1)) = putT l s from by
            rw [← HD.out, ED.out, List.append_assoc]
            show _ = d ++ (if false = true then _ else if 0 < ordB y s then _ else _)
            rw [if_neg (by decide), if_neg hq]
            rfl)
          clear HD ED
          generalize ordB y s = od at *
          go_wp2_with fail
          refine (TO.out _).mono ?_
          rintro e w9 ⟨rfl, n9, hw9⟩
          clear cc
          have f9 := Lib.hid (show Fr [] wr w9 from by rw [hw9]; exact (Fr.refl _ _).drewN _)
          have HO9 := Lib.hid (own_fr HO.out f9.out (by simp))
          have HF9 := Lib.hid (HF.out.trans f9.out)
          have cc := f9.out.cell CC.out (by simp)
          have CC9 := Lib.hid cc
          have hsz9 := HF9.out.size
          clear hw9

          go_wp2_with (at_builtin; refine wpList_append_own_at _ rfl _ _ 22 rfl w.heap.size 9 i0 _ 1 16 Try.underlying22 hi hz0 hz1 hz2 rfl (by decide) _ _ _ rfl (HO9.out.alloc _) ⟨w9.heap.size, 0, none⟩ 1 1 [.string y] rfl rfl ?c1a ?c2a ?c3a ?c4a ?c5a ?_)
          case c1a => exact cell_one_new _ _ _
          case c2a => intro u hu; simp at hu; subst hu; rfl
          case c3a => unfold maxLen; omega
          case c4a => omega
          case c5a => simp; omega
          intro va w2 hown' hgrow _ hat
          have HOa := Lib.hid hown'
          have HFa := Lib.hid ((HF9.out.alloc (.cells #[.string y] 9)).grown hgrow (fun k hk => .inr (HO9.out.lt k hk).1))
          clear hown' hgrow hat
          go_wp2
          go_roundg (l.length - (k + 1))
          case measure => omega
          case rel => exact ⟨k + 1, false, d ++ [y], rfl, by omega, by go_num, rfl, HD2.out, by simp [Bool.toNat]; omega, by rw [textsV_append, List.length_append]; simpa [textsV] using HOa.out, HFa.out⟩
    · obtain rfl : k = l.length := by omega
      cases b with
      | true =>
        have E := Lib.hid (show putT l s = d from by rw [← HD.out, List.drop_length]; simp [putGo])
        clear HD
        go_wp2
        go_ret
        rw [E.out]
        exact ⟨_, rfl, HO.out, HF.out⟩
      | false =>
        have E := Lib.hid (show putT l s = d ++ [s] from by rw [← HD.out, List.drop_length]; simp [putGo])
        clear HD

        go_wp2_with (at_builtin; refine wpList_append_own_at _ rfl _ _ 22 rfl w.heap.size 9 i0 _ 1 16 Try.underlying22 hi hz0 hz1 hz2 rfl (by decide) _ _ _ rfl (HO.out.alloc _) ⟨wr.heap.size, 0, none⟩ 1 1 [.string s] rfl rfl ?c1a ?c2a ?c3a ?c4a ?c5a ?_)
        case c1a => exact cell_one_new _ _ _
        case c2a => intro u hu; simp at hu; subst hu; rfl
        case c3a => unfold maxLen; omega
        case c4a => omega
        case c5a => simp; omega
        intro va w2 hown' hgrow _ hat
        have HOa := Lib.hid hown'
        have HFa := Lib.hid ((HF.out.alloc (.cells #[.string s] 9)).grown hgrow (fun k hk => .inr (HO.out.lt k hk).1))
        clear hown' hgrow hat
        go_wp2
        go_ret
        rw [E.out]
        exact ⟨_, rfl, by rw [textsV_append, List.length_append]; simpa [textsV] using HOa.out, HFa.out⟩
end Go.Proofs.Ytmlmiboihjibiaa
