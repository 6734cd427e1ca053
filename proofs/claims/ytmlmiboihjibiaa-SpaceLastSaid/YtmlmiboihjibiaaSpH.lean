/- The walks of space.Get, Until, Sweep, Put. -/
import Derived.Test.YtmlmiboihjibiaaSpB
import Derived.Test.YtmlmiboihjibiaaSpG
set_option linter.unusedVariables false
set_option linter.unusedSimpArgs false
namespace Go.Proofs.Ytmlmiboihjibiaa
open Go.RowKit

theorem len24 {x : Itm} (h : checkItm x = 0) : x.list.length ≤ 1000000 ∧ x.pairs.length ≤ 1000000 ∧ x.scores.length ≤ 1000000 := by
  have := (right_of h).many
  unfold many at this
  exact ⟨by omega, by omega, by omega⟩
theorem len24n {x : Itm} (h : nothingI x = true) : x.list.length ≤ 1000000 ∧ x.pairs.length ≤ 1000000 ∧ x.scores.length ≤ 1000000 := by
  rw [nothingI_iff] at h
  simp at h
  have := h.2.2
  unfold many at this
  exact ⟨by omega, by omega, by omega⟩
theorem lookE_cases (l : List Ent) (now : Int) (s : ByteArray) : (lookE l now s = newE ∧ lookB l now s = false) ∨ (lookE l now s ∈ l ∧ lookB l now s = true ∧ (lookE l now s).key = s ∧ goneB (lookE l now s).til now = false) := by
  unfold lookE lookB
  rcases h : lookO l now s with _ | e
  · exact .inl ⟨rfl, rfl⟩
  · refine .inr ?_
    unfold lookO at h
    have h1 := List.find?_some h
    simp at h1
    exact ⟨List.mem_of_find?_eq_some h, rfl, h1.1, h1.2⟩
theorem newI0_small : (newI 0).Small := newI_small 0 (by decide)
theorem lookE_small {l : List Ent} (h : ∀ e ∈ l, e.Small) (now : Int) (s : ByteArray) : (lookE l now s).Small := by
  rcases lookE_cases l now s with ⟨h1, _⟩ | ⟨h1, _⟩
  · rw [h1]
    exact ⟨by show (⟨#[]⟩ : ByteArray).size ≤ _; decide, newI0_small, by show -9223372036854775808 ≤ (0 : Int) ∧ _; decide⟩
  · exact h _ h1
theorem lookE_len {l : List Ent} (h : SpOk l) (now : Int) (s : ByteArray) : (lookE l now s).item.list.length ≤ 1000000 ∧ (lookE l now s).item.pairs.length ≤ 1000000 ∧ (lookE l now s).item.scores.length ≤ 1000000 := by
  rcases lookE_cases l now s with ⟨h1, _⟩ | ⟨h1, _⟩
  · rw [h1]; exact ⟨by show (0 : Nat) ≤ _; omega, by show (0 : Nat) ≤ _; omega, by show (0 : Nat) ≤ _; omega⟩
  · exact len24 (h.items _ h1)
theorem items_len {l : List Ent} (h : SpOk l) : ∀ e ∈ l, e.item.list.length ≤ 1000000 ∧ e.item.pairs.length ≤ 1000000 ∧ e.item.scores.length ≤ 1000000 := fun e he => len24 (h.items e he)

def getI (l : List Ent) (now : Int) (s : ByteArray) : Itm := if atCode l now s = 0 then (lookE l now s).item else newI 0
def IEP (y : Itm) (c : Int) (w : World) (r : Ending) (w' : World) : Prop := ∃ u, r = .returned (.tuple #[u, .int .i64 c]) ∧ ItemO w' w.heap.size u y ∧ Fr [] w w'
def untilN (l : List Ent) (now : Int) (s : ByteArray) : Int := if atCode l now s = 0 then (if lookB l now s = true then (lookE l now s).til else 0) else 0
def untilC (l : List Ent) (now : Int) (s : ByteArray) : Int := if atCode l now s = 0 then (if lookB l now s = true then 0 else 5) else atCode l now s

set_option maxHeartbeats 2000000 in
set_option maxRecDepth 100000 in
theorem spaceGet_any (l : List Ent) (v : Value) (now : Int) (s : ByteArray) (w : World) (B : Nat) (hs : ∀ e ∈ l, e.Small) (hl : l.length ≤ 281474976710656) (hz : s.size ≤ 281474976710656) (hB : B ≤ w.heap.size) (h : EntsV w B v l) :
    Calls Try.prog 26 #[v, .int .i64 now, .string s] w (IEP (getI l now s) (atCode l now s) w) := by
  obtain ⟨A, c, rfl⟩ := h.form
  have F0 := Lib.hid ((Fr.refl [] w).alloc (.cells #[.int .i64 0, .string ⟨#[]⟩, .slice none 0 0, .slice none 0 0, .slice none 0 0] 26))
  have W0 := Lib.hid (Whole.new w 26 [.int .i64 0, .string ⟨#[]⟩, .slice none 0 0, .slice none 0 0, .slice none 0 0])
  have RD := Lib.hid (fun W (hW : Fr [] w W) => spaceReady_any l _ now s W B hs hl hz (Nat.le_trans hB hW.size) (h.fr hW hB (by simp)))
  have HV := Lib.hid h
  have HS := Lib.hid (lookE_small hs now s)
  have EG := Lib.hid (show getI l now s = if atCode l now s = 0 then (lookE l now s).item else newI 0 from rfl)
  clear h hs
  by_cases ha : atCode l now s = 0
  · have ok := spOk (atOk ha).1
    have LK := Lib.hid (fun W (hW : Fr [] w W) => spaceLook_any l _ now s W B ok.rise hl (Nat.le_trans hB hW.size) (HV.out.fr hW hB (by simp)))
    have HN := Lib.hid (lookE_len ok now s)
    rw [ha] at RD EG ⊢
    rw [EG.out, if_pos rfl]
    clear ha EG ok
    generalize lookE l now s = y at *
    generalize lookB l now s = bb at *
    go_enter Try.func26, Try.ntmps26
    go_wp2_with fail
    refine (RD.out _ F0.out).mono ?_
    rintro e1 w1 ⟨rfl, f1⟩
    have F1 := Lib.hid (F0.out.trans f1)
    have W1 := Lib.hid (W0.out.fr f1 (by simp))
    clear f1
    go_wp2_with fail
    refine (LK.out _ F1.out).mono ?_
    rintro e2 w2 ⟨cs, rfl, hc, f2⟩
    have F2 := Lib.hid (F1.out.trans f2)
    have W2 := Lib.hid (W1.out.fr f2 (by simp))
    have HC := Lib.hid hc
    obtain ⟨A1, c1, A2, c2, A3, c3, hcs, -⟩ := hc
    obtain rfl : cs = (ent7 y A1 c1 A2 c2 A3 c3).toArray := by rw [← hcs]
    clear f2 hcs
    have V3 := Lib.hid (Whole.new w2 58 [.string y.key, .int .i64 y.item.kind, .string y.item.text, .slice A1 y.item.list.length c1, .slice A2 y.item.pairs.length c2, .slice A3 y.item.scores.length c3, .int .i64 y.til])
    have F3 := Lib.hid ((Fr.refl [] w2).alloc (.cells #[.string y.key, .int .i64 y.item.kind, .string y.item.text, .slice A1 y.item.list.length c1, .slice A2 y.item.pairs.length c2, .slice A3 y.item.scores.length c3, .int .i64 y.til] 58))
    have OW := Lib.hid (itemOwn_any y.item _ _ B HS.out.item HN.out.1 HN.out.2.1 HN.out.2.2 (Nat.le_trans hB (Nat.le_trans F2.out.size F3.out.size)) ((show EntC w2 B (ent7 y A1 c1 A2 c2 A3 c3) y from HC.out).fr F3.out (Nat.le_trans hB F2.out.size) (by simp)).item)
    unfold ent7
    go_wp2_with fail
    refine OW.out.mono ?_
    rintro e4 w4 ⟨u, rfl, hi4, f4⟩
    have F4 := Lib.hid ((F2.out.trans F3.out).trans f4)
    have W4 := Lib.hid ((W2.out.alloc (.cells #[.string y.key, .int .i64 y.item.kind, .string y.item.text, .slice A1 y.item.list.length c1, .slice A2 y.item.pairs.length c2, .slice A3 y.item.scores.length c3, .int .i64 y.til] 58)).fr f4 (by simp))
    have HI := Lib.hid hi4
    obtain ⟨P1, p1, P2, p2, P3, p3, rfl⟩ := hi4.form
    have hzw := W2.out.lt
    clear hi4 f4
    obtain ⟨a0, a1, a2, a3, a4⟩ := five W4.out
    obtain ⟨b0, b1, b2, b3, b4⟩ := fiveF W4.out
    go_wp2
    refine bodyPost_ret (v := .tuple #[.agg #[.int .i64 y.item.kind, .string y.item.text, .slice P1 y.item.list.length p1, .slice P2 y.item.pairs.length p2, .slice P3 y.item.scores.length p3], .int .i64 0]) (by simp [results, Try.results26, go_sem, a0, a1, a2, a3, a4]) rfl ?_
    exact ⟨_, rfl, (itemO_later HI.out (by simp; omega) _ _ _ _ _).less (by simp; omega), fr_set5 F4.out (Nat.le_refl _) _ _ _ _ _⟩
  · have q1 : (atCode l now s != 0) = true := by simpa using ha
    rw [EG.out, if_neg ha]
    clear ha EG
    generalize atCode l now s = r at *
    go_enter Try.func26, Try.ntmps26
    go_wp2_with fail
    refine (RD.out _ F0.out).mono ?_
    rintro e1 w1 ⟨rfl, f1⟩
    have F1 := Lib.hid (F0.out.trans f1)
    have W1 := Lib.hid (W0.out.fr f1 (by simp))
    clear f1
    obtain ⟨a0, a1, a2, a3, a4⟩ := five W1.out
    obtain ⟨b0, b1, b2, b3, b4⟩ := fiveF W1.out
    go_wp2
    refine bodyPost_ret (v := .tuple #[.agg #[.int .i64 0, .string ⟨#[]⟩, .slice none 0 0, .slice none 0 0, .slice none 0 0], .int .i64 r]) (by simp [results, Try.results26, go_sem, a0, a1, a2, a3, a4]) rfl ?_
    exact ⟨_, rfl, ItemO.nothing _ _, fr_set5 F1.out (Nat.le_refl _) _ _ _ _ _⟩

set_option maxHeartbeats 2000000 in
set_option maxRecDepth 100000 in
theorem spaceUntil_any (l : List Ent) (v : Value) (now : Int) (s : ByteArray) (w : World) (B : Nat) (hs : ∀ e ∈ l, e.Small) (hl : l.length ≤ 281474976710656) (hz : s.size ≤ 281474976710656) (hB : B ≤ w.heap.size) (h : EntsV w B v l) :
    Calls Try.prog 28 #[v, .int .i64 now, .string s] w fun e w' => e = .returned (.tuple #[.int .i64 (untilN l now s), .int .i64 (untilC l now s)]) ∧ Fr [] w w' := by
  obtain ⟨A, c, rfl⟩ := h.form
  have RD := Lib.hid (spaceReady_any l _ now s w B hs hl hz hB h)
  have HV := Lib.hid h
  have EN := Lib.hid (show untilN l now s = if atCode l now s = 0 then (if lookB l now s = true then (lookE l now s).til else 0) else 0 from rfl)
  have EC := Lib.hid (show untilC l now s = if atCode l now s = 0 then (if lookB l now s = true then 0 else 5) else atCode l now s from rfl)
  clear h hs
  by_cases ha : atCode l now s = 0
  · have ok := spOk (atOk ha).1
    have LK := Lib.hid (fun W (hW : Fr [] w W) => spaceLook_any l _ now s W B ok.rise hl (Nat.le_trans hB hW.size) (HV.out.fr hW hB (by simp)))
    rw [ha] at RD EN EC
    rw [if_pos rfl] at EN EC
    rw [EN.out, EC.out]
    clear ha EN EC ok
    generalize lookE l now s = y at *
    rcases hb : lookB l now s with _ | _
    all_goals
      rw [hb] at LK
      clear hb
      go_enter Try.func28, Try.ntmps28
      go_wp2_with fail
      refine RD.out.mono ?_
      rintro e1 w1 ⟨rfl, f1⟩
      go_wp2_with fail
      refine (LK.out _ f1).mono ?_
      rintro e2 w2 ⟨cs, rfl, hc, f2⟩
      obtain ⟨A1, c1, A2, c2, A3, c3, hcs, -⟩ := hc
      obtain rfl : cs = (ent7 y A1 c1 A2 c2 A3 c3).toArray := by rw [← hcs]
      clear hcs
      unfold ent7
      go_wp2
      go_ret2
      exact ⟨rfl, (f1.trans f2).alloc _⟩
  · have q1 : (atCode l now s != 0) = true := by simpa using ha
    rw [EN.out, EC.out, if_neg ha, if_neg ha]
    clear ha EN EC
    generalize atCode l now s = r at *
    go_enter Try.func28, Try.ntmps28
    go_wp2_with fail
    refine RD.out.mono ?_
    rintro e1 w1 ⟨rfl, f1⟩
    go_wp2
    go_ret2
    exact ⟨rfl, f1⟩

def SNC (l : List Ent) (n c : Int) (w : World) (r : Ending) (w' : World) : Prop := ∃ u, r = .returned (.tuple #[u, .int .i64 n, .int .i64 c]) ∧ EntsO w' w.heap.size u l ∧ Fr [] w w'
def swL (l : List Ent) (now : Int) : List Ent := if atCode l now ⟨#[]⟩ = 0 then sweepL l now else []
def swN (l : List Ent) (now : Int) : Int := if atCode l now ⟨#[]⟩ = 0 then (l.length : Int) - (sweepL l now).length else 0
set_option maxHeartbeats 2000000 in
set_option maxRecDepth 100000 in
theorem spaceSweep_any (l : List Ent) (v : Value) (now : Int) (w : World) (B : Nat) (hs : ∀ e ∈ l, e.Small) (hl : l.length ≤ 281474976710656) (hB : B ≤ w.heap.size) (h : EntsV w B v l) :
    Calls Try.prog 30 #[v, .int .i64 now] w (SNC (swL l now) (swN l now) (atCode l now ⟨#[]⟩) w) := by
  obtain ⟨A, c, rfl⟩ := h.form
  have RD := Lib.hid (spaceReady_any l _ now ⟨#[]⟩ w B hs hl (by decide) hB h)
  have HV := Lib.hid h
  have HS := Lib.hid hs
  have EL := Lib.hid (show swL l now = if atCode l now ⟨#[]⟩ = 0 then sweepL l now else [] from rfl)
  have EN := Lib.hid (show swN l now = if atCode l now ⟨#[]⟩ = 0 then (l.length : Int) - (sweepL l now).length else 0 from rfl)
  clear h hs
  by_cases ha : atCode l now ⟨#[]⟩ = 0
  · have ok := spOk (atOk ha).1
    have OW := Lib.hid (fun W (hW : Fr [] w W) => spaceOwn_any l _ W B HS.out (items_len ok) (by have := ok.le; omega) (Nat.le_trans hB hW.size) (HV.out.fr hW hB (by simp)))
    have hl16 := ok.le
    have hsw : (sweepL l now).length ≤ l.length := List.length_filter_le _ _
    rw [ha] at RD EL EN ⊢
    rw [EL.out, EN.out, if_pos rfl, if_pos rfl]
    have HW := Lib.hid (show IntKind.i64.wrap ((l.length : Int) - ((sweepL l now).length : Int)) = (l.length : Int) - ((sweepL l now).length : Int) from IntWalk.i64_in _ (by omega))
    have SW := Lib.hid (fun W u base (h : EntsO W base u l) => sweep_own l u now base W (by omega) h)
    clear ha EL EN ok
    generalize sweepL l now = l2 at *
    go_enter Try.func30, Try.ntmps30
    go_wp2_with fail
    refine RD.out.mono ?_
    rintro e1 w1 ⟨rfl, f1⟩
    have F1 := Lib.hid f1
    clear f1
    go_wp2_with fail
    refine (OW.out _ F1.out).mono ?_
    rintro e2 w2 ⟨u2, rfl, ho2, f2⟩
    have F2 := Lib.hid (F1.out.trans f2)
    have HO2 := Lib.hid ho2
    obtain ⟨A2, c2, rfl⟩ := ho2.form
    clear ho2 f2
    go_wp2_with fail
    refine (SW.out _ _ _ HO2.out).mono ?_
    rintro e3 w3 ⟨u3, rfl, ho3, f3⟩
    obtain ⟨A3, c3, rfl⟩ := ho3.form
    have HO3 := Lib.hid ho3
    have F3 := Lib.hid (F2.out.step f3 (fun k hk => .inr (by
      obtain ⟨rs, _, _, hr⟩ := HO2.out
      have := ownL_base hr hk
      have := F1.out.size
      omega)))
    clear ho3 f3
    go_wp2
    refine bodyPost_ret (v := .tuple #[.slice A3 l2.length c3, .int .i64 ((l.length : Int) - (l2.length : Int)), .int .i64 0]) (by simp [results, Try.results30, go_sem]) rfl ?_
    exact ⟨_, rfl, HO3.out.base F1.out.size, F3.out⟩
  · have q1 : (atCode l now ⟨#[]⟩ != 0) = true := by simpa using ha
    rw [EL.out, EN.out, if_neg ha, if_neg ha]
    clear ha EL EN
    generalize atCode l now ⟨#[]⟩ = r at *
    go_enter Try.func30, Try.ntmps30
    go_wp2_with fail
    refine RD.out.mono ?_
    rintro e1 w1 ⟨rfl, f1⟩
    go_wp2
    refine bodyPost_ret (v := .tuple #[.slice none 0 0, .int .i64 0, .int .i64 r]) (by simp [results, Try.results30, go_sem]) rfl ?_
    exact ⟨_, rfl, EntsO.nil _ _, f1⟩
end Go.Proofs.Ytmlmiboihjibiaa
