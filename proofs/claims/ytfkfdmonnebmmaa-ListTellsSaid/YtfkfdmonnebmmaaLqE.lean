/- The walk of the reference's PopOf. (Printed by lists2.py.) -/
import Derived.Test.YtfkfdmonnebmmaaLqB
import Derived.Test.YtfkfdmonnebmmaaLpE
set_option linter.unusedVariables false
set_option linter.unusedSimpArgs false
namespace Go.Proofs.Ytfkfdmonnebmmaa
open Go.RowKit

theorem Sl.headT {w : World} {B n c b : Nat} {A : Option Addr} {l : List ByteArray} (h : Sl w B 1 (.slice A l.length c) l.length (textsV l)) (hb : b ≤ l.length) : Sl w B 1 (.slice A b c) b (textsV (l.take b)) := by
  obtain ⟨A', c', e, hl, hc, hm, hr⟩ := h
  cases e
  refine ⟨_, _, rfl, by simp [textsV]; omega, by omega, hm, fun hn => ?_⟩
  obtain ⟨g, off, rfl, hg, hcell⟩ := hr (by omega)
  refine ⟨g, off, rfl, hg, fun j u hu => hcell j u ?_⟩
  rw [← textsV_take1, List.getElem?_take] at hu
  split at hu
  · exact hu
  · cases hu
theorem pop_left (l : List ByteArray) : l.drop 1 = without l 0 := by simp [without]

set_option maxHeartbeats 2000000 in
set_option maxRecDepth 100000 in
theorem popOf_any (x : Itm) (v : Value) (left : Bool) (w : World) (B : Nat) (hs : x.Small) (hB : B ≤ w.heap.size) (h : ItemV w B v x) :
    Calls Try.prog 31 #[v, .bool left] w (VSPost (popT x left) (popCode x) (popY x left) w) := by
  have RD := Lib.hid (fun W (hf : Fr [] w W) => checkAs_any x 2 v W B hs (Nat.le_trans hB hf.size) (h.fr hf hB (by simp)))
  obtain ⟨A1, c1, A2, c2, A3, c3, rfl, h1, h2, h3⟩ := h
  have H1 := Lib.hid h1
  have D0 := Lib.hid (BO.new w (.int .i64 x.kind) (.string x.text) (.slice A1 x.list.length c1) (.slice A2 x.pairs.length c2) (.slice A3 x.scores.length c3))
  obtain ⟨d0, d1, d2, d3, d4⟩ := five D0.out.b
  have EC := Lib.hid (show popCode x = if asCode 2 x ≠ 0 then asCode 2 x else if x.kind = 0 then 5 else 0 from rfl)
  have EY := Lib.hid (show popY x left = if popCode x = 0 then ofL (popL x left) else newI 0 from rfl)
  have EK := Lib.hid (show popT x left = if popCode x = 0 then popS x left else ⟨#[]⟩ from rfl)
  have hs1 := hs.list
  clear h1 h2 h3 hs
  have no0 : ∀ c : Int, c ≠ 0 → popCode x = c → popY x left = newI 0 ∧ popT x left = ⟨#[]⟩ := fun c hc he => by
    have h0 : popCode x ≠ 0 := by rw [he]; exact hc
    exact ⟨by rw [EY.out, if_neg h0], by rw [EK.out, if_neg h0]⟩
  have NO := Lib.hid no0
  clear no0
  by_cases ha : asCode 2 x = 0
  · have hok := asOk_of ha
    rw [ha] at RD
    by_cases hk : x.kind = 0
    · have E := Lib.hid (show popCode x = 5 from by rw [EC.out, if_neg (by simpa using ha), if_pos hk])
      obtain ⟨e1, e2⟩ := NO.out 5 (by decide) E.out
      rw [e1, e2, E.out]
      have q : (x.kind == 0) = true := by simpa using hk
      clear e1 e2 E EC EY EK ha hk NO hok
      generalize x.kind = k at *
      go_enter Try.func31, Try.ntmps31
      go_wp2_with fail
      refine (RD.out _ D0.out.f).mono ?_
      rintro e w1 ⟨rfl, f1⟩
      have D1 := Lib.hid (D0.out.go f1)
      clear d0 d1 d2 d3 d4
      obtain ⟨d0, d1, d2, d3, d4⟩ := five D1.out.b
      obtain ⟨a0, a1, a2, a3, a4⟩ := five D1.out.o
      obtain ⟨b0, b2, b3, b4, b5⟩ := fiveF D1.out.o
      go_wp2
      refine bodyPost_ret (v := .tuple #[.agg #[.int .i64 0, .string ⟨#[]⟩, .slice none 0 0, .slice none 0 0, .slice none 0 0], .string ⟨#[]⟩, .int .i64 5]) (by simp [results, Try.results31, go_sem, a0, a1, a2, a3, a4]) rfl ?_
      exact ⟨_, rfl, newI_item _ _, D1.out.end5 _ _ _ _ _⟩
    · have E := Lib.hid (show popCode x = 0 from by rw [EC.out, if_neg (by simpa using ha), if_neg hk])
      have q : (x.kind == 0) = false := by simpa using hk
      have hpos := list_pos hok hk
      have h24 : x.list.length ≤ 24 := by have := hok.le24; unfold many at this; omega
      obtain ⟨b, off, rfl, hb, hlc, hcm, hcell⟩ := H1.out.at_ hpos
      rw [EY.out, EK.out, E.out, if_pos rfl, if_pos rfl]
      obtain ⟨i, hi⟩ : ∃ i, i = if left then 0 else x.list.length - 1 := ⟨_, rfl⟩
      have hil : i < x.list.length := by rw [hi]; split <;> omega
      obtain ⟨s, hs⟩ : ∃ s, x.list[i]? = some s := ⟨_, List.getElem?_eq_getElem hil⟩
      have hps : popS x left = s := by unfold popS; rw [← hi, List.getD_eq_getElem?_getD, hs]; rfl
      rw [hps]
      have hpm : ∀ y ∈ popL x left, y.size ≤ 281474976710656 := fun y hy => by
        have : y ∈ x.list := by
          unfold popL at hy
          cases left
          · exact List.mem_of_mem_take hy
          · exact List.mem_of_mem_drop hy
        have := hok.texts y this
        omega
      have hcs : w.cell? ⟨b, off + i, none⟩ = some (.string s) := hcell i _ (textsV_get _ i s hs)
      have HCS := Lib.hid hcs
      have HPM := Lib.hid hpm
      unfold maxLen at hcm
      clear hok E EC EY EK ha hk NO hps hcell hs hcs hpm
      cases left
      · have hie : i = x.list.length - 1 := hi
        have hc2 := Sl.headT (n := 0) H1.out (b := i) (by omega)
        have FL := Lib.hid (fun W (hW : Fr [] w W) => filled_sl 2 (x.list.take i) (some ⟨b, off, none⟩) c1 B W (by omega) (by rw [List.length_take]; omega) (by have := HPM.out; unfold popL at this; rw [if_neg (by decide), ← hie] at this; exact this) (Nat.le_trans hB hW.size) (by rw [show (x.list.take i).length = i by rw [List.length_take]; omega]; exact hc2.fr hW hB (by simp)))
        rw [ofK_two] at FL
        rw [show popL x false = x.list.take i from by unfold popL; rw [hie]; rfl]
        generalize ofL (x.list.take i) = y at *
        rw [show (x.list.take i).length = i by rw [List.length_take]; omega] at FL
        have hw1 : IntKind.i64.wrap ((x.list.length : Int) - 1) = (i : Int) := by rw [IntWalk.i64_in _ (by omega)]; omega
        have hic : i ≤ c1 := by omega
        clear hi hie hc2 HPM
        go_enter Try.func31, Try.ntmps31
        go_wp2_with fail
        refine (RD.out _ D0.out.f).mono ?_
        rintro e w1 ⟨rfl, f1⟩
        have D1 := Lib.hid (D0.out.go f1)
        have hz1 := D1.out.lt
        clear d0 d1 d2 d3 d4
        obtain ⟨d0, d1, d2, d3, d4⟩ := five D1.out.b
        have hc1 : w1.cell? ⟨b, off + i, none⟩ = some (.string s) := D1.out.f.cell HCS.out (by simp)
        have hne1 : ¬ b = w.heap.size + 1 := by omega
        have hne2 : ¬ w.heap.size + 1 = b := by omega
        go_wp2
        go_region_held3 (fun wx => wx.cell? ⟨w.heap.size, 2, none⟩ = some (.slice (some ⟨b, off, none⟩) x.list.length c1) ∧ wx.cell? ⟨b, off + i, none⟩ = some (.string s)) (go_keep) (first | (go_at_call 86; (refine (FL.out _ D1.out.f.drew).mono ?_); rintro e w5 ⟨u5, rfl, hi5, f5⟩; have D5 := Lib.hid (D1.out.go (fr_predrew f5)); clear d0 d1 d2 d3 d4 hc1 f5; obtain ⟨d0, d1, d2, d3, d4⟩ := five D5.out.b; have hc1 : w5.cell? ⟨b, off + i, none⟩ = some (.string s) := D5.out.f.cell HCS.out (by simp); have HI := Lib.hid hi5; obtain ⟨P1, p1, P2, p2, P3, p3, rfl⟩ := hi5.form; clear hi5; obtain ⟨a0, a1, a2, a3, a4⟩ := five D5.out.o; obtain ⟨b0, b2, b3, b4, b5⟩ := fiveF D5.out.o))
        go_wp2
        refine bodyPost_ret (v := .tuple #[.agg #[.int .i64 y.kind, .string y.text, .slice P1 y.list.length p1, .slice P2 y.pairs.length p2, .slice P3 y.scores.length p3], .string s, .int .i64 0]) (by simp [results, Try.results31, go_sem, a0, a1, a2, a3, a4]) rfl ?_
        exact ⟨_, rfl, (itemV_set5 HI.out (by omega)).more (set5_ge (by have := D5.out.lt; omega)), D5.out.end5 _ _ _ _ _⟩
      · obtain rfl : i = 0 := hi
        have hc0 := H1.out.cut (a := 1) (b := x.list.length) (by omega) (Nat.le_refl _)
        have e0 : (((textsV x.list).drop (1 * 1)).take ((x.list.length - 1) * 1)) = textsV (x.list.drop 1) := by
          rw [List.take_of_length_le (by simp [textsV])]
          simp [textsV, List.map_drop]
        rw [e0, show x.list.length - 1 = (x.list.drop 1).length by rw [List.length_drop]] at hc0
        obtain ⟨A', hA⟩ : ∃ A', (if c1 = 1 then some (⟨b, off, none⟩ : Addr) else some ⟨b, off + 1, none⟩) = A' := ⟨_, rfl⟩
        have hc2 : Sl w B 1 (.slice A' (x.list.drop 1).length (c1 - 1)) (x.list.drop 1).length (textsV (x.list.drop 1)) := by rw [← hA]; exact hc0
        have FL := Lib.hid (fun W (hW : Fr [] w W) => filled_sl 2 (x.list.drop 1) A' (c1 - 1) B W (by omega) (by rw [List.length_drop]; omega) HPM.out (Nat.le_trans hB hW.size) (hc2.fr hW hB (by simp)))
        rw [ofK_two] at FL
        rw [show popL x true = x.list.drop 1 from rfl]
        generalize ofL (x.list.drop 1) = y at *
        rw [List.length_drop] at FL
        have hI1 : (1 : Int) ≤ (x.list.length : Int) := by omega
        have hI2 : (x.list.length : Int) ≤ (c1 : Int) := by omega
        have hI3 : (1 : Int) ≤ (c1 : Int) := by omega
        clear hc0 e0 hc2 HPM
        go_enter Try.func31, Try.ntmps31
        go_wp2_with fail
        refine (RD.out _ D0.out.f).mono ?_
        rintro e w1 ⟨rfl, f1⟩
        have D1 := Lib.hid (D0.out.go f1)
        have hz1 := D1.out.lt
        clear d0 d1 d2 d3 d4
        obtain ⟨d0, d1, d2, d3, d4⟩ := five D1.out.b
        have hc1 : w1.cell? ⟨b, off, none⟩ = some (.string s) := D1.out.f.cell HCS.out (by simp)
        have hne1 : ¬ b = w.heap.size + 1 := by omega
        have hne2 : ¬ w.heap.size + 1 = b := by omega
        go_wp2
        go_region_held3 (fun wx => wx.cell? ⟨w.heap.size, 2, none⟩ = some (.slice (some ⟨b, off, none⟩) x.list.length c1) ∧ wx.cell? ⟨b, off, none⟩ = some (.string s)) (go_keep) (first | (go_at_call 86; (refine (FL.out _ D1.out.f.drew).mono ?_); rintro e w5 ⟨u5, rfl, hi5, f5⟩; have D5 := Lib.hid (D1.out.go (fr_predrew f5)); clear d0 d1 d2 d3 d4 hc1 f5; obtain ⟨d0, d1, d2, d3, d4⟩ := five D5.out.b; have hc1 : w5.cell? ⟨b, off, none⟩ = some (.string s) := D5.out.f.cell HCS.out (by simp); have HI := Lib.hid hi5; obtain ⟨P1, p1, P2, p2, P3, p3, rfl⟩ := hi5.form; clear hi5; obtain ⟨a0, a1, a2, a3, a4⟩ := five D5.out.o; obtain ⟨b0, b2, b3, b4, b5⟩ := fiveF D5.out.o))
        go_wp2
        refine bodyPost_ret (v := .tuple #[.agg #[.int .i64 y.kind, .string y.text, .slice P1 y.list.length p1, .slice P2 y.pairs.length p2, .slice P3 y.scores.length p3], .string s, .int .i64 0]) (by simp [results, Try.results31, go_sem, a0, a1, a2, a3, a4]) rfl ?_
        exact ⟨_, rfl, (itemV_set5 HI.out (by omega)).more (set5_ge (by have := D5.out.lt; omega)), D5.out.end5 _ _ _ _ _⟩
  · have E := Lib.hid (show popCode x = asCode 2 x from by rw [EC.out, if_pos ha])
    obtain ⟨e1, e2⟩ := NO.out _ ha E.out
    rw [e1, e2, E.out]
    have q : (asCode 2 x == 0) = false := by simpa using ha
    have q2 : (asCode 2 x != 0) = true := by simpa using ha
    clear e1 e2 E EC EY EK ha NO
    generalize asCode 2 x = r at *
    go_enter Try.func31, Try.ntmps31
    go_wp2_with fail
    refine (RD.out _ D0.out.f).mono ?_
    rintro e w1 ⟨rfl, f1⟩
    have D1 := Lib.hid (D0.out.go f1)
    clear d0 d1 d2 d3 d4
    obtain ⟨a0, a1, a2, a3, a4⟩ := five D1.out.o
    obtain ⟨b0, b2, b3, b4, b5⟩ := fiveF D1.out.o
    go_wp2
    refine bodyPost_ret (v := .tuple #[.agg #[.int .i64 0, .string ⟨#[]⟩, .slice none 0 0, .slice none 0 0, .slice none 0 0], .string ⟨#[]⟩, .int .i64 r]) (by simp [results, Try.results31, go_sem, a0, a1, a2, a3, a4]) rfl ?_
    exact ⟨_, rfl, newI_item _ _, D1.out.end5 _ _ _ _ _⟩
end Go.Proofs.Ytfkfdmonnebmmaa
