/- The walk of the reference's RemoveOf. (Printed by lists2.py.) -/
import Derived.Test.YtmlmiboihjibiaaLqB
set_option linter.unusedVariables false
set_option linter.unusedSimpArgs false
namespace Go.Proofs.Ytmlmiboihjibiaa
open Go.RowKit

def remOfY (k : Int) (x : Itm) (m : List ByteArray) : Itm := if asCode k x = 0 then ofK k (lessL x.list m) else newI 0
def remOfK (k : Int) (x : Itm) (m : List ByteArray) : Int := if asCode k x = 0 then (x.list.length : Int) - (lessL x.list m).length else 0

set_option maxHeartbeats 2000000 in
set_option maxRecDepth 100000 in
theorem removeOf_any (x : Itm) (v : Value) (k : Int) (m : List ByteArray) (Am : Option Addr) (cm : Nat) (w : World) (B : Nat) (hs : x.Small) (hB : B ≤ w.heap.size) (h : ItemV w B v x) (hk : 0 ≤ k ∧ k ≤ 5) (hm : m.length ≤ 281474976710656) (hM : Sl w B 1 (.slice Am m.length cm) m.length (textsV m)) :
    Calls Try.prog 52 #[v, .int .i64 k, .slice Am m.length cm] w (INPost (remOfK k x m) (asCode k x) (remOfY k x m) w) := by
  have RD := Lib.hid (fun W (hf : Fr [] w W) => checkAs_any x k v W B hs (Nat.le_trans hB hf.size) (h.fr hf hB (by simp)))
  have HM := Lib.hid hM
  obtain ⟨A1, c1, A2, c2, A3, c3, rfl, h1, h2, h3⟩ := h
  have H1 := Lib.hid h1
  have D0 := Lib.hid (BO.new w (.int .i64 x.kind) (.string x.text) (.slice A1 x.list.length c1) (.slice A2 x.pairs.length c2) (.slice A3 x.scores.length c3))
  obtain ⟨d0, d1, d2, d3, d4⟩ := five D0.out.b
  have EY := Lib.hid (show remOfY k x m = if asCode k x = 0 then ofK k (lessL x.list m) else newI 0 from rfl)
  have EK := Lib.hid (show remOfK k x m = if asCode k x = 0 then (x.list.length : Int) - (lessL x.list m).length else 0 from rfl)
  have hs1 := hs.list
  clear h1 h2 h3 hs hM
  by_cases ha : asCode k x = 0
  · have hok := asOk_of ha
    rw [EY.out, EK.out, if_pos ha, if_pos ha, ha]
    rw [ha] at RD
    have h24 : x.list.length ≤ 24 := by have := hok.le24; unfold many at this; omega
    have hrl : (lessL x.list m).length ≤ x.list.length := List.length_filter_le _ _
    have OF := Lib.hid (fun W base u hu => filled_own k (lessL x.list m) base u W hk (by omega) (fun y hy => by have := hok.texts y (List.mem_filter.1 hy).1; omega) hu)
    have LS := Lib.hid (fun W (hW : Fr [] w W) => less_any x.list m A1 Am c1 cm B W (by omega) hm (Nat.le_trans hB hW.size) (H1.out.fr hW hB (by simp)) (HM.out.fr hW hB (by simp)))
    clear hok EY EK ha hk
    generalize ofK k (lessL x.list m) = y at *
    have HW := Lib.hid (show IntKind.i64.wrap ((x.list.length : Int) - ((lessL x.list m).length : Int)) = (x.list.length : Int) - (lessL x.list m).length from IntWalk.i64_in _ (by omega))
    generalize lessL x.list m = r at *
    go_enter Try.func52, Try.ntmps52
    go_wp2_with fail
    refine (RD.out _ D0.out.f).mono ?_
    rintro e w1 ⟨rfl, f1⟩
    have D1 := Lib.hid (D0.out.go f1)
    have hz1 := D1.out.lt
    clear d0 d1 d2 d3 d4
    obtain ⟨d0, d1, d2, d3, d4⟩ := five D1.out.b
    go_wp2_with fail
    refine (LS.out _ D1.out.f).mono ?_
    rintro e w3 ⟨u3, rfl, ho3, f3⟩
    have D3 := Lib.hid (D1.out.go f3)
    have HO3 := Lib.hid ho3
    obtain ⟨U3, cu3, rfl, -⟩ := own_slice ho3
    clear d0 d1 d2 d3 d4 ho3
    obtain ⟨d0, d1, d2, d3, d4⟩ := five D3.out.b
    have hne1 : ¬ w.heap.size = w.heap.size + 1 := by omega
    have hne2 : ¬ w.heap.size + 1 = w.heap.size := by omega
    go_wp2
    go_region_held3 (fun wx => wx.cell? ⟨w.heap.size, 2, none⟩ = some (.slice A1 x.list.length c1)) (go_keep) (first | (go_at_call 75; (refine (OF.out _ _ _ (show w3.drew.ownsRow _ _ _ _ _ _ from HO3.out)).mono ?_); rintro e w5 ⟨u5, rfl, hi, f5⟩; have D5 := Lib.hid (D3.out.go (fr_predrew f5)); clear d0 d1 d2 d3 d4 f5; obtain ⟨d0, d1, d2, d3, d4⟩ := five D5.out.b; have HI := Lib.hid hi; obtain ⟨P1, p1, P2, p2, P3, p3, rfl⟩ := hi.form; clear hi; obtain ⟨a0, a1, a2, a3, a4⟩ := five D5.out.o; obtain ⟨b0, b2, b3, b4, b5⟩ := fiveF D5.out.o))
    go_wp2
    refine bodyPost_ret (v := .tuple #[.agg #[.int .i64 y.kind, .string y.text, .slice P1 y.list.length p1, .slice P2 y.pairs.length p2, .slice P3 y.scores.length p3], .int .i64 (IntKind.i64.wrap ((x.list.length : Int) - (r.length : Int))), .int .i64 0]) (by simp [results, Try.results52, go_sem, a0, a1, a2, a3, a4]) rfl ?_
    exact ⟨_, by rw [HW.out], (itemO_later HI.out (by omega) _ _ _ _ _).less (by omega), D5.out.end5 _ _ _ _ _⟩
  · rw [EY.out, EK.out, if_neg ha, if_neg ha]
    have q2 : (asCode k x != 0) = true := by simpa using ha
    clear EY EK ha
    generalize asCode k x = r at *
    go_enter Try.func52, Try.ntmps52
    go_wp2_with fail
    refine (RD.out _ D0.out.f).mono ?_
    rintro e w1 ⟨rfl, f1⟩
    have D1 := Lib.hid (D0.out.go f1)
    clear d0 d1 d2 d3 d4
    obtain ⟨a0, a1, a2, a3, a4⟩ := five D1.out.o
    obtain ⟨b0, b2, b3, b4, b5⟩ := fiveF D1.out.o
    go_wp2
    refine bodyPost_ret (v := .tuple #[.agg #[.int .i64 0, .string ⟨#[]⟩, .slice none 0 0, .slice none 0 0, .slice none 0 0], .int .i64 0, .int .i64 r]) (by simp [results, Try.results52, go_sem, a0, a1, a2, a3, a4]) rfl ?_
    exact ⟨_, rfl, ItemO.nothing _ _, D1.out.end5 _ _ _ _ _⟩
end Go.Proofs.Ytmlmiboihjibiaa
