/- slices.Reverse at texts: an owned row is turned round in place. slices.Grow at nil, and slices.Concat of two, at texts: a row of the call's own. -/
import Derived.Test.YtfkfdmonnebmmaaSlS
import Derived.Test.YtfkfdmonnebmmaaSlA
import Derived.ChangeAlike
import Derived.RegionTactic
import Derived.Lib.AppendZerosOnto
import Derived.Lib.AppendZeros
set_option linter.unusedVariables false
set_option linter.unusedSimpArgs false
namespace Go.Proofs.Ytfkfdmonnebmmaa
open Go.RowKit

/-- from both ends up to m turned round. -/
def Turned (l d : List ByteArray) (m : Nat) : Prop := d.length = l.length ∧ ∀ t, t < l.length → d[t]? = if t < m ∨ l.length < t + 1 + m then l[l.length - 1 - t]? else l[t]?

theorem turned_zero (l : List ByteArray) : Turned l l 0 := ⟨rfl, fun t ht => by rw [if_neg (by omega)]⟩
theorem turned_step {l d : List ByteArray} {m : Nat} {a b : ByteArray} (h : Turned l d m) (hm : m + 1 + m < l.length) (ha : d[m]? = some a) (hb : d[l.length - 1 - m]? = some b) :
    Turned l ((d.set m b).set (l.length - 1 - m) a) (m + 1) := by
  refine ⟨by simp [h.1], fun t ht => ?_⟩
  have hl := h.1
  have e1 := h.2 m (by omega)
  have e2 := h.2 (l.length - 1 - m) (by omega)
  rw [if_neg (by omega), ha] at e1
  rw [if_neg (by omega), hb] at e2
  by_cases h1 : t = l.length - 1 - m
  · rw [h1, List.getElem?_set_self (by simp; omega), if_pos (by omega), show l.length - 1 - (l.length - 1 - m) = m by omega]
    exact e1
  · rw [List.getElem?_set_ne (by omega)]
    by_cases h2 : t = m
    · rw [h2, List.getElem?_set_self (by omega), if_pos (by omega)]
      exact e2
    · rw [List.getElem?_set_ne (by omega), h.2 t ht]
      by_cases h3 : t < m ∨ l.length < t + 1 + m
      · rw [if_pos h3, if_pos (by omega)]
      · rw [if_neg h3, if_neg (by omega)]
theorem turned_end {l d : List ByteArray} {m : Nat} (h : Turned l d m) (hm : l.length ≤ m + 1 + m) : d = l.reverse := by
  apply List.ext_getElem?
  intro t
  by_cases ht : t < l.length
  · rw [h.2 t ht, List.getElem?_reverse ht]
    by_cases h3 : t < m ∨ l.length < t + 1 + m
    · rw [if_pos h3]
    · rw [if_neg h3]
      congr 1
      omega
  · rw [List.getElem?_eq_none (by have := h.1; omega), List.getElem?_eq_none (by simp; omega)]


def RevPost (l : List ByteArray) (base : Nat) (v : Value) (w : World) (e : Ending) (w' : World) : Prop := e = .returned (.tuple #[]) ∧ w'.ownsRow base 9 1 v l.length (textsV l.reverse) ∧ w.grownBy w' v.ownBlock


set_option maxHeartbeats 800000 in
set_option maxRecDepth 100000 in
theorem rev_any (l : List ByteArray) (base : Nat) (v : Value) (w : World) (hl : l.length ≤ 1000000) (h : w.ownsRow base 9 1 v l.length (textsV l)) :
    Calls Try.prog 79 #[v] w (RevPost l base v w) := by
  obtain ⟨A, c, rfl, hA, hc, hm⟩ := own_slice h
  rcases hA with rfl | ⟨g, rfl⟩
  · have h0 : l.length = 0 := by
      rcases h.2 with ⟨_, h0⟩ | ⟨g', cap', cur, h', _⟩
      · exact h0
      · cases h'
    obtain rfl : l = [] := List.eq_nil_of_length_eq_zero h0
    have H := Lib.hid h
    clear h h0
    go_enter Try.func79, Try.ntmps79
    go_wp2
    go_loopg [2, 3] 0 (fun _ s2 s3 wr => s2 = .int .i64 0 ∧ s3 = .int .i64 (-1) ∧ wr = w)
    case atStart => exact ⟨rfl, rfl, rfl⟩
    case round =>
      obtain ⟨rfl, rfl, rfl⟩ := hrel
      go_wp2
      go_end0
      exact ⟨rfl, H.out, grown_refl _ _⟩
  · have H := Lib.hid h
    clear h
    go_enter Try.func79, Try.ntmps79
    go_wp2
    go_loopg [2, 3] l.length (fun k s2 s3 wr => ∃ (m : Nat) (d : List ByteArray), k = l.length - m ∧ m ≤ l.length ∧ s2 = .int .i64 m ∧ s3 = .int .i64 ((l.length : Int) - 1 - (m : Int)) ∧ Turned l d m ∧
      wr.ownsRow base 9 1 (.slice (some ⟨g, 0, none⟩) l.length c) l.length (textsV d) ∧ w.grownBy wr (some g))
    case atStart => exact ⟨0, l, rfl, Nat.zero_le _, rfl, by simp, turned_zero l, H.out, grown_refl _ _⟩
    case round =>
      obtain ⟨m, d, rfl, hml, rfl, rfl, hT, ho, hg⟩ := hrel
      have HT := Lib.hid hT
      have hdl := hT.1
      by_cases hlt : m + 1 + m < l.length
      · obtain ⟨a, ha⟩ : ∃ a, d[m]? = some a := ⟨_, List.getElem?_eq_getElem (by omega)⟩
        obtain ⟨b, hb⟩ : ∃ b, d[l.length - 1 - m]? = some b := ⟨_, List.getElem?_eq_getElem (by omega)⟩
        obtain ⟨j, hj⟩ : ∃ j, j = l.length - 1 - m := ⟨_, rfl⟩
        have c1 : wr.cell? ⟨g, m, none⟩ = some (.string a) := (ho.cellAt m (by omega)).trans (textsV_get d m a ha)
        have c2 : wr.cell? ⟨g, j, none⟩ = some (.string b) := (ho.cellAt j (by omega)).trans (textsV_get d j b (by rw [hj]; exact hb))
        have f1 := ho.frozenAt m
        have f2 := ho.frozenAt j
        have HA := Lib.hid ha
        have HB := Lib.hid hb
        have HO := Lib.hid ho
        have HG := Lib.hid hg
        have ej : (l.length : Int) - 1 - (m : Int) = (j : Int) := by omega
        rw [ej]
        have hjl : j < l.length := by omega
        have hmj : m < j := by omega
        have HJ := Lib.hid hj
        clear hT ho hg ha hb hj ej hdl
        go_wp2_with fail
        go_region
        go_wp2
        go_roundg (l.length - (m + 1))
        case measure => omega
        case rel =>
          have o1 := (HO.out.stored m (.string b))
          have o2 := (o1.1.stored j (.string a))
          have N := turned_step HT.out hlt HA.out HB.out
          have hj := HJ.out
          refine ⟨m + 1, (d.set m b).set j a, rfl, by omega, by simp, ?_, by rw [hj]; exact N, by rw [textsV_set, textsV_set]; exact o2.1, grown_drew ((HG.out.trans o1.2).trans o2.2)⟩
          congr 1
          omega
      · have N := turned_end HT.out (by omega)
        clear hT hdl
        have HO := Lib.hid ho
        have HG := Lib.hid hg
        have HN := Lib.hid N
        clear ho hg N
        go_wp2
        go_end0
        exact ⟨rfl, by rw [← HN.out]; exact HO.out, HG.out⟩
end Go.Proofs.Ytfkfdmonnebmmaa

namespace Go.Proofs.Ytfkfdmonnebmmaa
open Go.RowKit

set_option maxRecDepth 100000 in
theorem growS_any (n : Nat) (w : World) (hn : n ≤ 1000000) :
    Calls Try.prog 118 #[.slice none 0 0, .int .i64 n] w (RowPost 9 1 0 [] w) := by
  obtain ⟨i0, hi, hz0, hz1, hz2⟩ := info_parts stringInfo
  by_cases h0 : n = 0
  · subst h0
    go_enter Try.func118, Try.ntmps118
    go_wp2
    go_ret
    exact ⟨_, rfl, World.ownsRow_nil _ _ _ _, Fr.refl [] w⟩
  · have h4 : (n : Int) > 0 := by omega
    have hold : (Builtin.firstCells i0.size 0 (.slice none 0 0)).run Try.prog w.drew = .ok ([] : List Value).toArray w.drew := run_firstCells_none w.drew i0.size 0 0 0
    have hrz : ∀ ty, (Builtin.append_ #[29, 3] ty #[.slice none 0 0, .int .i64 (n : Int)]).run Try.prog w = .ok (.slice (some ⟨w.heap.size, 0, none⟩) (0 + n) (grownCap w (0 + n) 0 9)) (w.drew.alloc (.cells (([] : List Value).toArray ++ Builtin.zeroCells (Value.string ⟨#[]⟩).cells n ++ Builtin.zeroCells (Value.string ⟨#[]⟩).cells (grownCap w (0 + n) 0 9 - (0 + n))) 9)) := fun ty =>
      Lib.run_append_grow_zeros w 29 3 ty 9 i0 _ .i64 .i64 Try.underlying29 Try.underlying3 hi hz0 none 0 0 [] hold n (by omega) (by omega) (by omega) (by omega) (by rw [hz2]; omega) (by have := growslice_fits (need := 0 + n) (old := 0) (bytes := i0.bytes) (by omega) (by rw [hz2]; omega); exact this)
    have hG : grownCap w (0 + n) 0 9 ≤ maxLen := grownCap_le_maxLen w _ _ _ (by unfold maxLen; omega)
    have hGe : 0 + n ≤ grownCap w (0 + n) 0 9 := grownCap_ge w _ _ _
    generalize grownCap w (0 + n) 0 9 = G at *
    have hO : (w.alloc (.cells (Builtin.zeroCells #[Value.string ⟨#[]⟩] n ++ Builtin.zeroCells #[Value.string ⟨#[]⟩] (G - n)) 9)).drew.ownsRow w.heap.size 9 1 (.slice (some ⟨w.heap.size, 0, none⟩) 0 G) 0 [] :=
      World.ownsRow_made (base := w.heap.size) (e := 9) (size := 1) w (Builtin.zeroCells #[Value.string ⟨#[]⟩] n ++ Builtin.zeroCells #[Value.string ⟨#[]⟩] (G - n)) G (Nat.le_refl _) hG (by simp [Builtin.zeroCells]; omega)
    have HO := Lib.hid hO
    have hG2 : G ≤ 9223372036854775807 := by unfold maxLen at hG; omega
    clear hO hG h0 hold
    go_enter Try.func118, Try.ntmps118
    go_wp2_with (at_builtin; refine Lib.wpList_append_run _ rfl _ _ _ _ rfl _ _ rfl rfl _ _ (hrz _) ?_)
    go_ret
    exact ⟨_, rfl, HO.out, ((Fr.refl [] w).drew).alloc _⟩

/-- the first so many of two. -/
def firstOf (a b : List ByteArray) (k : Nat) : List ByteArray := if k = 0 then [] else if k = 1 then a else a ++ b

set_option maxHeartbeats 800000 in
set_option maxRecDepth 100000 in
theorem concat_any (a b : List ByteArray) (v1 v2 : Value) (g c : Nat) (w : World) (B : Nat) (ha : a.length ≤ 100000) (hb : b.length ≤ 100000) (hc : 2 ≤ c) (hc2 : c ≤ 1000) (hB : B ≤ w.heap.size) (h1 : Sl w B 1 v1 a.length (textsV a)) (h2 : Sl w B 1 v2 b.length (textsV b))
    (g0 : w.cell? ⟨g, 0, none⟩ = some v1) (g1 : w.cell? ⟨g, 1, none⟩ = some v2) :
    Calls Try.prog 77 #[.slice (some ⟨g, 0, none⟩) 2 c] w (RowPost 9 1 (a ++ b).length (textsV (a ++ b)) w) := by
  obtain ⟨i0, hi, hz0, hz1, hz2⟩ := info_parts stringInfo
  obtain ⟨A1, c1, rfl, _⟩ := id h1
  obtain ⟨A2, c2, rfl, _⟩ := id h2
  have H1 := Lib.hid h1
  have H2 := Lib.hid h2
  have G0 := Lib.hid g0
  have G1 := Lib.hid g1
  have hgl : g < w.heap.size := World.block_lt_of_cell? w _ g0
  clear h1 h2
  go_enter Try.func77, Try.ntmps77
  go_wp2
  go_loopg [3, 11] 2 (fun k s i wr => ∃ (m : Nat), k = 2 - m ∧ m ≤ 2 ∧ i = .int .i64 m ∧ s = .int .i64 ((firstOf a b m).length : Nat) ∧ w = wr)
  case atStart => exact ⟨0, rfl, by omega, rfl, rfl, rfl⟩
  case round =>
    obtain ⟨m, rfl, hm, rfl, rfl, rfl⟩ := hrel
    rcases (show m = 0 ∨ m = 1 ∨ m = 2 by omega) with rfl | rfl | rfl
    · rw [show (firstOf a b 0).length = 0 from rfl]
      go_wp2
      go_roundg (2 - (0 + 1))
      case measure => omega
      case rel => exact ⟨1, rfl, by omega, by simp, by simp [firstOf], rfl⟩
    · rw [show (firstOf a b 1).length = a.length from rfl]
      go_wp2
      go_roundg (2 - (1 + 1))
      case measure => omega
      case rel => exact ⟨2, rfl, by omega, by simp, by simp [firstOf], rfl⟩
    obtain ⟨N, hN⟩ : ∃ N, N = (firstOf a b 2).length := ⟨_, rfl⟩
    rw [← hN]
    have hab : N ≤ 200000 := by rw [hN]; simp [firstOf]; omega
    clear g0 g1 hN
    go_wp2_with fail
    refine (growS_any N _ (by omega)).mono ?_
    rintro e w1 ⟨v, rfl, ho, hf⟩
    have HO := Lib.hid ho
    have HF := Lib.hid hf
    have hz := hf.size
    obtain ⟨Av, cv, rfl, -⟩ := own_slice ho
    clear ho hf
    go_wp2
    go_loopg [6, 27] 2 (fun k v i wr => ∃ (m : Nat), k = 2 - m ∧ m ≤ 2 ∧ i = .int .i64 m ∧ wr.ownsRow w.heap.size 9 1 v (firstOf a b m).length (textsV (firstOf a b m)) ∧ Fr [] w wr)
    case atStart => exact ⟨0, rfl, by omega, rfl, HO.out, HF.out⟩
    case round =>
    obtain ⟨m, rfl, hm, rfl, ho, hf⟩ := hrel
    have hzr := hf.size
    have HF1 := Lib.hid hf
    have HO1 := Lib.hid ho
    obtain ⟨Am, cm, rfl, -⟩ := own_slice ho
    clear ho hf
    rcases (show m = 0 ∨ m = 1 ∨ m = 2 by omega) with rfl | rfl | rfl
    · have x1 : wr.cell? ⟨g, 0, none⟩ = some (.slice A1 a.length c1) := HF1.out.cell G0.out (by simp)
      go_wp2_with (at_builtin; refine wpList_append_sl _ rfl _ _ 29 rfl w.heap.size 9 i0 _ 1 16 Try.underlying29 hi hz0 hz1 hz2 rfl (by decide) _ _ _ rfl HO1.out B _ a.length (textsV a) rfl (H1.out.fr HF1.out hB (by simp)) (texts_one a) ?c1 ?c2 ?c3 ?_)
      case c1 => show 0 + a.length ≤ _; unfold maxLen; omega
      case c2 => show (0 + a.length) * 16 ≤ _; omega
      case c3 => omega
      intro v' w2 hown' hgrow hat
      have HO2 := Lib.hid hown'
      have HF2 := Lib.hid (HF1.out.grown hgrow (fun k hk => .inr (HO1.out.lt k hk).1))
      clear hown' hgrow hat x1
      go_wp2
      go_roundg (2 - (0 + 1))
      case measure => omega
      case rel => exact ⟨1, rfl, by omega, by simp, by have := HO2.out; simpa [firstOf, textsV] using this, HF2.out⟩
    · have x1 : wr.cell? ⟨g, 1, none⟩ = some (.slice A2 b.length c2) := HF1.out.cell G1.out (by simp)
      go_wp2_with (at_builtin; refine wpList_append_sl _ rfl _ _ 29 rfl w.heap.size 9 i0 _ 1 16 Try.underlying29 hi hz0 hz1 hz2 rfl (by decide) _ _ _ rfl HO1.out B _ b.length (textsV b) rfl (H2.out.fr HF1.out hB (by simp)) (texts_one b) ?d1 ?d2 ?d3 ?_)
      case d1 => show a.length + b.length ≤ _; unfold maxLen; omega
      case d2 => show (a.length + b.length) * 16 ≤ _; omega
      case d3 => omega
      intro v' w2 hown' hgrow hat
      have HO2 := Lib.hid hown'
      have HF2 := Lib.hid (HF1.out.grown hgrow (fun k hk => .inr (HO1.out.lt k hk).1))
      clear hown' hgrow hat x1
      go_wp2
      go_roundg (2 - (1 + 1))
      case measure => omega
      case rel => exact ⟨2, rfl, by omega, by simp, by have := HO2.out; simpa [firstOf, textsV] using this, HF2.out⟩
    go_wp2
    go_ret
    exact ⟨_, rfl, HO1.out, HF1.out⟩
end Go.Proofs.Ytfkfdmonnebmmaa
