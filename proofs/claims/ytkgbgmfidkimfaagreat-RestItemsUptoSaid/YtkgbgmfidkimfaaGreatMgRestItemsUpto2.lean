/- Rows whose cells may be written over; what stays while they are. No walk. The walks of the law's spoilTexts and spoilItem. Rows of texts that are written out. -/
import Derived.Test.YtkgbgmfidkimfaaGreatMgRestItemsUpto1
import Derived.Test.YtkgbgmfidkimfaaGreatSlA
import Derived.Test.YtkgbgmfidkimfaaGreatItf
set_option linter.unusedVariables false
set_option linter.unusedSimpArgs false
namespace Go.Proofs.YtkgbgmfidkimfaaGreat
open Go.RowKit

/-- blocks from lo up to hi. -/
def Sp (lo hi : Nat) : List Nat := List.range' lo (hi - lo)
theorem mem_Sp {lo hi k : Nat} : k ∈ Sp lo hi ↔ lo ≤ k ∧ k < hi := by
  unfold Sp
  rw [List.mem_range'_1]
  omega
/-- a row whose cells may be written, in blocks from lo up to hi. -/
def Wr (w : World) (lo hi size n : Nat) (v : Value) : Prop :=
  ∃ A c, v = .slice A n c ∧ n ≤ c ∧ c ≤ maxLen ∧ (0 < n → ∃ b o, A = some ⟨b, o, none⟩ ∧ lo ≤ b ∧ b < hi ∧ ∀ j, j < n * size → ∃ u, w.cell? ⟨b, o + j, none⟩ = some u ∧ w.frozen? ⟨b, o + j, none⟩ = false)
/-- what was there is there, and may be written if it might. -/
def Kp (w w' : World) : Prop := ∀ p u, w.cell? p = some u → w.frozen? p = false → ∃ u', w'.cell? p = some u' ∧ w'.frozen? p = false
theorem Kp.refl (w : World) : Kp w w := fun p u h k => ⟨u, h, k⟩
theorem Kp.trans {a b c : World} (h : Kp a b) (k : Kp b c) : Kp a c := fun p u h1 h2 => by
  obtain ⟨u', h3, h4⟩ := h p u h1 h2
  exact k p u' h3 h4
theorem Kp.fr {w w' : World} (h : Fr [] w w') : Kp w w' := fun p u h1 h2 => by
  have hlt : p.block < w.heap.size := by
    rcases Nat.lt_or_ge p.block w.heap.size with h | h
    · exact h
    · unfold World.cell? at h1
      rw [Array.getElem?_eq_none h] at h1
      cases h1
  exact ⟨u, h.cell h1 (by simp), (h.frozen? hlt (by simp)).trans h2⟩
theorem Kp.set (w : World) (p : Addr) (v : Value) : Kp w (w.setCell p v) := fun q u h1 h2 => by
  obtain ⟨u', h3⟩ := cell?_setCell_some (p := p) (x := v) h1
  exact ⟨u', h3, by simpa using h2⟩
theorem Wr.kp {w w' : World} {lo hi size n : Nat} {v : Value} (h : Wr w lo hi size n v) (k : Kp w w') : Wr w' lo hi size n v := by
  obtain ⟨A, c, e, hc, hm, hat⟩ := h
  refine ⟨A, c, e, hc, hm, fun hn => ?_⟩
  obtain ⟨b, o, e, h1, h2, h3⟩ := hat hn
  refine ⟨b, o, e, h1, h2, fun j hj => ?_⟩
  obtain ⟨u, h4, h5⟩ := h3 j hj
  exact k _ u h4 h5
theorem Wr.wide {w : World} {lo hi lo' hi' size n : Nat} {v : Value} (h : Wr w lo hi size n v) (h1 : lo' ≤ lo) (h2 : hi ≤ hi') : Wr w lo' hi' size n v := by
  obtain ⟨A, c, e, hc, hm, hat⟩ := h
  refine ⟨A, c, e, hc, hm, fun hn => ?_⟩
  obtain ⟨b, o, e, h3, h4, h5⟩ := hat hn
  exact ⟨b, o, e, by omega, by omega, h5⟩
theorem Wr.own {w : World} {base e size n : Nat} {v : Value} {xs : List Value} (h : w.ownsRow base e size v n xs) : Wr w base w.heap.size size n v := by
  obtain ⟨hl, ⟨rfl, rfl⟩ | ⟨g, cap, cur, rfl, hb, hg, hc, hm, hs, -⟩⟩ := h
  · exact ⟨none, 0, rfl, Nat.le_refl _, Nat.zero_le _, fun h => absurd h (Nat.lt_irrefl _)⟩
  · refine ⟨_, _, rfl, hc, hm, fun hn => ⟨g, 0, rfl, hb, ?_, fun j hj => ?_⟩⟩
    · rcases Nat.lt_or_ge g w.heap.size with h | h
      · exact h
      · rw [Array.getElem?_eq_none h] at hg; cases hg
    · have hj2 : j < cur.size := by
        rw [hs]
        exact Nat.lt_of_lt_of_le hj (Nat.mul_le_mul_right _ hc)
      refine ⟨cur[j], ?_, ?_⟩
      · simp [World.cell?, hg, hj2]
      · simp [World.frozen?, hg]
theorem Wr.form {w : World} {lo hi size n : Nat} {v : Value} (h : Wr w lo hi size n v) : ∃ A c, v = .slice A n c := by
  obtain ⟨A, c, e, _⟩ := h
  exact ⟨A, c, e⟩
theorem Wr.at_ {w : World} {lo hi size n c : Nat} {A : Option Addr} (h : Wr w lo hi size n (.slice A n c)) (hn : 0 < n) :
    ∃ b o, A = some ⟨b, o, none⟩ ∧ lo ≤ b ∧ b < hi ∧ n ≤ c ∧ c ≤ maxLen ∧ ∀ j, j < n * size → ∃ u, w.cell? ⟨b, o + j, none⟩ = some u ∧ w.frozen? ⟨b, o + j, none⟩ = false := by
  obtain ⟨A', c', e, hc, hm, hat⟩ := h
  cases e
  obtain ⟨b, o, e, h1, h2, h3⟩ := hat hn
  exact ⟨b, o, e, h1, h2, hc, hm, h3⟩
/-- an item whose rows may be written. -/
def WrI (w : World) (lo hi : Nat) (v : Value) (x : Itm) : Prop :=
  ∃ v1 v2 v3, v = .agg #[.int .i64 x.kind, .string x.text, v1, v2, v3] ∧ Wr w lo hi 1 x.list.length v1 ∧ Wr w lo hi 2 x.pairs.length v2 ∧ Wr w lo hi 2 x.scores.length v3
theorem WrI.kp {w w' : World} {lo hi : Nat} {v : Value} {x : Itm} (h : WrI w lo hi v x) (k : Kp w w') : WrI w' lo hi v x := by
  obtain ⟨v1, v2, v3, e, h1, h2, h3⟩ := h
  exact ⟨v1, v2, v3, e, h1.kp k, h2.kp k, h3.kp k⟩
theorem WrI.wide {w : World} {lo hi lo' hi' : Nat} {v : Value} {x : Itm} (h : WrI w lo hi v x) (k1 : lo' ≤ lo) (k2 : hi ≤ hi') : WrI w lo' hi' v x := by
  obtain ⟨v1, v2, v3, e, h1, h2, h3⟩ := h
  exact ⟨v1, v2, v3, e, h1.wide k1 k2, h2.wide k1 k2, h3.wide k1 k2⟩
theorem WrI.own {w : World} {base : Nat} {v : Value} {x : Itm} (h : ItemO w base v x) : WrI w base w.heap.size v x := by
  obtain ⟨v1, v2, v3, e, h1, h2, h3⟩ := h
  exact ⟨v1, v2, v3, e, Wr.own h1, Wr.own h2, Wr.own h3⟩
theorem WrI.form {w : World} {lo hi : Nat} {v : Value} {x : Itm} (h : WrI w lo hi v x) : ∃ A1 c1 A2 c2 A3 c3, v = .agg #[.int .i64 x.kind, .string x.text, .slice A1 x.list.length c1, .slice A2 x.pairs.length c2, .slice A3 x.scores.length c3] := by
  obtain ⟨v1, v2, v3, rfl, h1, h2, h3⟩ := h
  obtain ⟨A1, c1, rfl⟩ := h1.form
  obtain ⟨A2, c2, rfl⟩ := h2.form
  obtain ⟨A3, c3, rfl⟩ := h3.form
  exact ⟨A1, c1, A2, c2, A3, c3, rfl⟩
theorem WrI.rows {w : World} {lo hi : Nat} {k : Int} {t : ByteArray} {v1 v2 v3 : Value} {x : Itm} (h : WrI w lo hi (.agg #[.int .i64 k, .string t, v1, v2, v3]) x) : Wr w lo hi 1 x.list.length v1 ∧ Wr w lo hi 2 x.pairs.length v2 ∧ Wr w lo hi 2 x.scores.length v3 := by
  obtain ⟨u1, u2, u3, e, h1, h2, h3⟩ := h
  simp at e
  obtain ⟨-, -, rfl, rfl, rfl⟩ := e
  exact ⟨h1, h2, h3⟩
/-- what a spoiling call leaves. -/
def SpP (lo hi : Nat) (w : World) (e : Ending) (w' : World) : Prop := e = .returned (.tuple #[]) ∧ Kp w w' ∧ Fr (Sp lo hi) w w'
/-- a row that reads, in blocks from lo on. -/
def SlN (w : World) (lo size n : Nat) (v : Value) (xs : List Value) : Prop :=
  ∃ A c, v = .slice A n c ∧ xs.length = n * size ∧ n ≤ c ∧ c ≤ maxLen ∧ (0 < n → ∃ b o, A = some ⟨b, o, none⟩ ∧ lo ≤ b ∧ b < w.heap.size ∧ ∀ j u, xs[j]? = some u → w.cell? ⟨b, o + j, none⟩ = some u)
theorem SlN.sl {w : World} {lo size n : Nat} {v : Value} {xs : List Value} (h : SlN w lo size n v xs) : Sl w w.heap.size size v n xs := by
  obtain ⟨A, c, e, h1, h2, h3, h4⟩ := h
  refine ⟨A, c, e, h1, h2, h3, fun hn => ?_⟩
  obtain ⟨b, o, e, _, h5, h6⟩ := h4 hn
  exact ⟨b, o, e, h5, h6⟩
theorem SlN.fr {w w' : World} {S : List Nat} {lo size n : Nat} {v : Value} {xs : List Value} (h : SlN w lo size n v xs) (hf : Fr S w w') (hS : ∀ k ∈ S, k < lo) : SlN w' lo size n v xs := by
  obtain ⟨A, c, e, h1, h2, h3, h4⟩ := h
  refine ⟨A, c, e, h1, h2, h3, fun hn => ?_⟩
  obtain ⟨b, o, e, h5, h6, h7⟩ := h4 hn
  exact ⟨b, o, e, h5, Nat.lt_of_lt_of_le h6 hf.size, fun j u hu => hf.cell (h7 j u hu) (fun hm => by have : b < lo := hS _ hm; omega)⟩
theorem SlN.wide {w : World} {lo lo' size n : Nat} {v : Value} {xs : List Value} (h : SlN w lo size n v xs) (hl : lo' ≤ lo) : SlN w lo' size n v xs := by
  obtain ⟨A, c, e, h1, h2, h3, h4⟩ := h
  refine ⟨A, c, e, h1, h2, h3, fun hn => ?_⟩
  obtain ⟨b, o, e, h5, h6, h7⟩ := h4 hn
  exact ⟨b, o, e, by omega, h6, h7⟩
theorem SlN.own {w : World} {base e size n : Nat} {v : Value} {xs : List Value} (h : w.ownsRow base e size v n xs) : SlN w base size n v xs := by
  obtain ⟨A, c, rfl, h1, h2, h3, h4⟩ := own_sl h
  refine ⟨A, c, rfl, h1, h2, h3, fun hn => ?_⟩
  obtain ⟨b, o, rfl, h5, h6⟩ := h4 hn
  exact ⟨b, o, rfl, ownL_base h (by simp [ownL]), h5, h6⟩
end Go.Proofs.YtkgbgmfidkimfaaGreat

namespace Go.Proofs.YtkgbgmfidkimfaaGreat
open Go.RowKit

def q63 : ByteArray := ⟨#[63]⟩
set_option maxHeartbeats 1000000 in
set_option maxRecDepth 100000 in
theorem spoilTexts_any (v : Value) (n lo hi : Nat) (w : World) (hn : n ≤ 281474976710656) (h : Wr w lo hi 1 n v) :
    Calls Tryz.prog 30 #[v] w (SpP lo hi w) := by
  obtain ⟨A, c, rfl⟩ := h.form
  have H := Lib.hid h
  clear h
  go_enter Tryz.func30, Tryz.ntmps30
  go_wp2
  go_loopg [2] n (fun x i wr => ∃ (k : Nat), x = n - k ∧ k ≤ n ∧ i = .int .i64 k ∧ Kp w wr ∧ Fr (Sp lo hi) w wr)
  case atStart => exact ⟨0, rfl, Nat.zero_le _, rfl, Kp.refl _, Fr.refl _ _⟩
  case round =>
    obtain ⟨k, rfl, hk, rfl, hkp, hf⟩ := hrel
    have KP := Lib.hid hkp
    have HF := Lib.hid hf
    clear hkp hf
    by_cases hlt : k < n
    · obtain ⟨b, o, rfl, hb1, hb2, hc, hm, hat⟩ := (H.out.kp KP.out).at_ (by omega)
      obtain ⟨u, hu, hz⟩ := hat k (by omega)
      unfold maxLen at hm
      clear hat
      go_wp2
      go_roundg (n - (k + 1))
      case measure => omega
      case rel => exact ⟨k + 1, rfl, by omega, by go_num, KP.out.trans (Kp.set _ _ _), HF.out.setCell (p := ⟨b, o + k, none⟩) (.inl (mem_Sp.2 ⟨hb1, hb2⟩)) _⟩
    · obtain rfl : k = n := by omega
      go_wp2
      exact bodyPost_ret (v := .tuple #[]) (by simp [results, Tryz.results30, go_sem]) rfl ⟨rfl, KP.out, HF.out⟩

set_option maxHeartbeats 4000000 in
set_option maxRecDepth 100000 in
theorem spoilItem_any (x : Itm) (v : Value) (lo hi : Nat) (w : World) (hs : x.Small) (hhi : hi ≤ w.heap.size) (h : WrI w lo hi v x) :
    Calls Tryz.prog 29 #[v] w (SpP lo hi w) := by
  obtain ⟨A1, c1, A2, c2, A3, c3, rfl⟩ := h.form
  obtain ⟨h1, h2, h3⟩ := h.rows
  have n1 := hs.list
  have n2 := hs.pairs
  have n3 := hs.scores
  have B0 := Lib.hid ((Fr.refl [] w).alloc (.cells #[.int .i64 x.kind, .string x.text, .slice A1 x.list.length c1, .slice A2 x.pairs.length c2, .slice A3 x.scores.length c3] 26))
  have K0 := Lib.hid (Kp.fr B0.out)
  have W0 := Lib.hid (Whole.new w 26 [.int .i64 x.kind, .string x.text, .slice A1 x.list.length c1, .slice A2 x.pairs.length c2, .slice A3 x.scores.length c3])
  have F0 := Lib.hid (show Fr (Sp lo hi) w (w.alloc (.cells #[.int .i64 x.kind, .string x.text, .slice A1 x.list.length c1, .slice A2 x.pairs.length c2, .slice A3 x.scores.length c3] 26)) from B0.out.up)
  have H1 := Lib.hid h1
  have H2 := Lib.hid h2
  have H3 := Lib.hid h3
  have NS : Hid (w.heap.size ∉ Sp lo hi) := Lib.hid (fun hm => by have := (mem_Sp.1 hm).2; omega)
  clear h h1 h2 h3 hs B0
  generalize x.list.length = m1 at *
  generalize x.pairs.length = m2 at *
  generalize x.scores.length = m3 at *
  generalize x.kind = kd at *
  generalize x.text = tx at *
  go_enter Tryz.func29, Tryz.ntmps29
  go_wp2
  go_loopg [2] m1 (fun y i wr => ∃ (k : Nat), y = m1 - k ∧ k ≤ m1 ∧ i = .int .i64 k ∧ Kp w wr ∧ Fr (Sp lo hi) w wr ∧ Whole wr w.heap.size 26 [.int .i64 kd, .string tx, .slice A1 m1 c1, .slice A2 m2 c2, .slice A3 m3 c3])
  case atStart => exact ⟨0, rfl, Nat.zero_le _, rfl, K0.out, F0.out, W0.out⟩
  case round =>
    obtain ⟨k, rfl, hk, rfl, hkp, hf, hw⟩ := hrel
    have KP := Lib.hid hkp
    have HF := Lib.hid hf
    have HW := Lib.hid hw
    have hlt0 := hw.lt
    clear hkp hf hw
    have d2 := HW.out.cell 2
    by_cases hlt : k < m1
    · obtain ⟨b, o, rfl, hb1, hb2, hc, hm, hat⟩ := (H1.out.kp KP.out).at_ (by omega)
      obtain ⟨u, hu, hz⟩ := hat k (by omega)
      unfold maxLen at hm
      clear hat
      go_wp2
      go_roundg (m1 - (k + 1))
      case measure => omega
      case rel => exact ⟨k + 1, rfl, by omega, by go_num, KP.out.trans (Kp.set _ _ _), HF.out.setCell (p := ⟨b, o + k, none⟩) (.inl (mem_Sp.2 ⟨hb1, hb2⟩)) _, Whole.far HW.out (p := ⟨b, o + k, none⟩) (by show w.heap.size ≠ b; omega) _⟩
    · obtain rfl : k = m1 := by omega
      go_wp2
      go_loopg [3] m2 (fun y i wx => ∃ (j : Nat), y = m2 - j ∧ j ≤ m2 ∧ i = .int .i64 j ∧ Kp w wx ∧ Fr (Sp lo hi) w wx ∧ Whole wx w.heap.size 26 [.int .i64 kd, .string tx, .slice A1 k c1, .slice A2 m2 c2, .slice A3 m3 c3])
      case atStart => exact ⟨0, rfl, Nat.zero_le _, rfl, KP.out, HF.out, HW.out⟩
      case round =>
        obtain ⟨j, rfl, hj, rfl, hkp2, hf2, hw2⟩ := hrel
        have KP2 := Lib.hid hkp2
        have HF2 := Lib.hid hf2
        have HW2 := Lib.hid hw2
        have hlt2 := hw2.lt
        clear hkp2 hf2 hw2 KP HF HW d2
        have d3 := HW2.out.cell 3
        by_cases hlt : j < m2
        · obtain ⟨b, o, rfl, hb1, hb2, hc, hm, hat⟩ := (H2.out.kp KP2.out).at_ (by omega)
          obtain ⟨u, hu, hz⟩ := hat (j * 2) (by omega)
          unfold maxLen at hm
          clear hat
          go_wp2
          go_roundg (m2 - (j + 1))
          case measure => omega
          case rel => exact ⟨j + 1, rfl, by omega, by go_num, KP2.out.trans (Kp.set _ _ _), HF2.out.setCell (p := ⟨b, o + j * 2, none⟩) (.inl (mem_Sp.2 ⟨hb1, hb2⟩)) _, Whole.far HW2.out (p := ⟨b, o + j * 2, none⟩) (by show w.heap.size ≠ b; omega) _⟩
        · obtain rfl : j = m2 := by omega
          go_wp2
          go_loopg [4] m3 (fun y i wy => ∃ (l : Nat), y = m3 - l ∧ l ≤ m3 ∧ i = .int .i64 l ∧ Kp w wy ∧ Fr (Sp lo hi) w wy ∧ Whole wy w.heap.size 26 [.int .i64 kd, .string tx, .slice A1 k c1, .slice A2 j c2, .slice A3 m3 c3])
          case atStart => exact ⟨0, rfl, Nat.zero_le _, rfl, KP2.out, HF2.out, HW2.out⟩
          case round =>
            obtain ⟨l, rfl, hl, rfl, hkp3, hf3, hw3⟩ := hrel
            have KP3 := Lib.hid hkp3
            have HF3 := Lib.hid hf3
            have HW3 := Lib.hid hw3
            have hlt3 := hw3.lt
            clear hkp3 hf3 hw3 KP2 HF2 HW2 d3
            have d4 := HW3.out.cell 4
            by_cases hlt : l < m3
            · obtain ⟨b, o, rfl, hb1, hb2, hc, hm, hat⟩ := (H3.out.kp KP3.out).at_ (by omega)
              obtain ⟨u, hu, hz⟩ := hat (l * 2) (by omega)
              unfold maxLen at hm
              clear hat
              go_wp2
              go_roundg (m3 - (l + 1))
              case measure => omega
              case rel => exact ⟨l + 1, rfl, by omega, by go_num, KP3.out.trans (Kp.set _ _ _), HF3.out.setCell (p := ⟨b, o + l * 2, none⟩) (.inl (mem_Sp.2 ⟨hb1, hb2⟩)) _, Whole.far HW3.out (p := ⟨b, o + l * 2, none⟩) (by show w.heap.size ≠ b; omega) _⟩
            · obtain rfl : l = m3 := by omega
              go_wp2
              exact bodyPost_ret (v := .tuple #[]) (by simp [results, Tryz.results29, go_sem]) rfl ⟨rfl, KP3.out, HF3.out⟩
end Go.Proofs.YtkgbgmfidkimfaaGreat

namespace Go.Proofs.YtkgbgmfidkimfaaGreat
open Go.RowKit
theorem slT_lit1 (w : World) (a : ByteArray) : Sl (w.alloc (.cells #[.string a] 9)) (w.alloc (.cells #[.string a] 9)).heap.size 1 (.slice (some ⟨w.heap.size, 0, none⟩) 1 1) 1 (textsV [a]) :=
  own_sl (World.ownsRow_lit (base := w.heap.size) (e := 9) (size := 1) w #[.string a] 1 (Nat.le_refl _) (by decide) rfl)
theorem slT_lit2 (w : World) (a b : ByteArray) : Sl (w.alloc (.cells #[.string a, .string b] 9)) (w.alloc (.cells #[.string a, .string b] 9)).heap.size 1 (.slice (some ⟨w.heap.size, 0, none⟩) 2 2) 2 (textsV [a, b]) :=
  own_sl (World.ownsRow_lit (base := w.heap.size) (e := 9) (size := 1) w #[.string a, .string b] 2 (Nat.le_refl _) (by decide) rfl)
theorem slT_lit3 (w : World) (a b c : ByteArray) : Sl (w.alloc (.cells #[.string a, .string b, .string c] 9)) (w.alloc (.cells #[.string a, .string b, .string c] 9)).heap.size 1 (.slice (some ⟨w.heap.size, 0, none⟩) 3 3) 3 (textsV [a, b, c]) :=
  own_sl (World.ownsRow_lit (base := w.heap.size) (e := 9) (size := 1) w #[.string a, .string b, .string c] 3 (Nat.le_refl _) (by decide) rfl)
theorem slT_lit2b (w : World) (o : Obj) (a b : ByteArray) : Sl ((w.alloc o).alloc (.cells #[.string a, .string b] 9)) ((w.alloc o).alloc (.cells #[.string a, .string b] 9)).heap.size 1 (.slice (some ⟨w.heap.size + 1, 0, none⟩) 2 2) 2 (textsV [a, b]) := by
  have := slT_lit2 (w.alloc o) a b
  simpa using this
end Go.Proofs.YtkgbgmfidkimfaaGreat
