/- The walk of the law SetParts. (Printed by sets5.py.) -/
import Derived.Test.YtmlmiboihjibiaaSeK
import Derived.Test.YtmlmiboihjibiaaSeP
import Derived.WalkLawsBesides
set_option linter.unusedVariables false
set_option linter.unusedSimpArgs false
namespace Go.Proofs.Ytmlmiboihjibiaa
open Go.RowKit

set_option maxHeartbeats 8000000 in
set_option maxRecDepth 100000 in
theorem setParts_any (x : Itm) (v : Value) (os : List Itm) (Ao : Option Addr) (co : Nat) (w : World) (B : Nat) (hs : x.Small) (hB : B ≤ w.heap.size) (h : ItemV w B v x) (hso : ∀ y ∈ os, y.Small) (hlo : os.length ≤ 1048575) (hO : ItemsV w B (.slice Ao os.length co) os) :
    Calls Try.prog 9 #[v, .slice Ao os.length co] w fun e w' => e = .returned (.bool true) ∧ Fr [] w w' := by
  obtain ⟨i0, hi, hz0, hz1, hz2⟩ := info_parts itemInfo
  obtain ⟨al, hal⟩ : ∃ al, al = x :: os := ⟨_, rfl⟩
  have hall : al.length = os.length + 1 := by rw [hal]; rfl
  have hsl : ∀ y ∈ al, y.Small := fun y hy => by
    rw [hal] at hy
    rcases List.mem_cons.1 hy with rfl | hy
    · exact hs
    · exact hso y hy
  have hla : al.length ≤ 1048576 := by omega
  have ME := Lib.hid (fun (W : World) u (h : ItemsV W W.heap.size u al) => setMeet_any al u W W.heap.size hsl hla (Nat.le_refl _) h)
  have JO := Lib.hid (fun (W : World) u (h : ItemsV W W.heap.size u al) => setJoin_any al u W W.heap.size hsl hla (Nat.le_refl _) h)
  have LE := Lib.hid (fun (W : World) u (h : ItemsV W W.heap.size u al) => setLess_any al u W W.heap.size hsl hla (Nat.le_refl _) h)
  have OJ := Lib.hid (fun (W : World) (hW : Fr [] w W) => setJoin_any os _ W B hso (by omega) (Nat.le_trans hB hW.size) (hO.fr hW hB (by simp)))
  have SL := Lib.hid hsl
  have SM := Lib.hid (fun (W : World) (a : List ByteArray) A1 A2 c1 c2 (ha : a.length ≤ 281474976710656) (h : Sl W W.heap.size 1 (.slice A1 a.length c1) a.length (textsV a)) (k : Sl W W.heap.size 1 (.slice A2 a.length c2) a.length (textsV a)) => (show Calls Try.prog 25 #[.slice A1 a.length c1, .slice A2 a.length c2] W (fun e w' => e = .returned (.bool true) ∧ Fr [] W w') from by
    have := sameTexts_any a a A1 A2 c1 c2 W.heap.size W ha ha (Nat.le_refl _) h k
    rw [show sameT a a = true from by simp [sameT]] at this
    exact this))
  have IL := Lib.hid (fun (W : World) (l : List ByteArray) (s : ByteArray) (b : Bool) (hb : hasT l s = b) A c (hl : l.length ≤ 281474976710656) (h : Sl W W.heap.size 1 (.slice A l.length c) l.length (textsV l)) => (show Calls Try.prog 56 #[.slice A l.length c, .string s] W (fun e w' => e = .returned (.bool b) ∧ W = w') from hb ▸ inList_any l s A c W.heap.size W hl (Nat.le_refl _) h))
  have LM := Lib.hid (setsR_len (p := meetP al.length) hla)
  have LJ := Lib.hid (setsR_len (p := joinP) hla)
  have LL := Lib.hid (setsR_len (p := lessP) hla)
  have LO := Lib.hid (setsR_len (p := joinP) (show os.length ≤ 1048576 by omega))
  obtain ⟨Ao', co', rs, hv', hrl, hri, hrs⟩ := hO
  cases hv'
  have RI := Lib.hid hri
  have RS := Lib.hid hrs
  have RO := Lib.hid (items_one hrl hri)
  have HXI := Lib.hid h
  have HEA := Lib.hid hal
  have hap : 0 < al.length := by omega
  clear hall
  have E0 := Lib.hid (Env.start w)
  have E1 := Lib.hid (E0.out.item (h.more hB))
  obtain ⟨A1, c1, A2, c2, A3, c3, rfl⟩ := h.form
  have H1 := Lib.hid (show Sl w B 1 (.slice A1 x.list.length c1) x.list.length (textsV x.list) from by obtain ⟨_, _, _, _, _, _, he, k1, _, _⟩ := h; cases he; exact k1)
  have hxl := hs.list
  clear h hs hri hrs hsl hso
  have E2 := Lib.hid (E1.out.box (.int .i64 x.kind) (.string x.text) (.slice A1 x.list.length c1) (.slice A2 x.pairs.length c2) (.slice A3 x.scores.length c3))
  have q5 : (setsCode al == setsCode al) = true := by simp
  clear hal
  by_cases hcn : setsCode al ≠ 0
  · have qn : (setsCode al != 0) = true := by simpa using hcn
    clear hcn
    generalize setsR (meetP al.length) al = rm at *
    generalize setsR joinP al = rj at *
    generalize setsR lessP al = rl at *
    generalize setsCode al = ac at *
    go_enter Try.func9, Try.ntmps9
    go_wp2_with fail
    refine (setBegun_any _).mono ?_
    rintro e w1 ⟨rfl, f1⟩
    have E3 := Lib.hid (E2.out.go f1)
    obtain ⟨d0, d1, d2, d3, d4⟩ := five (E3.out.bl _ (.head _))
    have hO1 := (World.ownsRow_lit (base := w1.heap.size) (e := 26) (size := 5) w1 #[.int .i64 x.kind, .string x.text, .slice A1 x.list.length c1, .slice A2 x.pairs.length c2, .slice A3 x.scores.length c3] 1 (Nat.le_refl _) (by decide) rfl)
    have hfa := (Fr.refl [] w1).alloc (.cells #[.int .i64 x.kind, .string x.text, .slice A1 x.list.length c1, .slice A2 x.pairs.length c2, .slice A3 x.scores.length c3] 26)
    have HR1 := Lib.hid (RS.out.fr (E3.out.f.trans hfa) hB (by simp))
    go_wp2_with (at_builtin; refine wpList_append_sl _ rfl _ _ 68 rfl w1.heap.size 26 i0 _ 5 96 Try.underlying68 hi hz0 hz1 hz2 rfl (by decide) _ _ _ rfl hO1 B _ os.length rs.flatten rfl HR1.out RO.out ?c1 ?c2 (by simp) ?_)
    case c1 => unfold maxLen; omega
    case c2 => omega
    intro va w2 hown hgrow hat
    have f2 : Fr [] w1 w2 := hfa.grown hgrow (fun k hk => .inr (by simp [Value.ownBlock] at hk; omega))
    have E4 := Lib.hid (E3.out.go f2)
    have HAL := Lib.hid (show ItemsV w2 w2.heap.size va al from by
      rw [HEA.out]
      exact items_cons (c5 := [.int .i64 x.kind, .string x.text, .slice A1 x.list.length c1, .slice A2 x.pairs.length c2, .slice A3 x.scores.length c3]) rfl ((HXI.out.fr E4.out.f hB (by simp)).more (Nat.le_trans hB E4.out.f.size)) hrl (fun i y hy => by
        obtain ⟨cs, g1, g2, g3⟩ := RI.out i y hy
        exact ⟨cs, g1, g2, (g3.fr E4.out.f hB (by simp)).more (Nat.le_trans hB E4.out.f.size)⟩) hown)
    obtain ⟨Aa, ca, rfl⟩ := HAL.out.form
    clear hown hgrow hat hO1 hfa f2
    clear d0 d1 d2 d3 d4
    have FA0 := Lib.hid (Fr.refl [] w2)
    go_wp2_with fail
    refine (ME.out _ _ ((HAL.out.fr FA0.out (Nat.le_refl _) (by simp)).more FA0.out.size)).mono ?_
    rintro e w3 ⟨um, rfl, om, f3⟩
    have E5 := Lib.hid (E4.out.go f3)
    have FAm := Lib.hid (FA0.out.trans f3)
    have E6 := Lib.hid (E5.out.row (own_sl om))
    obtain ⟨Am, cm, rfl, -⟩ := own_slice om
    clear om
    go_wp2_with fail
    refine (JO.out _ _ ((HAL.out.fr FAm.out (Nat.le_refl _) (by simp)).more FAm.out.size)).mono ?_
    rintro e w4 ⟨uj, rfl, oj, f4⟩
    have E7 := Lib.hid (E6.out.go f4)
    have FAj := Lib.hid (FAm.out.trans f4)
    have E8 := Lib.hid (E7.out.row (own_sl oj))
    obtain ⟨Aj, cj, rfl, -⟩ := own_slice oj
    clear oj
    go_wp2_with fail
    refine (LE.out _ _ ((HAL.out.fr FAj.out (Nat.le_refl _) (by simp)).more FAj.out.size)).mono ?_
    rintro e w5 ⟨uk, rfl, ok, f5⟩
    have E9 := Lib.hid (E8.out.go f5)
    have FAk := Lib.hid (FAj.out.trans f5)
    have E10 := Lib.hid (E9.out.row (own_sl ok))
    obtain ⟨Ak, ck, rfl, -⟩ := own_slice ok
    clear ok
    go_wp2
    go_ret
    exact ⟨rfl, E10.out.f⟩
  · have hc : setsCode al = 0 := by simpa using hcn
    clear hcn
    have hc' : setsCode (x :: os) = 0 := by rw [← HEA.out]; exact hc
    have MI := Lib.hid (fun (W : World) (y : Itm) (hy : y ∈ al) (s : ByteArray) (hs : s ∈ setsR (meetP al.length) al) u (h : ItemV W W.heap.size u y) => (show Calls Try.prog 47 #[u, .string s] W (fun e w' => e = .returned (.tuple #[.bool true, .int .i64 0]) ∧ Fr [] W w') from by
      have := setHasOp_any y u s W W.heap.size (SL.out y hy) (Nat.le_refl _) h
      rw [meet_in hc hs hy, (setsCode_as hc).1 y hy] at this
      exact this))
    have IJ := Lib.hid (fun (y : Itm) (hy : y ∈ al) (s : ByteArray) (hs : s ∈ y.list) => in_join hc hy hs)
    have LI := Lib.hid (fun (s : ByteArray) (hs : s ∈ setsR lessP al) => less_in hc' (show s ∈ setsR lessP (x :: os) from by rw [← HEA.out]; exact hs))
    have LX := Lib.hid (fun (h0 : 0 < os.length) (s : ByteArray) (hs : s ∈ x.list) => (show hasT (setsR lessP al) s = !hasT (setsR joinP os) s from by rw [HEA.out]; exact less_or hc' h0 hs))
    have ON := Lib.hid (fun (h0 : os.length = 0) => (show setsR lessP al = x.list ∧ setsR (meetP al.length) al = x.list ∧ setsR joinP al = x.list from by
      have e : os = [] := List.eq_nil_of_length_eq_zero h0
      have ea : al = [x] := by rw [HEA.out, e]
      rw [ea]
      rw [ea] at hc
      exact one_all hc))
    have OC := Lib.hid (fun (h0 : 0 < os.length) => (show setsCode os = 0 from setsCode_of (fun y hy => (setsCode_as hc').1 y (by simp [hy])) h0))
    rw [hc] at ME JO LE q5
    clear hc hc'
    generalize setsR (meetP al.length) al = rm at *
    generalize setsR joinP al = rj at *
    generalize setsR lessP al = rl at *
    go_enter Try.func9, Try.ntmps9
    go_wp2_with fail
    refine (setBegun_any _).mono ?_
    rintro e w1 ⟨rfl, f1⟩
    have E3 := Lib.hid (E2.out.go f1)
    obtain ⟨d0, d1, d2, d3, d4⟩ := five (E3.out.bl _ (.head _))
    have hO1 := (World.ownsRow_lit (base := w1.heap.size) (e := 26) (size := 5) w1 #[.int .i64 x.kind, .string x.text, .slice A1 x.list.length c1, .slice A2 x.pairs.length c2, .slice A3 x.scores.length c3] 1 (Nat.le_refl _) (by decide) rfl)
    have hfa := (Fr.refl [] w1).alloc (.cells #[.int .i64 x.kind, .string x.text, .slice A1 x.list.length c1, .slice A2 x.pairs.length c2, .slice A3 x.scores.length c3] 26)
    have HR1 := Lib.hid (RS.out.fr (E3.out.f.trans hfa) hB (by simp))
    go_wp2_with (at_builtin; refine wpList_append_sl _ rfl _ _ 68 rfl w1.heap.size 26 i0 _ 5 96 Try.underlying68 hi hz0 hz1 hz2 rfl (by decide) _ _ _ rfl hO1 B _ os.length rs.flatten rfl HR1.out RO.out ?c1 ?c2 (by simp) ?_)
    case c1 => unfold maxLen; omega
    case c2 => omega
    intro va w2 hown hgrow hat
    have f2 : Fr [] w1 w2 := hfa.grown hgrow (fun k hk => .inr (by simp [Value.ownBlock] at hk; omega))
    have E4 := Lib.hid (E3.out.go f2)
    have HAL := Lib.hid (show ItemsV w2 w2.heap.size va al from by
      rw [HEA.out]
      exact items_cons (c5 := [.int .i64 x.kind, .string x.text, .slice A1 x.list.length c1, .slice A2 x.pairs.length c2, .slice A3 x.scores.length c3]) rfl ((HXI.out.fr E4.out.f hB (by simp)).more (Nat.le_trans hB E4.out.f.size)) hrl (fun i y hy => by
        obtain ⟨cs, g1, g2, g3⟩ := RI.out i y hy
        exact ⟨cs, g1, g2, (g3.fr E4.out.f hB (by simp)).more (Nat.le_trans hB E4.out.f.size)⟩) hown)
    obtain ⟨Aa, ca, rfl⟩ := HAL.out.form
    clear hown hgrow hat hO1 hfa f2
    clear d0 d1 d2 d3 d4
    have FA0 := Lib.hid (Fr.refl [] w2)
    go_wp2_with fail
    refine (ME.out _ _ ((HAL.out.fr FA0.out (Nat.le_refl _) (by simp)).more FA0.out.size)).mono ?_
    rintro e w3 ⟨um, rfl, om, f3⟩
    have E5 := Lib.hid (E4.out.go f3)
    have FAm := Lib.hid (FA0.out.trans f3)
    have E6 := Lib.hid (E5.out.row (own_sl om))
    obtain ⟨Am, cm, rfl, -⟩ := own_slice om
    clear om
    go_wp2_with fail
    refine (JO.out _ _ ((HAL.out.fr FAm.out (Nat.le_refl _) (by simp)).more FAm.out.size)).mono ?_
    rintro e w4 ⟨uj, rfl, oj, f4⟩
    have E7 := Lib.hid (E6.out.go f4)
    have FAj := Lib.hid (FAm.out.trans f4)
    have E8 := Lib.hid (E7.out.row (own_sl oj))
    obtain ⟨Aj, cj, rfl, -⟩ := own_slice oj
    clear oj
    go_wp2_with fail
    refine (LE.out _ _ ((HAL.out.fr FAj.out (Nat.le_refl _) (by simp)).more FAj.out.size)).mono ?_
    rintro e w5 ⟨uk, rfl, ok, f5⟩
    have E9 := Lib.hid (E8.out.go f5)
    have FAk := Lib.hid (FAj.out.trans f5)
    have E10 := Lib.hid (E9.out.row (own_sl ok))
    obtain ⟨Ak, ck, rfl, -⟩ := own_slice ok
    clear ok
    have FAS := Lib.hid FAk.out
    obtain ⟨bA, oA, rfl, hbA, hcA, hmA, hatA⟩ := (HAL.out.fr FAS.out (Nat.le_refl _) (by simp)).at_ (by omega)
    have HAT := Lib.hid hatA
    have hwA : w2.heap.size ≤ w5.heap.size := FAS.out.size
    unfold maxLen at hmA
    clear hatA
    go_wp2
    go_loopg [12] al.length (fun g i wr => ∃ (k : Nat), g = al.length - k ∧ k ≤ al.length ∧ i = .int .i64 k ∧ Fr [] w5 wr)
    case atStart => exact ⟨0, rfl, Nat.zero_le _, rfl, Fr.refl _ _⟩
    case round =>
      obtain ⟨k, rfl, hk, rfl, hf⟩ := hrel
      have HFo := Lib.hid hf
      have EO := Lib.hid (E10.out.go hf)
      clear hf
      by_cases hlt : k < al.length
      · obtain ⟨y, hy⟩ : ∃ y, al[k]? = some y := ⟨_, List.getElem?_eq_getElem hlt⟩
        obtain ⟨Y1, Y2, Y3, y1, y2, y3, h5⟩ := HAT.out k y hy
        have H5 := Lib.hid h5
        have hym := List.mem_of_getElem? hy
        have hyl := (SL.out y hym).list
        have ix0 : (0 : Int) ≤ (k : Int) := by omega
        have ix1 : (k : Int) < (al.length : Int) := by omega
        clear h5
        obtain ⟨wo, rfl⟩ : ∃ wo, wo = wr := ⟨_, rfl⟩
        go_wp2
        go_loopg [13] rm.length (fun g i wr => ∃ (q : Nat), g = rm.length - q ∧ q ≤ rm.length ∧ i = .int .i64 q ∧ Fr [] w5 wr)
        case atStart => exact ⟨0, rfl, Nat.zero_le _, rfl, HFo.out⟩
        case round =>
          obtain ⟨q, rfl, hq, rfl, hf⟩ := hrel
          have HFi := Lib.hid hf
          have EI := Lib.hid (E10.out.go hf)
          have hwr : w2.heap.size ≤ wr.heap.size := Nat.le_trans hwA hf.size
          have P5 := Lib.hid (H5.out.fr hf hbA hwA (by simp))
          obtain ⟨g0, g1, g2, g3, g4⟩ : _ ∧ _ ∧ _ ∧ _ ∧ _ := ⟨P5.out.k0, P5.out.k1, P5.out.k2, P5.out.k3, P5.out.k4⟩
          clear hf
          by_cases hlt2 : q < rm.length
          · have hro := (EI.out.rs _ (.tail _ (.tail _ (.head _))))
            obtain ⟨bm, om, rfl, hbm, hcm, hmm, hcell⟩ := Sl.at_ hro (by omega)
            obtain ⟨s, hs⟩ : ∃ s, rm[q]? = some s := ⟨_, List.getElem?_eq_getElem hlt2⟩
            have m1 : wr.cell? ⟨bm, om + q, none⟩ = some (.string s) := hcell q _ (textsV_get _ q s hs)
            have MI2 := Lib.hid (fun W u h => MI.out W y hym s (List.mem_of_getElem? hs) u h)
            have jx0 : (0 : Int) ≤ (q : Int) := by omega
            have jx1 : (q : Int) < (rm.length : Int) := by omega
            unfold maxLen at hmm
            clear hcell hro hs
            go_wp2
            go_region_held3 (fun wx => wx.cell? ⟨bA, oA + k * 5, none⟩ = some (.int .i64 y.kind) ∧ wx.cell? ⟨bA, oA + k * 5 + 1, none⟩ = some (.string y.text) ∧ wx.cell? ⟨bA, oA + k * 5 + 2, none⟩ = some (.slice Y1 y.list.length y1) ∧ wx.cell? ⟨bA, oA + k * 5 + 3, none⟩ = some (.slice Y2 y.pairs.length y2) ∧ wx.cell? ⟨bA, oA + k * 5 + 4, none⟩ = some (.slice Y3 y.scores.length y3) ∧ wx.cell? ⟨bm, om + q, none⟩ = some (.string s)) (go_keep) (first | (go_at_call 47; (refine (MI2.out _ _ ((P5.out.item.fr ((Fr.refl [] wr).drew) hwr (by simp)).more hwr)).mono ?_); rintro e w50 ⟨rfl, fz⟩; have G50 := Lib.hid (fr_predrew fz); clear fz; have g0 := G50.out.cell g0 (by simp); have g1 := G50.out.cell g1 (by simp); have g2 := G50.out.cell g2 (by simp); have g3 := G50.out.cell g3 (by simp); have g4 := G50.out.cell g4 (by simp); have m1 := G50.out.cell m1 (by simp)))
            go_wp2
            go_roundg (rm.length - (q + 1))
            case measure => omega
            case rel => exact ⟨q + 1, rfl, by omega, by go_num, HFi.out.trans G50.out⟩
          · obtain rfl : q = rm.length := by omega
            clear P5 g0 g1 g3 g4 hlt2
            go_wp2
            go_loopg [16] y.list.length (fun g i wr => ∃ (q : Nat), g = y.list.length - q ∧ q ≤ y.list.length ∧ i = .int .i64 q ∧ Fr [] w5 wr)
            case atStart => exact ⟨0, rfl, Nat.zero_le _, rfl, HFi.out⟩
            case round =>
              clear HFi EI g2
              obtain ⟨q, rfl, hq, rfl, hf⟩ := hrel
              have HFi := Lib.hid hf
              have EI := Lib.hid (E10.out.go hf)
              have P5 := Lib.hid (H5.out.fr hf hbA hwA (by simp))
              have g2 := P5.out.k2
              clear hf
              by_cases hlt2 : q < y.list.length
              · obtain ⟨bm, om, rfl, hbm, hcm, hmm, hcell⟩ := P5.out.s1.at_ (by omega)
                obtain ⟨s, hs⟩ : ∃ s, y.list[q]? = some s := ⟨_, List.getElem?_eq_getElem hlt2⟩
                have m1 : wr.cell? ⟨bm, om + q, none⟩ = some (.string s) := hcell q _ (textsV_get _ q s hs)
                have hij := IJ.out y hym s (List.mem_of_getElem? hs)
                have C1 := Lib.hid (IL.out wr rj s true hij _ _ LJ.out (EI.out.rs _ (.tail _ (.head _))))
                have jx0 : (0 : Int) ≤ (q : Int) := by omega
                have jx1 : (q : Int) < (y.list.length : Int) := by omega
                unfold maxLen at hmm
                clear hcell hs hij
                go_wp2_with fail
                refine C1.out.mono ?_
                rintro e w51 ⟨rfl, rfl⟩
                go_wp2
                go_roundg (y.list.length - (q + 1))
                case measure => omega
                case rel => exact ⟨q + 1, rfl, by omega, by go_num, HFi.out⟩
              · obtain rfl : q = y.list.length := by omega
                go_wp2
                go_roundg (al.length - (k + 1))
                case measure => omega
                case rel => exact ⟨k + 1, rfl, by omega, by go_num, HFi.out⟩
      · obtain rfl : k = al.length := by omega
        clear hlt HAT
        by_cases h0 : os.length = 0
        · obtain ⟨rfl, rfl, rfl⟩ := ON.out h0
          have q0 : ((os.length : Int) == 0) = true := by simp [h0]
          clear h0 ON OC LX LI IJ MI

          have E11 := Lib.hid EO.out
          have HX1 := Lib.hid ((H1.out.fr E11.out.f hB (by simp)).more (Nat.le_trans hB E11.out.f.size))
          have E12 := Lib.hid (E11.out.row HX1.out)
          obtain ⟨d0, d1, d2, d3, d4⟩ := five (E12.out.bl _ (.head _))
          go_wp2_with fail
          refine (SM.out _ _ _ _ _ _ hxl (E12.out.rs _ (.tail _ (.head _))) (E12.out.rs _ (.head _))).mono ?_
          rintro e w6 ⟨rfl, f6⟩
          have E13 := Lib.hid (E12.out.go f6)
          clear d0 d1 d2 d3 d4
          go_wp2_with fail
          refine (SM.out _ _ _ _ _ _ hxl (E13.out.rs _ (.tail _ (.tail _ (.tail _ (.head _))))) (E13.out.rs _ (.tail _ (.head _)))).mono ?_
          rintro e w7 ⟨rfl, f7⟩
          have E14 := Lib.hid (E13.out.go f7)
          go_wp2_with fail
          refine (SM.out _ _ _ _ _ _ hxl (E14.out.rs _ (.tail _ (.tail _ (.head _)))) (E14.out.rs _ (.tail _ (.head _)))).mono ?_
          rintro e w8 ⟨rfl, f8⟩
          have E15 := Lib.hid (E14.out.go f8)
          go_wp2
          go_ret
          exact ⟨rfl, E15.out.f⟩
        · have q0 : ((os.length : Int) == 0) = false := by simpa using h0
          have h0' : 0 < os.length := by omega
          have hoc := OC.out h0'
          have LX2 := Lib.hid (LX.out h0')
          rw [hoc] at OJ
          clear h0 h0' hoc ON OC LX IJ MI
          generalize setsR joinP os = ro at *
          have E11 := Lib.hid EO.out
          go_wp2_with fail
          refine (OJ.out _ E11.out.f).mono ?_
          rintro e w6 ⟨uo, rfl, oo, f6⟩
          have E12 := Lib.hid (E11.out.go f6)
          have E13 := Lib.hid (E12.out.row (own_sl oo))
          obtain ⟨Ao_, co_, rfl, -⟩ := own_slice oo
          clear oo
          go_wp2
          go_loopg [18] x.list.length (fun g i wr => ∃ (q : Nat), g = x.list.length - q ∧ q ≤ x.list.length ∧ i = .int .i64 q ∧ Fr [] w6 wr)
          case atStart => exact ⟨0, rfl, Nat.zero_le _, rfl, Fr.refl _ _⟩
          case round =>
            obtain ⟨q, rfl, hq, rfl, hf⟩ := hrel
            have HFi := Lib.hid hf
            have EI := Lib.hid (E13.out.go hf)
            clear hf
            obtain ⟨d0, d1, d2, d3, d4⟩ := five (EI.out.bl _ (.head _))
            by_cases hlt2 : q < x.list.length
            · obtain ⟨bm, om, rfl, hbm, hcm, hmm, hcell⟩ := H1.out.at_ (by omega)
              obtain ⟨s, hs⟩ : ∃ s, x.list[q]? = some s := ⟨_, List.getElem?_eq_getElem hlt2⟩
              have m1 := EI.out.f.cell (show w.cell? ⟨bm, om + q, none⟩ = some (.string s) from hcell q _ (textsV_get _ q s hs)) (by simp)
              have hlo2 := LX2.out s (List.mem_of_getElem? hs)
              have jx0 : (0 : Int) ≤ (q : Int) := by omega
              have jx1 : (q : Int) < (x.list.length : Int) := by omega
              unfold maxLen at hmm
              rcases ht : hasT ro s with _ | _
              · have hl3 : hasT rl s = true := by rw [hlo2, ht]; rfl
                have C1 := Lib.hid (fun W h => IL.out W rl s true hl3 Ak ck LL.out h)
                have C2 := Lib.hid (fun W h => IL.out W ro s false ht Ao_ co_ LO.out h)
                have R1 := Lib.hid (C1.out wr.drew (EI.out.drew.rs _ (.tail _ (.head _))))
                have R2 := Lib.hid (C2.out wr.drew (EI.out.drew.rs _ (.head _)))
                clear hcell hs hlo2 ht hl3 C1 C2
                go_wp2
                go_region_held3 (fun wx => wx.cell? ⟨w.heap.size, 2, none⟩ = some (.slice (some ⟨bm, om, none⟩) x.list.length c1) ∧ wx.cell? ⟨bm, om + q, none⟩ = some (.string s)) (go_keep) (first | (go_at_call 56; (first | (with_reducible refine R1.out.mono ?_) | (with_reducible refine R2.out.mono ?_)); rintro e w52 ⟨rfl, rfl⟩))
                go_wp2
                go_roundg (x.list.length - (q + 1))
                case measure => omega
                case rel => exact ⟨q + 1, rfl, by omega, by go_num, HFi.out.drew⟩
              · have hl3 : hasT rl s = false := by rw [hlo2, ht]; rfl
                have C1 := Lib.hid (fun W h => IL.out W rl s false hl3 Ak ck LL.out h)
                have C2 := Lib.hid (fun W h => IL.out W ro s true ht Ao_ co_ LO.out h)
                have R1 := Lib.hid (C1.out wr.drew (EI.out.drew.rs _ (.tail _ (.head _))))
                have R2 := Lib.hid (C2.out wr.drew (EI.out.drew.rs _ (.head _)))
                clear hcell hs hlo2 ht hl3 C1 C2
                go_wp2
                go_region_held3 (fun wx => wx.cell? ⟨w.heap.size, 2, none⟩ = some (.slice (some ⟨bm, om, none⟩) x.list.length c1) ∧ wx.cell? ⟨bm, om + q, none⟩ = some (.string s)) (go_keep) (first | (go_at_call 56; (first | (with_reducible refine R1.out.mono ?_) | (with_reducible refine R2.out.mono ?_)); rintro e w52 ⟨rfl, rfl⟩))
                go_wp2
                go_roundg (x.list.length - (q + 1))
                case measure => omega
                case rel => exact ⟨q + 1, rfl, by omega, by go_num, HFi.out.drew⟩
            · obtain rfl : q = x.list.length := by omega
              go_wp2
              go_loopg [19] rl.length (fun g i wr => ∃ (q : Nat), g = rl.length - q ∧ q ≤ rl.length ∧ i = .int .i64 q ∧ Fr [] w6 wr)
              case atStart => exact ⟨0, rfl, Nat.zero_le _, rfl, HFi.out⟩
              case round =>
                clear HFi EI d0 d1 d2 d3 d4
                obtain ⟨q, rfl, hq, rfl, hf⟩ := hrel
                have HFi := Lib.hid hf
                have EI := Lib.hid (E13.out.go hf)
                clear hf
                obtain ⟨d0, d1, d2, d3, d4⟩ := five (EI.out.bl _ (.head _))
                by_cases hlt2 : q < rl.length
                · have hro := (EI.out.rs _ (.tail _ (.head _)))
                  obtain ⟨bm, om, rfl, hbm, hcm, hmm, hcell⟩ := Sl.at_ hro (by omega)
                  obtain ⟨s, hs⟩ : ∃ s, rl[q]? = some s := ⟨_, List.getElem?_eq_getElem hlt2⟩
                  have m1 : wr.cell? ⟨bm, om + q, none⟩ = some (.string s) := hcell q _ (textsV_get _ q s hs)
                  have hin := LI.out s (List.mem_of_getElem? hs)
                  have C1 := Lib.hid (fun W h => IL.out W x.list s true hin A1 c1 hxl h)
                  have jx0 : (0 : Int) ≤ (q : Int) := by omega
                  have jx1 : (q : Int) < (rl.length : Int) := by omega
                  unfold maxLen at hmm
                  clear hcell hro hs hin
                  go_wp2
                  go_region_held3 (fun wx => wx.cell? ⟨w.heap.size, 2, none⟩ = some (.slice A1 x.list.length c1) ∧ wx.cell? ⟨bm, om + q, none⟩ = some (.string s)) (go_keep) (first | (go_at_call 56; (refine (C1.out _ ((H1.out.fr EI.out.drew.f hB (by simp)).more (Nat.le_trans hB EI.out.drew.f.size))).mono ?_); rintro e w52 ⟨rfl, rfl⟩))
                  go_wp2
                  go_roundg (rl.length - (q + 1))
                  case measure => omega
                  case rel => exact ⟨q + 1, rfl, by omega, by go_num, HFi.out.drew⟩
                · obtain rfl : q = rl.length := by omega
                  go_wp2
                  go_ret
                  exact ⟨rfl, EI.out.f⟩
end Go.Proofs.Ytmlmiboihjibiaa
