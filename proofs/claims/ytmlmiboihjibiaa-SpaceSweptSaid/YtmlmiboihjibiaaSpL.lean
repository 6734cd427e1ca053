/- The walks of space.Keys and of the document's KeysOf. -/
import Derived.Test.YtmlmiboihjibiaaSpJ
import Derived.Test.YtmlmiboihjibiaaSpH
import Derived.Test.YtmlmiboihjibiaaGlobH
import Derived.Test.YtmlmiboihjibiaaGlobI
set_option linter.unusedVariables false
set_option linter.unusedSimpArgs false
namespace Go.Proofs.Ytmlmiboihjibiaa
open Go.RowKit

def keyM (p : ByteArray) (now : Int) (e : Ent) : Bool := matchAns p e.key && !goneB e.til now
def keysL (l : List Ent) (now : Int) (p : ByteArray) : List ByteArray := (l.filter (keyM p now)).map Ent.key
def keysC (l : List Ent) (now : Int) (p : ByteArray) : Int := if atCode l now ⟨#[]⟩ = 0 then checkGlob p else atCode l now ⟨#[]⟩
def keysR (l : List Ent) (now : Int) (p : ByteArray) : List ByteArray := if keysC l now p = 0 then keysL l now p else []
def TCP (r : List ByteArray) (c : Int) (w : World) (e : Ending) (w' : World) : Prop := ∃ A n, e = .returned (.tuple #[.slice A r.length n, .int .i64 c]) ∧ w'.ownsRow w.heap.size 9 1 (.slice A r.length n) r.length (textsV r) ∧ Fr [] w w'
theorem keys_step {l : List Ent} {k : Nat} {e : Ent} (now : Int) (p : ByteArray) (h : l[k]? = some e) : keysL (l.take (k + 1)) now p = keysL (l.take k) now p ++ (if keyM p now e = true then [e.key] else []) := by
  unfold keysL
  rw [filter_step _ h, List.map_append]
  congr 1
  split <;> rfl
theorem keys_len (l : List Ent) (k : Nat) (now : Int) (p : ByteArray) : (keysL (l.take k) now p).length ≤ l.length := by
  unfold keysL
  rw [List.length_map]
  exact filter_take_le _ _

set_option maxHeartbeats 4000000 in
set_option maxRecDepth 100000 in
theorem spaceKeys_any (l : List Ent) (v : Value) (now : Int) (p : ByteArray) (w : World) (B : Nat) (hs : ∀ e ∈ l, e.Small) (hl : l.length ≤ 281474976710656) (hz : p.size ≤ 281474976710656) (hB : B ≤ w.heap.size) (h : EntsV w B v l) :
    Calls Try.prog 29 #[v, .int .i64 now, .string p] w (TCP (keysR l now p) (keysC l now p) w) := by
  obtain ⟨i0, hi, hz0, hz1, hz2⟩ := info_parts stringInfo
  obtain ⟨A, c, rfl⟩ := h.form
  have RD := Lib.hid (spaceReady_any l _ now ⟨#[]⟩ w B hs hl (by decide) hB h)
  have GC := Lib.hid (fun W => globCheck_any p W hz)
  have HV := Lib.hid h
  have HS := Lib.hid hs
  have EC := Lib.hid (show keysC l now p = if atCode l now ⟨#[]⟩ = 0 then checkGlob p else atCode l now ⟨#[]⟩ from rfl)
  have ER := Lib.hid (show keysR l now p = if keysC l now p = 0 then keysL l now p else [] from rfl)
  clear h hs
  by_cases ha : atCode l now ⟨#[]⟩ = 0
  · rw [if_pos ha] at EC
    have hl16 := (spOk (atOk ha).1).le
    rw [ha] at RD
    rw [EC.out] at ER ⊢
    clear ha EC
    by_cases hg : checkGlob p = 0
    · rw [if_pos hg] at ER
      rw [hg] at GC ⊢
      rw [ER.out]
      clear hg ER
      go_enter Try.func29, Try.ntmps29
      go_wp2_with fail
      refine RD.out.mono ?_
      rintro e1 w1 ⟨rfl, f1⟩
      go_wp2_with fail
      refine (GC.out _).mono ?_
      rintro e2 w2 ⟨rfl, f2⟩
      have F2 := Lib.hid (f1.trans f2)
      clear f1 f2
      go_wp2
      go_loopg [9, 26] l.length (fun g o i wr => ∃ (k : Nat) (cur : List ByteArray), g = l.length - k ∧ k ≤ l.length ∧ i = .int .i64 k ∧ Hid (cur = keysL (l.take k) now p) ∧ wr.ownsRow w.heap.size 9 1 o cur.length (textsV cur) ∧ Fr [] w wr)
      case atStart => exact ⟨0, [], rfl, Nat.zero_le _, rfl, Lib.hid rfl, World.ownsRow_nil _ _ _ _, F2.out⟩
      case round =>
        obtain ⟨k, cur, rfl, hk, rfl, hcur, hO, hf⟩ := hrel
        have HF := Lib.hid hf
        have HO := Lib.hid hO
        have hzz := hf.size
        obtain ⟨Ao, co, rfl, -⟩ := own_slice hO
        have hcl : cur.length ≤ l.length := by rw [hcur.out]; exact keys_len _ _ _ _
        clear hf hO F2
        by_cases hlt : k < l.length
        · obtain ⟨b, off, rfl, hb, hc, hmx, hat⟩ := HV.out.at_ (by omega)
          obtain ⟨e, he⟩ : ∃ e, l[k]? = some e := ⟨_, List.getElem?_eq_getElem hlt⟩
          obtain ⟨A1, A2, A3, c1, c2, c3, h7⟩ := hat k e he
          have hes := (HS.out e (List.mem_of_getElem? he)).key
          have P7 := Lib.hid (h7.fr HF.out hb hB (by simp))
          obtain ⟨x0, x1, x2, x3, x4, x5, x6, -⟩ := P7.out
          have ET := Lib.hid (keys_step now p he)
          have GM := Lib.hid (fun W => globMatch_any p e.key W hz hes)
          have GO := Lib.hid (fun W => gone_any e.til now W)
          have V1 := Lib.hid (Whole.new wr 58 [.string e.key, .int .i64 e.item.kind, .string e.item.text, .slice A1 e.item.list.length c1, .slice A2 e.item.pairs.length c2, .slice A3 e.item.scores.length c3, .int .i64 e.til])
          have F1 := Lib.hid ((Fr.refl [] wr).alloc (.cells #[.string e.key, .int .i64 e.item.kind, .string e.item.text, .slice A1 e.item.list.length c1, .slice A2 e.item.pairs.length c2, .slice A3 e.item.scores.length c3, .int .i64 e.til] 58))
          have KM := Lib.hid (show keyM p now e = (matchAns p e.key && !goneB e.til now) from rfl)
          clear hat h7 he hes
          rw [KM.out, ← hcur.out] at ET
          generalize matchCode p e.key = mc at *
          rcases hm : matchAns p e.key with _ | _
          · rw [hm] at GM ET
            have ET2 := Lib.hid (ET.out.trans (by rw [Bool.false_and, if_neg (by decide), List.append_nil]))
            clear hm ET KM
            go_wp2_with fail
            refine (GM.out _).mono ?_
            rintro e2 w2 ⟨rfl, f2⟩
            have G2 := Lib.hid (F1.out.trans f2)
            clear f2
            go_wp2
            go_roundg (l.length - (k + 1))
            case measure => omega
            case rel => exact ⟨k + 1, cur, rfl, by omega, by go_num, Lib.hid ET2.out.symm, own_fr HO.out G2.out (by simp), HF.out.trans G2.out⟩
          · rcases hg : goneB e.til now with _ | _
            · rw [hm, hg] at ET
              rw [hm] at GM
              rw [hg] at GO
              have ET2 := Lib.hid (ET.out.trans (by rw [show (true && !false) = true from rfl, if_pos rfl]))
              clear hm hg ET KM
              go_wp2_with fail
              refine (GM.out _).mono ?_
              rintro e2 w2 ⟨rfl, f2⟩
              have V2 := Lib.hid (V1.out.fr f2 (by simp))
              have G2 := Lib.hid (F1.out.trans f2)
              clear f2
              have hzw := V2.out.lt
              obtain ⟨y0, y1, y2, y3, y4, y5, y6⟩ := seven V2.out
              have HO2 := Lib.hid ((own_fr HO.out G2.out (by simp)).alloc (.cells #[.string e.key] 9))
              go_wp2_with fail
              refine (GO.out _).mono ?_
              rintro e3 w3 ⟨rfl, rfl⟩
              have hO1 := Lib.hid (own_sl (World.ownsRow_lit (base := w2.heap.size) (e := 9) (size := 1) w2 #[.string e.key] 1 (Nat.le_refl _) (by decide) rfl))
              have h1 : ∀ u ∈ [Value.string e.key], u.oneCell' = true := fun u hu => by simp at hu; subst hu; rfl
              go_wp2_with (at_builtin; refine wpList_append_sl _ rfl _ _ 22 rfl w.heap.size 9 i0 _ 1 16 Try.underlying22 hi hz0 hz1 hz2 rfl (by decide) _ _ _ rfl HO2.out _ _ 1 _ rfl hO1.out h1 ?c1 ?c2 ?c3 ?_)
              case c1 => unfold maxLen; omega
              case c2 => omega
              case c3 => first | omega | (simp; omega)
              intro v' w5 hown hgrow hat5
              have HO5 := Lib.hid hown
              have F5 := Lib.hid ((HF.out.trans (G2.out.alloc (.cells #[.string e.key] 9))).grown hgrow (fun j hj => .inr (HO2.out.lt j hj).1))
              clear hown hgrow hat5
              go_wp2
              go_roundg (l.length - (k + 1))
              case measure => omega
              case rel => exact ⟨k + 1, _, rfl, by omega, by go_num, Lib.hid rfl, by rw [ET2.out, textsV_append, List.length_append]; exact HO5.out, F5.out⟩
            · rw [hm, hg] at ET
              rw [hm] at GM
              rw [hg] at GO
              have ET2 := Lib.hid (ET.out.trans (by rw [show (true && !true) = false from rfl, if_neg (by decide), List.append_nil]))
              clear hm hg ET KM
              go_wp2_with fail
              refine (GM.out _).mono ?_
              rintro e2 w2 ⟨rfl, f2⟩
              have V2 := Lib.hid (V1.out.fr f2 (by simp))
              have G2 := Lib.hid (F1.out.trans f2)
              clear f2
              have hzw := V2.out.lt
              obtain ⟨y0, y1, y2, y3, y4, y5, y6⟩ := seven V2.out
              go_wp2_with fail
              refine (GO.out _).mono ?_
              rintro e3 w3 ⟨rfl, rfl⟩
              go_wp2
              go_roundg (l.length - (k + 1))
              case measure => omega
              case rel => exact ⟨k + 1, cur, rfl, by omega, by go_num, Lib.hid ET2.out.symm, own_fr HO.out G2.out (by simp), HF.out.trans G2.out⟩
        · obtain rfl : k = l.length := by omega
          have hc2 := hcur.out
          rw [List.take_length] at hc2
          go_wp2
          go_ret2
          rw [← hc2]
          exact ⟨_, _, rfl, HO.out, HF.out⟩
    · rw [if_neg hg] at ER
      rw [ER.out]
      have q1 : (checkGlob p != 0) = true := by simpa using hg
      clear hg ER
      generalize checkGlob p = r at *
      go_enter Try.func29, Try.ntmps29
      go_wp2_with fail
      refine RD.out.mono ?_
      rintro e1 w1 ⟨rfl, f1⟩
      go_wp2_with fail
      refine (GC.out _).mono ?_
      rintro e2 w2 ⟨rfl, f2⟩
      go_wp2
      go_ret2
      exact ⟨_, _, rfl, World.ownsRow_nil _ _ _ _, f1.trans f2⟩
  · rw [if_neg ha] at EC
    rw [EC.out] at ER ⊢
    rw [if_neg ha] at ER
    rw [ER.out]
    have q1 : (atCode l now ⟨#[]⟩ != 0) = true := by simpa using ha
    have q2 : (atCode l now ⟨#[]⟩ == 0) = false := by simpa using ha
    clear ha ER EC
    generalize atCode l now ⟨#[]⟩ = r at *
    go_enter Try.func29, Try.ntmps29
    go_wp2_with fail
    refine RD.out.mono ?_
    rintro e1 w1 ⟨rfl, f1⟩
    go_wp2
    go_ret2
    exact ⟨_, _, rfl, World.ownsRow_nil _ _ _ _, f1⟩
end Go.Proofs.Ytmlmiboihjibiaa
