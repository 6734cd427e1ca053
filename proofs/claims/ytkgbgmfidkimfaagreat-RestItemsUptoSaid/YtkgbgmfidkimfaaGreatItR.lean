/- The walk of the reference's CheckItem, second: the loops. The reference's CheckItem, all cases joined. -/
import Derived.Test.YtkgbgmfidkimfaaGreatItC
import Derived.Deep.RegionHeld3
import Derived.Deep.DrawnRows
set_option linter.unusedVariables false
set_option linter.unusedSimpArgs false
namespace Go.Proofs.YtkgbgmfidkimfaaGreat
open Go.RowKit

theorem any_step {α : Type} {q : α → Bool} {l : List α} {m : Nat} {s : α} (h : l[m]? = some s) : (l.drop m).any q = (q s || (l.drop (m + 1)).any q) := by
  obtain ⟨h1, e1⟩ := List.getElem?_eq_some_iff.1 h
  rw [List.drop_eq_getElem_cons h1, e1]
  rfl
theorem any_end {α : Type} {q : α → Bool} {l : List α} {m : Nat} (h : l.length ≤ m) : (l.drop m).any q = false := by
  rw [List.drop_of_length_le h]
  rfl

def badI (p : Int × ByteArray) : Bool := !isInt p.1
theorem allInt {l : List (Int × ByteArray)} (h : l.any badI = false) : ∀ p ∈ l, isInt p.1 = true := by
  intro p hp
  have := List.any_eq_false.1 h p hp
  simpa [badI] using this
theorem dupAt {l : List (Int × ByteArray)} {n m : Nat} {t s : Int × ByteArray} (ht : l[n]? = some t) (hs : l[m]? = some s) (hn : n < m) (he : t.2 = s.2) : ¬ (l.map (·.2)).Nodup := by
  intro h
  have h1 : (l.map (·.2))[n]? = some s.2 := by simp [ht, he]
  have h2 : (l.map (·.2))[m]? = some s.2 := by simp [hs]
  have l1 := (List.getElem?_eq_some_iff.1 h1).1
  have := (List.getElem?_inj l1 h).1 (h1.trans h2.symm)
  omega
theorem noneStep {l : List (Int × ByteArray)} {n : Nat} {t : Int × ByteArray} {s : ByteArray} (h : ∀ (j : Nat) q, j < n → l[j]? = some q → q.2 ≠ s) (ht : l[n]? = some t) (hne : ¬ t.2 = s) : ∀ (j : Nat) q, j < n + 1 → l[j]? = some q → q.2 ≠ s := by
  intro j q hj hq
  rcases Nat.lt_or_ge j n with h1 | h1
  · exact h j q h1 hq
  · have e : j = n := by omega
    subst e
    rw [ht] at hq
    cases hq
    exact hne
theorem nodupNext {l : List (Int × ByteArray)} {m : Nat} {s : Int × ByteArray} (h : ((l.take m).map (·.2)).Nodup) (hs : l[m]? = some s) (hno : ∀ (j : Nat) q, j < m → l[j]? = some q → q.2 ≠ s.2) : ((l.take (m + 1)).map (·.2)).Nodup := by
  rw [members_take hs, nodup_snoc]
  refine ⟨h, ?_⟩
  rw [often_pos]
  intro hm
  obtain ⟨q, hq, e⟩ := List.mem_map.1 hm
  obtain ⟨j, hj⟩ := List.getElem?_of_mem hq
  rw [List.getElem?_take] at hj
  split at hj
  · exact hno j q (by assumption) hj e
  · cases hj

/-- the item's block, and what has turned since. -/
structure Bx (w : World) (cs : List Value) (wr : World) : Prop where
  box : Whole wr w.heap.size 26 cs
  fr : Fr [] w wr
theorem Bx.step {w wr w1 : World} {cs : List Value} (h : Bx w cs wr) (f : Fr [] wr w1) : Bx w cs w1 := ⟨h.box.fr f (by simp), h.fr.trans f⟩

attribute [local go_sem ↓] Go.wp_at_zero Go.wp_at_succ

set_option maxHeartbeats 40000000 in
set_option maxRecDepth 1000000 in
theorem refCheck_loops (x : Itm) (A1 A2 A3 : Option Addr) (c1 c2 c3 : Nat) (w : World) (B : Nat) (hs : x.Small) (hB : B ≤ w.heap.size)
    (h1 : Sl w B 1 (.slice A1 x.list.length c1) x.list.length (textsV x.list)) (h2 : Sl w B 2 (.slice A2 x.pairs.length c2) x.pairs.length (pairsV x.pairs)) (h3 : Sl w B 2 (.slice A3 x.scores.length c3) x.scores.length (scoresV x.scores))
    (hk : 2 ≤ x.kind ∧ x.kind ≤ 5) (hb : bareB x = true) :
    Calls Tryz.prog 100 #[.agg #[.int .i64 x.kind, .string x.text, .slice A1 x.list.length c1, .slice A2 x.pairs.length c2, .slice A3 x.scores.length c3]] w fun e w' => e = .returned (.int .i64 (checkItm x)) ∧ Fr [] w w' := by
  have I := Lib.hid (fun W => between_any x.kind 1 5 W)
  have q1 : (decide (1 ≤ x.kind) && decide (x.kind ≤ 5)) = true := by simp; omega
  rw [q1] at I
  clear q1
  have H1 := Lib.hid h1
  have H2 := Lib.hid h2
  have H3 := Lib.hid h3
  have HM := Lib.hid hs
  have HB := Lib.hid hb
  have s1 := hs.list
  have s2 := hs.pairs
  have s3 := hs.scores
  have hE : checkItm x = if many x = 0 then 5 else if 24 < many x ∨ longI x = true then 2 else if (x.kind = 3 ∧ rises ltS x.list = false) ∨ (x.kind = 4 ∧ rises ltP x.pairs = false) then 4 else scoresCode x.scores := by
    unfold checkItm
    rw [if_neg (by omega), if_neg (by rw [hb]; decide), if_neg (by omega)]
  have HE := Lib.hid hE
  have hmm : many x = x.list.length + x.pairs.length + x.scores.length := rfl
  have hform : (x.text.size = 0) ∧ (x.kind = 2 ∨ x.kind = 3 ∨ x.list.length = 0) ∧ (x.kind = 4 ∨ x.pairs.length = 0) ∧ (x.kind = 5 ∨ x.scores.length = 0) := by
    simp only [bareB, Bool.and_eq_true, Bool.or_eq_true, beq_iff_eq] at hb
    refine ⟨?_, ?_, hb.1.2, hb.2⟩
    · rcases hb.1.1.1 with h | h
      · omega
      · exact h
    · rcases hb.1.1.2 with (h | h) | h
      · exact .inl h
      · exact .inr (.inl h)
      · exact .inr (.inr h)
  obtain ⟨ft, fl, fp, fs⟩ := hform
  have qt := nilOf ft
  have k1 : (x.kind == 1) = false := by simp; omega
  have hm0 : (((x.list.length : Int) + (x.pairs.length : Int) + (x.scores.length : Int)) == 0) = decide (many x = 0) := by
    rw [Bool.eq_iff_iff]
    simp
    omega
  have HM0 := Lib.hid hm0
  have HMM := Lib.hid hmm
  clear hm0 hmm h1 h2 h3 hs hb hE ft
  rw [qt]
  clear qt
  go_enter Tryz.func100, Tryz.ntmps100
  go_wp2_with fail
  refine (I.out _).mono ?_
  rintro e w1 ⟨rfl, rfl⟩
  go_upto_region 4 with fail
  go_cut [59] (fun c wx => c = .bool false ∧ Bx w [.int .i64 x.kind, .string ⟨#[]⟩, .slice A1 x.list.length c1, .slice A2 x.pairs.length c2, .slice A3 x.scores.length c3] wx)
  case first =>
    have hk5 : x.kind = 2 ∨ x.kind = 3 ∨ x.kind = 4 ∨ x.kind = 5 := by omega
    have b0 : Bx w [.int .i64 x.kind, .string ⟨#[]⟩, .slice A1 x.list.length c1, .slice A2 x.pairs.length c2, .slice A3 x.scores.length c3] (w.alloc (.cells #[.int .i64 x.kind, .string ⟨#[]⟩, .slice A1 x.list.length c1, .slice A2 x.pairs.length c2, .slice A3 x.scores.length c3] 26)) := ⟨Whole.new w _ _, (Fr.refl [] w).alloc _⟩
    have B0 := Lib.hid b0
    clear b0
    generalize x.list.length = n1 at *
    generalize x.pairs.length = n2 at *
    generalize x.scores.length = n3 at *
    clear HE HMM HM HB H1 H2 H3 HM0
    generalize x.kind = k at *
    rcases hk5 with rfl | rfl | rfl | rfl
    · have y2 : ¬ 0 < n2 := by omega
      have y3 : ¬ 0 < n3 := by omega
      clear fl fp fs
      go_wp2_with fail
      go_meet
      case rel => exact ⟨rfl, B0.out⟩
    · have y2 : ¬ 0 < n2 := by omega
      have y3 : ¬ 0 < n3 := by omega
      clear fl fp fs
      go_wp2_with fail
      go_meet
      case rel => exact ⟨rfl, B0.out⟩
    · have y2 : ¬ 0 < n1 := by omega
      have y3 : ¬ 0 < n3 := by omega
      clear fl fp fs
      go_wp2_with fail
      go_meet
      case rel => exact ⟨rfl, B0.out⟩
    · have y2 : ¬ 0 < n1 := by omega
      have y3 : ¬ 0 < n2 := by omega
      clear fl fp fs
      go_wp2_with fail
      go_meet
      case rel => exact ⟨rfl, B0.out⟩
  case rest =>
    obtain ⟨rfl, hbx⟩ := hcut
    have HBX := Lib.hid hbx
    obtain ⟨d0, d1, d2, d3, d4⟩ := five hbx.box
    clear hbx
    have HFL := Lib.hid fl
    have HFP := Lib.hid fp
    have HFS := Lib.hid fs
    clear fl fp fs
    by_cases hm0 : many x = 0
    · have z := HM0.out
      rw [decide_eq_true hm0] at z
      have E := Lib.hid (HE.out.trans (if_pos hm0))
      clear hm0
      go_wp2
      go_ret
      rw [E.out]
      exact ⟨rfl, HBX.out.fr⟩
    have z := HM0.out
    rw [decide_eq_false hm0] at z
    have HE1 := Lib.hid (HE.out.trans (if_neg hm0))
    have hmi := HMM.out
    by_cases h24 : 24 < many x
    · have E := Lib.hid (HE1.out.trans (if_pos (.inl h24)))
      have z2 : 24 < (x.list.length : Int) + (x.pairs.length : Int) + (x.scores.length : Int) := by omega
      clear hm0 hmi h24
      go_wp2
      go_ret
      rw [E.out]
      exact ⟨rfl, HBX.out.fr⟩
    have z2 : ¬ 24 < (x.list.length : Int) + (x.pairs.length : Int) + (x.scores.length : Int) := by omega
    have hlen1 : x.list.length ≤ 24 := by omega
    have hlen2 : x.pairs.length ≤ 24 := by omega
    have hlen3 : x.scores.length ≤ 24 := by omega
    have H24 := Lib.hid h24
    clear hm0 hmi h24 s1 s2 s3
    go_wp2
    clear z z2 d0 d1 d2 d3 d4
    go_loopg [5] x.list.length (fun g i wr => ∃ (m : Nat), g = x.list.length - m ∧ i = .int .i64 m ∧ m ≤ x.list.length ∧ (x.list.drop m).any longS = x.list.any longS ∧ Bx w [.int .i64 x.kind, .string ⟨#[]⟩, .slice A1 x.list.length c1, .slice A2 x.pairs.length c2, .slice A3 x.scores.length c3] wr)
    case atStart => exact ⟨0, rfl, rfl, Nat.zero_le _, rfl, HBX.out⟩
    clear HBX
    case round =>
    obtain ⟨m, rfl, rfl, hm, hR, hbx⟩ := hrel
    have HBX := Lib.hid hbx
    obtain ⟨d0, d1, d2, d3, d4⟩ := five hbx.box
    clear hbx
    by_cases hlt : m < x.list.length
    · obtain ⟨b, off, e, hb, hc, hmx, hcell⟩ := H1.out.at_ (by omega)
      obtain ⟨s, hs⟩ : ∃ s, x.list[m]? = some s := ⟨_, List.getElem?_eq_getElem hlt⟩
      rw [e] at d2
      clear e
      have hc1 : wr.cell? ⟨b, off + m, none⟩ = some (.string s) := HBX.out.fr.cell (hcell _ _ (textsV_get _ m s hs)) (by simp)
      rw [any_step hs] at hR
      by_cases hq : 60 < s.size
      · rw [show longS s = true from decide_eq_true hq, Bool.true_or] at hR
        have E := Lib.hid (HE1.out.trans (if_pos (.inr (by simp [longI, ← hR]))))
        clear hR hcell hs
        go_wp2
        go_ret
        rw [E.out]
        exact ⟨rfl, HBX.out.fr⟩
      · rw [show longS s = false from decide_eq_false hq, Bool.false_or] at hR
        have HR := Lib.hid hR
        clear hR hcell hs
        go_wp2
        go_roundg (x.list.length - (m + 1))
        case measure => omega
        case rel => exact ⟨m + 1, rfl, rfl, by omega, HR.out, HBX.out⟩
    have N1 := Lib.hid (show x.list.any longS = false by rw [← hR]; exact any_end (by omega))
    clear hR
    go_wp2
    clear d0 d1 d2 d3 d4 hlt hm
    go_loopg [6] x.pairs.length (fun g i wr => ∃ (m : Nat), g = x.pairs.length - m ∧ i = .int .i64 m ∧ m ≤ x.pairs.length ∧ (x.pairs.drop m).any longP = x.pairs.any longP ∧ Bx w [.int .i64 x.kind, .string ⟨#[]⟩, .slice A1 x.list.length c1, .slice A2 x.pairs.length c2, .slice A3 x.scores.length c3] wr)
    case atStart => exact ⟨0, rfl, rfl, Nat.zero_le _, rfl, HBX.out⟩
    clear HBX
    case round =>
    obtain ⟨m, rfl, rfl, hm, hR, hbx⟩ := hrel
    have HBX := Lib.hid hbx
    obtain ⟨d0, d1, d2, d3, d4⟩ := five hbx.box
    clear hbx
    by_cases hlt : m < x.pairs.length
    · obtain ⟨b, off, e, hb, hc, hmx, hcell⟩ := H2.out.at_ (by omega)
      obtain ⟨s, hs⟩ : ∃ s, x.pairs[m]? = some s := ⟨_, List.getElem?_eq_getElem hlt⟩
      rw [e] at d3
      clear e
      have hc1 : wr.cell? ⟨b, off + 2 * m, none⟩ = some (.string s.1) := HBX.out.fr.cell (hcell _ _ ((pairsV_get _ m s hs).1)) (by simp)
      have hc2 : wr.cell? ⟨b, off + 2 * m + 1, none⟩ = some (.string s.2) := HBX.out.fr.cell (hcell _ _ ((pairsV_get _ m s hs).2)) (by simp)
      rw [Nat.mul_comm 2 m] at hc1 hc2
      rw [any_step hs] at hR
      by_cases hq : 60 < s.1.size
      · rw [show longP s = true by simp [longP, hq], Bool.true_or] at hR
        have E := Lib.hid (HE1.out.trans (if_pos (.inr (by simp [longI, ← hR]))))
        clear hR hcell hs
        go_wp2
        go_ret
        rw [E.out]
        exact ⟨rfl, HBX.out.fr⟩
      by_cases hq2 : 60 < s.2.size
      · rw [show longP s = true by simp [longP, hq2], Bool.true_or] at hR
        have E := Lib.hid (HE1.out.trans (if_pos (.inr (by simp [longI, ← hR]))))
        clear hR hcell hs
        go_wp2
        go_ret
        rw [E.out]
        exact ⟨rfl, HBX.out.fr⟩
      · rw [show longP s = false by simp [longP, hq, hq2], Bool.false_or] at hR
        have HR := Lib.hid hR
        clear hR hcell hs
        go_wp2
        go_roundg (x.pairs.length - (m + 1))
        case measure => omega
        case rel => exact ⟨m + 1, rfl, rfl, by omega, HR.out, HBX.out⟩
    have N2 := Lib.hid (show x.pairs.any longP = false by rw [← hR]; exact any_end (by omega))
    clear hR
    go_wp2
    clear d0 d1 d2 d3 d4 hlt hm
    go_loopg [7] x.scores.length (fun g i wr => ∃ (m : Nat), g = x.scores.length - m ∧ i = .int .i64 m ∧ m ≤ x.scores.length ∧ (x.scores.drop m).any longC = x.scores.any longC ∧ Bx w [.int .i64 x.kind, .string ⟨#[]⟩, .slice A1 x.list.length c1, .slice A2 x.pairs.length c2, .slice A3 x.scores.length c3] wr)
    case atStart => exact ⟨0, rfl, rfl, Nat.zero_le _, rfl, HBX.out⟩
    clear HBX
    case round =>
    obtain ⟨m, rfl, rfl, hm, hR, hbx⟩ := hrel
    have HBX := Lib.hid hbx
    obtain ⟨d0, d1, d2, d3, d4⟩ := five hbx.box
    clear hbx
    by_cases hlt : m < x.scores.length
    · obtain ⟨b, off, e, hb, hc, hmx, hcell⟩ := H3.out.at_ (by omega)
      obtain ⟨s, hs⟩ : ∃ s, x.scores[m]? = some s := ⟨_, List.getElem?_eq_getElem hlt⟩
      rw [e] at d4
      clear e
      have hc1 : wr.cell? ⟨b, off + 2 * m + 1, none⟩ = some (.string s.2) := HBX.out.fr.cell (hcell _ _ ((scoresV_get _ m s hs).2)) (by simp)
      rw [Nat.mul_comm 2 m] at hc1
      rw [any_step hs] at hR
      by_cases hq : 60 < s.2.size
      · rw [show longC s = true from decide_eq_true hq, Bool.true_or] at hR
        have E := Lib.hid (HE1.out.trans (if_pos (.inr (by simp [longI, ← hR]))))
        clear hR hcell hs
        go_wp2
        go_ret
        rw [E.out]
        exact ⟨rfl, HBX.out.fr⟩
      · rw [show longC s = false from decide_eq_false hq, Bool.false_or] at hR
        have HR := Lib.hid hR
        clear hR hcell hs
        go_wp2
        go_roundg (x.scores.length - (m + 1))
        case measure => omega
        case rel => exact ⟨m + 1, rfl, rfl, by omega, HR.out, HBX.out⟩
    have N3 := Lib.hid (show x.scores.any longC = false by rw [← hR]; exact any_end (by omega))
    clear hR
    go_wp2
    clear d0 d1 d2 d3 d4 hlt hm
    have hNL : longI x = false := by simp [longI, N1.out, N2.out, N3.out]
    have HE2 := Lib.hid (HE1.out.trans (if_neg (by rw [hNL]; simp [H24.out])))
    clear hNL N1 N2 N3 HE HE1 H24 HM0 HMM
    go_loopg [8] x.list.length (fun g i wr => ∃ (m : Nat), g = x.list.length - m ∧ i = .int .i64 ((m : Int) + 1) ∧ m ≤ x.list.length ∧ (x.kind = 3 → rises ltS (x.list.drop m) = rises ltS x.list) ∧ Bx w [.int .i64 x.kind, .string ⟨#[]⟩, .slice A1 x.list.length c1, .slice A2 x.pairs.length c2, .slice A3 x.scores.length c3] wr)
    case atStart => exact ⟨0, rfl, rfl, Nat.zero_le _, fun _ => rfl, HBX.out⟩
    clear HBX
    case round =>
    obtain ⟨m, rfl, rfl, hm, hR, hbx⟩ := hrel
    have HBX := Lib.hid hbx
    obtain ⟨d0, d1, d2, d3, d4⟩ := five hbx.box
    clear hbx
    have wr1 : IntKind.i64.wrap ((m : Int) + 1) = (m : Int) + 1 := IntWalk.i64_in _ (by omega)
    have wr2 : IntKind.i64.wrap (m : Int) = (m : Int) := IntWalk.i64_in _ (by omega)
    by_cases hlt : m + 1 < x.list.length
    · by_cases k3 : x.kind = 3
      · have q3 : (x.kind == 3) = true := by simp [k3]
        have hR := hR k3
        obtain ⟨b, off, e, hb, hc, hmx, hcell⟩ := H1.out.at_ (by omega)
        rw [e] at d2
        clear e
        obtain ⟨s, hs⟩ : ∃ s, x.list[m]? = some s := ⟨_, List.getElem?_eq_getElem (by omega)⟩
        obtain ⟨t, ht⟩ : ∃ t, x.list[m + 1]? = some t := ⟨_, List.getElem?_eq_getElem hlt⟩
        have hc1 : wr.cell? ⟨b, off + m, none⟩ = some (.string s) := HBX.out.fr.cell (hcell m _ (textsV_get _ m s hs)) (by simp)
        have hc2 : wr.cell? ⟨b, off + (m + 1), none⟩ = some (.string t) := HBX.out.fr.cell (hcell (m + 1) _ (textsV_get _ (m + 1) t ht)) (by simp)
        have HC := Lib.hid (fun W => textOrder_any s t W (HM.out.texts s (List.mem_of_getElem? hs)) (HM.out.texts t (List.mem_of_getElem? ht)))
        rw [rises_step hs ht] at hR
        have HK := Lib.hid k3
        clear hcell hs ht k3
        by_cases hq : ordB s t < 0
        · rw [show ltS s t = true from decide_eq_true hq, Bool.true_and] at hR
          have HR := Lib.hid hR
          clear hR
          go_wp2
          go_quiet ((go_at_call 131; exact Calls.quiet_of (HC.out _)))
          go_wp2
          go_roundg (x.list.length - (m + 1))
          case measure => omega
          case rel => exact ⟨m + 1, rfl, rfl, by omega, fun _ => HR.out, HBX.out.step (Fr.drewN_of _ _ _)⟩
        · rw [show ltS s t = false from decide_eq_false hq, Bool.false_and] at hR
          have E := Lib.hid (HE2.out.trans (if_pos (.inl ⟨HK.out, hR.symm⟩)))
          clear hR
          go_wp2
          go_quiet ((go_at_call 131; exact Calls.quiet_of (HC.out _)))
          go_wp2
          go_ret
          rw [E.out]
          exact ⟨rfl, (HBX.out.step (Fr.drewN_of _ _ _)).fr⟩
      · have q3 : (x.kind == 3) = false := by simpa using k3
        have HK := Lib.hid k3
        clear k3 hR
        go_wp2
        go_quiet (fail)
        go_wp2
        go_roundg (x.list.length - (m + 1))
        case measure => omega
        case rel => exact ⟨m + 1, rfl, rfl, by omega, fun h => absurd h HK.out, HBX.out.step (Fr.drewN_of _ _ _)⟩
    have N4 := Lib.hid (show x.kind = 3 → rises ltS x.list = true from fun h => by rw [← hR h]; exact rises_end (by omega))
    clear hR
    go_wp2
    clear d0 d1 d2 d3 d4 hlt hm wr1 wr2
    go_loopg [9] x.pairs.length (fun g i wr => ∃ (m : Nat), g = x.pairs.length - m ∧ i = .int .i64 ((m : Int) + 1) ∧ m ≤ x.pairs.length ∧ rises ltP (x.pairs.drop m) = rises ltP x.pairs ∧ Bx w [.int .i64 x.kind, .string ⟨#[]⟩, .slice A1 x.list.length c1, .slice A2 x.pairs.length c2, .slice A3 x.scores.length c3] wr)
    case atStart => exact ⟨0, rfl, rfl, Nat.zero_le _, rfl, HBX.out⟩
    clear HBX
    case round =>
    obtain ⟨m, rfl, rfl, hm, hR, hbx⟩ := hrel
    have HBX := Lib.hid hbx
    obtain ⟨d0, d1, d2, d3, d4⟩ := five hbx.box
    clear hbx
    have wr1 : IntKind.i64.wrap ((m : Int) + 1) = (m : Int) + 1 := IntWalk.i64_in _ (by omega)
    have wr2 : IntKind.i64.wrap (m : Int) = (m : Int) := IntWalk.i64_in _ (by omega)
    by_cases hlt : m + 1 < x.pairs.length
    · obtain ⟨b, off, e, hb, hc, hmx, hcell⟩ := H2.out.at_ (by omega)
      rw [e] at d3
      clear e
      obtain ⟨s, hs⟩ : ∃ s, x.pairs[m]? = some s := ⟨_, List.getElem?_eq_getElem (by omega)⟩
      obtain ⟨t, ht⟩ : ∃ t, x.pairs[m + 1]? = some t := ⟨_, List.getElem?_eq_getElem hlt⟩
      have hc1 : wr.cell? ⟨b, off + 2 * m, none⟩ = some (.string s.1) := HBX.out.fr.cell (hcell _ _ (pairsV_get _ m s hs).1) (by simp)
      have hc2 : wr.cell? ⟨b, off + 2 * (m + 1), none⟩ = some (.string t.1) := HBX.out.fr.cell (hcell _ _ (pairsV_get _ (m + 1) t ht).1) (by simp)
      rw [Nat.mul_comm 2 m] at hc1
      rw [Nat.mul_comm 2 (m + 1)] at hc2
      have HC := Lib.hid (fun W => textOrder_any s.1 t.1 W (HM.out.fields s (List.mem_of_getElem? hs)).1 (HM.out.fields t (List.mem_of_getElem? ht)).1)
      rw [rises_step hs ht] at hR
      clear hcell hs ht
      by_cases hq : ordB s.1 t.1 < 0
      · rw [show ltP s t = true from decide_eq_true hq, Bool.true_and] at hR
        have HR := Lib.hid hR
        clear hR
        go_wp2
        go_quiet ((go_at_call 131; exact Calls.quiet_of (HC.out _)))
        go_wp2
        go_roundg (x.pairs.length - (m + 1))
        case measure => omega
        case rel => exact ⟨m + 1, rfl, rfl, by omega, HR.out, HBX.out.step (Fr.drewN_of _ _ _)⟩
      · rw [show ltP s t = false from decide_eq_false hq, Bool.false_and] at hR
        have E := Lib.hid (HE2.out.trans (if_pos (.inr ⟨HFP.out.resolve_right (by omega), hR.symm⟩)))
        clear hR
        go_wp2
        go_quiet ((go_at_call 131; exact Calls.quiet_of (HC.out _)))
        go_wp2
        go_ret
        rw [E.out]
        exact ⟨rfl, (HBX.out.step (Fr.drewN_of _ _ _)).fr⟩
    have N5 := Lib.hid (show rises ltP x.pairs = true by rw [← hR]; exact rises_end (by omega))
    clear hR
    go_wp2
    clear d0 d1 d2 d3 d4 hlt hm wr1 wr2
    have HE3 := Lib.hid (HE2.out.trans (if_neg (fun h => h.elim (fun h => by have := N4.out h.1; rw [h.2] at this; cases this) (fun h => by have := N5.out; rw [h.2] at this; cases this))))
    clear HE2 N4 N5
    go_loopg [10] x.scores.length (fun g i wr => ∃ (m : Nat), g = x.scores.length - m ∧ i = .int .i64 m ∧ m ≤ x.scores.length ∧ (x.scores.drop m).any badI = x.scores.any badI ∧ Bx w [.int .i64 x.kind, .string ⟨#[]⟩, .slice A1 x.list.length c1, .slice A2 x.pairs.length c2, .slice A3 x.scores.length c3] wr)
    case atStart => exact ⟨0, rfl, rfl, Nat.zero_le _, rfl, HBX.out⟩
    clear HBX
    case round =>
    obtain ⟨m, rfl, rfl, hm, hR, hbx⟩ := hrel
    have HBX := Lib.hid hbx
    obtain ⟨d0, d1, d2, d3, d4⟩ := five hbx.box
    clear hbx
    by_cases hlt : m < x.scores.length
    · obtain ⟨b, off, e, hb, hc, hmx, hcell⟩ := H3.out.at_ (by omega)
      rw [e] at d4
      clear e
      obtain ⟨s, hs⟩ : ∃ s, x.scores[m]? = some s := ⟨_, List.getElem?_eq_getElem (by omega)⟩
      have hc1 : wr.cell? ⟨b, off + 2 * m, none⟩ = some (.int .i64 s.1) := HBX.out.fr.cell (hcell _ _ (scoresV_get _ m s hs).1) (by simp)
      rw [Nat.mul_comm 2 m] at hc1
      have J := Lib.hid (fun W => refInt_any s.1 W)
      rw [any_step hs] at hR
      cases hq : isInt s.1
      · rw [hq] at J
        have E := Lib.hid (HE3.out.trans (scoresCode_bad hs hq))
        clear hR hcell hs hq
        go_wp2_with fail
        refine (J.out _).mono ?_
        rintro e w1 ⟨rfl, rfl⟩
        go_wp2
        go_ret
        rw [E.out]
        exact ⟨rfl, HBX.out.fr⟩
      · rw [hq] at J
        rw [show badI s = false by simp [badI, hq], Bool.false_or] at hR
        have HR := Lib.hid hR
        clear hR hcell hs hq
        go_wp2_with fail
        refine (J.out _).mono ?_
        rintro e w1 ⟨rfl, rfl⟩
        go_wp2
        go_roundg (x.scores.length - (m + 1))
        case measure => omega
        case rel => exact ⟨m + 1, rfl, rfl, by omega, HR.out, HBX.out⟩
    have hN6 : ∀ p ∈ x.scores, isInt p.1 = true := allInt (show x.scores.any badI = false by rw [← hR]; exact any_end (by omega))
    have N6 := Lib.hid hN6
    clear hR hN6
    go_wp2
    clear d0 d1 d2 d3 d4 hlt hm
    go_loopg [11] x.scores.length (fun g i wr => ∃ (m : Nat), g = x.scores.length - m ∧ i = .int .i64 m ∧ m ≤ x.scores.length ∧ ((x.scores.take m).map (·.2)).Nodup ∧ Bx w [.int .i64 x.kind, .string ⟨#[]⟩, .slice A1 x.list.length c1, .slice A2 x.pairs.length c2, .slice A3 x.scores.length c3] wr)
    case atStart => exact ⟨0, rfl, rfl, Nat.zero_le _, by simp, HBX.out⟩
    clear HBX
    case round =>
    obtain ⟨m, rfl, rfl, hm, hR, hbx⟩ := hrel
    obtain ⟨wo, rfl⟩ : ∃ wo : World, wo = wr := ⟨_, rfl⟩
    have HR := Lib.hid hR
    clear hR
    have HBX := Lib.hid hbx
    obtain ⟨d0, d1, d2, d3, d4⟩ := five hbx.box
    clear hbx
    by_cases hlt : m < x.scores.length
    · obtain ⟨b, off, e, hb, hc, hmx, hcell⟩ := H3.out.at_ (by omega)
      obtain ⟨s, hs⟩ : ∃ s, x.scores[m]? = some s := ⟨_, List.getElem?_eq_getElem (by omega)⟩
      have HCELL := Lib.hid hcell
      have HS := Lib.hid hs
      have HEQ := Lib.hid e
      clear hcell hs e
      go_wp2
      clear d0 d1 d2 d3 d4
      go_loopg [12] m (fun g i wr => ∃ (n : Nat), g = m - n ∧ i = .int .i64 n ∧ n ≤ m ∧ (∀ (h : Nat) q, h < n → x.scores[h]? = some q → q.2 ≠ s.2) ∧ Bx w [.int .i64 x.kind, .string ⟨#[]⟩, .slice A1 x.list.length c1, .slice A2 x.pairs.length c2, .slice A3 x.scores.length c3] wr)
      case atStart => exact ⟨0, rfl, rfl, Nat.zero_le _, fun h q hh => absurd hh (Nat.not_lt_zero _), HBX.out⟩
      clear HBX
      case round =>
      obtain ⟨n, rfl, rfl, hn, hno, hbx⟩ := hrel
      have HNO := Lib.hid hno
      clear hno
      have HBX := Lib.hid hbx
      obtain ⟨d0, d1, d2, d3, d4⟩ := five hbx.box
      clear hbx
      by_cases hln : n < m
      · obtain ⟨t, ht⟩ : ∃ t, x.scores[n]? = some t := ⟨_, List.getElem?_eq_getElem (by omega)⟩
        have hc1 : wr.cell? ⟨b, off + 2 * m + 1, none⟩ = some (.string s.2) := HBX.out.fr.cell (HCELL.out _ _ (scoresV_get _ m s HS.out).2) (by simp)
        have hc2 : wr.cell? ⟨b, off + 2 * n + 1, none⟩ = some (.string t.2) := HBX.out.fr.cell (HCELL.out _ _ (scoresV_get _ n t ht).2) (by simp)
        rw [Nat.mul_comm 2 m] at hc1
        rw [Nat.mul_comm 2 n] at hc2
        rw [HEQ.out] at d4
        have HT := Lib.hid ht
        clear ht
        have hlm : n < x.scores.length := by omega
        by_cases he : t.2 = s.2
        · have E := Lib.hid (HE3.out.trans (scoresCode_twice N6.out (dupAt HT.out HS.out hln he)))
          have q : (t.2.toList == s.2.toList) = true := by rw [eqB]; exact decide_eq_true he
          clear he
          go_wp2
          go_quiet (fail)
          go_wp2
          go_ret
          rw [E.out]
          exact ⟨rfl, (HBX.out.step (Fr.drewN_of _ _ _)).fr⟩
        · have q : (t.2.toList == s.2.toList) = false := by rw [eqB]; exact decide_eq_false he
          have HNE := Lib.hid he
          clear he
          go_wp2
          go_quiet (fail)
          go_wp2
          go_roundg (m - (n + 1))
          case measure => omega
          case rel => exact ⟨n + 1, rfl, rfl, by omega, noneStep HNO.out HT.out HNE.out, HBX.out.step (Fr.drewN_of _ _ _)⟩
      · have HR2 := Lib.hid (nodupNext HR.out HS.out (fun h q hh => HNO.out h q (by omega)))
        go_wp2
        go_roundg (x.scores.length - (m + 1))
        case measure => omega
        case rel => exact ⟨m + 1, rfl, rfl, by omega, HR2.out, HBX.out⟩
    have N7 := Lib.hid (show (x.scores.map (·.2)).Nodup by have := HR.out; rw [List.take_of_length_le (by omega)] at this; exact this)
    clear HR
    go_wp2
    clear d0 d1 d2 d3 d4 hlt hm
    have HE4 := Lib.hid (HE3.out.trans (scoresCode_rises N6.out N7.out))
    clear HE3 N6 N7
    go_loopg [13] x.scores.length (fun g i wr => ∃ (m : Nat), g = x.scores.length - m ∧ i = .int .i64 ((m : Int) + 1) ∧ m ≤ x.scores.length ∧ rises ltC (x.scores.drop m) = rises ltC x.scores ∧ Bx w [.int .i64 x.kind, .string ⟨#[]⟩, .slice A1 x.list.length c1, .slice A2 x.pairs.length c2, .slice A3 x.scores.length c3] wr)
    case atStart => exact ⟨0, rfl, rfl, Nat.zero_le _, rfl, HBX.out⟩
    clear HBX
    case round =>
    obtain ⟨m, rfl, rfl, hm, hR, hbx⟩ := hrel
    have HBX := Lib.hid hbx
    obtain ⟨d0, d1, d2, d3, d4⟩ := five hbx.box
    clear hbx
    have wr1 : IntKind.i64.wrap ((m : Int) + 1) = (m : Int) + 1 := IntWalk.i64_in _ (by omega)
    have wr2 : IntKind.i64.wrap (m : Int) = (m : Int) := IntWalk.i64_in _ (by omega)
    by_cases hlt : m + 1 < x.scores.length
    · obtain ⟨b, off, e, hb, hc, hmx, hcell⟩ := H3.out.at_ (by omega)
      rw [e] at d4
      clear e
      obtain ⟨s, hs⟩ : ∃ s, x.scores[m]? = some s := ⟨_, List.getElem?_eq_getElem (by omega)⟩
      obtain ⟨t, ht⟩ : ∃ t, x.scores[m + 1]? = some t := ⟨_, List.getElem?_eq_getElem hlt⟩
      have hc1 : wr.cell? ⟨b, off + 2 * m, none⟩ = some (.int .i64 s.1) := HBX.out.fr.cell (hcell _ _ (scoresV_get _ m s hs).1) (by simp)
      have hc2 : wr.cell? ⟨b, off + 2 * m + 1, none⟩ = some (.string s.2) := HBX.out.fr.cell (hcell _ _ (scoresV_get _ m s hs).2) (by simp)
      have hc3 : wr.cell? ⟨b, off + 2 * (m + 1), none⟩ = some (.int .i64 t.1) := HBX.out.fr.cell (hcell _ _ (scoresV_get _ (m + 1) t ht).1) (by simp)
      have hc4 : wr.cell? ⟨b, off + 2 * (m + 1) + 1, none⟩ = some (.string t.2) := HBX.out.fr.cell (hcell _ _ (scoresV_get _ (m + 1) t ht).2) (by simp)
      rw [Nat.mul_comm 2 m] at hc1 hc2
      rw [Nat.mul_comm 2 (m + 1)] at hc3 hc4
      have ix0 : (0 : Int) ≤ (m : Int) := by omega
      have ix1 : (m : Int) < (x.scores.length : Int) := by omega
      have ix2 : (0 : Int) ≤ (m : Int) + 1 := by omega
      have ix3 : (m : Int) + 1 < (x.scores.length : Int) := by omega
      have HC := Lib.hid (fun W => scoreLess_any s t W (HM.out.members s (List.mem_of_getElem? hs)).2 (HM.out.members t (List.mem_of_getElem? ht)).2)
      rw [rises_step hs ht, ← ltR_eq] at hR
      clear hcell hs ht
      cases hq : ltR s t
      · rw [hq, Bool.false_and] at hR
        rw [hq] at HC
        have E := Lib.hid (HE4.out.trans (show (if rises ltC x.scores then (0 : Int) else 4) = 4 by rw [← hR]; rfl))
        clear hR hq
        go_wp2
        go_region_held3 (fun wx => wx.cell? ⟨w.heap.size, 4, none⟩ = some (.slice (some ⟨b, off, none⟩) x.scores.length c3) ∧ wx.cell? ⟨b, off + m * 2, none⟩ = some (.int .i64 s.1) ∧ wx.cell? ⟨b, off + m * 2 + 1, none⟩ = some (.string s.2) ∧ wx.cell? ⟨b, off + (m + 1) * 2, none⟩ = some (.int .i64 t.1) ∧ wx.cell? ⟨b, off + (m + 1) * 2 + 1, none⟩ = some (.string t.2)) (go_keep) ((go_at_call 133; refine (HC.out _).mono ?_; rintro e w2 ⟨rfl, f2⟩; have f3 : Fr [] wr w2 := ⟨f2.os, f2.tape, f2.output, f2.size, f2.block⟩; have g4 := f3.cell d4 (by simp); have g1 := f3.cell hc1 (by simp); have g2 := f3.cell hc2 (by simp); have g3 := f3.cell hc3 (by simp); have g5 := f3.cell hc4 (by simp)))
        all_goals
          go_wp2
          go_ret
          rw [E.out]
          exact ⟨rfl, (HBX.out.step f3).fr⟩
      · rw [hq, Bool.true_and] at hR
        rw [hq] at HC
        have HR := Lib.hid hR
        clear hR hq
        go_wp2
        go_region_held3 (fun wx => wx.cell? ⟨w.heap.size, 4, none⟩ = some (.slice (some ⟨b, off, none⟩) x.scores.length c3) ∧ wx.cell? ⟨b, off + m * 2, none⟩ = some (.int .i64 s.1) ∧ wx.cell? ⟨b, off + m * 2 + 1, none⟩ = some (.string s.2) ∧ wx.cell? ⟨b, off + (m + 1) * 2, none⟩ = some (.int .i64 t.1) ∧ wx.cell? ⟨b, off + (m + 1) * 2 + 1, none⟩ = some (.string t.2)) (go_keep) ((go_at_call 133; refine (HC.out _).mono ?_; rintro e w2 ⟨rfl, f2⟩; have f3 : Fr [] wr w2 := ⟨f2.os, f2.tape, f2.output, f2.size, f2.block⟩; have g4 := f3.cell d4 (by simp); have g1 := f3.cell hc1 (by simp); have g2 := f3.cell hc2 (by simp); have g3 := f3.cell hc3 (by simp); have g5 := f3.cell hc4 (by simp)))
        all_goals
          go_wp2
          go_roundg (x.scores.length - (m + 1))
          case measure => omega
          case rel => exact ⟨m + 1, rfl, rfl, by omega, HR.out, HBX.out.step f3⟩
    have E := Lib.hid (HE4.out.trans (show (if rises ltC x.scores then (0 : Int) else 4) = 0 by rw [← hR, rises_end (by omega)]; rfl))
    clear hR
    go_wp2
    go_ret
    rw [E.out]
    exact ⟨rfl, HBX.out.fr⟩
end Go.Proofs.YtkgbgmfidkimfaaGreat

namespace Go.Proofs.YtkgbgmfidkimfaaGreat
open Go.RowKit

set_option maxRecDepth 100000 in
theorem refCheck_kind (k : Int) (t : ByteArray) (A1 A2 A3 : Option Addr) (n1 c1 n2 c2 n3 c3 : Nat) (w : World) (hk : ¬ (1 ≤ k ∧ k ≤ 5)) :
    Calls Tryz.prog 100 #[.agg #[.int .i64 k, .string t, .slice A1 n1 c1, .slice A2 n2 c2, .slice A3 n3 c3]] w fun e w' => e = .returned (.int .i64 7) ∧ Fr [] w w' := by
  have q1 : (decide (1 ≤ k) && decide (k ≤ 5)) = false := by simp; omega
  have I := Lib.hid (fun W => between_any k 1 5 W)
  rw [q1] at I
  clear hk q1
  go_enter Tryz.func100, Tryz.ntmps100
  go_wp2_with fail
  refine (I.out _).mono ?_
  rintro e w1 ⟨rfl, rfl⟩
  go_wp2
  go_ret
  exact ⟨rfl, (Fr.refl [] w).alloc _⟩

set_option maxRecDepth 100000 in
theorem refCheck_text (t : ByteArray) (A1 A2 A3 : Option Addr) (c1 c2 c3 : Nat) (w : World) (ht : t.size ≤ 281474976710656) :
    Calls Tryz.prog 100 #[.agg #[.int .i64 1, .string t, .slice A1 0 c1, .slice A2 0 c2, .slice A3 0 c3]] w fun e w' => e = .returned (.int .i64 (if 60 < t.size then 2 else 0)) ∧ Fr [] w w' := by
  have I := Lib.hid (fun W => between_any 1 1 5 W)
  rw [show (decide ((1 : Int) ≤ 1) && decide ((1 : Int) ≤ 5)) = true from rfl] at I
  by_cases h : 60 < t.size
  · skip
    go_enter Tryz.func100, Tryz.ntmps100
    go_wp2_with fail
    refine (I.out _).mono ?_
    rintro e w1 ⟨rfl, rfl⟩
    go_wp2
    go_ret
    exact ⟨rfl, (Fr.refl [] w).alloc _⟩
  · skip
    go_enter Tryz.func100, Tryz.ntmps100
    go_wp2_with fail
    refine (I.out _).mono ?_
    rintro e w1 ⟨rfl, rfl⟩
    go_wp2
    go_ret
    exact ⟨rfl, (Fr.refl [] w).alloc _⟩

theorem refCheck_any (x : Itm) (v : Value) (w : World) (B : Nat) (hs : x.Small) (hB : B ≤ w.heap.size) (h : ItemV w B v x) :
    Calls Tryz.prog 100 #[v] w fun e w' => e = .returned (.int .i64 (checkItm x)) ∧ Fr [] w w' := by
  obtain ⟨A1, c1, A2, c2, A3, c3, rfl, h1, h2, h3⟩ := h
  by_cases hk : 1 ≤ x.kind ∧ x.kind ≤ 5
  · by_cases hb : bareB x = false
    · rw [show checkItm x = 1 by unfold checkItm; rw [if_neg (by omega), if_pos hb]]
      exact refCheck_form x.kind x.text A1 A2 A3 _ c1 _ c2 _ c3 w hs.list hs.pairs hs.scores hb hk
    · by_cases k1 : x.kind = 1
      · have hb2 : bareB x = true := by simpa using hb
        have hz : x.list.length = 0 ∧ x.pairs.length = 0 ∧ x.scores.length = 0 := by
          unfold bareB at hb2
          rw [k1] at hb2
          simp at hb2
          simp [hb2]
        rw [show checkItm x = if 60 < x.text.size then 2 else 0 by unfold checkItm; rw [if_neg (by omega), if_neg hb, if_pos k1], k1, hz.1, hz.2.1, hz.2.2]
        exact refCheck_text x.text A1 A2 A3 c1 c2 c3 w hs.text
      · exact refCheck_loops x A1 A2 A3 c1 c2 c3 w B hs hB h1 h2 h3 (by omega) (by simpa using hb)
  · rw [show checkItm x = 7 by unfold checkItm; rw [if_pos hk]]
    exact refCheck_kind x.kind x.text A1 A2 A3 _ c1 _ c2 _ c3 w hk
end Go.Proofs.YtkgbgmfidkimfaaGreat
