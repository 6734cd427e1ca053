/- The walks of the reference's functions on patterns that only read. -/
import Derived.Test.YtmlmiboihjibiaaProg
import Derived.Test.YtmlmiboihjibiaaBase
import Derived.WalkLawsBesides
import Derived.WalkSpells
import Derived.LoopTactic
import Derived.Deep.QuietTactic
import Derived.BigQuiet
import Derived.OwnWalk
import Derived.Outline
set_option linter.unusedVariables false
set_option linter.unusedSimpArgs false
namespace Go.Proofs.Ytmlmiboihjibiaa
open Go.RowKit
attribute [local go_sem] byteAt_eq

theorem beqT {a b : Nat} (h : a = b) : (((a : Nat) : Int) == ((b : Nat) : Int)) = true := by simp [h]

set_option maxHeartbeats 400000 in
theorem classAt_any (p : ByteArray) (a : Nat) (w : World) (hs : p.size ≤ 281474976710656) (ha : a ≤ p.size) :
    Calls Try.prog 92 #[.string p, .int .i64 a] w fun e w' => e = .returned (.tuple #[.int .i64 (classAns p a true).1, .bool (classAns p a true).2]) ∧ ∃ n, w' = w.drewN n := by
  go_enter Try.func92, Try.ntmps92
  go_wp2
  go_loopw [1, 4, 5, 6] (fun i r1 r2 f wr => ∃ (k : Nat) (b : Bool) (n : Nat), k ≤ p.size ∧ i = .int .i64 k ∧ r1 = .int .i64 0 ∧ r2 = .bool false ∧ f = .bool b ∧ classAns p a true = classAns p k b ∧ wr = w.drewN n)
    (fun i _ _ _ _ => p.size - (intOf i).toNat)
  case atStart => exact ⟨a, true, 0, ha, rfl, rfl, rfl, rfl, rfl, rfl⟩
  case round =>
    obtain ⟨k, b, n, hk, rfl, rfl, rfl, rfl, hR, rfl⟩ := hrel
    rw [classAns_step p k] at hR
    have b0 := byteAt_lt p k
    have b2 := byteAt_lt p (k + 2)
    by_cases hlt : k < p.size
    · rw [if_pos hlt] at hR
      by_cases h : byteAt p k = 93
      · rw [if_pos h] at hR
        have h93 : ((byteAt p k : Int) == 93) = true := by simp; omega
        have HR := Lib.hid hR
        clear hR h
        go_wp2
        go_ret2
        rw [HR.out]
        exact ⟨rfl, n, rfl⟩
      · rw [if_neg h] at hR
        have h93 : ((byteAt p k : Int) == 93) = false := by simp; omega
        clear h
        by_cases hc : k + 2 < p.size ∧ byteAt p (k + 1) = 45 ∧ byteAt p (k + 2) ≠ 93
        · rw [if_pos hc] at hR
          obtain ⟨h2, h45, h932⟩ := hc
          have g2 : (k:Int) + 2 < p.size := by omega
          have g45 : ((byteAt p (k + 1) : Int) == 45) = true := by simp; omega
          have g932 : ((byteAt p (k + 2) : Int) != 93) = true := by simp; omega
          by_cases hb : byteAt p (k + 2) < byteAt p k
          · rw [if_pos hb] at hR
            have HR := Lib.hid hR
            clear hR h45 h932
            go_wp2
            go_quiet (fail)
            go_wp2
            go_ret2
            rw [HR.out]
            exact ⟨rfl, _, World.drewN_drewN _ _ _⟩
          · rw [if_neg hb] at hR
            have HR := Lib.hid hR
            clear hR h45 h932
            go_wp2
            go_quiet (fail)
            go_wp2
            go_roundw
            case rel => exact ⟨k + 3, false, _, by omega, by go_num, rfl, rfl, rfl, HR.out, rfl⟩
            case measure => simp [intOf]; omega
        · rw [if_neg hc] at hR
          have HR := Lib.hid hR
          clear hR
          by_cases h2 : k + 2 < p.size
          · have g2 : (k:Int) + 2 < p.size := by omega
            by_cases h45 : byteAt p (k + 1) = 45
            · have g45 : ((byteAt p (k + 1) : Int) == 45) = true := by simp; omega
              have g932 : ((byteAt p (k + 2) : Int) != 93) = false := by simp; omega
              clear h45 hc
              go_wp2
              go_roundw
              case rel => exact ⟨k + 1, false, n, by omega, by go_num, rfl, rfl, rfl, HR.out, rfl⟩
              case measure => simp [intOf]; omega
            · have g45 : ((byteAt p (k + 1) : Int) == 45) = false := by simp; omega
              clear h45 hc
              go_wp2
              go_roundw
              case rel => exact ⟨k + 1, false, n, by omega, by go_num, rfl, rfl, rfl, HR.out, rfl⟩
              case measure => simp [intOf]; omega
          · have g2 : ¬ (k:Int) + 2 < p.size := by omega
            clear hc
            go_wp2
            go_roundw
            case rel => exact ⟨k + 1, false, n, by omega, by go_num, rfl, rfl, rfl, HR.out, rfl⟩
            case measure => simp [intOf]; omega
    · rw [if_neg hlt] at hR
      have HR := Lib.hid hR
      clear hR
      go_wp2
      go_ret2
      rw [HR.out]
      exact ⟨rfl, n, rfl⟩

theorem clsAns_of {p : ByteArray} {k : Nat} {neg : Bool} {x : Part × Nat}
    (h : (match cls p k with | none => none | some y => if y.1.isEmpty then none else some (Part.cls neg y.1, y.2 + 1)) = some x) :
    (classAns p k true).1 + 1 = x.2 ∧ (classAns p k true).2 = true := by
  unfold classAns
  cases hy : cls p k with
  | none => rw [hy] at h; cases h
  | some y =>
    rw [hy] at h
    simp only at h ⊢
    cases he : y.1.isEmpty with
    | true => rw [he] at h; simp at h
    | false => rw [he] at h; simp at h; rw [← h]; simp

theorem classAns_le (p : ByteArray) (k : Nat) (b : Bool) : (classAns p k b).1 ≤ p.size := by
  unfold classAns
  cases h : cls p k with
  | none => exact Nat.zero_le _
  | some x => have := cls_lt p p.size k (by omega) x h; simp only; omega

theorem classAns_ge (p : ByteArray) (k : Nat) : k ≤ (classAns p k true).1 ∨ (classAns p k true).2 = false := by
  unfold classAns
  cases h : cls p k with
  | none => exact .inr rfl
  | some x => have := cls_lt p p.size k (by omega) x h; exact .inl this.1

theorem classAns_lt (p : ByteArray) (k : Nat) (hb : (classAns p k true).2 = true) : (classAns p k true).1 < p.size := by
  unfold classAns at *
  cases h : cls p k with
  | none => rw [h] at hb; cases hb
  | some x => have := cls_lt p p.size k (by omega) x h; exact this.2.1

theorem partAt_cls {p : ByteArray} {a : Nat} (h : a < p.size) (h91 : byteAt p a = 91) : partAt p a =
    (match cls p (if a + 1 < p.size ∧ byteAt p (a + 1) = 94 then a + 2 else a + 1) with
      | none => none
      | some y => if y.1.isEmpty then none else some (Part.cls (decide (a + 1 < p.size ∧ byteAt p (a + 1) = 94)) y.1, y.2 + 1)) := by
  unfold partAt
  rw [if_pos h, if_neg (by omega), if_neg (by omega), if_pos h91]
  simp only [decide_eq_true_eq]
  rfl

theorem partAt_bs {p : ByteArray} {a : Nat} (h : a < p.size) (h92 : byteAt p a = 92) : partAt p a = if a + 1 < p.size then some (.lit (byteAt p (a + 1)), a + 2) else none := by
  unfold partAt
  rw [if_pos h, if_neg (by omega), if_neg (by omega), if_neg (by omega), if_pos h92]

theorem partAt_one {p : ByteArray} {a : Nat} (h : a < p.size) (h92 : byteAt p a ≠ 92) (h91 : byteAt p a ≠ 91) : partAt p a =
    some (if byteAt p a = 42 then .star else if byteAt p a = 63 then .any else .lit (byteAt p a), a + 1) := by
  unfold partAt
  rw [if_pos h]
  split
  · rfl
  · split
    · rfl
    · rfl

theorem ok_end {p : ByteArray} {k : Nat} (h : ¬ k < p.size) : okAt p k = true := by
  unfold okAt; rw [partsFrom_step, if_neg h]; rfl
theorem ok_bs {p : ByteArray} {k : Nat} (h : k < p.size) (h92 : byteAt p k = 92) : okAt p k = if k + 1 < p.size then okAt p (k + 2) else false := by
  unfold okAt; rw [partsFrom_step, if_pos h, partAt_bs h h92]
  by_cases hl : k + 1 < p.size <;> simp [hl]
theorem ok_one {p : ByteArray} {k : Nat} (h : k < p.size) (h92 : byteAt p k ≠ 92) (h91 : byteAt p k ≠ 91) : okAt p k = okAt p (k + 1) := by
  unfold okAt; rw [partsFrom_step, if_pos h, partAt_one h h92 h91]
  simp
theorem ok_cls {p : ByteArray} {k : Nat} (h : k < p.size) (h91 : byteAt p k = 91) (m : Nat) (hm : m = if k + 1 < p.size ∧ byteAt p (k + 1) = 94 then k + 2 else k + 1) :
    okAt p k = if (classAns p m true).2 = true then okAt p ((classAns p m true).1 + 1) else false := by
  unfold okAt; rw [partsFrom_step, if_pos h, partAt_cls h h91, ← hm]
  unfold classAns
  cases hy : cls p m with
  | none => simp
  | some y => cases hl : y.1 <;> simp [hl]

/-- where the part that begins at a place ends (of a pattern that is right). -/
theorem partEnd_any (p : ByteArray) (a : Nat) (x : Part × Nat) (w : World) (hs : p.size ≤ 281474976710656) (ha : partAt p a = some x) :
    Calls Try.prog 139 #[.string p, .int .i64 a] w fun e w' => e = .returned (.int .i64 x.2) ∧ ∃ n, w' = w.drewN n := by
  have hx := partAt_lt ha
  have hlt : a < p.size := by omega
  by_cases h92 : byteAt p a = 92
  · rw [partAt_bs hlt h92] at ha
    have g : ((byteAt p a : Int) == 92) = true := by simp; omega
    have e : a + 2 = x.2 := by
      split at ha
      · cases ha; rfl
      · cases ha
    clear ha h92
    have E := Lib.hid e
    clear e
    go_enter Try.func139, Try.ntmps139
    go_wp2
    go_ret
    rw [← E.out]
    exact ⟨by go_num, 0, rfl⟩
  · have g92 : ((byteAt p a : Int) == 92) = false := by simp; omega
    by_cases h91 : byteAt p a = 91
    · rw [partAt_cls hlt h91] at ha
      have g : ((byteAt p a : Int) == 91) = true := by simp; omega
      have E := Lib.hid (clsAns_of ha).1
      have hl1 : a + 1 < p.size := by
        rcases Nat.lt_or_ge (a + 1) p.size with h | h
        · exact h
        · rw [if_neg (by omega), cls_step, if_neg (by omega)] at ha
          cases ha
      clear ha h92 h91
      by_cases h94 : byteAt p (a + 1) = 94
      · rw [if_pos ⟨hl1, h94⟩] at E
        have g94 : ((byteAt p (a + 1) : Int) == 94) = true := by simp; omega
        clear h94
        have hle := classAns_le p (a + 2) true
        have hle1 := classAns_le p (a + 1) true
        go_enter Try.func139, Try.ntmps139
        go_wp2_with fail
        rw [show ((a : Int) + 1 + 1) = ((a + 2 : Nat) : Int) by omega]
        refine (classAt_any p (a + 2) _ hs (by omega)).mono ?_
        rintro e w' ⟨rfl, n, rfl⟩
        go_wp2
        go_ret
        rw [← E.out]
        exact ⟨by go_num, n, rfl⟩
      · rw [if_neg (fun h => h94 h.2)] at E
        have g94 : ((byteAt p (a + 1) : Int) == 94) = false := by simp; omega
        clear h94
        have hle := classAns_le p (a + 2) true
        have hle1 := classAns_le p (a + 1) true
        go_enter Try.func139, Try.ntmps139
        go_wp2_with fail
        rw [show ((a : Int) + 1) = ((a + 1 : Nat) : Int) by omega]
        refine (classAt_any p (a + 1) _ hs (by omega)).mono ?_
        rintro e w' ⟨rfl, n, rfl⟩
        go_wp2
        go_ret
        rw [← E.out]
        exact ⟨by go_num, n, rfl⟩
    · rw [partAt_one hlt h92 h91] at ha
      have g : ((byteAt p a : Int) == 91) = false := by simp; omega
      have e : a + 1 = x.2 := by cases ha; rfl
      clear ha h92 h91
      have E := Lib.hid e
      clear e
      go_enter Try.func139, Try.ntmps139
      go_wp2
      go_ret
      rw [← E.out]
      exact ⟨by go_num, 0, rfl⟩

/-- spans of what stands between brackets, from a place on -/
def inCls (q : ByteArray) (c : Nat) : Nat → Nat → Bool
  | 0, _ => false
  | n + 1, k =>
    if k < q.size then
      if k + 2 < q.size ∧ byteAt q (k + 1) = 45 then
        if byteAt q k ≤ c ∧ c ≤ byteAt q (k + 2) then true else inCls q c n (k + 3)
      else if c = byteAt q k then true else inCls q c n (k + 1)
    else false

theorem inCls_fuel (q : ByteArray) (c : Nat) : ∀ (m n k : Nat), q.size ≤ n + k → q.size ≤ m + k → inCls q c n k = inCls q c m k := by
  intro m
  induction m with
  | zero =>
    intro n k h1 h2
    cases n with
    | zero => rfl
    | succ n => simp only [inCls]; rw [if_neg (by omega)]
  | succ m ih =>
    intro n k h1 h2
    cases n with
    | zero => simp only [inCls]; rw [if_neg (by omega)]
    | succ n =>
      simp only [inCls]
      rw [ih n (k + 3) (by omega) (by omega), ih n (k + 1) (by omega) (by omega)]

def inClsAt (q : ByteArray) (c k : Nat) : Bool := inCls q c (q.size - k) k

theorem inClsAt_step (q : ByteArray) (c k : Nat) : inClsAt q c k =
    if k < q.size then
      if k + 2 < q.size ∧ byteAt q (k + 1) = 45 then
        if byteAt q k ≤ c ∧ c ≤ byteAt q (k + 2) then true else inClsAt q c (k + 3)
      else if c = byteAt q k then true else inClsAt q c (k + 1)
    else false := by
  unfold inClsAt
  by_cases h : k < q.size
  · obtain ⟨m, hm⟩ : ∃ m, q.size - k = m + 1 := ⟨q.size - k - 1, by omega⟩
    rw [hm]
    simp only [inCls]
    rw [inCls_fuel q c (q.size - (k + 3)) m (k + 3) (by omega) (by omega), inCls_fuel q c (q.size - (k + 1)) m (k + 1) (by omega) (by omega)]
  · rw [if_neg h, show q.size - k = 0 by omega]
    rfl

set_option maxHeartbeats 400000 in
theorem inClass_any (q : ByteArray) (c : Nat) (w : World) (hs : q.size ≤ 281474976710656) (hc : c < 256) :
    Calls Try.prog 160 #[.string q, .int .u8 c] w fun e w' => e = .returned (.bool (inClsAt q c 0)) ∧ ∃ n, w' = w.drewN n := by
  go_enter Try.func160, Try.ntmps160
  go_wp2
  go_loopw [4, 5] (fun r i wr => ∃ (k n : Nat), k ≤ q.size ∧ r = .bool false ∧ i = .int .i64 k ∧ inClsAt q c 0 = inClsAt q c k ∧ wr = w.drewN n)
    (fun _ i _ => q.size - (intOf i).toNat)
  case atStart => exact ⟨0, 0, Nat.zero_le _, rfl, rfl, rfl, rfl⟩
  case round =>
    obtain ⟨k, n, hk, rfl, rfl, hR, rfl⟩ := hrel
    rw [inClsAt_step q c k] at hR
    have b0 := byteAt_lt q k
    have b2 := byteAt_lt q (k + 2)
    by_cases hlt : k < q.size
    · rw [if_pos hlt] at hR
      by_cases h2 : k + 2 < q.size
      · have g2 : (k:Int) + 2 < q.size := by omega
        by_cases h45 : byteAt q (k + 1) = 45
        · rw [if_pos ⟨h2, h45⟩] at hR
          have g45 : ((byteAt q (k + 1) : Int) == 45) = true := by simp; omega
          clear h45
          by_cases ha : byteAt q k ≤ c
          · have da : decide ((byteAt q k : Int) ≤ c) = true := by simp; omega
            by_cases hb : c ≤ byteAt q (k + 2)
            · rw [if_pos ⟨ha, hb⟩] at hR
              have db : decide ((c : Int) ≤ byteAt q (k + 2)) = true := by simp; omega
              have HR := Lib.hid hR
              clear hR
              go_wp2
              go_ret
              rw [HR.out]
              exact ⟨rfl, n, rfl⟩
            · rw [if_neg (fun h => hb h.2)] at hR
              have db : decide ((c : Int) ≤ byteAt q (k + 2)) = false := by simp; omega
              have HR := Lib.hid hR
              clear hR
              go_wp2
              go_roundw
              case rel => exact ⟨k + 3, n, by omega, rfl, by go_num, HR.out, rfl⟩
              case measure => simp [intOf]; omega
          · rw [if_neg (fun h => ha h.1)] at hR
            have da : decide ((byteAt q k : Int) ≤ c) = false := by simp; omega
            have HR := Lib.hid hR
            clear hR
            go_wp2
            go_roundw
            case rel => exact ⟨k + 3, n, by omega, rfl, by go_num, HR.out, rfl⟩
            case measure => simp [intOf]; omega
        · rw [if_neg (fun h => h45 h.2)] at hR
          have g45 : ((byteAt q (k + 1) : Int) == 45) = false := by simp; omega
          clear h45
          by_cases he : c = byteAt q k
          · rw [if_pos he] at hR
            have ge : ((c : Int) == byteAt q k) = true := by simp; omega
            have HR := Lib.hid hR
            clear hR he
            go_wp2
            go_ret
            rw [HR.out]
            exact ⟨rfl, n, rfl⟩
          · rw [if_neg he] at hR
            have ge : ((c : Int) == byteAt q k) = false := by simp; omega
            have HR := Lib.hid hR
            clear hR he
            go_wp2
            go_roundw
            case rel => exact ⟨k + 1, n, by omega, rfl, by go_num, HR.out, rfl⟩
            case measure => simp [intOf]; omega
      · rw [if_neg (fun h => h2 h.1)] at hR
        have g2 : ¬ (k:Int) + 2 < q.size := by omega
        by_cases he : c = byteAt q k
        · rw [if_pos he] at hR
          have ge : ((c : Int) == byteAt q k) = true := by simp; omega
          have HR := Lib.hid hR
          clear hR he
          go_wp2
          go_ret
          rw [HR.out]
          exact ⟨rfl, n, rfl⟩
        · rw [if_neg he] at hR
          have ge : ((c : Int) == byteAt q k) = false := by simp; omega
          have HR := Lib.hid hR
          clear hR he
          go_wp2
          go_roundw
          case rel => exact ⟨k + 1, n, by omega, rfl, by go_num, HR.out, rfl⟩
          case measure => simp [intOf]; omega
    · rw [if_neg hlt] at hR
      have HR := Lib.hid hR
      clear hR
      go_wp2
      go_ret
      rw [HR.out]
      exact ⟨rfl, n, rfl⟩

/-- may a byte be one of the part whose bytes these are? -/
def partMayS (q : ByteArray) (c : Nat) : Bool :=
  if byteAt q 0 = 63 then true
  else if byteAt q 0 = 92 then decide (byteAt q 1 = c)
  else if byteAt q 0 = 91 then
    if byteAt q 1 = 94 then !inClsAt (q.extract 2 (q.size - 1)) c 0 else inClsAt (q.extract 1 (q.size - 1)) c 0
  else decide (byteAt q 0 = c)

theorem partMay_any (q : ByteArray) (c : Nat) (w : World) (hs : q.size ≤ 281474976710656) (hc : c < 256) (h0 : 0 < q.size)
    (h1 : byteAt q 0 = 92 → 1 < q.size) (h2 : byteAt q 0 = 91 → 2 < q.size) :
    Calls Try.prog 140 #[.string q, .int .u8 c] w fun e w' => e = .returned (.bool (partMayS q c)) ∧ ∃ n, w' = w.drewN n := by
  have b0 := byteAt_lt q 0
  by_cases a63 : byteAt q 0 = 63
  · have g : ((byteAt q 0 : Int) == 63) = true := by simp; omega
    have E := Lib.hid (show partMayS q c = true by unfold partMayS; rw [if_pos a63])
    clear a63 h1 h2
    go_enter Try.func140, Try.ntmps140
    go_wp2
    go_ret
    rw [E.out]; exact ⟨rfl, 0, rfl⟩
  · have g : ((byteAt q 0 : Int) == 63) = false := by simp; omega
    by_cases a92 : byteAt q 0 = 92
    · have g92 : ((byteAt q 0 : Int) == 92) = true := by simp; omega
      have E := Lib.hid (show partMayS q c = ((byteAt q 1 : Int) == (c : Int)) by
        unfold partMayS; rw [if_neg a63, if_pos a92]; rw [Bool.eq_iff_iff]; simp; omega)
      have hl := h1 a92
      clear a63 h1 h2 a92
      go_enter Try.func140, Try.ntmps140
      go_wp2
      go_ret
      rw [E.out]; exact ⟨rfl, 0, rfl⟩
    · have g92 : ((byteAt q 0 : Int) == 92) = false := by simp; omega
      by_cases a91 : byteAt q 0 = 91
      · have g91 : ((byteAt q 0 : Int) == 91) = true := by simp; omega
        have hl := h2 a91
        by_cases a94 : byteAt q 1 = 94
        · have g94 : ((byteAt q 1 : Int) == 94) = true := by simp; omega
          have E := Lib.hid (show partMayS q c = !inClsAt (q.extract 2 (q.size - 1)) c 0 by unfold partMayS; rw [if_neg a63, if_neg a92, if_pos a91, if_pos a94])
          clear a63 a92 a91 a94 h1 h2
          go_enter Try.func140, Try.ntmps140
          go_wp2_with fail
          refine (inClass_any (q.extract 2 (q.size - 1)) c _ (by simp; omega) hc).mono ?_
          rintro e w' ⟨rfl, n, rfl⟩
          go_wp2
          go_ret
          rw [E.out]; exact ⟨rfl, n, rfl⟩
        · have g94 : ((byteAt q 1 : Int) == 94) = false := by simp; omega
          have E := Lib.hid (show partMayS q c = inClsAt (q.extract 1 (q.size - 1)) c 0 by unfold partMayS; rw [if_neg a63, if_neg a92, if_pos a91, if_neg a94])
          clear a63 a92 a91 a94 h1 h2
          go_enter Try.func140, Try.ntmps140
          go_wp2_with fail
          refine (inClass_any (q.extract 1 (q.size - 1)) c _ (by simp; omega) hc).mono ?_
          rintro e w' ⟨rfl, n, rfl⟩
          go_wp2
          go_ret
          rw [E.out]; exact ⟨rfl, n, rfl⟩
      · have g91 : ((byteAt q 0 : Int) == 91) = false := by simp; omega
        have E := Lib.hid (show partMayS q c = ((byteAt q 0 : Int) == (c : Int)) by
          unfold partMayS; rw [if_neg a63, if_neg a92, if_neg a91]; rw [Bool.eq_iff_iff]; simp; omega)
        clear a63 a92 a91 h1 h2
        go_enter Try.func140, Try.ntmps140
        go_wp2
        go_ret
        rw [E.out]; exact ⟨rfl, 0, rfl⟩

set_option maxHeartbeats 1000000 in
theorem checkGlob_any (p : ByteArray) (w : World) (hs : p.size ≤ 281474976710656) :
    Calls Try.prog 34 #[.string p] w fun e w' => e = .returned (.int .i64 (checkGlob p)) ∧ ∃ n, w' = w.drewN n := by
  by_cases h60 : 60 < p.size
  · have E := Lib.hid (show checkGlob p = 2 by unfold checkGlob; rw [if_pos h60])
    go_enter Try.func34, Try.ntmps34
    go_wp2
    go_ret
    rw [E.out]; exact ⟨rfl, 0, rfl⟩
  · have E := Lib.hid (show checkGlob p = if okAt p 0 then 0 else 1 by unfold checkGlob; rw [if_neg h60])
    go_enter Try.func34, Try.ntmps34
    go_wp2
    go_loopw [2, 3, 4, 5] (fun r i u1 u2 wr => ∃ (k n : Nat), k ≤ p.size ∧ r = .int .i64 0 ∧ i = .int .i64 k ∧ okAt p 0 = okAt p k ∧ wr = w.drewN n)
      (fun _ i _ _ _ => p.size - (intOf i).toNat)
    case atStart => exact ⟨0, 0, Nat.zero_le _, rfl, rfl, rfl, rfl⟩
    case round =>
      obtain ⟨k, n, hk, rfl, rfl, hR, rfl⟩ := hrel
      have b0 := byteAt_lt p k
      by_cases hlt : k < p.size
      · by_cases a92 : byteAt p k = 92
        · have g92 : ((byteAt p k : Int) == 92) = true := by simp; omega
          rw [ok_bs hlt a92] at hR
          by_cases hl : k + 1 < p.size
          · rw [if_pos hl] at hR
            have HR := Lib.hid hR
            have ge : (((k : Int) + 1) == p.size) = false := by simp; omega
            clear hR a92
            go_wp2
            go_roundw
            case rel => exact ⟨k + 2, n, by omega, rfl, by go_num, HR.out, rfl⟩
            case measure => simp [intOf]; omega
          · rw [if_neg hl] at hR
            have HR := Lib.hid hR
            have ge : (((k : Int) + 1) == p.size) = true := by simp; omega
            clear hR a92
            go_wp2
            go_ret
            rw [E.out, HR.out]; exact ⟨rfl, n, rfl⟩
        · have g92 : ((byteAt p k : Int) == 92) = false := by simp; omega
          by_cases a91 : byteAt p k = 91
          · have g91 : ((byteAt p k : Int) == 91) = true := by simp; omega
            have hcall : ∀ m, m ≤ p.size → ∀ (W : World), Calls Try.prog 92 #[.string p, .int .i64 m] W fun e w' => e = .returned (.tuple #[.int .i64 (classAns p m true).1, .bool (classAns p m true).2]) ∧ ∃ n, w' = W.drewN n :=
              fun m hm W => classAt_any p m W hs hm
            have HC := Lib.hid hcall
            clear hcall
            obtain ⟨m, hm⟩ : ∃ m, m = if k + 1 < p.size ∧ byteAt p (k + 1) = 94 then k + 2 else k + 1 := ⟨_, rfl⟩
            rw [ok_cls hlt a91 m hm] at hR
            have hcase : (k + 1 < p.size ∧ byteAt p (k + 1) = 94 ∧ m = k + 2) ∨ (k + 1 < p.size ∧ byteAt p (k + 1) ≠ 94 ∧ m = k + 1) ∨ (¬ k + 1 < p.size ∧ m = k + 1) := by
              split at hm <;> omega
            have hle := classAns_le p m true
            have hge := classAns_ge p m
            have hlt2 := classAns_lt p m
            clear a92 a91 hm
            rcases hcase with ⟨hl, h94, rfl⟩ | ⟨hl, h94, rfl⟩ | ⟨hl, rfl⟩
            · have g94 : ((byteAt p (k + 1) : Int) == 94) = true := by simp; omega
              clear h94
              cases hb : (classAns p (k + 2) true).2 with
              | false =>
                rw [hb, if_neg (by simp)] at hR
                have HR := Lib.hid hR
                have HB := Lib.hid hb
                clear hR hb hge hlt2
                go_wp2_with fail
                rw [show ((k : Int) + 1 + 1) = ((k + 2 : Nat) : Int) by omega]
                refine (HC.out (k + 2) (by omega) _).mono ?_
                rw [HB.out]
                rintro e w' ⟨rfl, n', rfl⟩
                go_wp2
                go_ret
                rw [E.out, HR.out]; exact ⟨rfl, _, rfl⟩
              | true =>
                rw [hb, if_pos rfl] at hR
                have hge' : k + 2 ≤ (classAns p (k + 2) true).1 := by rw [hb] at hge; simpa using hge
                have hlt3 := hlt2 hb
                generalize hq : (classAns p (k + 2) true).1 = q at *
                have HR := Lib.hid hR
                have HB := Lib.hid hb
                have HQ := Lib.hid hq
                clear hR hb hge hq hlt2
                go_wp2_with fail
                rw [show ((k : Int) + 1 + 1) = ((k + 2 : Nat) : Int) by omega]
                refine (HC.out (k + 2) (by omega) _).mono ?_
                rw [HB.out, HQ.out]
                rintro e w' ⟨rfl, n', rfl⟩
                go_wp2
                go_roundw
                case rel => exact ⟨q + 1, _, by omega, rfl, by go_num, HR.out, rfl⟩
                case measure => simp [intOf]; omega
            · have g94 : ((byteAt p (k + 1) : Int) == 94) = false := by simp; omega
              clear h94
              cases hb : (classAns p (k + 1) true).2 with
              | false =>
                rw [hb, if_neg (by simp)] at hR
                have HR := Lib.hid hR
                have HB := Lib.hid hb
                clear hR hb hge hlt2
                go_wp2_with fail
                rw [show ((k : Int) + 1) = ((k + 1 : Nat) : Int) by omega]
                refine (HC.out (k + 1) (by omega) _).mono ?_
                rw [HB.out]
                rintro e w' ⟨rfl, n', rfl⟩
                go_wp2
                go_ret
                rw [E.out, HR.out]; exact ⟨rfl, _, rfl⟩
              | true =>
                rw [hb, if_pos rfl] at hR
                have hge' : k + 1 ≤ (classAns p (k + 1) true).1 := by rw [hb] at hge; simpa using hge
                have hlt3 := hlt2 hb
                generalize hq : (classAns p (k + 1) true).1 = q at *
                have HR := Lib.hid hR
                have HB := Lib.hid hb
                have HQ := Lib.hid hq
                clear hR hb hge hq hlt2
                go_wp2_with fail
                rw [show ((k : Int) + 1) = ((k + 1 : Nat) : Int) by omega]
                refine (HC.out (k + 1) (by omega) _).mono ?_
                rw [HB.out, HQ.out]
                rintro e w' ⟨rfl, n', rfl⟩
                go_wp2
                go_roundw
                case rel => exact ⟨q + 1, _, by omega, rfl, by go_num, HR.out, rfl⟩
                case measure => simp [intOf]; omega
            · have gl : ¬ ((k : Int) + 1 < p.size) := by omega
              cases hb : (classAns p (k + 1) true).2 with
              | false =>
                rw [hb, if_neg (by simp)] at hR
                have HR := Lib.hid hR
                have HB := Lib.hid hb
                clear hR hb hge hlt2
                go_wp2_with fail
                rw [show ((k : Int) + 1) = ((k + 1 : Nat) : Int) by omega]
                refine (HC.out (k + 1) (by omega) _).mono ?_
                rw [HB.out]
                rintro e w' ⟨rfl, n', rfl⟩
                go_wp2
                go_ret
                rw [E.out, HR.out]; exact ⟨rfl, _, rfl⟩
              | true =>
                rw [hb, if_pos rfl] at hR
                have hge' : k + 1 ≤ (classAns p (k + 1) true).1 := by rw [hb] at hge; simpa using hge
                have hlt3 := hlt2 hb
                generalize hq : (classAns p (k + 1) true).1 = q at *
                have HR := Lib.hid hR
                have HB := Lib.hid hb
                have HQ := Lib.hid hq
                clear hR hb hge hq hlt2
                go_wp2_with fail
                rw [show ((k : Int) + 1) = ((k + 1 : Nat) : Int) by omega]
                refine (HC.out (k + 1) (by omega) _).mono ?_
                rw [HB.out, HQ.out]
                rintro e w' ⟨rfl, n', rfl⟩
                go_wp2
                go_roundw
                case rel => exact ⟨q + 1, _, by omega, rfl, by go_num, HR.out, rfl⟩
                case measure => simp [intOf]; omega
          · have g91 : ((byteAt p k : Int) == 91) = false := by simp; omega
            rw [ok_one hlt a92 a91] at hR
            have HR := Lib.hid hR
            clear hR a92 a91
            go_wp2
            go_roundw
            case rel => exact ⟨k + 1, n, by omega, rfl, by go_num, HR.out, rfl⟩
            case measure => simp [intOf]; omega
      · rw [ok_end hlt] at hR
        have HR := Lib.hid hR
        clear hR
        go_wp2
        go_ret
        rw [E.out, HR.out]; exact ⟨rfl, n, rfl⟩
end Go.Proofs.Ytmlmiboihjibiaa
