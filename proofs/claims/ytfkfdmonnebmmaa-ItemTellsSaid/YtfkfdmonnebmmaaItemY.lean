/- Items, plain: what is encoded is decoded as it was, and nothing else is. No program in sight. -/
import Derived.Test.YtfkfdmonnebmmaaItemV
import Derived.Test.YtfkfdmonnebmmaaItemS
set_option linter.unusedVariables false
set_option linter.unusedSimpArgs false
namespace Go.Proofs.Ytfkfdmonnebmmaa

/-- bytes as a text. -/
def toB (l : List UInt8) : ByteArray := ⟨l.toArray⟩
theorem toB_size (l : List UInt8) : (toB l).size = l.length := by simp [toB, ByteArray.size]
theorem toB_list (l : List UInt8) : (toB l).data.toList = l := by simp [toB]
theorem toB_of (s : ByteArray) : toB s.data.toList = s := by cases s; simp [toB]
theorem toB_inj {a b : List UInt8} (h : toB a = toB b) : a = b := by rw [← toB_list a, ← toB_list b, h]
theorem ext_list {s t : ByteArray} (h : s.data.toList = t.data.toList) : s = t := by rw [← toB_of s, ← toB_of t, h]
theorem extract_list (s : ByteArray) (a b : Nat) : (s.extract a b).data.toList = (s.data.toList.drop a).take (b - a) := by
  simp only [ByteArray.data_extract, Array.toList_extract, List.extract_eq_take_drop]
theorem take_toB (l m : List UInt8) : (toB (l ++ m)).extract 0 l.length = toB l := by
  apply ext_list
  rw [extract_list, toB_list, toB_list]
  simp
theorem drop_toB (l m : List UInt8) : (toB (l ++ m)).extract l.length (toB (l ++ m)).size = toB m := by
  apply ext_list
  rw [extract_list, toB_list, toB_list, toB_size]
  simp

theorem takeB_toB (l m : List UInt8) : takeB l.length (toB (l ++ m)) = some (toB l, toB m) := by
  unfold takeB
  rw [if_neg (by rw [toB_size]; simp), take_toB, drop_toB]
theorem oneB_toB (c : UInt8) (l : List UInt8) : oneB (toB (c :: l)) = some (c.toNat, toB l) := by
  unfold oneB
  rw [if_neg (by rw [toB_size]; simp)]
  have := drop_toB [c] l
  rw [show ([c] : List UInt8).length = 1 from rfl] at this
  rw [show c :: l = [c] ++ l from rfl, this]
  rfl
theorem byteN_lt {n : Nat} (h : n < 256) : (byteN n).toNat = n := by rw [byteN_toNat]; omega

theorem toldB_toB (s : ByteArray) (m : List UInt8) (hs : s.size < 256) : toldB (toB (encText s ++ m)) = some (s, toB m) := by
  unfold toldB encText
  rw [List.cons_append, oneB_toB, Option.bind_some, byteN_lt hs]
  have := takeB_toB s.data.toList m
  rw [toB_of, show s.data.toList.length = s.size by simp] at this
  exact this

theorem num4B_toB (n : Nat) (m : List UInt8) (hn : n < 4294967296) : num4B (toB (encNum n ++ m)) = some (n, toB m) := by
  unfold num4B
  rw [if_neg (by rw [toB_size]; simp [encNum])]
  have h1 := drop_toB (encNum n) m
  rw [show (encNum n).length = 4 from rfl] at h1
  rw [h1]
  have b0 : byteAt (toB (encNum n ++ m)) 0 = n / 16777216 % 256 := by rw [toB, byteAt_of]; simp [encNum, byteN_toNat]
  have b1 : byteAt (toB (encNum n ++ m)) 1 = n / 65536 % 256 := by rw [toB, byteAt_of]; simp [encNum, byteN_toNat]
  have b2 : byteAt (toB (encNum n ++ m)) 2 = n / 256 % 256 := by rw [toB, byteAt_of]; simp [encNum, byteN_toNat]
  have b3 : byteAt (toB (encNum n ++ m)) 3 = n % 256 := by rw [toB, byteAt_of]; simp [encNum, byteN_toNat]
  rw [b0, b1, b2, b3]
  congr 2
  omega

theorem readEls_list (k : Int) (e : ByteArray) (ps : List (ByteArray × ByteArray)) (sc : List (Int × ByteArray)) (k4 : k ≠ 4) (k5 : k ≠ 5) (rest : List UInt8) : ∀ (l acc : List ByteArray), (∀ s ∈ l, s.size < 256) →
    readEls l.length ⟨k, e, acc, ps, sc⟩ (toB (l.flatMap encText ++ rest)) = some (⟨k, e, acc ++ l, ps, sc⟩, toB rest)
  | [], acc, _ => by simp [readEls]
  | s :: l, acc, h => by
    rw [List.length_cons, readEls, List.flatMap_cons, List.append_assoc]
    unfold readEl
    rw [if_neg k4, if_neg k5, toldB_toB s _ (h s (by simp)), Option.map_some, Option.bind_some, readEls_list k e ps sc k4 k5 rest l (acc ++ [s]) (fun t ht => h t (by simp [ht]))]
    simp

theorem readEls_pairs (e : ByteArray) (li : List ByteArray) (sc : List (Int × ByteArray)) (rest : List UInt8) : ∀ (l acc : List (ByteArray × ByteArray)), (∀ p ∈ l, p.1.size < 256 ∧ p.2.size < 256) →
    readEls l.length ⟨4, e, li, acc, sc⟩ (toB (l.flatMap encPair ++ rest)) = some (⟨4, e, li, acc ++ l, sc⟩, toB rest)
  | [], acc, _ => by simp [readEls]
  | p :: l, acc, h => by
    rw [List.length_cons, readEls, List.flatMap_cons, List.append_assoc]
    unfold readEl
    rw [if_pos rfl]
    unfold encPair
    rw [List.append_assoc, toldB_toB p.1 _ (h p (by simp)).1, Option.bind_some, toldB_toB p.2 _ (h p (by simp)).2, Option.map_some, Option.bind_some]
    have := readEls_pairs e li sc rest l (acc ++ [p]) (fun t ht => h t (by simp [ht]))
    unfold encPair at this
    rw [this]
    simp

theorem readEls_scores (e : ByteArray) (li : List ByteArray) (ps : List (ByteArray × ByteArray)) (rest : List UInt8) : ∀ (l acc : List (Int × ByteArray)), (∀ p ∈ l, isInt p.1 = true ∧ p.2.size < 256) →
    readEls l.length ⟨5, e, li, ps, acc⟩ (toB (l.flatMap encScore ++ rest)) = some (⟨5, e, li, ps, acc ++ l⟩, toB rest)
  | [], acc, _ => by simp [readEls]
  | p :: l, acc, h => by
    rw [List.length_cons, readEls, List.flatMap_cons, List.append_assoc]
    unfold readEl
    rw [if_neg (show ¬ (5 : Int) = 4 by decide), if_pos rfl]
    have hp := h p (by simp)
    have hi := hp.1
    simp only [isInt, Bool.and_eq_true, decide_eq_true_eq] at hi
    unfold encScore
    rw [List.append_assoc, num4B_toB _ _ (by omega), Option.bind_some, toldB_toB p.2 _ hp.2, Option.map_some, Option.bind_some]
    have := readEls_scores e li ps rest l (acc ++ [p]) (fun t ht => h t (by simp [ht]))
    unfold encScore at this
    have e2 : (((p.1 + 999999999).toNat : Nat) : Int) - 999999999 = p.1 := by omega
    simp only [e2]
    rw [this]
    simp

/-- WHAT IS ENCODED IS DECODED AS IT WAS. -/
theorem dec_enc {x : Itm} (h : RightI x) : decItm (toB (encItm x)) = some x := by
  have hb := h.bare
  have hk := h.kind
  have hm := h.many
  have hc : (byteN x.kind.toNat).toNat = x.kind.toNat := byteN_lt (by omega)
  simp only [bareB, Bool.and_eq_true, Bool.or_eq_true, beq_iff_eq] at hb
  unfold decItm encItm
  rw [oneB_toB, Option.bind_some, hc]
  by_cases h1 : x.kind = 1
  · rw [if_pos h1, if_pos (by omega)]
    have l1 := List.eq_nil_of_length_eq_zero (show x.list.length = 0 by omega)
    have l2 := List.eq_nil_of_length_eq_zero (show x.pairs.length = 0 by omega)
    have l3 := List.eq_nil_of_length_eq_zero (show x.scores.length = 0 by omega)
    cases x
    simp_all [newI, toB_of]
  · rw [if_neg h1, if_neg (by omega), if_pos (by omega), oneB_toB, Option.bind_some, byteN_lt (by omega)]
    have ht : x.text = ByteArray.empty := nilOf (by omega)
    have ek : ((x.kind.toNat : Nat) : Int) = x.kind := by omega
    rw [ek]
    by_cases h4 : x.kind = 4
    · have l1 := List.eq_nil_of_length_eq_zero (show x.list.length = 0 by omega)
      have l3 := List.eq_nil_of_length_eq_zero (show x.scores.length = 0 by omega)
      have e : many x = x.pairs.length := by unfold many; rw [l1, l3]; simp
      have := readEls_pairs ByteArray.empty [] [] [] x.pairs [] (fun p hp => by have := h.fields p hp; omega)
      rw [e, l1, l3, h4]
      simp only [List.flatMap_nil, List.nil_append, List.append_nil] at this ⊢
      rw [show newI 4 = ⟨4, ByteArray.empty, [], [], []⟩ from rfl, this, Option.bind_some, if_pos (by rw [toB_size]; rfl)]
      cases x
      simp_all
    · by_cases h5 : x.kind = 5
      · have l1 := List.eq_nil_of_length_eq_zero (show x.list.length = 0 by omega)
        have l2 := List.eq_nil_of_length_eq_zero (show x.pairs.length = 0 by omega)
        have e : many x = x.scores.length := by unfold many; rw [l1, l2]; simp
        have := readEls_scores ByteArray.empty [] [] [] x.scores [] (fun p hp => by have := h.members p hp; exact ⟨this.1, by omega⟩)
        rw [e, l1, l2, h5]
        simp only [List.flatMap_nil, List.nil_append, List.append_nil] at this ⊢
        rw [show newI 5 = ⟨5, ByteArray.empty, [], [], []⟩ from rfl, this, Option.bind_some, if_pos (by rw [toB_size]; rfl)]
        cases x
        simp_all
      · have l2 := List.eq_nil_of_length_eq_zero (show x.pairs.length = 0 by omega)
        have l3 := List.eq_nil_of_length_eq_zero (show x.scores.length = 0 by omega)
        have e : many x = x.list.length := by unfold many; rw [l2, l3]; simp
        have := readEls_list x.kind ByteArray.empty [] [] h4 h5 [] x.list [] (fun s hs => by have := h.texts s hs; omega)
        rw [e, l2, l3]
        simp only [List.flatMap_nil, List.nil_append, List.append_nil] at this ⊢
        rw [show newI x.kind = ⟨x.kind, ByteArray.empty, [], [], []⟩ from rfl, this, Option.bind_some, if_pos (by rw [toB_size]; rfl)]
        cases x
        simp_all

theorem byteN_of (c : UInt8) : byteN c.toNat = c := by simp [byteN]

theorem takeB_list {n : Nat} {s t r : ByteArray} (h : takeB n s = some (t, r)) : s.data.toList = t.data.toList ++ r.data.toList ∧ t.size = n := by
  unfold takeB at h
  by_cases h1 : s.size < n
  · rw [if_pos h1] at h; cases h
  · rw [if_neg h1] at h
    cases h
    refine ⟨?_, by simp; omega⟩
    rw [extract_list, extract_list]
    have hl : s.data.toList.length = s.size := by simp
    rw [List.take_of_length_le (l := List.drop n s.data.toList) (by simp)]
    simp
theorem oneB_list {n : Nat} {s r : ByteArray} (h : oneB s = some (n, r)) : s.data.toList = byteN n :: r.data.toList ∧ n < 256 := by
  unfold oneB at h
  by_cases h1 : s.size < 1
  · rw [if_pos h1] at h; cases h
  · rw [if_neg h1] at h
    cases h
    refine ⟨?_, byteAt_lt s 0⟩
    have hl : s.data.toList.length = s.size := by simp
    rw [extract_list]
    match hs : s.data.toList with
    | [] => rw [hs] at hl; simp at hl; omega
    | c :: l =>
      have e : byteAt s 0 = c.toNat := by unfold byteAt; rw [hs]; rfl
      rw [e, byteN_of]
      rw [hs] at hl
      simp at hl
      simp
      rw [List.take_of_length_le (by omega)]
theorem toldB_list {s t r : ByteArray} (h : toldB s = some (t, r)) : s.data.toList = encText t ++ r.data.toList := by
  unfold toldB at h
  obtain ⟨p, hp, h2⟩ := Option.bind_eq_some_iff.1 h
  obtain ⟨n, q⟩ := p
  have h3 := oneB_list hp
  obtain ⟨h5, h6⟩ := takeB_list h2
  simp only at h5 h6
  rw [h3.1, h5, ← h6]
  rfl
theorem num4B_list {n : Nat} {s r : ByteArray} (h : num4B s = some (n, r)) : s.data.toList = encNum n ++ r.data.toList ∧ n < 4294967296 := by
  unfold num4B at h
  by_cases h1 : s.size < 4
  · rw [if_pos h1] at h; cases h
  · rw [if_neg h1] at h
    cases h
    have g0 := byteAt_lt s 0
    have g1 := byteAt_lt s 1
    have g2 := byteAt_lt s 2
    have g3 := byteAt_lt s 3
    refine ⟨?_, by omega⟩
    have hl : s.data.toList.length = s.size := by simp
    rw [extract_list]
    match hs : s.data.toList with
    | a :: b :: c :: d :: l =>
      have e0 : byteAt s 0 = a.toNat := by unfold byteAt; rw [hs]; rfl
      have e1 : byteAt s 1 = b.toNat := by unfold byteAt; rw [hs]; rfl
      have e2 : byteAt s 2 = c.toNat := by unfold byteAt; rw [hs]; rfl
      have e3 : byteAt s 3 = d.toNat := by unfold byteAt; rw [hs]; rfl
      rw [hs] at hl
      simp at hl
      rw [e0, e1, e2, e3]
      rw [e0] at g0
      rw [e1] at g1
      rw [e2] at g2
      rw [e3] at g3
      have k0 : byteN ((((a.toNat * 256 + b.toNat) * 256 + c.toNat) * 256 + d.toNat) / 16777216) = a := by
        rw [show (((a.toNat * 256 + b.toNat) * 256 + c.toNat) * 256 + d.toNat) / 16777216 = a.toNat by omega, byteN_of]
      have mod : ∀ (n : Nat) (c : UInt8), n % 256 = c.toNat → byteN n = c := by
        intro n c h
        apply UInt8.toNat.inj
        rw [byteN_toNat, h]
      have k1 : byteN ((((a.toNat * 256 + b.toNat) * 256 + c.toNat) * 256 + d.toNat) / 65536) = b := mod _ _ (by omega)
      have k2 : byteN ((((a.toNat * 256 + b.toNat) * 256 + c.toNat) * 256 + d.toNat) / 256) = c := mod _ _ (by omega)
      have k3 : byteN (((a.toNat * 256 + b.toNat) * 256 + c.toNat) * 256 + d.toNat) = d := mod _ _ (by omega)
      unfold encNum
      rw [k0, k1, k2, k3]
      simp
      rw [List.take_of_length_le (by omega)]
    | [] => rw [hs] at hl; simp at hl; omega
    | [a] => rw [hs] at hl; simp at hl; omega
    | [a, b] => rw [hs] at hl; simp at hl; omega
    | [a, b, c] => rw [hs] at hl; simp at hl; omega

/-- the bytes of what stands in an item. -/
def encAll (x : Itm) : List UInt8 := x.list.flatMap encText ++ (x.pairs.flatMap encPair ++ x.scores.flatMap encScore)

/-- an item that grows in its kind's list alone. -/
def OnlyI (x : Itm) : Prop := x.text = ByteArray.empty ∧ (x.kind = 4 → x.list = [] ∧ x.scores = []) ∧ (x.kind = 5 → x.list = [] ∧ x.pairs = []) ∧ (x.kind ≠ 4 → x.kind ≠ 5 → x.pairs = [] ∧ x.scores = [])

theorem readEl_list {x x' : Itm} {s r : ByteArray} (ho : OnlyI x) (h : readEl x s = some (x', r)) : OnlyI x' ∧ x'.kind = x.kind ∧ many x' = many x + 1 ∧ encAll x ++ s.data.toList = encAll x' ++ r.data.toList := by
  obtain ⟨ot, o4, o5, oo⟩ := ho
  unfold readEl at h
  by_cases h4 : x.kind = 4
  · rw [if_pos h4] at h
    obtain ⟨p, hp, h2⟩ := Option.bind_eq_some_iff.1 h
    obtain ⟨q, hq, h3⟩ := Option.map_eq_some_iff.1 h2
    cases h3
    have t1 := toldB_list hp
    have t2 := toldB_list hq
    obtain ⟨a1, a2⟩ := o4 h4
    refine ⟨⟨ot, o4, (fun h => absurd (h.symm.trans h4) (by decide)), fun h => absurd h4 h⟩, rfl, by unfold many; simp; omega, ?_⟩
    rw [t1, t2]
    simp [encAll, a1, a2, encPair]
  · rw [if_neg h4] at h
    by_cases h5 : x.kind = 5
    · rw [if_pos h5] at h
      obtain ⟨p, hp, h2⟩ := Option.bind_eq_some_iff.1 h
      obtain ⟨q, hq, h3⟩ := Option.map_eq_some_iff.1 h2
      cases h3
      have t1 := num4B_list hp
      have t2 := toldB_list hq
      obtain ⟨a1, a2⟩ := o5 h5
      refine ⟨⟨ot, fun h => absurd h h4, o5, fun _ h => absurd h5 h⟩, rfl, by unfold many; simp; omega, ?_⟩
      have e2 : ((p.1 : Int) - 999999999 + 999999999).toNat = p.1 := by omega
      rw [t1.1, t2]
      simp only [encAll, a1, a2, encScore, List.flatMap_append, List.flatMap_cons, List.flatMap_nil, e2]
      simp
    · rw [if_neg h5] at h
      obtain ⟨p, hp, h3⟩ := Option.map_eq_some_iff.1 h
      cases h3
      have t1 := toldB_list hp
      obtain ⟨a1, a2⟩ := oo h4 h5
      refine ⟨⟨ot, fun h => absurd h h4, fun h => absurd h h5, oo⟩, rfl, by unfold many; simp; omega, ?_⟩
      rw [t1]
      simp [encAll, a1, a2]

theorem readEls_all : ∀ (n : Nat) {x x' : Itm} {s r : ByteArray}, OnlyI x → readEls n x s = some (x', r) → OnlyI x' ∧ x'.kind = x.kind ∧ many x' = many x + n ∧ encAll x ++ s.data.toList = encAll x' ++ r.data.toList
  | 0, x, x', s, r, ho, h => by
    rw [readEls] at h
    cases h
    exact ⟨ho, rfl, rfl, rfl⟩
  | n + 1, x, x', s, r, ho, h => by
    rw [readEls] at h
    obtain ⟨p, hp, h2⟩ := Option.bind_eq_some_iff.1 h
    obtain ⟨y, q⟩ := p
    obtain ⟨a1, a2, a3, a4⟩ := readEl_list ho hp
    obtain ⟨b1, b2, b3, b4⟩ := readEls_all n a1 h2
    exact ⟨b1, b2.trans a2, by omega, a4.trans b4⟩

/-- .. AND NOTHING ELSE IS. -/
theorem enc_dec {s : ByteArray} {x : Itm} (h : decItm s = some x) : toB (encItm x) = s := by
  apply ext_list
  rw [toB_list]
  unfold decItm at h
  obtain ⟨p, hp, h2⟩ := Option.bind_eq_some_iff.1 h
  obtain ⟨n, r⟩ := p
  obtain ⟨e1, hn⟩ := oneB_list hp
  rw [e1]
  by_cases h1 : n = 1
  · rw [if_pos h1] at h2
    subst h1
    cases h2
    rfl
  · rw [if_neg h1] at h2
    by_cases h3 : 2 ≤ n ∧ n ≤ 5
    · rw [if_pos h3] at h2
      obtain ⟨q, hq, h4⟩ := Option.bind_eq_some_iff.1 h2
      obtain ⟨m, r2⟩ := q
      obtain ⟨e2, hm⟩ := oneB_list hq
      obtain ⟨z, hz, h5⟩ := Option.bind_eq_some_iff.1 h4
      obtain ⟨y, r3⟩ := z
      by_cases h6 : r3.size = 0
      · rw [if_pos h6] at h5
        cases h5
        have hnew : OnlyI (newI n) := ⟨rfl, fun _ => ⟨rfl, rfl⟩, fun _ => ⟨rfl, rfl⟩, fun _ _ => ⟨rfl, rfl⟩⟩
        obtain ⟨b1, b2, b3, b4⟩ := readEls_all m hnew hz
        have hr3 : r3.data.toList = [] := by
          have := nilOf h6
          rw [this]
        have hk : y.kind = n := b2
        have e3 : y.kind.toNat = n := by omega
        unfold encItm
        rw [if_neg (show ¬ y.kind = 1 by omega), e3, e2]
        have hz0 : many (newI (n : Int)) = 0 := rfl
        have hmany : many y = m := by omega
        rw [hmany]
        rw [hr3] at b4
        have : encAll (newI n) = [] := rfl
        rw [this] at b4
        simp only [List.nil_append, List.append_nil] at b4
        rw [b4]
        rfl
      · rw [if_neg h6] at h5; cases h5
    · rw [if_neg h3] at h2; cases h2
end Go.Proofs.Ytfkfdmonnebmmaa
