/- The walks of text.Add and of the reference's AddOf. (Printed by numbers.py.) -/
import Derived.Test.YtmlmiboihjibiaaDoorNuP
import Derived.Test.YtmlmiboihjibiaaDoorNuW
import Derived.Test.YtmlmiboihjibiaaDoorNuD
import Derived.Test.YtmlmiboihjibiaaDoorNuI
import Derived.IntWalk
set_option linter.unusedVariables false
set_option linter.unusedSimpArgs false
namespace Go.Proofs.YtmlmiboihjibiaaDoor
open Go.RowKit

/-- what adding a number answers. -/
def adWas (x : Itm) : Int := if x.kind = 0 then 0 else (intL x.text.data.toList).getD 0
def adCode (x : Itm) (n : Int) : Int := if asCode 1 x ≠ 0 then asCode 1 x else if x.kind ≠ 0 ∧ intL x.text.data.toList = none then 1 else if isInt n = true ∧ isInt (adWas x + n) = true then 0 else 3
def adY (x : Itm) (n : Int) : Itm := if adCode x n = 0 then textI ⟨(Lib.itoa (adWas x + n)).toArray⟩ else newI 0
def adN (x : Itm) (n : Int) : Int := if adCode x n = 0 then adWas x + n else 0
theorem ad_no {x : Itm} {n c : Int} (h : adCode x n = c) (hc : c ≠ 0) : adY x n = newI 0 ∧ adN x n = 0 := by
  have h0 : adCode x n ≠ 0 := by rw [h]; exact hc
  exact ⟨by unfold adY; rw [if_neg h0], by unfold adN; rw [if_neg h0]⟩
theorem ad_yes {x : Itm} {n s : Int} (h : adCode x n = 0) (hs : adWas x + n = s) : adY x n = textI ⟨(Lib.itoa s).toArray⟩ ∧ adN x n = s := by
  rw [← hs]
  exact ⟨by unfold adY; rw [if_pos h], by unfold adN; rw [if_pos h]⟩
theorem isInt_bounds {n : Int} (h : isInt n = true) : -999999999 ≤ n ∧ n ≤ 999999999 := by
  unfold isInt at h
  simpa using h
theorem intL_bounds {l : List UInt8} {v : Int} (h : intL l = some v) : -999999999 ≤ v ∧ v ≤ 999999999 := isInt_bounds (intL_iff.1 h).1
theorem itemInt_b {n : Int} {b : Bool} (h : isInt n = b) (w : World) : Calls Tryd.prog 21 #[.int .i64 n] w fun e w' => e = .returned (.bool b) ∧ w = w' :=
  (itemInt_any n w).mono fun e w' ⟨he, hw⟩ => ⟨by rw [he, h], hw.symm⟩
theorem refInt_b {n : Int} {b : Bool} (h : isInt n = b) (w : World) : Calls Tryd.prog 27 #[.int .i64 n] w fun e w' => e = .returned (.bool b) ∧ w = w' :=
  (refInt_any n w).mono fun e w' ⟨he, hw⟩ => ⟨by rw [he, h], hw.symm⟩


set_option maxHeartbeats 2000000 in
set_option maxRecDepth 100000 in
theorem tadd_any (x : Itm) (v : Value) (n : Int) (w : World) (B : Nat) (hs : x.Small) (hB : B ≤ w.heap.size) (h : ItemV w B v x) (hn : -9223372036854775808 ≤ n ∧ n ≤ 9223372036854775807) (hw : Vars w) :
    Calls Tryd.prog 7 #[v, .int .i64 n] w (INPost (adN x n) (adCode x n) (adY x n) w) := by
  have RD := Lib.hid (fun W (hf : Fr [] w W) => tready_any x v W B hs (Nat.le_trans hB hf.size) (h.fr hf hB (by simp)))
  obtain ⟨A1, c1, A2, c2, A3, c3, rfl, h1, h2, h3⟩ := h
  have D0 := Lib.hid (BO.new w (.int .i64 x.kind) (.string x.text) (.slice A1 x.list.length c1) (.slice A2 x.pairs.length c2) (.slice A3 x.scores.length c3))
  obtain ⟨d0, d1, d2, d3, d4⟩ := five D0.out.b
  have OK := Lib.hid (fun (h : asCode 1 x = 0) => (asOk_of h).text)
  have hz := hs.text
  clear h1 h2 h3 hs
  have TI := Lib.hid (fun W (hf : Fr [] w W) => textInt_any x.text W (hw.fr hf) hz)
  have IA := Lib.hid (fun W (hf : Fr [] w W) s hs => itoa_any s W (hw.fr hf) hs)
  clear hw
  have AK := Lib.hid (fun (h : asCode 1 x = 0) => (asOk_of h).kind)
  have EC := Lib.hid (show adCode x n = if asCode 1 x ≠ 0 then asCode 1 x else if x.kind ≠ 0 ∧ intL x.text.data.toList = none then 1 else if isInt n = true ∧ isInt (adWas x + n) = true then 0 else 3 from rfl)
  have EW := Lib.hid (show adWas x = if x.kind = 0 then 0 else (intL x.text.data.toList).getD 0 from rfl)
  have YES := Lib.hid (fun s => @ad_yes x n s)
  have NO := Lib.hid (fun c => @ad_no x n c)
  clear OK
  by_cases ha : asCode 1 x = 0
  · rw [ha] at RD
    have EC2 := Lib.hid (EC.out.trans (if_neg (by simpa using ha)))
    have hk := AK.out ha
    clear EC AK ha
    by_cases h0 : x.kind = 0
    · have EW2 := Lib.hid (EW.out.trans (if_pos h0))
      have EC3 := Lib.hid (EC2.out.trans (if_neg (fun h => h.1 h0)))
      clear EW EC2 TI hk
      have k0 : (x.kind != 0) = false := by simpa using h0
      have k1 : (x.kind == 1) = false := by rw [h0]; rfl
      clear h0
      by_cases hi : isInt n = true
      · have e0 : adWas x + n = n := by rw [EW2.out]; omega
        have E := EC3.out.trans (if_pos ⟨hi, by rw [e0]; exact hi⟩)
        obtain ⟨e1, e2⟩ := YES.out n E e0
        rw [e1, e2, E]
        obtain ⟨b1, b2⟩ := isInt_bounds hi
        have hj := hi
        have IN := Lib.hid (fun W => itemInt_b (show isInt n = true from hi) W)
        have IS := Lib.hid (fun W => itemInt_b (show isInt (n) = true from hj) W)
        have IA2 := Lib.hid (fun W hf => IA.out W hf (n) (by omega))
        clear IA
        have IA := IA2
        clear IA2
        generalize (⟨(Lib.itoa (n)).toArray⟩ : ByteArray) = y at *
        clear e0 E e1 e2 EC3 EW2 YES NO hi hj
        go_enter Tryd.func7, Tryd.ntmps7
        go_wp2_with fail
        refine (RD.out _ D0.out.f).mono ?_
        rintro e w1 ⟨rfl, f1⟩
        have D1 := Lib.hid (D0.out.go f1)
        clear d0 d1 d2 d3 d4
        obtain ⟨d0, d1, d2, d3, d4⟩ := five D1.out.b
        go_wp2_with fail
        refine (IN.out _).mono ?_
        rintro e w9 ⟨rfl, rfl⟩
        go_wp2_with fail
        refine (IS.out _).mono ?_
        rintro e w9 ⟨rfl, rfl⟩
        go_wp2_with fail
        refine (IA.out _ D1.out.f).mono ?_
        rintro e w2 ⟨rfl, f2⟩
        have D2 := Lib.hid (D1.out.go f2)
        clear d0 d1 d2 d3 d4
        obtain ⟨d0, d1, d2, d3, d4⟩ := five D2.out.b
        go_wp2_with fail
        refine (tof_any y _).mono ?_
        rintro e w3 ⟨rfl, f3⟩
        have D3 := Lib.hid (D2.out.go f3)
        clear d0 d1 d2 d3 d4
        obtain ⟨d0, d1, d2, d3, d4⟩ := five D3.out.b
        obtain ⟨a0, a1, a2, a3, a4⟩ := five D3.out.o
        obtain ⟨b0, b2, b3, b4, b5⟩ := fiveF D3.out.o
        go_wp2
        refine bodyPost_ret (v := .tuple #[.agg #[.int .i64 1, .string y, .slice none 0 0, .slice none 0 0, .slice none 0 0], .int .i64 (n), .int .i64 0]) (by simp [results, Tryd.results7, go_sem, a0, a1, a2, a3, a4]) rfl ?_
        exact ⟨_, rfl, ItemO.text _ _ _, D3.out.end5 _ _ _ _ _⟩
      · have E := EC3.out.trans (if_neg (fun h => hi h.1))
        obtain ⟨e1, e2⟩ := NO.out 3 E (by decide)
        rw [e1, e2, E]
        have IN := Lib.hid (fun W => itemInt_b (show isInt n = false from by simpa using hi) W)
        clear E e1 e2 EC3 EW2 YES NO hi IA
        go_enter Tryd.func7, Tryd.ntmps7
        go_wp2_with fail
        refine (RD.out _ D0.out.f).mono ?_
        rintro e w1 ⟨rfl, f1⟩
        have D1 := Lib.hid (D0.out.go f1)
        clear d0 d1 d2 d3 d4
        obtain ⟨d0, d1, d2, d3, d4⟩ := five D1.out.b
        go_wp2_with fail
        refine (IN.out _).mono ?_
        rintro e w9 ⟨rfl, rfl⟩
        obtain ⟨a0, a1, a2, a3, a4⟩ := five D1.out.o
        obtain ⟨b0, b2, b3, b4, b5⟩ := fiveF D1.out.o
        go_wp2
        refine bodyPost_ret (v := .tuple #[.agg #[.int .i64 0, .string ⟨#[]⟩, .slice none 0 0, .slice none 0 0, .slice none 0 0], .int .i64 0, .int .i64 3]) (by simp [results, Tryd.results7, go_sem, a0, a1, a2, a3, a4]) rfl ?_
        exact ⟨_, rfl, ItemO.nothing _ _, D1.out.end5 _ _ _ _ _⟩
    · obtain hk1 : x.kind = 1 := by omega
      have EW2 := Lib.hid (EW.out.trans (if_neg h0))
      clear EW
      have k0 : (x.kind != 0) = true := by simpa using h0
      have k1 : (x.kind == 1) = true := by rw [hk1]; rfl
      cases hL : intL x.text.data.toList with
      | none =>
        have E := EC2.out.trans (if_pos ⟨h0, hL⟩)
        obtain ⟨e1, e2⟩ := NO.out 1 E (by decide)
        rw [e1, e2, E]
        have TN := Lib.hid (fun W hf => (TI.out W hf).mono (fun e w' ⟨m, he, hm, hv, hr⟩ => (show ∃ m : Int, e = Ending.returned (.tuple #[.int .i64 m, .bool false]) ∧ Fr [] W w' from ⟨m, by rw [he, hL]; rfl, hr⟩)))
        clear TI IA
        clear E e1 e2 EC2 EW2 YES NO hL h0 hk hk1
        go_enter Tryd.func7, Tryd.ntmps7
        go_wp2_with fail
        refine (RD.out _ D0.out.f).mono ?_
        rintro e w1 ⟨rfl, f1⟩
        have D1 := Lib.hid (D0.out.go f1)
        clear d0 d1 d2 d3 d4
        obtain ⟨d0, d1, d2, d3, d4⟩ := five D1.out.b
        go_wp2_with fail
        refine (TN.out _ D1.out.f).mono ?_
        rintro e w2 ⟨m, rfl, f2⟩
        have D2 := Lib.hid (D1.out.go f2)
        clear d0 d1 d2 d3 d4
        obtain ⟨d0, d1, d2, d3, d4⟩ := five D2.out.b
        obtain ⟨a0, a1, a2, a3, a4⟩ := five D2.out.o
        obtain ⟨b0, b2, b3, b4, b5⟩ := fiveF D2.out.o
        go_wp2
        refine bodyPost_ret (v := .tuple #[.agg #[.int .i64 0, .string ⟨#[]⟩, .slice none 0 0, .slice none 0 0, .slice none 0 0], .int .i64 0, .int .i64 1]) (by simp [results, Tryd.results7, go_sem, a0, a1, a2, a3, a4]) rfl ?_
        exact ⟨_, rfl, ItemO.nothing _ _, D2.out.end5 _ _ _ _ _⟩
      | some u =>
        have EC3 := Lib.hid (EC2.out.trans (if_neg (fun h => by rw [hL] at h; cases h.2)))
        obtain ⟨u1, u2⟩ := intL_bounds hL
        have e0 : adWas x + n = u + n := by rw [EW2.out, hL]; rfl
        have TN := Lib.hid (fun W hf => (TI.out W hf).mono (fun e w' ⟨m, he, hm, hv, hr⟩ => (show e = Ending.returned (.tuple #[.int .i64 u, .bool true]) ∧ Fr [] W w' from ⟨by rw [he, hL, hv u hL]; rfl, hr⟩)))
        clear TI
        clear EC2 hL h0 hk hk1
        by_cases hi : isInt n = true
        · obtain ⟨b1, b2⟩ := isInt_bounds hi
          by_cases hj : isInt (u + n) = true
          · have E := EC3.out.trans (if_pos ⟨hi, by rw [e0]; exact hj⟩)
            obtain ⟨e1, e2⟩ := YES.out (u + n) E e0
            rw [e1, e2, E]
            obtain ⟨b3, b4⟩ := isInt_bounds hj
            have IN := Lib.hid (fun W => itemInt_b (show isInt n = true from hi) W)
            have IS := Lib.hid (fun W => itemInt_b (show isInt (u + n) = true from hj) W)
            have IA2 := Lib.hid (fun W hf => IA.out W hf (u + n) (by omega))
            clear IA
            have IA := IA2
            clear IA2
            generalize (⟨(Lib.itoa (u + n)).toArray⟩ : ByteArray) = y at *
            clear e0 E e1 e2 EC3 EW2 YES NO hi hj
            go_enter Tryd.func7, Tryd.ntmps7
            go_wp2_with fail
            refine (RD.out _ D0.out.f).mono ?_
            rintro e w1 ⟨rfl, f1⟩
            have D1 := Lib.hid (D0.out.go f1)
            clear d0 d1 d2 d3 d4
            obtain ⟨d0, d1, d2, d3, d4⟩ := five D1.out.b
            go_wp2_with fail
            refine (TN.out _ D1.out.f).mono ?_
            rintro e w2 ⟨rfl, f2⟩
            have D2 := Lib.hid (D1.out.go f2)
            clear d0 d1 d2 d3 d4
            obtain ⟨d0, d1, d2, d3, d4⟩ := five D2.out.b
            go_wp2_with fail
            refine (IN.out _).mono ?_
            rintro e w9 ⟨rfl, rfl⟩
            go_wp2_with fail
            refine (IS.out _).mono ?_
            rintro e w9 ⟨rfl, rfl⟩
            go_wp2_with fail
            refine (IA.out _ D2.out.f).mono ?_
            rintro e w3 ⟨rfl, f3⟩
            have D3 := Lib.hid (D2.out.go f3)
            clear d0 d1 d2 d3 d4
            obtain ⟨d0, d1, d2, d3, d4⟩ := five D3.out.b
            go_wp2_with fail
            refine (tof_any y _).mono ?_
            rintro e w4 ⟨rfl, f4⟩
            have D4 := Lib.hid (D3.out.go f4)
            clear d0 d1 d2 d3 d4
            obtain ⟨d0, d1, d2, d3, d4⟩ := five D4.out.b
            obtain ⟨a0, a1, a2, a3, a4⟩ := five D4.out.o
            obtain ⟨b0, b2, b3, b4, b5⟩ := fiveF D4.out.o
            go_wp2
            refine bodyPost_ret (v := .tuple #[.agg #[.int .i64 1, .string y, .slice none 0 0, .slice none 0 0, .slice none 0 0], .int .i64 (u + n), .int .i64 0]) (by simp [results, Tryd.results7, go_sem, a0, a1, a2, a3, a4]) rfl ?_
            exact ⟨_, rfl, ItemO.text _ _ _, D4.out.end5 _ _ _ _ _⟩
          · have E := EC3.out.trans (if_neg (fun h => hj (by rw [← e0]; exact h.2)))
            obtain ⟨e1, e2⟩ := NO.out 3 E (by decide)
            rw [e1, e2, E]
            have IN := Lib.hid (fun W => itemInt_b (show isInt n = true from hi) W)
            have IS := Lib.hid (fun W => itemInt_b (show isInt (u + n) = false from by simpa using hj) W)
            clear e0 E e1 e2 EC3 EW2 YES NO hi hj IA
            go_enter Tryd.func7, Tryd.ntmps7
            go_wp2_with fail
            refine (RD.out _ D0.out.f).mono ?_
            rintro e w1 ⟨rfl, f1⟩
            have D1 := Lib.hid (D0.out.go f1)
            clear d0 d1 d2 d3 d4
            obtain ⟨d0, d1, d2, d3, d4⟩ := five D1.out.b
            go_wp2_with fail
            refine (TN.out _ D1.out.f).mono ?_
            rintro e w2 ⟨rfl, f2⟩
            have D2 := Lib.hid (D1.out.go f2)
            clear d0 d1 d2 d3 d4
            obtain ⟨d0, d1, d2, d3, d4⟩ := five D2.out.b
            go_wp2_with fail
            refine (IN.out _).mono ?_
            rintro e w9 ⟨rfl, rfl⟩
            go_wp2_with fail
            refine (IS.out _).mono ?_
            rintro e w9 ⟨rfl, rfl⟩
            obtain ⟨a0, a1, a2, a3, a4⟩ := five D2.out.o
            obtain ⟨b0, b2, b3, b4, b5⟩ := fiveF D2.out.o
            go_wp2
            refine bodyPost_ret (v := .tuple #[.agg #[.int .i64 0, .string ⟨#[]⟩, .slice none 0 0, .slice none 0 0, .slice none 0 0], .int .i64 0, .int .i64 3]) (by simp [results, Tryd.results7, go_sem, a0, a1, a2, a3, a4]) rfl ?_
            exact ⟨_, rfl, ItemO.nothing _ _, D2.out.end5 _ _ _ _ _⟩
        · have E := EC3.out.trans (if_neg (fun h => hi h.1))
          obtain ⟨e1, e2⟩ := NO.out 3 E (by decide)
          rw [e1, e2, E]
          have IN := Lib.hid (fun W => itemInt_b (show isInt n = false from by simpa using hi) W)
          clear e0 E e1 e2 EC3 EW2 YES NO hi IA
          go_enter Tryd.func7, Tryd.ntmps7
          go_wp2_with fail
          refine (RD.out _ D0.out.f).mono ?_
          rintro e w1 ⟨rfl, f1⟩
          have D1 := Lib.hid (D0.out.go f1)
          clear d0 d1 d2 d3 d4
          obtain ⟨d0, d1, d2, d3, d4⟩ := five D1.out.b
          go_wp2_with fail
          refine (TN.out _ D1.out.f).mono ?_
          rintro e w2 ⟨rfl, f2⟩
          have D2 := Lib.hid (D1.out.go f2)
          clear d0 d1 d2 d3 d4
          obtain ⟨d0, d1, d2, d3, d4⟩ := five D2.out.b
          go_wp2_with fail
          refine (IN.out _).mono ?_
          rintro e w9 ⟨rfl, rfl⟩
          obtain ⟨a0, a1, a2, a3, a4⟩ := five D2.out.o
          obtain ⟨b0, b2, b3, b4, b5⟩ := fiveF D2.out.o
          go_wp2
          refine bodyPost_ret (v := .tuple #[.agg #[.int .i64 0, .string ⟨#[]⟩, .slice none 0 0, .slice none 0 0, .slice none 0 0], .int .i64 0, .int .i64 3]) (by simp [results, Tryd.results7, go_sem, a0, a1, a2, a3, a4]) rfl ?_
          exact ⟨_, rfl, ItemO.nothing _ _, D2.out.end5 _ _ _ _ _⟩
  · have E := EC.out.trans (if_pos ha)
    obtain ⟨e1, e2⟩ := NO.out _ E ha
    rw [e1, e2, E]
    have q : (asCode 1 x != 0) = true := by simpa using ha
    have q' : (asCode 1 x == 0) = false := by simpa using ha
    clear E e1 e2 EC EW YES NO AK ha TI IA
    generalize asCode 1 x = r at *
    go_enter Tryd.func7, Tryd.ntmps7
    go_wp2_with fail
    refine (RD.out _ D0.out.f).mono ?_
    rintro e w1 ⟨rfl, f1⟩
    have D1 := Lib.hid (D0.out.go f1)
    clear d0 d1 d2 d3 d4
    obtain ⟨d0, d1, d2, d3, d4⟩ := five D1.out.b
    obtain ⟨a0, a1, a2, a3, a4⟩ := five D1.out.o
    obtain ⟨b0, b2, b3, b4, b5⟩ := fiveF D1.out.o
    go_wp2
    refine bodyPost_ret (v := .tuple #[.agg #[.int .i64 0, .string ⟨#[]⟩, .slice none 0 0, .slice none 0 0, .slice none 0 0], .int .i64 0, .int .i64 r]) (by simp [results, Tryd.results7, go_sem, a0, a1, a2, a3, a4]) rfl ?_
    exact ⟨_, rfl, ItemO.nothing _ _, D1.out.end5 _ _ _ _ _⟩

set_option maxHeartbeats 2000000 in
set_option maxRecDepth 100000 in
theorem refAdd_any (x : Itm) (v : Value) (n : Int) (w : World) (B : Nat) (hs : x.Small) (hB : B ≤ w.heap.size) (h : ItemV w B v x) (hn : -9223372036854775808 ≤ n ∧ n ≤ 9223372036854775807) :
    Calls Tryd.prog 13 #[v, .int .i64 n] w (INPost (adN x n) (adCode x n) (adY x n) w) := by
  have RD := Lib.hid (fun W (hf : Fr [] w W) => checkAs_any x 1 v W B hs (Nat.le_trans hB hf.size) (h.fr hf hB (by simp)))
  obtain ⟨A1, c1, A2, c2, A3, c3, rfl, h1, h2, h3⟩ := h
  have D0 := Lib.hid (BO.new w (.int .i64 x.kind) (.string x.text) (.slice A1 x.list.length c1) (.slice A2 x.pairs.length c2) (.slice A3 x.scores.length c3))
  obtain ⟨d0, d1, d2, d3, d4⟩ := five D0.out.b
  have OK := Lib.hid (fun (h : asCode 1 x = 0) => (asOk_of h).text)
  have hz := hs.text
  clear h1 h2 h3 hs
  have TI := Lib.hid (fun W => intOf_any x.text W hz)
  have AK := Lib.hid (fun (h : asCode 1 x = 0) => (asOk_of h).kind)
  have EC := Lib.hid (show adCode x n = if asCode 1 x ≠ 0 then asCode 1 x else if x.kind ≠ 0 ∧ intL x.text.data.toList = none then 1 else if isInt n = true ∧ isInt (adWas x + n) = true then 0 else 3 from rfl)
  have EW := Lib.hid (show adWas x = if x.kind = 0 then 0 else (intL x.text.data.toList).getD 0 from rfl)
  have YES := Lib.hid (fun s => @ad_yes x n s)
  have NO := Lib.hid (fun c => @ad_no x n c)
  clear OK
  by_cases ha : asCode 1 x = 0
  · rw [ha] at RD
    have EC2 := Lib.hid (EC.out.trans (if_neg (by simpa using ha)))
    have hk := AK.out ha
    clear EC AK ha
    by_cases h0 : x.kind = 0
    · have EW2 := Lib.hid (EW.out.trans (if_pos h0))
      have EC3 := Lib.hid (EC2.out.trans (if_neg (fun h => h.1 h0)))
      clear EW EC2 TI hk
      have k0 : (x.kind != 0) = false := by simpa using h0
      have k1 : (x.kind == 1) = false := by rw [h0]; rfl
      clear h0
      by_cases hi : isInt n = true
      · have e0 : adWas x + n = n := by rw [EW2.out]; omega
        have E := EC3.out.trans (if_pos ⟨hi, by rw [e0]; exact hi⟩)
        obtain ⟨e1, e2⟩ := YES.out n E e0
        rw [e1, e2, E]
        obtain ⟨b1, b2⟩ := isInt_bounds hi
        have hj := hi
        have IN := Lib.hid (fun W => refInt_b (show isInt n = true from hi) W)
        have IS := Lib.hid (fun W => refInt_b (show isInt (n) = true from hj) W)
        have IA := Lib.hid (fun W => digits_any (n) W (by omega))
        generalize (⟨(Lib.itoa (n)).toArray⟩ : ByteArray) = y at *
        clear e0 E e1 e2 EC3 EW2 YES NO hi hj
        go_enter Tryd.func13, Tryd.ntmps13
        go_wp2_with fail
        refine (RD.out _ D0.out.f).mono ?_
        rintro e w1 ⟨rfl, f1⟩
        have D1 := Lib.hid (D0.out.go f1)
        clear d0 d1 d2 d3 d4
        obtain ⟨d0, d1, d2, d3, d4⟩ := five D1.out.b
        go_wp2_with fail
        refine (IN.out _).mono ?_
        rintro e w9 ⟨rfl, rfl⟩
        go_wp2_with fail
        refine (IS.out _).mono ?_
        rintro e w9 ⟨rfl, rfl⟩
        go_wp2_with fail
        refine (IA.out _).mono ?_
        rintro e w2 ⟨rfl, f2⟩
        have D2 := Lib.hid (D1.out.go f2)
        clear d0 d1 d2 d3 d4
        obtain ⟨d0, d1, d2, d3, d4⟩ := five D2.out.b
        obtain ⟨a0, a1, a2, a3, a4⟩ := five D2.out.o
        obtain ⟨b0, b2, b3, b4, b5⟩ := fiveF D2.out.o
        go_wp2
        refine bodyPost_ret (v := .tuple #[.agg #[.int .i64 1, .string y, .slice none 0 0, .slice none 0 0, .slice none 0 0], .int .i64 (n), .int .i64 0]) (by simp [results, Tryd.results13, go_sem, a0, a1, a2, a3, a4]) rfl ?_
        exact ⟨_, rfl, ItemO.text _ _ _, D2.out.end5 _ _ _ _ _⟩
      · have E := EC3.out.trans (if_neg (fun h => hi h.1))
        obtain ⟨e1, e2⟩ := NO.out 3 E (by decide)
        rw [e1, e2, E]
        have IN := Lib.hid (fun W => refInt_b (show isInt n = false from by simpa using hi) W)
        clear E e1 e2 EC3 EW2 YES NO hi
        go_enter Tryd.func13, Tryd.ntmps13
        go_wp2_with fail
        refine (RD.out _ D0.out.f).mono ?_
        rintro e w1 ⟨rfl, f1⟩
        have D1 := Lib.hid (D0.out.go f1)
        clear d0 d1 d2 d3 d4
        obtain ⟨d0, d1, d2, d3, d4⟩ := five D1.out.b
        go_wp2_with fail
        refine (IN.out _).mono ?_
        rintro e w9 ⟨rfl, rfl⟩
        obtain ⟨a0, a1, a2, a3, a4⟩ := five D1.out.o
        obtain ⟨b0, b2, b3, b4, b5⟩ := fiveF D1.out.o
        go_wp2
        refine bodyPost_ret (v := .tuple #[.agg #[.int .i64 0, .string ⟨#[]⟩, .slice none 0 0, .slice none 0 0, .slice none 0 0], .int .i64 0, .int .i64 3]) (by simp [results, Tryd.results13, go_sem, a0, a1, a2, a3, a4]) rfl ?_
        exact ⟨_, rfl, ItemO.nothing _ _, D1.out.end5 _ _ _ _ _⟩
    · obtain hk1 : x.kind = 1 := by omega
      have EW2 := Lib.hid (EW.out.trans (if_neg h0))
      clear EW
      have k0 : (x.kind != 0) = true := by simpa using h0
      have k1 : (x.kind == 1) = true := by rw [hk1]; rfl
      cases hL : intL x.text.data.toList with
      | none =>
        have E := EC2.out.trans (if_pos ⟨h0, hL⟩)
        obtain ⟨e1, e2⟩ := NO.out 1 E (by decide)
        rw [e1, e2, E]
        rw [hL] at TI
        clear E e1 e2 EC2 EW2 YES NO hL h0 hk hk1
        go_enter Tryd.func13, Tryd.ntmps13
        go_wp2_with fail
        refine (RD.out _ D0.out.f).mono ?_
        rintro e w1 ⟨rfl, f1⟩
        have D1 := Lib.hid (D0.out.go f1)
        clear d0 d1 d2 d3 d4
        obtain ⟨d0, d1, d2, d3, d4⟩ := five D1.out.b
        go_wp2_with fail
        refine (TI.out _).mono ?_
        rintro e w2 ⟨rfl, f2⟩
        have D2 := Lib.hid (D1.out.go f2)
        clear d0 d1 d2 d3 d4
        obtain ⟨d0, d1, d2, d3, d4⟩ := five D2.out.b
        obtain ⟨a0, a1, a2, a3, a4⟩ := five D2.out.o
        obtain ⟨b0, b2, b3, b4, b5⟩ := fiveF D2.out.o
        go_wp2
        refine bodyPost_ret (v := .tuple #[.agg #[.int .i64 0, .string ⟨#[]⟩, .slice none 0 0, .slice none 0 0, .slice none 0 0], .int .i64 0, .int .i64 1]) (by simp [results, Tryd.results13, go_sem, a0, a1, a2, a3, a4]) rfl ?_
        exact ⟨_, rfl, ItemO.nothing _ _, D2.out.end5 _ _ _ _ _⟩
      | some u =>
        have EC3 := Lib.hid (EC2.out.trans (if_neg (fun h => by rw [hL] at h; cases h.2)))
        obtain ⟨u1, u2⟩ := intL_bounds hL
        have e0 : adWas x + n = u + n := by rw [EW2.out, hL]; rfl
        rw [hL] at TI
        simp only [Option.getD_some, Option.isSome_some] at TI
        clear EC2 hL h0 hk hk1
        by_cases hi : isInt n = true
        · obtain ⟨b1, b2⟩ := isInt_bounds hi
          by_cases hj : isInt (u + n) = true
          · have E := EC3.out.trans (if_pos ⟨hi, by rw [e0]; exact hj⟩)
            obtain ⟨e1, e2⟩ := YES.out (u + n) E e0
            rw [e1, e2, E]
            obtain ⟨b3, b4⟩ := isInt_bounds hj
            have IN := Lib.hid (fun W => refInt_b (show isInt n = true from hi) W)
            have IS := Lib.hid (fun W => refInt_b (show isInt (u + n) = true from hj) W)
            have IA := Lib.hid (fun W => digits_any (u + n) W (by omega))
            generalize (⟨(Lib.itoa (u + n)).toArray⟩ : ByteArray) = y at *
            clear e0 E e1 e2 EC3 EW2 YES NO hi hj
            go_enter Tryd.func13, Tryd.ntmps13
            go_wp2_with fail
            refine (RD.out _ D0.out.f).mono ?_
            rintro e w1 ⟨rfl, f1⟩
            have D1 := Lib.hid (D0.out.go f1)
            clear d0 d1 d2 d3 d4
            obtain ⟨d0, d1, d2, d3, d4⟩ := five D1.out.b
            go_wp2_with fail
            refine (TI.out _).mono ?_
            rintro e w2 ⟨rfl, f2⟩
            have D2 := Lib.hid (D1.out.go f2)
            clear d0 d1 d2 d3 d4
            obtain ⟨d0, d1, d2, d3, d4⟩ := five D2.out.b
            go_wp2_with fail
            refine (IN.out _).mono ?_
            rintro e w9 ⟨rfl, rfl⟩
            go_wp2_with fail
            refine (IS.out _).mono ?_
            rintro e w9 ⟨rfl, rfl⟩
            go_wp2_with fail
            refine (IA.out _).mono ?_
            rintro e w3 ⟨rfl, f3⟩
            have D3 := Lib.hid (D2.out.go f3)
            clear d0 d1 d2 d3 d4
            obtain ⟨d0, d1, d2, d3, d4⟩ := five D3.out.b
            obtain ⟨a0, a1, a2, a3, a4⟩ := five D3.out.o
            obtain ⟨b0, b2, b3, b4, b5⟩ := fiveF D3.out.o
            go_wp2
            refine bodyPost_ret (v := .tuple #[.agg #[.int .i64 1, .string y, .slice none 0 0, .slice none 0 0, .slice none 0 0], .int .i64 (u + n), .int .i64 0]) (by simp [results, Tryd.results13, go_sem, a0, a1, a2, a3, a4]) rfl ?_
            exact ⟨_, rfl, ItemO.text _ _ _, D3.out.end5 _ _ _ _ _⟩
          · have E := EC3.out.trans (if_neg (fun h => hj (by rw [← e0]; exact h.2)))
            obtain ⟨e1, e2⟩ := NO.out 3 E (by decide)
            rw [e1, e2, E]
            have IN := Lib.hid (fun W => refInt_b (show isInt n = true from hi) W)
            have IS := Lib.hid (fun W => refInt_b (show isInt (u + n) = false from by simpa using hj) W)
            clear e0 E e1 e2 EC3 EW2 YES NO hi hj
            go_enter Tryd.func13, Tryd.ntmps13
            go_wp2_with fail
            refine (RD.out _ D0.out.f).mono ?_
            rintro e w1 ⟨rfl, f1⟩
            have D1 := Lib.hid (D0.out.go f1)
            clear d0 d1 d2 d3 d4
            obtain ⟨d0, d1, d2, d3, d4⟩ := five D1.out.b
            go_wp2_with fail
            refine (TI.out _).mono ?_
            rintro e w2 ⟨rfl, f2⟩
            have D2 := Lib.hid (D1.out.go f2)
            clear d0 d1 d2 d3 d4
            obtain ⟨d0, d1, d2, d3, d4⟩ := five D2.out.b
            go_wp2_with fail
            refine (IN.out _).mono ?_
            rintro e w9 ⟨rfl, rfl⟩
            go_wp2_with fail
            refine (IS.out _).mono ?_
            rintro e w9 ⟨rfl, rfl⟩
            obtain ⟨a0, a1, a2, a3, a4⟩ := five D2.out.o
            obtain ⟨b0, b2, b3, b4, b5⟩ := fiveF D2.out.o
            go_wp2
            refine bodyPost_ret (v := .tuple #[.agg #[.int .i64 0, .string ⟨#[]⟩, .slice none 0 0, .slice none 0 0, .slice none 0 0], .int .i64 0, .int .i64 3]) (by simp [results, Tryd.results13, go_sem, a0, a1, a2, a3, a4]) rfl ?_
            exact ⟨_, rfl, ItemO.nothing _ _, D2.out.end5 _ _ _ _ _⟩
        · have E := EC3.out.trans (if_neg (fun h => hi h.1))
          obtain ⟨e1, e2⟩ := NO.out 3 E (by decide)
          rw [e1, e2, E]
          have IN := Lib.hid (fun W => refInt_b (show isInt n = false from by simpa using hi) W)
          clear e0 E e1 e2 EC3 EW2 YES NO hi
          go_enter Tryd.func13, Tryd.ntmps13
          go_wp2_with fail
          refine (RD.out _ D0.out.f).mono ?_
          rintro e w1 ⟨rfl, f1⟩
          have D1 := Lib.hid (D0.out.go f1)
          clear d0 d1 d2 d3 d4
          obtain ⟨d0, d1, d2, d3, d4⟩ := five D1.out.b
          go_wp2_with fail
          refine (TI.out _).mono ?_
          rintro e w2 ⟨rfl, f2⟩
          have D2 := Lib.hid (D1.out.go f2)
          clear d0 d1 d2 d3 d4
          obtain ⟨d0, d1, d2, d3, d4⟩ := five D2.out.b
          go_wp2_with fail
          refine (IN.out _).mono ?_
          rintro e w9 ⟨rfl, rfl⟩
          obtain ⟨a0, a1, a2, a3, a4⟩ := five D2.out.o
          obtain ⟨b0, b2, b3, b4, b5⟩ := fiveF D2.out.o
          go_wp2
          refine bodyPost_ret (v := .tuple #[.agg #[.int .i64 0, .string ⟨#[]⟩, .slice none 0 0, .slice none 0 0, .slice none 0 0], .int .i64 0, .int .i64 3]) (by simp [results, Tryd.results13, go_sem, a0, a1, a2, a3, a4]) rfl ?_
          exact ⟨_, rfl, ItemO.nothing _ _, D2.out.end5 _ _ _ _ _⟩
  · have E := EC.out.trans (if_pos ha)
    obtain ⟨e1, e2⟩ := NO.out _ E ha
    rw [e1, e2, E]
    have q : (asCode 1 x != 0) = true := by simpa using ha
    have q' : (asCode 1 x == 0) = false := by simpa using ha
    clear E e1 e2 EC EW YES NO AK ha TI
    generalize asCode 1 x = r at *
    go_enter Tryd.func13, Tryd.ntmps13
    go_wp2_with fail
    refine (RD.out _ D0.out.f).mono ?_
    rintro e w1 ⟨rfl, f1⟩
    have D1 := Lib.hid (D0.out.go f1)
    clear d0 d1 d2 d3 d4
    obtain ⟨d0, d1, d2, d3, d4⟩ := five D1.out.b
    obtain ⟨a0, a1, a2, a3, a4⟩ := five D1.out.o
    obtain ⟨b0, b2, b3, b4, b5⟩ := fiveF D1.out.o
    go_wp2
    refine bodyPost_ret (v := .tuple #[.agg #[.int .i64 0, .string ⟨#[]⟩, .slice none 0 0, .slice none 0 0, .slice none 0 0], .int .i64 0, .int .i64 r]) (by simp [results, Tryd.results13, go_sem, a0, a1, a2, a3, a4]) rfl ?_
    exact ⟨_, rfl, ItemO.nothing _ _, D1.out.end5 _ _ _ _ _⟩
end Go.Proofs.YtmlmiboihjibiaaDoor
