/- The statement of RestItems: for every input the law answers true, and each argument reads behind the call as it read before. No condition. -/
import Derived.Test.YtkgbgmfidkimfaaGreatRows
import Derived.Test.YtkgbgmfidkimfaaGreatMgRestItemsUpto37
import Derived.WalkKit
import Derived.ProofKit
import Derived.OpenShut
import Derived.ShutString
import Derived.ChangeOld
import Derived.Below
import Derived.Carry
import Derived.Test.YtkgbgmfidkimfaaGreatOpen
import Derived.Test.YtkgbgmfidkimfaaGreatMgRestItemsUpto17
import Derived.JoinedCond
import Derived.Deep.CondSized
set_option linter.unusedVariables false
set_option linter.unusedSimpArgs false
namespace Go.Proofs.YtkgbgmfidkimfaaGreat.lawRestItems
open Go.ChangeShapes Go.WideShapes Go.ChangeAt Go.RowKit
open Go.ChangeMaps (open_string shut_string)

theorem own : ownKnob Tryz.prog.godebug = none := by kernel_rfl
theorem laid : laidOutB Tryz.prog = true := by kernel_rfl

set_option maxRecDepth 100000 in
theorem lifted (os : Os) (started : os.Started) (H : Type) (enc : TypeId × Value → H) (F : Stop.Interp) :
    ReturnsInHanded {} Tryz.checked os 3 .any ((Rows.OpenSpec.upto Rows.restItemsSpec).pre6 enc Tryz.prog Tryz.f3 Rows.restItemsUptoRow.domain false) (((Rows.OpenSpec.upto Rows.restItemsSpec).at F).post enc Tryz.prog Tryz.f3 false true false false) := by
  refine returnsInHanded_of_cond_sized (C := Tryz.checked) (s := Rows.OpenSpec.upto Rows.restItemsSpec) (k := Rows.uptoSmall) rfl own started (by kernel_rfl) Tryz.func3
    (OpenSpec.witness (enc := enc) (C := Tryz.checked) (s := Rows.OpenSpec.upto Rows.restItemsSpec) (k := Rows.uptoSmall) rfl false ⟨#[], #[.agg #[.int .i64 0, .string ByteArray.empty, .slice none 0 0, .slice none 0 0, .slice none 0 0], .slice none 0 0, .slice none 0 0, .slice none 0 0], []⟩ 8 (by kernel_rfl) (by kernel_rfl) (by kernel_rfl)
      (x := ([.agg [.lit (.int .i64 0), .lit (.string []), .nil, .nil, .nil], .nil, .nil, .nil], [], [])) (by kernel_rfl) rfl (by kernel_rfl)) ?_
  intro W base args ds gs before hval0 hW hcnd hk hsz0 _
  have hsz : (DataW.weightsEach Tryz.prog (Tryz.f3.params.toList ++ Rows.restItemsSpec.plain.varTypes Tryz.prog) (ds ++ gs)).all (· ≤ reachBytes) = true := hsz0
  clear hsz0
  have hval : ∀ (j : Nat) t v, Tryz.f3.params[j]? = some t → args[j]? = some v → Value.okWide Tryz.prog W .any base t v := hval0
  have hW' := hW
  obtain ⟨p, q, hA0, hV, rfl, hfz, hnd⟩ := hW
  have hA : DataW.TrodAll enc Tryz.prog W 0 (fun _ => true) true Tryz.f3.params.toList args.toList ds p := hA0
  rw [Tryz.params3] at hA hval hsz
  obtain ⟨v0, vs0, d0, ds0, p0, q0, hargs, rfl, rfl, h0, r0⟩ := trodAll_cons hA
  obtain ⟨v1, vs1, d1, ds1, p1, q1, rfl, rfl, rfl, h1, r1⟩ := trodAll_cons r0
  obtain ⟨v2, vs2, d2, ds2, p2, q2, rfl, rfl, rfl, h2, r2⟩ := trodAll_cons r1
  obtain ⟨v3, vs3, d3, ds3, p3, q3, rfl, rfl, rfl, h3, r3⟩ := trodAll_cons r2
  obtain ⟨rfl, rfl, rfl⟩ := trodAll_nil r3
  obtain rfl : args = #[v0, v1, v2, v3] := by cases args; simp_all
  obtain ⟨rfl, rfl⟩ := trodVars_none hV
  have hw0 : ∀ q ∈ d0.weights Tryz.prog 26, q ≤ reachBytes := fun q hq => by
    have := List.all_eq_true.1 hsz _ (DataW.weights_mem_each (j := 0) (t := 26) rfl rfl q hq)
    simpa using this
  obtain ⟨x0, iv0, sm0⟩ := openItem (hval 0 26 v0 rfl rfl) h0 hw0
  have hw1 : ∀ q ∈ d1.weights Tryz.prog 22, q ≤ reachBytes := fun q hq => by
    have := List.all_eq_true.1 hsz _ (DataW.weights_mem_each (j := 1) (t := 22) rfl rfl q hq)
    simpa using this
  obtain ⟨A1, c1, x1, rfl, iv1, z1, sm1⟩ := openTextsA (hval 1 22 v1 rfl rfl) h1 hw1
  have hw2 : ∀ q ∈ d2.weights Tryz.prog 23, q ≤ reachBytes := fun q hq => by
    have := List.all_eq_true.1 hsz _ (DataW.weights_mem_each (j := 2) (t := 23) rfl rfl q hq)
    simpa using this
  obtain ⟨A2, c2, x2, rfl, iv2, z2, sm2⟩ := openPairsA (hval 2 23 v2 rfl rfl) h2 hw2
  have hw3 : ∀ q ∈ d3.weights Tryz.prog 24, q ≤ reachBytes := fun q hq => by
    have := List.all_eq_true.1 hsz _ (DataW.weights_mem_each (j := 3) (t := 24) rfl rfl q hq)
    simpa using this
  obtain ⟨A3, c3, x3, rfl, iv3, z3, sm3⟩ := openScoresA (hval 3 24 v3 rfl rfl) h3 hw3
  clear hA0 hval0
  simp only [List.append_nil] at hW'
  obtain ⟨bi0, bj0, bl0⟩ := bulk_item iv0 h0
  have bb0 : Rows.uptoBulk d0 ≤ 1048576 := bulk_bound hk (by simp)
  have bk1 : x1.length ≤ 1048576 := Nat.le_trans (bulk_slice Tryz.underlying22 h1) (bulk_bound hk (by simp))
  have bk2 : x2.length ≤ 1048576 := Nat.le_trans (bulk_slice Tryz.underlying23 h2) (bulk_bound hk (by simp))
  have bk3 : x3.length ≤ 1048576 := Nat.le_trans (bulk_slice Tryz.underlying24 h3) (bulk_bound hk (by simp))
  refine (restItems_any x0 v0 x1 A1 c1 x2 A2 c2 x3 A3 c3 W W.heap.size sm0 (Nat.le_refl _) iv0 (Nat.le_trans bi0 bb0) (Nat.le_trans bj0 bb0) (Nat.le_trans bl0 bb0) bk1 iv1 bk2 iv2 sm2 bk3 iv3 sm3).mono fun e W' ⟨he, hf⟩ => ?_
  subst he
  have bel : Below W.heap.size W W' := hf.below
  have lt0 : ∀ y ∈ p0, y.block < W.heap.size := fun y hy => hW'.lt y (by simp [hy])
  have lt1 : ∀ y ∈ p1, y.block < W.heap.size := fun y hy => hW'.lt y (by simp [hy])
  have lt2 : ∀ y ∈ p2, y.block < W.heap.size := fun y hy => hW'.lt y (by simp [hy])
  have lt3 : ∀ y ∈ p3, y.block < W.heap.size := fun y hy => hW'.lt y (by simp [hy])
  exact ⟨_, rfl, _, _, _, [], _, [], hW', trodAll_mk1 (shut_bool Tryz.underlying4 _), (trodAll_cons_mk (Below.trod laid (by kernel_rfl) (of_decide_eq_true (by kernel_rfl)) h0 bel lt0) (trodAll_cons_mk (Below.trod laid (by kernel_rfl) (of_decide_eq_true (by kernel_rfl)) h1 bel lt1) (trodAll_cons_mk (Below.trod laid (by kernel_rfl) (of_decide_eq_true (by kernel_rfl)) h2 bel lt2) (trodAll_cons_mk (Below.trod laid (by kernel_rfl) (of_decide_eq_true (by kernel_rfl)) h3 bel lt3) trodAll_mk0)))), rfl, bel.frame _, fun h => by cases h⟩

theorem over : Rows.restItemsUptoRow.holds Tryz.pinned (Rows.OpenSpec.upto Rows.restItemsSpec) :=
  OpenClaim.holds_of_cond 3 Tryz.f3 rfl rfl rfl rfl rfl rfl rfl ⟨rfl, rfl, rfl, rfl, rfl⟩ rfl rfl rfl rfl rfl (by kernel_rfl) Tryz.func3 (by kernel_rfl)
    (of_decide_eq_true (by kernel_rfl)) (by unfold Func.isWrapper; first | (rw [if_pos (by decide +kernel)]; kernel_rfl) | (rw [if_neg (by decide +kernel)]; exact ⟨rfl, rfl⟩))
    (fun os started H enc _ F => lifted os started H enc F)

theorem proved : Rows.RestItemsUptoSaid := over
#print axioms proved
end Go.Proofs.YtkgbgmfidkimfaaGreat.lawRestItems
