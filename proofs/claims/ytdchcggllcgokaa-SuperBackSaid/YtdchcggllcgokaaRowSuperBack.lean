/-
  SuperBack: whatever the input, the call returns true and each argument reads behind it as before. No condition.
-/
import Derived.Test.YtdchcggllcgokaaRows
import Derived.Test.YtdchcggllcgokaaHead
import Derived.Test.YtdchcggllcgokaaSqV
import Derived.WalkKit
import Derived.ProofKit
import Derived.OpenShut
import Derived.ShutString
import Derived.ChangeOld
import Derived.Below
import Derived.SizedLaws
import Derived.Test.YtdchcggllcgokaaWWords
import Derived.Test.YtdchcggllcgokaaOpen
namespace Go.Proofs.Ytdchcggllcgokaa.superBack
open Go.ChangeShapes Go.WideShapes Go.ChangeAt Go.RowKit
open Go.Proofs.YtdchcggllcgokaaW
set_option linter.unusedVariables false
theorem own : ownKnob Try.prog.godebug = none := by kernel_rfl
theorem laidOut : laidOutB Try.prog = true := by kernel_rfl
def IsRow (k : IntKind) (w : World) (a : Option Addr) (len cap : Nat) (zs : List Int) : Prop :=
  (a = none ∧ len = 0 ∧ cap = 0 ∧ zs = []) ∨
  ∃ x, a = some x ∧ len ≤ cap ∧ cap ≤ maxLen ∧ zs.length = cap ∧ (∀ i, i < zs.length → w.cell? (x.add i) = some (.int k (zs.getD i 0))) ∧ ∀ n ∈ zs, (Lit.int k n).wf = true
set_option maxRecDepth 100000 in
theorem lifted (os : Os) (started : os.Started) (H : Type) (enc : TypeId × Value → H) :
    ReturnsInHanded {} Try.checked os 28 .any (Rows.superBackSpec.pre6 enc Try.prog Try.f28 Rows.superBackRow.domain false) (Rows.superBackSpec.post enc Try.prog Try.f28 false true false false) := by
  refine returnsInHanded_of_change_sized (C := Try.checked) own started (by kernel_rfl) Try.func28
    (ChangeSpec.witness6 (enc := enc) (C := Try.checked) false ⟨#[], #[.int .u64 0, .agg #[.int .u64 0, .int .i64 0, .int .i64 0, .int .i64 0, .int .i64 0, .int .u8 0, .int .u8 0, .int .u8 0, .int .u8 0, .int .u8 0, .int .u8 0, .int .u8 0, .int .u8 0, .int .u8 0, .int .u8 0, .int .u8 0, .int .u8 0, .int .u8 0, .int .u8 0, .int .u8 0, .int .u8 0, .int .i64 0, .bool false], .agg #[.int .u8 0, .int .u8 0, .int .u8 0, .int .u8 0, .int .u8 0, .int .u8 0, .int .u8 0, .int .u8 0, .int .u8 0, .int .u8 0, .int .u8 0, .int .u8 0, .int .u8 0, .int .u8 0, .int .u8 0, .int .u8 0, .int .u8 0, .int .u8 0, .int .u8 0, .int .u8 0, .int .u8 0, .int .u8 0, .int .u8 0, .int .u8 0, .int .u8 0, .int .u8 0, .int .u8 0, .int .u8 0, .int .u8 0, .int .u8 0, .int .u8 0, .int .u8 0, .int .u8 0, .int .u8 0, .int .u8 0, .int .u8 0, .int .u8 0, .int .u8 0, .int .u8 0, .int .u8 0, .int .u8 0, .int .u8 0, .int .u8 0, .int .u8 0, .int .u8 0, .int .u8 0, .int .u8 0, .int .u8 0, .int .u8 0, .int .u8 0, .int .u8 0, .int .u8 0, .int .u8 0, .int .u8 0, .int .u8 0, .int .u8 0, .int .u8 0, .int .u8 0, .int .u8 0, .int .u8 0, .int .u8 0, .int .u8 0, .int .u8 0, .int .u8 0]], []⟩ 8 (by kernel_rfl) (by kernel_rfl) (by kernel_rfl) (by kernel_rfl)) ?_
  intro W base args ds gs before hval0 hW hcnd hsz0 _
  have hsz : (DataW.weightsEach Try.prog (Try.f28.params.toList ++ Rows.superBackSpec.plain.varTypes Try.prog) (ds ++ gs)).all (· ≤ reachBytes) = true := hsz0
  have hval : ∀ (j : Nat) t v, Try.f28.params[j]? = some t → args[j]? = some v → Value.okWide Try.prog W .any base t v := hval0
  have hW' := hW
  obtain ⟨p, q, hA0, hV, rfl, hfz, hnd⟩ := hW
  have hA : DataW.TrodAll enc Try.prog W 0 (fun _ => true) true Try.f28.params.toList args.toList ds p := hA0
  rw [Try.params28] at hA hval hsz
  obtain ⟨v0, vs0, d0, ds0, p0, q0, hargs, rfl, rfl, h0, r0⟩ := trodAll_cons hA
  obtain ⟨v1, vs1, d1, ds1, p1, q1, rfl, rfl, rfl, h1, r1⟩ := trodAll_cons r0
  obtain ⟨v2, vs2, d2, ds2, p2, q2, rfl, rfl, rfl, h2, r2⟩ := trodAll_cons r1
  obtain ⟨rfl, rfl, rfl⟩ := trodAll_nil r2
  obtain rfl : args = #[v0, v1, v2] := by cases args; simp_all
  obtain ⟨rfl, rfl⟩ := trodVars_none hV
  obtain ⟨a0, rfl, rfl, rfl, w0⟩ := open_int Try.underlying33 (hval 0 33 v0 rfl rfl) h0
  have k1 := h1
  have lt1 : ∀ x ∈ p1, x.block < W.heap.size := by obtain ⟨m, hm⟩ := k1; exact DataW.trod_lt m _ _ _ hm
  obtain ⟨cs1, rfl, hs1, hc1⟩ := O.agg_cells (ts := [33, 3, 3, 3, 3, 5, 5, 5, 5, 5, 5, 5, 5, 5, 5, 5, 5, 5, 5, 5, 5, 3, 4]) Try.underlying110 rfl (by kernel_rfl) (by kernel_rfl) (hval 1 110 v1 rfl rfl)
  obtain ⟨x1_0, e1_0, y1_0⟩ := O.cell_at hs1 hc1 0 33 rfl
  obtain ⟨a1_0, rfl, w1_0⟩ := O.cell_int Try.underlying33 y1_0
  obtain ⟨x1_1, e1_1, y1_1⟩ := O.cell_at hs1 hc1 1 3 rfl
  obtain ⟨a1_1, rfl, w1_1⟩ := O.cell_int Try.underlying3 y1_1
  obtain ⟨x1_2, e1_2, y1_2⟩ := O.cell_at hs1 hc1 2 3 rfl
  obtain ⟨a1_2, rfl, w1_2⟩ := O.cell_int Try.underlying3 y1_2
  obtain ⟨x1_3, e1_3, y1_3⟩ := O.cell_at hs1 hc1 3 3 rfl
  obtain ⟨a1_3, rfl, w1_3⟩ := O.cell_int Try.underlying3 y1_3
  obtain ⟨x1_4, e1_4, y1_4⟩ := O.cell_at hs1 hc1 4 3 rfl
  obtain ⟨a1_4, rfl, w1_4⟩ := O.cell_int Try.underlying3 y1_4
  obtain ⟨x1_5, e1_5, y1_5⟩ := O.cell_at hs1 hc1 5 5 rfl
  obtain ⟨a1_5, rfl, w1_5⟩ := O.cell_int Try.underlying5 y1_5
  obtain ⟨x1_6, e1_6, y1_6⟩ := O.cell_at hs1 hc1 6 5 rfl
  obtain ⟨a1_6, rfl, w1_6⟩ := O.cell_int Try.underlying5 y1_6
  obtain ⟨x1_7, e1_7, y1_7⟩ := O.cell_at hs1 hc1 7 5 rfl
  obtain ⟨a1_7, rfl, w1_7⟩ := O.cell_int Try.underlying5 y1_7
  obtain ⟨x1_8, e1_8, y1_8⟩ := O.cell_at hs1 hc1 8 5 rfl
  obtain ⟨a1_8, rfl, w1_8⟩ := O.cell_int Try.underlying5 y1_8
  obtain ⟨x1_9, e1_9, y1_9⟩ := O.cell_at hs1 hc1 9 5 rfl
  obtain ⟨a1_9, rfl, w1_9⟩ := O.cell_int Try.underlying5 y1_9
  obtain ⟨x1_10, e1_10, y1_10⟩ := O.cell_at hs1 hc1 10 5 rfl
  obtain ⟨a1_10, rfl, w1_10⟩ := O.cell_int Try.underlying5 y1_10
  obtain ⟨x1_11, e1_11, y1_11⟩ := O.cell_at hs1 hc1 11 5 rfl
  obtain ⟨a1_11, rfl, w1_11⟩ := O.cell_int Try.underlying5 y1_11
  obtain ⟨x1_12, e1_12, y1_12⟩ := O.cell_at hs1 hc1 12 5 rfl
  obtain ⟨a1_12, rfl, w1_12⟩ := O.cell_int Try.underlying5 y1_12
  obtain ⟨x1_13, e1_13, y1_13⟩ := O.cell_at hs1 hc1 13 5 rfl
  obtain ⟨a1_13, rfl, w1_13⟩ := O.cell_int Try.underlying5 y1_13
  obtain ⟨x1_14, e1_14, y1_14⟩ := O.cell_at hs1 hc1 14 5 rfl
  obtain ⟨a1_14, rfl, w1_14⟩ := O.cell_int Try.underlying5 y1_14
  obtain ⟨x1_15, e1_15, y1_15⟩ := O.cell_at hs1 hc1 15 5 rfl
  obtain ⟨a1_15, rfl, w1_15⟩ := O.cell_int Try.underlying5 y1_15
  obtain ⟨x1_16, e1_16, y1_16⟩ := O.cell_at hs1 hc1 16 5 rfl
  obtain ⟨a1_16, rfl, w1_16⟩ := O.cell_int Try.underlying5 y1_16
  obtain ⟨x1_17, e1_17, y1_17⟩ := O.cell_at hs1 hc1 17 5 rfl
  obtain ⟨a1_17, rfl, w1_17⟩ := O.cell_int Try.underlying5 y1_17
  obtain ⟨x1_18, e1_18, y1_18⟩ := O.cell_at hs1 hc1 18 5 rfl
  obtain ⟨a1_18, rfl, w1_18⟩ := O.cell_int Try.underlying5 y1_18
  obtain ⟨x1_19, e1_19, y1_19⟩ := O.cell_at hs1 hc1 19 5 rfl
  obtain ⟨a1_19, rfl, w1_19⟩ := O.cell_int Try.underlying5 y1_19
  obtain ⟨x1_20, e1_20, y1_20⟩ := O.cell_at hs1 hc1 20 5 rfl
  obtain ⟨a1_20, rfl, w1_20⟩ := O.cell_int Try.underlying5 y1_20
  obtain ⟨x1_21, e1_21, y1_21⟩ := O.cell_at hs1 hc1 21 3 rfl
  obtain ⟨a1_21, rfl, w1_21⟩ := O.cell_int Try.underlying3 y1_21
  obtain ⟨x1_22, e1_22, y1_22⟩ := O.cell_at hs1 hc1 22 4 rfl
  obtain ⟨a1_22, rfl⟩ := O.cell_bool Try.underlying4 y1_22
  obtain rfl : cs1 = #[.int .u64 a1_0, .int .i64 a1_1, .int .i64 a1_2, .int .i64 a1_3, .int .i64 a1_4, .int .u8 a1_5, .int .u8 a1_6, .int .u8 a1_7, .int .u8 a1_8, .int .u8 a1_9, .int .u8 a1_10, .int .u8 a1_11, .int .u8 a1_12, .int .u8 a1_13, .int .u8 a1_14, .int .u8 a1_15, .int .u8 a1_16, .int .u8 a1_17, .int .u8 a1_18, .int .u8 a1_19, .int .u8 a1_20, .int .i64 a1_21, .bool a1_22] := by
    apply Array.ext_getElem?; intro j
    match j with
    | 0 => exact e1_0
    | 1 => exact e1_1
    | 2 => exact e1_2
    | 3 => exact e1_3
    | 4 => exact e1_4
    | 5 => exact e1_5
    | 6 => exact e1_6
    | 7 => exact e1_7
    | 8 => exact e1_8
    | 9 => exact e1_9
    | 10 => exact e1_10
    | 11 => exact e1_11
    | 12 => exact e1_12
    | 13 => exact e1_13
    | 14 => exact e1_14
    | 15 => exact e1_15
    | 16 => exact e1_16
    | 17 => exact e1_17
    | 18 => exact e1_18
    | 19 => exact e1_19
    | 20 => exact e1_20
    | 21 => exact e1_21
    | 22 => exact e1_22
    | j + 23 => rw [Array.getElem?_eq_none (by simp at hs1; omega), Array.getElem?_eq_none (by simp)]
  have k2 := h2
  have lt2 : ∀ x ∈ p2, x.block < W.heap.size := by obtain ⟨m, hm⟩ := k2; exact DataW.trod_lt m _ _ _ hm
  obtain ⟨l2, rfl, n2, hw2⟩ := O.arr_ints (n := 64) Try.underlying50 (by kernel_rfl) (by kernel_rfl) Try.underlying5 (hval 2 50 v2 rfl rfl)
  clear hA0 hval0 hsz0 hsz
  refine (Q.sBack_row a0 w0 a1_0 w1_0 a1_1 w1_1 a1_2 w1_2 a1_3 w1_3 a1_4 w1_4 a1_5 w1_5 a1_6 w1_6 a1_7 w1_7 a1_8 w1_8 a1_9 w1_9 a1_10 w1_10 a1_11 w1_11 a1_12 w1_12 a1_13 w1_13 a1_14 w1_14 a1_15 w1_15 a1_16 w1_16 a1_17 w1_17 a1_18 w1_18 a1_19 w1_19 a1_20 w1_20 a1_21 w1_21 a1_22 l2 n2 hw2 W).mono fun e W' ⟨he, bel⟩ => ?_
  subst he
  exact ⟨_, rfl, _, _, _, [], _, [], hW', trodAll_mk1 (shut_bool Try.underlying4 _), (trodAll_cons_mk (shut_int Try.underlying33 w0) (trodAll_cons_mk (Below.trod laidOut (by kernel_rfl) (of_decide_eq_true (by kernel_rfl)) k1 bel lt1) (trodAll_cons_mk (Below.trod laidOut (by kernel_rfl) (of_decide_eq_true (by kernel_rfl)) k2 bel lt2) trodAll_mk0))), rfl, bel.frame _, fun h => by cases h⟩
set_option maxHeartbeats 1000000 in
theorem facts : joinedFacts Try.prog 28 Try.f28 Rows.superBackSpec Rows.superBackRow = true := by
  unfold joinedFacts
  repeat' (with_reducible apply Head.and_mk)
  all_goals first
    | with_reducible exact Head.enters
    | (with_reducible refine Head.lifted_mk ?_; kernel_rfl)
    | (with_reducible refine Head.make_mk ?_; kernel_rfl)
    | (as_aux_lemma => kernel_rfl)
theorem over : Rows.superBackRow.holds Try.pinned (OpenSpec.ofChange Rows.superBackSpec) :=
  OpenClaim.holds_of_wide 28 Try.f28 rfl rfl rfl rfl rfl rfl rfl ⟨rfl, rfl, rfl, rfl, rfl⟩ rfl rfl rfl rfl rfl (by as_aux_lemma => kernel_rfl) Try.func28 facts
    (of_decide_eq_true (by as_aux_lemma => kernel_rfl)) (by unfold Func.isWrapper; first | (rw [if_pos (by decide +kernel)]; kernel_rfl) | (rw [if_neg (by decide +kernel)]; exact ⟨rfl, rfl⟩))
    (fun os started H enc _ => lifted os started H enc)
theorem proved : Rows.SuperBackSaid := over
end Go.Proofs.Ytdchcggllcgokaa.superBack
namespace Go.Proofs.Ytdchcggllcgokaa
/-- The row, under a short name, for the claim. -/
theorem superBack_holds : Rows.SuperBackSaid := superBack.proved
end Go.Proofs.Ytdchcggllcgokaa
