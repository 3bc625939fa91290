/-
  SuperNewest: whatever the input, the call returns true and each argument reads behind it as before. No condition.
-/
import Derived.Test.YtdchcggllcgokaaRows
import Derived.Test.YtdchcggllcgokaaHead
import Derived.Test.YtdchcggllcgokaaSqX
import Derived.WalkKit
import Derived.ProofKit
import Derived.OpenShut
import Derived.ShutString
import Derived.ChangeOld
import Derived.Below
import Derived.SizedLaws
import Derived.Test.YtdchcggllcgokaaWWords
import Derived.Test.YtdchcggllcgokaaOpen
namespace Go.Proofs.Ytdchcggllcgokaa.superNewest
open Go.ChangeShapes Go.WideShapes Go.ChangeAt Go.RowKit
open Go.Proofs.YtdchcggllcgokaaW
set_option linter.unusedVariables false
theorem own : ownKnob Try.prog.godebug = none := by kernel_rfl
theorem laidOut : laidOutB Try.prog = true := by kernel_rfl
def IsRow (k : IntKind) (w : World) (a : Option Addr) (len cap : Nat) (zs : List Int) : Prop :=
  (a = none ∧ len = 0 ∧ cap = 0 ∧ zs = []) ∨
  ∃ x, a = some x ∧ len ≤ cap ∧ cap ≤ maxLen ∧ zs.length = cap ∧ (∀ i, i < zs.length → w.cell? (x.add i) = some (.int k (zs.getD i 0))) ∧ ∀ n ∈ zs, (Lit.int k n).wf = true
set_option maxRecDepth 100000 in
theorem lifted (os : Os) (started : os.Started) (H : Type) (enc : TypeId × Value → H) :
    ReturnsInHanded {} Try.checked os 30 .any (Rows.superNewestSpec.pre6 enc Try.prog Try.f30 Rows.superNewestRow.domain false) (Rows.superNewestSpec.post enc Try.prog Try.f30 false true false false) := by
  refine returnsInHanded_of_change_sized (C := Try.checked) own started (by kernel_rfl) Try.func30
    (ChangeSpec.witness6 (enc := enc) (C := Try.checked) false ⟨#[], #[.agg #[.int .u8 0, .int .u8 0, .int .u8 0, .int .u8 0, .int .u8 0, .int .u8 0, .int .u8 0, .int .u8 0, .int .u8 0, .int .u8 0, .int .u8 0, .int .u8 0, .int .u8 0, .int .u8 0, .int .u8 0, .int .u8 0, .int .u8 0, .int .u8 0, .int .u8 0, .int .u8 0, .int .u8 0, .int .u8 0, .int .u8 0, .int .u8 0, .int .u8 0, .int .u8 0, .int .u8 0, .int .u8 0, .int .u8 0, .int .u8 0, .int .u8 0, .int .u8 0, .int .u8 0, .int .u8 0, .int .u8 0, .int .u8 0, .int .u8 0, .int .u8 0, .int .u8 0, .int .u8 0, .int .u8 0, .int .u8 0, .int .u8 0, .int .u8 0, .int .u8 0, .int .u8 0, .int .u8 0, .int .u8 0, .int .u8 0, .int .u8 0, .int .u8 0, .int .u8 0, .int .u8 0, .int .u8 0, .int .u8 0, .int .u8 0, .int .u8 0, .int .u8 0, .int .u8 0, .int .u8 0, .int .u8 0, .int .u8 0, .int .u8 0, .int .u8 0], .agg #[.int .u8 0, .int .u8 0, .int .u8 0, .int .u8 0, .int .u8 0, .int .u8 0, .int .u8 0, .int .u8 0, .int .u8 0, .int .u8 0, .int .u8 0, .int .u8 0, .int .u8 0, .int .u8 0, .int .u8 0, .int .u8 0, .int .u8 0, .int .u8 0, .int .u8 0, .int .u8 0, .int .u8 0, .int .u8 0, .int .u8 0, .int .u8 0, .int .u8 0, .int .u8 0, .int .u8 0, .int .u8 0, .int .u8 0, .int .u8 0, .int .u8 0, .int .u8 0, .int .u8 0, .int .u8 0, .int .u8 0, .int .u8 0, .int .u8 0, .int .u8 0, .int .u8 0, .int .u8 0, .int .u8 0, .int .u8 0, .int .u8 0, .int .u8 0, .int .u8 0, .int .u8 0, .int .u8 0, .int .u8 0, .int .u8 0, .int .u8 0, .int .u8 0, .int .u8 0, .int .u8 0, .int .u8 0, .int .u8 0, .int .u8 0, .int .u8 0, .int .u8 0, .int .u8 0, .int .u8 0, .int .u8 0, .int .u8 0, .int .u8 0, .int .u8 0], .int .u64 0, .int .u64 0, .agg #[.int .u64 0, .int .i64 0, .int .i64 0, .int .i64 0, .int .i64 0, .int .u8 0, .int .u8 0, .int .u8 0, .int .u8 0, .int .u8 0, .int .u8 0, .int .u8 0, .int .u8 0, .int .u8 0, .int .u8 0, .int .u8 0, .int .u8 0, .int .u8 0, .int .u8 0, .int .u8 0, .int .u8 0, .int .i64 0, .bool false], .agg #[.int .u64 0, .int .i64 0, .int .i64 0, .int .i64 0, .int .i64 0, .int .u8 0, .int .u8 0, .int .u8 0, .int .u8 0, .int .u8 0, .int .u8 0, .int .u8 0, .int .u8 0, .int .u8 0, .int .u8 0, .int .u8 0, .int .u8 0, .int .u8 0, .int .u8 0, .int .u8 0, .int .u8 0, .int .i64 0, .bool false]], []⟩ 8 (by kernel_rfl) (by kernel_rfl) (by kernel_rfl) (by kernel_rfl)) ?_
  intro W base args ds gs before hval0 hW hcnd hsz0 _
  have hsz : (DataW.weightsEach Try.prog (Try.f30.params.toList ++ Rows.superNewestSpec.plain.varTypes Try.prog) (ds ++ gs)).all (· ≤ reachBytes) = true := hsz0
  have hval : ∀ (j : Nat) t v, Try.f30.params[j]? = some t → args[j]? = some v → Value.okWide Try.prog W .any base t v := hval0
  have hW' := hW
  obtain ⟨p, q, hA0, hV, rfl, hfz, hnd⟩ := hW
  have hA : DataW.TrodAll enc Try.prog W 0 (fun _ => true) true Try.f30.params.toList args.toList ds p := hA0
  rw [Try.params30] at hA hval hsz
  obtain ⟨v0, vs0, d0, ds0, p0, q0, hargs, rfl, rfl, h0, r0⟩ := trodAll_cons hA
  obtain ⟨v1, vs1, d1, ds1, p1, q1, rfl, rfl, rfl, h1, r1⟩ := trodAll_cons r0
  obtain ⟨v2, vs2, d2, ds2, p2, q2, rfl, rfl, rfl, h2, r2⟩ := trodAll_cons r1
  obtain ⟨v3, vs3, d3, ds3, p3, q3, rfl, rfl, rfl, h3, r3⟩ := trodAll_cons r2
  obtain ⟨v4, vs4, d4, ds4, p4, q4, rfl, rfl, rfl, h4, r4⟩ := trodAll_cons r3
  obtain ⟨v5, vs5, d5, ds5, p5, q5, rfl, rfl, rfl, h5, r5⟩ := trodAll_cons r4
  obtain ⟨rfl, rfl, rfl⟩ := trodAll_nil r5
  obtain rfl : args = #[v0, v1, v2, v3, v4, v5] := by cases args; simp_all
  obtain ⟨rfl, rfl⟩ := trodVars_none hV
  have k0 := h0
  have lt0 : ∀ x ∈ p0, x.block < W.heap.size := by obtain ⟨m, hm⟩ := k0; exact DataW.trod_lt m _ _ _ hm
  obtain ⟨l0, rfl, n0, hw0⟩ := O.arr_ints (n := 64) Try.underlying50 (by kernel_rfl) (by kernel_rfl) Try.underlying5 (hval 0 50 v0 rfl rfl)
  have k1 := h1
  have lt1 : ∀ x ∈ p1, x.block < W.heap.size := by obtain ⟨m, hm⟩ := k1; exact DataW.trod_lt m _ _ _ hm
  obtain ⟨l1, rfl, n1, hw1⟩ := O.arr_ints (n := 64) Try.underlying50 (by kernel_rfl) (by kernel_rfl) Try.underlying5 (hval 1 50 v1 rfl rfl)
  obtain ⟨a2, rfl, rfl, rfl, w2⟩ := open_int Try.underlying33 (hval 2 33 v2 rfl rfl) h2
  obtain ⟨a3, rfl, rfl, rfl, w3⟩ := open_int Try.underlying33 (hval 3 33 v3 rfl rfl) h3
  have k4 := h4
  have lt4 : ∀ x ∈ p4, x.block < W.heap.size := by obtain ⟨m, hm⟩ := k4; exact DataW.trod_lt m _ _ _ hm
  obtain ⟨cs4, rfl, hs4, hc4⟩ := O.agg_cells (ts := [33, 3, 3, 3, 3, 5, 5, 5, 5, 5, 5, 5, 5, 5, 5, 5, 5, 5, 5, 5, 5, 3, 4]) Try.underlying110 rfl (by kernel_rfl) (by kernel_rfl) (hval 4 110 v4 rfl rfl)
  obtain ⟨x4_0, e4_0, y4_0⟩ := O.cell_at hs4 hc4 0 33 rfl
  obtain ⟨a4_0, rfl, w4_0⟩ := O.cell_int Try.underlying33 y4_0
  obtain ⟨x4_1, e4_1, y4_1⟩ := O.cell_at hs4 hc4 1 3 rfl
  obtain ⟨a4_1, rfl, w4_1⟩ := O.cell_int Try.underlying3 y4_1
  obtain ⟨x4_2, e4_2, y4_2⟩ := O.cell_at hs4 hc4 2 3 rfl
  obtain ⟨a4_2, rfl, w4_2⟩ := O.cell_int Try.underlying3 y4_2
  obtain ⟨x4_3, e4_3, y4_3⟩ := O.cell_at hs4 hc4 3 3 rfl
  obtain ⟨a4_3, rfl, w4_3⟩ := O.cell_int Try.underlying3 y4_3
  obtain ⟨x4_4, e4_4, y4_4⟩ := O.cell_at hs4 hc4 4 3 rfl
  obtain ⟨a4_4, rfl, w4_4⟩ := O.cell_int Try.underlying3 y4_4
  obtain ⟨x4_5, e4_5, y4_5⟩ := O.cell_at hs4 hc4 5 5 rfl
  obtain ⟨a4_5, rfl, w4_5⟩ := O.cell_int Try.underlying5 y4_5
  obtain ⟨x4_6, e4_6, y4_6⟩ := O.cell_at hs4 hc4 6 5 rfl
  obtain ⟨a4_6, rfl, w4_6⟩ := O.cell_int Try.underlying5 y4_6
  obtain ⟨x4_7, e4_7, y4_7⟩ := O.cell_at hs4 hc4 7 5 rfl
  obtain ⟨a4_7, rfl, w4_7⟩ := O.cell_int Try.underlying5 y4_7
  obtain ⟨x4_8, e4_8, y4_8⟩ := O.cell_at hs4 hc4 8 5 rfl
  obtain ⟨a4_8, rfl, w4_8⟩ := O.cell_int Try.underlying5 y4_8
  obtain ⟨x4_9, e4_9, y4_9⟩ := O.cell_at hs4 hc4 9 5 rfl
  obtain ⟨a4_9, rfl, w4_9⟩ := O.cell_int Try.underlying5 y4_9
  obtain ⟨x4_10, e4_10, y4_10⟩ := O.cell_at hs4 hc4 10 5 rfl
  obtain ⟨a4_10, rfl, w4_10⟩ := O.cell_int Try.underlying5 y4_10
  obtain ⟨x4_11, e4_11, y4_11⟩ := O.cell_at hs4 hc4 11 5 rfl
  obtain ⟨a4_11, rfl, w4_11⟩ := O.cell_int Try.underlying5 y4_11
  obtain ⟨x4_12, e4_12, y4_12⟩ := O.cell_at hs4 hc4 12 5 rfl
  obtain ⟨a4_12, rfl, w4_12⟩ := O.cell_int Try.underlying5 y4_12
  obtain ⟨x4_13, e4_13, y4_13⟩ := O.cell_at hs4 hc4 13 5 rfl
  obtain ⟨a4_13, rfl, w4_13⟩ := O.cell_int Try.underlying5 y4_13
  obtain ⟨x4_14, e4_14, y4_14⟩ := O.cell_at hs4 hc4 14 5 rfl
  obtain ⟨a4_14, rfl, w4_14⟩ := O.cell_int Try.underlying5 y4_14
  obtain ⟨x4_15, e4_15, y4_15⟩ := O.cell_at hs4 hc4 15 5 rfl
  obtain ⟨a4_15, rfl, w4_15⟩ := O.cell_int Try.underlying5 y4_15
  obtain ⟨x4_16, e4_16, y4_16⟩ := O.cell_at hs4 hc4 16 5 rfl
  obtain ⟨a4_16, rfl, w4_16⟩ := O.cell_int Try.underlying5 y4_16
  obtain ⟨x4_17, e4_17, y4_17⟩ := O.cell_at hs4 hc4 17 5 rfl
  obtain ⟨a4_17, rfl, w4_17⟩ := O.cell_int Try.underlying5 y4_17
  obtain ⟨x4_18, e4_18, y4_18⟩ := O.cell_at hs4 hc4 18 5 rfl
  obtain ⟨a4_18, rfl, w4_18⟩ := O.cell_int Try.underlying5 y4_18
  obtain ⟨x4_19, e4_19, y4_19⟩ := O.cell_at hs4 hc4 19 5 rfl
  obtain ⟨a4_19, rfl, w4_19⟩ := O.cell_int Try.underlying5 y4_19
  obtain ⟨x4_20, e4_20, y4_20⟩ := O.cell_at hs4 hc4 20 5 rfl
  obtain ⟨a4_20, rfl, w4_20⟩ := O.cell_int Try.underlying5 y4_20
  obtain ⟨x4_21, e4_21, y4_21⟩ := O.cell_at hs4 hc4 21 3 rfl
  obtain ⟨a4_21, rfl, w4_21⟩ := O.cell_int Try.underlying3 y4_21
  obtain ⟨x4_22, e4_22, y4_22⟩ := O.cell_at hs4 hc4 22 4 rfl
  obtain ⟨a4_22, rfl⟩ := O.cell_bool Try.underlying4 y4_22
  obtain rfl : cs4 = #[.int .u64 a4_0, .int .i64 a4_1, .int .i64 a4_2, .int .i64 a4_3, .int .i64 a4_4, .int .u8 a4_5, .int .u8 a4_6, .int .u8 a4_7, .int .u8 a4_8, .int .u8 a4_9, .int .u8 a4_10, .int .u8 a4_11, .int .u8 a4_12, .int .u8 a4_13, .int .u8 a4_14, .int .u8 a4_15, .int .u8 a4_16, .int .u8 a4_17, .int .u8 a4_18, .int .u8 a4_19, .int .u8 a4_20, .int .i64 a4_21, .bool a4_22] := by
    apply Array.ext_getElem?; intro j
    match j with
    | 0 => exact e4_0
    | 1 => exact e4_1
    | 2 => exact e4_2
    | 3 => exact e4_3
    | 4 => exact e4_4
    | 5 => exact e4_5
    | 6 => exact e4_6
    | 7 => exact e4_7
    | 8 => exact e4_8
    | 9 => exact e4_9
    | 10 => exact e4_10
    | 11 => exact e4_11
    | 12 => exact e4_12
    | 13 => exact e4_13
    | 14 => exact e4_14
    | 15 => exact e4_15
    | 16 => exact e4_16
    | 17 => exact e4_17
    | 18 => exact e4_18
    | 19 => exact e4_19
    | 20 => exact e4_20
    | 21 => exact e4_21
    | 22 => exact e4_22
    | j + 23 => rw [Array.getElem?_eq_none (by simp at hs4; omega), Array.getElem?_eq_none (by simp)]
  have k5 := h5
  have lt5 : ∀ x ∈ p5, x.block < W.heap.size := by obtain ⟨m, hm⟩ := k5; exact DataW.trod_lt m _ _ _ hm
  obtain ⟨cs5, rfl, hs5, hc5⟩ := O.agg_cells (ts := [33, 3, 3, 3, 3, 5, 5, 5, 5, 5, 5, 5, 5, 5, 5, 5, 5, 5, 5, 5, 5, 3, 4]) Try.underlying110 rfl (by kernel_rfl) (by kernel_rfl) (hval 5 110 v5 rfl rfl)
  obtain ⟨x5_0, e5_0, y5_0⟩ := O.cell_at hs5 hc5 0 33 rfl
  obtain ⟨a5_0, rfl, w5_0⟩ := O.cell_int Try.underlying33 y5_0
  obtain ⟨x5_1, e5_1, y5_1⟩ := O.cell_at hs5 hc5 1 3 rfl
  obtain ⟨a5_1, rfl, w5_1⟩ := O.cell_int Try.underlying3 y5_1
  obtain ⟨x5_2, e5_2, y5_2⟩ := O.cell_at hs5 hc5 2 3 rfl
  obtain ⟨a5_2, rfl, w5_2⟩ := O.cell_int Try.underlying3 y5_2
  obtain ⟨x5_3, e5_3, y5_3⟩ := O.cell_at hs5 hc5 3 3 rfl
  obtain ⟨a5_3, rfl, w5_3⟩ := O.cell_int Try.underlying3 y5_3
  obtain ⟨x5_4, e5_4, y5_4⟩ := O.cell_at hs5 hc5 4 3 rfl
  obtain ⟨a5_4, rfl, w5_4⟩ := O.cell_int Try.underlying3 y5_4
  obtain ⟨x5_5, e5_5, y5_5⟩ := O.cell_at hs5 hc5 5 5 rfl
  obtain ⟨a5_5, rfl, w5_5⟩ := O.cell_int Try.underlying5 y5_5
  obtain ⟨x5_6, e5_6, y5_6⟩ := O.cell_at hs5 hc5 6 5 rfl
  obtain ⟨a5_6, rfl, w5_6⟩ := O.cell_int Try.underlying5 y5_6
  obtain ⟨x5_7, e5_7, y5_7⟩ := O.cell_at hs5 hc5 7 5 rfl
  obtain ⟨a5_7, rfl, w5_7⟩ := O.cell_int Try.underlying5 y5_7
  obtain ⟨x5_8, e5_8, y5_8⟩ := O.cell_at hs5 hc5 8 5 rfl
  obtain ⟨a5_8, rfl, w5_8⟩ := O.cell_int Try.underlying5 y5_8
  obtain ⟨x5_9, e5_9, y5_9⟩ := O.cell_at hs5 hc5 9 5 rfl
  obtain ⟨a5_9, rfl, w5_9⟩ := O.cell_int Try.underlying5 y5_9
  obtain ⟨x5_10, e5_10, y5_10⟩ := O.cell_at hs5 hc5 10 5 rfl
  obtain ⟨a5_10, rfl, w5_10⟩ := O.cell_int Try.underlying5 y5_10
  obtain ⟨x5_11, e5_11, y5_11⟩ := O.cell_at hs5 hc5 11 5 rfl
  obtain ⟨a5_11, rfl, w5_11⟩ := O.cell_int Try.underlying5 y5_11
  obtain ⟨x5_12, e5_12, y5_12⟩ := O.cell_at hs5 hc5 12 5 rfl
  obtain ⟨a5_12, rfl, w5_12⟩ := O.cell_int Try.underlying5 y5_12
  obtain ⟨x5_13, e5_13, y5_13⟩ := O.cell_at hs5 hc5 13 5 rfl
  obtain ⟨a5_13, rfl, w5_13⟩ := O.cell_int Try.underlying5 y5_13
  obtain ⟨x5_14, e5_14, y5_14⟩ := O.cell_at hs5 hc5 14 5 rfl
  obtain ⟨a5_14, rfl, w5_14⟩ := O.cell_int Try.underlying5 y5_14
  obtain ⟨x5_15, e5_15, y5_15⟩ := O.cell_at hs5 hc5 15 5 rfl
  obtain ⟨a5_15, rfl, w5_15⟩ := O.cell_int Try.underlying5 y5_15
  obtain ⟨x5_16, e5_16, y5_16⟩ := O.cell_at hs5 hc5 16 5 rfl
  obtain ⟨a5_16, rfl, w5_16⟩ := O.cell_int Try.underlying5 y5_16
  obtain ⟨x5_17, e5_17, y5_17⟩ := O.cell_at hs5 hc5 17 5 rfl
  obtain ⟨a5_17, rfl, w5_17⟩ := O.cell_int Try.underlying5 y5_17
  obtain ⟨x5_18, e5_18, y5_18⟩ := O.cell_at hs5 hc5 18 5 rfl
  obtain ⟨a5_18, rfl, w5_18⟩ := O.cell_int Try.underlying5 y5_18
  obtain ⟨x5_19, e5_19, y5_19⟩ := O.cell_at hs5 hc5 19 5 rfl
  obtain ⟨a5_19, rfl, w5_19⟩ := O.cell_int Try.underlying5 y5_19
  obtain ⟨x5_20, e5_20, y5_20⟩ := O.cell_at hs5 hc5 20 5 rfl
  obtain ⟨a5_20, rfl, w5_20⟩ := O.cell_int Try.underlying5 y5_20
  obtain ⟨x5_21, e5_21, y5_21⟩ := O.cell_at hs5 hc5 21 3 rfl
  obtain ⟨a5_21, rfl, w5_21⟩ := O.cell_int Try.underlying3 y5_21
  obtain ⟨x5_22, e5_22, y5_22⟩ := O.cell_at hs5 hc5 22 4 rfl
  obtain ⟨a5_22, rfl⟩ := O.cell_bool Try.underlying4 y5_22
  obtain rfl : cs5 = #[.int .u64 a5_0, .int .i64 a5_1, .int .i64 a5_2, .int .i64 a5_3, .int .i64 a5_4, .int .u8 a5_5, .int .u8 a5_6, .int .u8 a5_7, .int .u8 a5_8, .int .u8 a5_9, .int .u8 a5_10, .int .u8 a5_11, .int .u8 a5_12, .int .u8 a5_13, .int .u8 a5_14, .int .u8 a5_15, .int .u8 a5_16, .int .u8 a5_17, .int .u8 a5_18, .int .u8 a5_19, .int .u8 a5_20, .int .i64 a5_21, .bool a5_22] := by
    apply Array.ext_getElem?; intro j
    match j with
    | 0 => exact e5_0
    | 1 => exact e5_1
    | 2 => exact e5_2
    | 3 => exact e5_3
    | 4 => exact e5_4
    | 5 => exact e5_5
    | 6 => exact e5_6
    | 7 => exact e5_7
    | 8 => exact e5_8
    | 9 => exact e5_9
    | 10 => exact e5_10
    | 11 => exact e5_11
    | 12 => exact e5_12
    | 13 => exact e5_13
    | 14 => exact e5_14
    | 15 => exact e5_15
    | 16 => exact e5_16
    | 17 => exact e5_17
    | 18 => exact e5_18
    | 19 => exact e5_19
    | 20 => exact e5_20
    | 21 => exact e5_21
    | 22 => exact e5_22
    | j + 23 => rw [Array.getElem?_eq_none (by simp at hs5; omega), Array.getElem?_eq_none (by simp)]
  clear hA0 hval0 hsz0 hsz
  refine (Q.sNewest_row l0 n0 hw0 l1 n1 hw1 a2 w2 a3 w3 a4_0 w4_0 a4_1 w4_1 a4_2 w4_2 a4_3 w4_3 a4_4 w4_4 a4_5 w4_5 a4_6 w4_6 a4_7 w4_7 a4_8 w4_8 a4_9 w4_9 a4_10 w4_10 a4_11 w4_11 a4_12 w4_12 a4_13 w4_13 a4_14 w4_14 a4_15 w4_15 a4_16 w4_16 a4_17 w4_17 a4_18 w4_18 a4_19 w4_19 a4_20 w4_20 a4_21 w4_21 a4_22 a5_0 w5_0 a5_1 w5_1 a5_2 w5_2 a5_3 w5_3 a5_4 w5_4 a5_5 w5_5 a5_6 w5_6 a5_7 w5_7 a5_8 w5_8 a5_9 w5_9 a5_10 w5_10 a5_11 w5_11 a5_12 w5_12 a5_13 w5_13 a5_14 w5_14 a5_15 w5_15 a5_16 w5_16 a5_17 w5_17 a5_18 w5_18 a5_19 w5_19 a5_20 w5_20 a5_21 w5_21 a5_22 W).mono fun e W' ⟨he, bel⟩ => ?_
  subst he
  exact ⟨_, rfl, _, _, _, [], _, [], hW', trodAll_mk1 (shut_bool Try.underlying4 _), (trodAll_cons_mk (Below.trod laidOut (by kernel_rfl) (of_decide_eq_true (by kernel_rfl)) k0 bel lt0) (trodAll_cons_mk (Below.trod laidOut (by kernel_rfl) (of_decide_eq_true (by kernel_rfl)) k1 bel lt1) (trodAll_cons_mk (shut_int Try.underlying33 w2) (trodAll_cons_mk (shut_int Try.underlying33 w3) (trodAll_cons_mk (Below.trod laidOut (by kernel_rfl) (of_decide_eq_true (by kernel_rfl)) k4 bel lt4) (trodAll_cons_mk (Below.trod laidOut (by kernel_rfl) (of_decide_eq_true (by kernel_rfl)) k5 bel lt5) trodAll_mk0)))))), rfl, bel.frame _, fun h => by cases h⟩
set_option maxHeartbeats 1000000 in
theorem facts : joinedFacts Try.prog 30 Try.f30 Rows.superNewestSpec Rows.superNewestRow = true := by
  unfold joinedFacts
  repeat' (with_reducible apply Head.and_mk)
  all_goals first
    | with_reducible exact Head.enters
    | (with_reducible refine Head.lifted_mk ?_; kernel_rfl)
    | (with_reducible refine Head.make_mk ?_; kernel_rfl)
    | (as_aux_lemma => kernel_rfl)
theorem over : Rows.superNewestRow.holds Try.pinned (OpenSpec.ofChange Rows.superNewestSpec) :=
  OpenClaim.holds_of_wide 30 Try.f30 rfl rfl rfl rfl rfl rfl rfl ⟨rfl, rfl, rfl, rfl, rfl⟩ rfl rfl rfl rfl rfl (by as_aux_lemma => kernel_rfl) Try.func30 facts
    (of_decide_eq_true (by as_aux_lemma => kernel_rfl)) (by unfold Func.isWrapper; first | (rw [if_pos (by decide +kernel)]; kernel_rfl) | (rw [if_neg (by decide +kernel)]; exact ⟨rfl, rfl⟩))
    (fun os started H enc _ => lifted os started H enc)
theorem proved : Rows.SuperNewestSaid := over
end Go.Proofs.Ytdchcggllcgokaa.superNewest
namespace Go.Proofs.Ytdchcggllcgokaa
/-- The row, under a short name, for the claim. -/
theorem superNewest_holds : Rows.SuperNewestSaid := superNewest.proved
end Go.Proofs.Ytdchcggllcgokaa
