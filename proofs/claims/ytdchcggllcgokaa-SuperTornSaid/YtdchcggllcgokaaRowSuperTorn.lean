/-
  SuperTorn: whatever the input, the call returns true and each argument reads behind it as before. No condition.
-/
import Derived.Test.YtdchcggllcgokaaRows
import Derived.Test.YtdchcggllcgokaaHead
import Derived.Test.YtdchcggllcgokaaSqZ
import Derived.WalkKit
import Derived.ProofKit
import Derived.OpenShut
import Derived.ShutString
import Derived.ChangeOld
import Derived.Below
import Derived.SizedLaws
import Derived.Test.YtdchcggllcgokaaWWords
import Derived.Test.YtdchcggllcgokaaOpen
namespace Go.Proofs.Ytdchcggllcgokaa.superTorn
open Go.ChangeShapes Go.WideShapes Go.ChangeAt Go.RowKit
open Go.Proofs.YtdchcggllcgokaaW
set_option linter.unusedVariables false
theorem own : ownKnob Try.prog.godebug = none := by kernel_rfl
theorem laidOut : laidOutB Try.prog = true := by kernel_rfl
def IsRow (k : IntKind) (w : World) (a : Option Addr) (len cap : Nat) (zs : List Int) : Prop :=
  (a = none ∧ len = 0 ∧ cap = 0 ∧ zs = []) ∨
  ∃ x, a = some x ∧ len ≤ cap ∧ cap ≤ maxLen ∧ zs.length = cap ∧ (∀ i, i < zs.length → w.cell? (x.add i) = some (.int k (zs.getD i 0))) ∧ ∀ n ∈ zs, (Lit.int k n).wf = true
set_option maxRecDepth 100000 in
theorem lifted (os : Os) (started : os.Started) (H : Type) (enc : TypeId × Value → H) :
    ReturnsInHanded {} Try.checked os 31 .any (Rows.superTornSpec.pre6 enc Try.prog Try.f31 Rows.superTornRow.domain false) (Rows.superTornSpec.post enc Try.prog Try.f31 false true false false) := by
  refine returnsInHanded_of_change_sized (C := Try.checked) own started (by kernel_rfl) Try.func31
    (ChangeSpec.witness6 (enc := enc) (C := Try.checked) false ⟨#[], #[.int .u64 0, .int .u64 0, .agg #[.int .u64 0, .int .i64 0, .int .i64 0, .int .i64 0, .int .i64 0, .int .u8 0, .int .u8 0, .int .u8 0, .int .u8 0, .int .u8 0, .int .u8 0, .int .u8 0, .int .u8 0, .int .u8 0, .int .u8 0, .int .u8 0, .int .u8 0, .int .u8 0, .int .u8 0, .int .u8 0, .int .u8 0, .int .i64 0, .bool false], .agg #[.int .u64 0, .int .i64 0, .int .i64 0, .int .i64 0, .int .i64 0, .int .u8 0, .int .u8 0, .int .u8 0, .int .u8 0, .int .u8 0, .int .u8 0, .int .u8 0, .int .u8 0, .int .u8 0, .int .u8 0, .int .u8 0, .int .u8 0, .int .u8 0, .int .u8 0, .int .u8 0, .int .u8 0, .int .i64 0, .bool false], .agg #[.int .u64 0, .int .i64 0, .int .i64 0, .int .i64 0, .int .i64 0, .int .u8 0, .int .u8 0, .int .u8 0, .int .u8 0, .int .u8 0, .int .u8 0, .int .u8 0, .int .u8 0, .int .u8 0, .int .u8 0, .int .u8 0, .int .u8 0, .int .u8 0, .int .u8 0, .int .u8 0, .int .u8 0, .int .i64 0, .bool false], .int .u8 0, .int .i64 0], []⟩ 8 (by kernel_rfl) (by kernel_rfl) (by kernel_rfl) (by kernel_rfl)) ?_
  intro W base args ds gs before hval0 hW hcnd hsz0 _
  have hsz : (DataW.weightsEach Try.prog (Try.f31.params.toList ++ Rows.superTornSpec.plain.varTypes Try.prog) (ds ++ gs)).all (· ≤ reachBytes) = true := hsz0
  have hval : ∀ (j : Nat) t v, Try.f31.params[j]? = some t → args[j]? = some v → Value.okWide Try.prog W .any base t v := hval0
  have hW' := hW
  obtain ⟨p, q, hA0, hV, rfl, hfz, hnd⟩ := hW
  have hA : DataW.TrodAll enc Try.prog W 0 (fun _ => true) true Try.f31.params.toList args.toList ds p := hA0
  rw [Try.params31] at hA hval hsz
  obtain ⟨v0, vs0, d0, ds0, p0, q0, hargs, rfl, rfl, h0, r0⟩ := trodAll_cons hA
  obtain ⟨v1, vs1, d1, ds1, p1, q1, rfl, rfl, rfl, h1, r1⟩ := trodAll_cons r0
  obtain ⟨v2, vs2, d2, ds2, p2, q2, rfl, rfl, rfl, h2, r2⟩ := trodAll_cons r1
  obtain ⟨v3, vs3, d3, ds3, p3, q3, rfl, rfl, rfl, h3, r3⟩ := trodAll_cons r2
  obtain ⟨v4, vs4, d4, ds4, p4, q4, rfl, rfl, rfl, h4, r4⟩ := trodAll_cons r3
  obtain ⟨v5, vs5, d5, ds5, p5, q5, rfl, rfl, rfl, h5, r5⟩ := trodAll_cons r4
  obtain ⟨v6, vs6, d6, ds6, p6, q6, rfl, rfl, rfl, h6, r6⟩ := trodAll_cons r5
  obtain ⟨rfl, rfl, rfl⟩ := trodAll_nil r6
  obtain rfl : args = #[v0, v1, v2, v3, v4, v5, v6] := by cases args; simp_all
  obtain ⟨rfl, rfl⟩ := trodVars_none hV
  obtain ⟨a0, rfl, rfl, rfl, w0⟩ := open_int Try.underlying33 (hval 0 33 v0 rfl rfl) h0
  obtain ⟨a1, rfl, rfl, rfl, w1⟩ := open_int Try.underlying33 (hval 1 33 v1 rfl rfl) h1
  have k2 := h2
  have lt2 : ∀ x ∈ p2, x.block < W.heap.size := by obtain ⟨m, hm⟩ := k2; exact DataW.trod_lt m _ _ _ hm
  obtain ⟨cs2, rfl, hs2, hc2⟩ := O.agg_cells (ts := [33, 3, 3, 3, 3, 5, 5, 5, 5, 5, 5, 5, 5, 5, 5, 5, 5, 5, 5, 5, 5, 3, 4]) Try.underlying110 rfl (by kernel_rfl) (by kernel_rfl) (hval 2 110 v2 rfl rfl)
  obtain ⟨x2_0, e2_0, y2_0⟩ := O.cell_at hs2 hc2 0 33 rfl
  obtain ⟨a2_0, rfl, w2_0⟩ := O.cell_int Try.underlying33 y2_0
  obtain ⟨x2_1, e2_1, y2_1⟩ := O.cell_at hs2 hc2 1 3 rfl
  obtain ⟨a2_1, rfl, w2_1⟩ := O.cell_int Try.underlying3 y2_1
  obtain ⟨x2_2, e2_2, y2_2⟩ := O.cell_at hs2 hc2 2 3 rfl
  obtain ⟨a2_2, rfl, w2_2⟩ := O.cell_int Try.underlying3 y2_2
  obtain ⟨x2_3, e2_3, y2_3⟩ := O.cell_at hs2 hc2 3 3 rfl
  obtain ⟨a2_3, rfl, w2_3⟩ := O.cell_int Try.underlying3 y2_3
  obtain ⟨x2_4, e2_4, y2_4⟩ := O.cell_at hs2 hc2 4 3 rfl
  obtain ⟨a2_4, rfl, w2_4⟩ := O.cell_int Try.underlying3 y2_4
  obtain ⟨x2_5, e2_5, y2_5⟩ := O.cell_at hs2 hc2 5 5 rfl
  obtain ⟨a2_5, rfl, w2_5⟩ := O.cell_int Try.underlying5 y2_5
  obtain ⟨x2_6, e2_6, y2_6⟩ := O.cell_at hs2 hc2 6 5 rfl
  obtain ⟨a2_6, rfl, w2_6⟩ := O.cell_int Try.underlying5 y2_6
  obtain ⟨x2_7, e2_7, y2_7⟩ := O.cell_at hs2 hc2 7 5 rfl
  obtain ⟨a2_7, rfl, w2_7⟩ := O.cell_int Try.underlying5 y2_7
  obtain ⟨x2_8, e2_8, y2_8⟩ := O.cell_at hs2 hc2 8 5 rfl
  obtain ⟨a2_8, rfl, w2_8⟩ := O.cell_int Try.underlying5 y2_8
  obtain ⟨x2_9, e2_9, y2_9⟩ := O.cell_at hs2 hc2 9 5 rfl
  obtain ⟨a2_9, rfl, w2_9⟩ := O.cell_int Try.underlying5 y2_9
  obtain ⟨x2_10, e2_10, y2_10⟩ := O.cell_at hs2 hc2 10 5 rfl
  obtain ⟨a2_10, rfl, w2_10⟩ := O.cell_int Try.underlying5 y2_10
  obtain ⟨x2_11, e2_11, y2_11⟩ := O.cell_at hs2 hc2 11 5 rfl
  obtain ⟨a2_11, rfl, w2_11⟩ := O.cell_int Try.underlying5 y2_11
  obtain ⟨x2_12, e2_12, y2_12⟩ := O.cell_at hs2 hc2 12 5 rfl
  obtain ⟨a2_12, rfl, w2_12⟩ := O.cell_int Try.underlying5 y2_12
  obtain ⟨x2_13, e2_13, y2_13⟩ := O.cell_at hs2 hc2 13 5 rfl
  obtain ⟨a2_13, rfl, w2_13⟩ := O.cell_int Try.underlying5 y2_13
  obtain ⟨x2_14, e2_14, y2_14⟩ := O.cell_at hs2 hc2 14 5 rfl
  obtain ⟨a2_14, rfl, w2_14⟩ := O.cell_int Try.underlying5 y2_14
  obtain ⟨x2_15, e2_15, y2_15⟩ := O.cell_at hs2 hc2 15 5 rfl
  obtain ⟨a2_15, rfl, w2_15⟩ := O.cell_int Try.underlying5 y2_15
  obtain ⟨x2_16, e2_16, y2_16⟩ := O.cell_at hs2 hc2 16 5 rfl
  obtain ⟨a2_16, rfl, w2_16⟩ := O.cell_int Try.underlying5 y2_16
  obtain ⟨x2_17, e2_17, y2_17⟩ := O.cell_at hs2 hc2 17 5 rfl
  obtain ⟨a2_17, rfl, w2_17⟩ := O.cell_int Try.underlying5 y2_17
  obtain ⟨x2_18, e2_18, y2_18⟩ := O.cell_at hs2 hc2 18 5 rfl
  obtain ⟨a2_18, rfl, w2_18⟩ := O.cell_int Try.underlying5 y2_18
  obtain ⟨x2_19, e2_19, y2_19⟩ := O.cell_at hs2 hc2 19 5 rfl
  obtain ⟨a2_19, rfl, w2_19⟩ := O.cell_int Try.underlying5 y2_19
  obtain ⟨x2_20, e2_20, y2_20⟩ := O.cell_at hs2 hc2 20 5 rfl
  obtain ⟨a2_20, rfl, w2_20⟩ := O.cell_int Try.underlying5 y2_20
  obtain ⟨x2_21, e2_21, y2_21⟩ := O.cell_at hs2 hc2 21 3 rfl
  obtain ⟨a2_21, rfl, w2_21⟩ := O.cell_int Try.underlying3 y2_21
  obtain ⟨x2_22, e2_22, y2_22⟩ := O.cell_at hs2 hc2 22 4 rfl
  obtain ⟨a2_22, rfl⟩ := O.cell_bool Try.underlying4 y2_22
  obtain rfl : cs2 = #[.int .u64 a2_0, .int .i64 a2_1, .int .i64 a2_2, .int .i64 a2_3, .int .i64 a2_4, .int .u8 a2_5, .int .u8 a2_6, .int .u8 a2_7, .int .u8 a2_8, .int .u8 a2_9, .int .u8 a2_10, .int .u8 a2_11, .int .u8 a2_12, .int .u8 a2_13, .int .u8 a2_14, .int .u8 a2_15, .int .u8 a2_16, .int .u8 a2_17, .int .u8 a2_18, .int .u8 a2_19, .int .u8 a2_20, .int .i64 a2_21, .bool a2_22] := by
    apply Array.ext_getElem?; intro j
    match j with
    | 0 => exact e2_0
    | 1 => exact e2_1
    | 2 => exact e2_2
    | 3 => exact e2_3
    | 4 => exact e2_4
    | 5 => exact e2_5
    | 6 => exact e2_6
    | 7 => exact e2_7
    | 8 => exact e2_8
    | 9 => exact e2_9
    | 10 => exact e2_10
    | 11 => exact e2_11
    | 12 => exact e2_12
    | 13 => exact e2_13
    | 14 => exact e2_14
    | 15 => exact e2_15
    | 16 => exact e2_16
    | 17 => exact e2_17
    | 18 => exact e2_18
    | 19 => exact e2_19
    | 20 => exact e2_20
    | 21 => exact e2_21
    | 22 => exact e2_22
    | j + 23 => rw [Array.getElem?_eq_none (by simp at hs2; omega), Array.getElem?_eq_none (by simp)]
  have k3 := h3
  have lt3 : ∀ x ∈ p3, x.block < W.heap.size := by obtain ⟨m, hm⟩ := k3; exact DataW.trod_lt m _ _ _ hm
  obtain ⟨cs3, rfl, hs3, hc3⟩ := O.agg_cells (ts := [33, 3, 3, 3, 3, 5, 5, 5, 5, 5, 5, 5, 5, 5, 5, 5, 5, 5, 5, 5, 5, 3, 4]) Try.underlying110 rfl (by kernel_rfl) (by kernel_rfl) (hval 3 110 v3 rfl rfl)
  obtain ⟨x3_0, e3_0, y3_0⟩ := O.cell_at hs3 hc3 0 33 rfl
  obtain ⟨a3_0, rfl, w3_0⟩ := O.cell_int Try.underlying33 y3_0
  obtain ⟨x3_1, e3_1, y3_1⟩ := O.cell_at hs3 hc3 1 3 rfl
  obtain ⟨a3_1, rfl, w3_1⟩ := O.cell_int Try.underlying3 y3_1
  obtain ⟨x3_2, e3_2, y3_2⟩ := O.cell_at hs3 hc3 2 3 rfl
  obtain ⟨a3_2, rfl, w3_2⟩ := O.cell_int Try.underlying3 y3_2
  obtain ⟨x3_3, e3_3, y3_3⟩ := O.cell_at hs3 hc3 3 3 rfl
  obtain ⟨a3_3, rfl, w3_3⟩ := O.cell_int Try.underlying3 y3_3
  obtain ⟨x3_4, e3_4, y3_4⟩ := O.cell_at hs3 hc3 4 3 rfl
  obtain ⟨a3_4, rfl, w3_4⟩ := O.cell_int Try.underlying3 y3_4
  obtain ⟨x3_5, e3_5, y3_5⟩ := O.cell_at hs3 hc3 5 5 rfl
  obtain ⟨a3_5, rfl, w3_5⟩ := O.cell_int Try.underlying5 y3_5
  obtain ⟨x3_6, e3_6, y3_6⟩ := O.cell_at hs3 hc3 6 5 rfl
  obtain ⟨a3_6, rfl, w3_6⟩ := O.cell_int Try.underlying5 y3_6
  obtain ⟨x3_7, e3_7, y3_7⟩ := O.cell_at hs3 hc3 7 5 rfl
  obtain ⟨a3_7, rfl, w3_7⟩ := O.cell_int Try.underlying5 y3_7
  obtain ⟨x3_8, e3_8, y3_8⟩ := O.cell_at hs3 hc3 8 5 rfl
  obtain ⟨a3_8, rfl, w3_8⟩ := O.cell_int Try.underlying5 y3_8
  obtain ⟨x3_9, e3_9, y3_9⟩ := O.cell_at hs3 hc3 9 5 rfl
  obtain ⟨a3_9, rfl, w3_9⟩ := O.cell_int Try.underlying5 y3_9
  obtain ⟨x3_10, e3_10, y3_10⟩ := O.cell_at hs3 hc3 10 5 rfl
  obtain ⟨a3_10, rfl, w3_10⟩ := O.cell_int Try.underlying5 y3_10
  obtain ⟨x3_11, e3_11, y3_11⟩ := O.cell_at hs3 hc3 11 5 rfl
  obtain ⟨a3_11, rfl, w3_11⟩ := O.cell_int Try.underlying5 y3_11
  obtain ⟨x3_12, e3_12, y3_12⟩ := O.cell_at hs3 hc3 12 5 rfl
  obtain ⟨a3_12, rfl, w3_12⟩ := O.cell_int Try.underlying5 y3_12
  obtain ⟨x3_13, e3_13, y3_13⟩ := O.cell_at hs3 hc3 13 5 rfl
  obtain ⟨a3_13, rfl, w3_13⟩ := O.cell_int Try.underlying5 y3_13
  obtain ⟨x3_14, e3_14, y3_14⟩ := O.cell_at hs3 hc3 14 5 rfl
  obtain ⟨a3_14, rfl, w3_14⟩ := O.cell_int Try.underlying5 y3_14
  obtain ⟨x3_15, e3_15, y3_15⟩ := O.cell_at hs3 hc3 15 5 rfl
  obtain ⟨a3_15, rfl, w3_15⟩ := O.cell_int Try.underlying5 y3_15
  obtain ⟨x3_16, e3_16, y3_16⟩ := O.cell_at hs3 hc3 16 5 rfl
  obtain ⟨a3_16, rfl, w3_16⟩ := O.cell_int Try.underlying5 y3_16
  obtain ⟨x3_17, e3_17, y3_17⟩ := O.cell_at hs3 hc3 17 5 rfl
  obtain ⟨a3_17, rfl, w3_17⟩ := O.cell_int Try.underlying5 y3_17
  obtain ⟨x3_18, e3_18, y3_18⟩ := O.cell_at hs3 hc3 18 5 rfl
  obtain ⟨a3_18, rfl, w3_18⟩ := O.cell_int Try.underlying5 y3_18
  obtain ⟨x3_19, e3_19, y3_19⟩ := O.cell_at hs3 hc3 19 5 rfl
  obtain ⟨a3_19, rfl, w3_19⟩ := O.cell_int Try.underlying5 y3_19
  obtain ⟨x3_20, e3_20, y3_20⟩ := O.cell_at hs3 hc3 20 5 rfl
  obtain ⟨a3_20, rfl, w3_20⟩ := O.cell_int Try.underlying5 y3_20
  obtain ⟨x3_21, e3_21, y3_21⟩ := O.cell_at hs3 hc3 21 3 rfl
  obtain ⟨a3_21, rfl, w3_21⟩ := O.cell_int Try.underlying3 y3_21
  obtain ⟨x3_22, e3_22, y3_22⟩ := O.cell_at hs3 hc3 22 4 rfl
  obtain ⟨a3_22, rfl⟩ := O.cell_bool Try.underlying4 y3_22
  obtain rfl : cs3 = #[.int .u64 a3_0, .int .i64 a3_1, .int .i64 a3_2, .int .i64 a3_3, .int .i64 a3_4, .int .u8 a3_5, .int .u8 a3_6, .int .u8 a3_7, .int .u8 a3_8, .int .u8 a3_9, .int .u8 a3_10, .int .u8 a3_11, .int .u8 a3_12, .int .u8 a3_13, .int .u8 a3_14, .int .u8 a3_15, .int .u8 a3_16, .int .u8 a3_17, .int .u8 a3_18, .int .u8 a3_19, .int .u8 a3_20, .int .i64 a3_21, .bool a3_22] := by
    apply Array.ext_getElem?; intro j
    match j with
    | 0 => exact e3_0
    | 1 => exact e3_1
    | 2 => exact e3_2
    | 3 => exact e3_3
    | 4 => exact e3_4
    | 5 => exact e3_5
    | 6 => exact e3_6
    | 7 => exact e3_7
    | 8 => exact e3_8
    | 9 => exact e3_9
    | 10 => exact e3_10
    | 11 => exact e3_11
    | 12 => exact e3_12
    | 13 => exact e3_13
    | 14 => exact e3_14
    | 15 => exact e3_15
    | 16 => exact e3_16
    | 17 => exact e3_17
    | 18 => exact e3_18
    | 19 => exact e3_19
    | 20 => exact e3_20
    | 21 => exact e3_21
    | 22 => exact e3_22
    | j + 23 => rw [Array.getElem?_eq_none (by simp at hs3; omega), Array.getElem?_eq_none (by simp)]
  have k4 := h4
  have lt4 : ∀ x ∈ p4, x.block < W.heap.size := by obtain ⟨m, hm⟩ := k4; exact DataW.trod_lt m _ _ _ hm
  obtain ⟨cs4, rfl, hs4, hc4⟩ := O.agg_cells (ts := [33, 3, 3, 3, 3, 5, 5, 5, 5, 5, 5, 5, 5, 5, 5, 5, 5, 5, 5, 5, 5, 3, 4]) Try.underlying110 rfl (by kernel_rfl) (by kernel_rfl) (hval 4 110 v4 rfl rfl)
  obtain ⟨x4_0, e4_0, y4_0⟩ := O.cell_at hs4 hc4 0 33 rfl
  obtain ⟨a4_0, rfl, w4_0⟩ := O.cell_int Try.underlying33 y4_0
  obtain ⟨x4_1, e4_1, y4_1⟩ := O.cell_at hs4 hc4 1 3 rfl
  obtain ⟨a4_1, rfl, w4_1⟩ := O.cell_int Try.underlying3 y4_1
  obtain ⟨x4_2, e4_2, y4_2⟩ := O.cell_at hs4 hc4 2 3 rfl
  obtain ⟨a4_2, rfl, w4_2⟩ := O.cell_int Try.underlying3 y4_2
  obtain ⟨x4_3, e4_3, y4_3⟩ := O.cell_at hs4 hc4 3 3 rfl
  obtain ⟨a4_3, rfl, w4_3⟩ := O.cell_int Try.underlying3 y4_3
  obtain ⟨x4_4, e4_4, y4_4⟩ := O.cell_at hs4 hc4 4 3 rfl
  obtain ⟨a4_4, rfl, w4_4⟩ := O.cell_int Try.underlying3 y4_4
  obtain ⟨x4_5, e4_5, y4_5⟩ := O.cell_at hs4 hc4 5 5 rfl
  obtain ⟨a4_5, rfl, w4_5⟩ := O.cell_int Try.underlying5 y4_5
  obtain ⟨x4_6, e4_6, y4_6⟩ := O.cell_at hs4 hc4 6 5 rfl
  obtain ⟨a4_6, rfl, w4_6⟩ := O.cell_int Try.underlying5 y4_6
  obtain ⟨x4_7, e4_7, y4_7⟩ := O.cell_at hs4 hc4 7 5 rfl
  obtain ⟨a4_7, rfl, w4_7⟩ := O.cell_int Try.underlying5 y4_7
  obtain ⟨x4_8, e4_8, y4_8⟩ := O.cell_at hs4 hc4 8 5 rfl
  obtain ⟨a4_8, rfl, w4_8⟩ := O.cell_int Try.underlying5 y4_8
  obtain ⟨x4_9, e4_9, y4_9⟩ := O.cell_at hs4 hc4 9 5 rfl
  obtain ⟨a4_9, rfl, w4_9⟩ := O.cell_int Try.underlying5 y4_9
  obtain ⟨x4_10, e4_10, y4_10⟩ := O.cell_at hs4 hc4 10 5 rfl
  obtain ⟨a4_10, rfl, w4_10⟩ := O.cell_int Try.underlying5 y4_10
  obtain ⟨x4_11, e4_11, y4_11⟩ := O.cell_at hs4 hc4 11 5 rfl
  obtain ⟨a4_11, rfl, w4_11⟩ := O.cell_int Try.underlying5 y4_11
  obtain ⟨x4_12, e4_12, y4_12⟩ := O.cell_at hs4 hc4 12 5 rfl
  obtain ⟨a4_12, rfl, w4_12⟩ := O.cell_int Try.underlying5 y4_12
  obtain ⟨x4_13, e4_13, y4_13⟩ := O.cell_at hs4 hc4 13 5 rfl
  obtain ⟨a4_13, rfl, w4_13⟩ := O.cell_int Try.underlying5 y4_13
  obtain ⟨x4_14, e4_14, y4_14⟩ := O.cell_at hs4 hc4 14 5 rfl
  obtain ⟨a4_14, rfl, w4_14⟩ := O.cell_int Try.underlying5 y4_14
  obtain ⟨x4_15, e4_15, y4_15⟩ := O.cell_at hs4 hc4 15 5 rfl
  obtain ⟨a4_15, rfl, w4_15⟩ := O.cell_int Try.underlying5 y4_15
  obtain ⟨x4_16, e4_16, y4_16⟩ := O.cell_at hs4 hc4 16 5 rfl
  obtain ⟨a4_16, rfl, w4_16⟩ := O.cell_int Try.underlying5 y4_16
  obtain ⟨x4_17, e4_17, y4_17⟩ := O.cell_at hs4 hc4 17 5 rfl
  obtain ⟨a4_17, rfl, w4_17⟩ := O.cell_int Try.underlying5 y4_17
  obtain ⟨x4_18, e4_18, y4_18⟩ := O.cell_at hs4 hc4 18 5 rfl
  obtain ⟨a4_18, rfl, w4_18⟩ := O.cell_int Try.underlying5 y4_18
  obtain ⟨x4_19, e4_19, y4_19⟩ := O.cell_at hs4 hc4 19 5 rfl
  obtain ⟨a4_19, rfl, w4_19⟩ := O.cell_int Try.underlying5 y4_19
  obtain ⟨x4_20, e4_20, y4_20⟩ := O.cell_at hs4 hc4 20 5 rfl
  obtain ⟨a4_20, rfl, w4_20⟩ := O.cell_int Try.underlying5 y4_20
  obtain ⟨x4_21, e4_21, y4_21⟩ := O.cell_at hs4 hc4 21 3 rfl
  obtain ⟨a4_21, rfl, w4_21⟩ := O.cell_int Try.underlying3 y4_21
  obtain ⟨x4_22, e4_22, y4_22⟩ := O.cell_at hs4 hc4 22 4 rfl
  obtain ⟨a4_22, rfl⟩ := O.cell_bool Try.underlying4 y4_22
  obtain rfl : cs4 = #[.int .u64 a4_0, .int .i64 a4_1, .int .i64 a4_2, .int .i64 a4_3, .int .i64 a4_4, .int .u8 a4_5, .int .u8 a4_6, .int .u8 a4_7, .int .u8 a4_8, .int .u8 a4_9, .int .u8 a4_10, .int .u8 a4_11, .int .u8 a4_12, .int .u8 a4_13, .int .u8 a4_14, .int .u8 a4_15, .int .u8 a4_16, .int .u8 a4_17, .int .u8 a4_18, .int .u8 a4_19, .int .u8 a4_20, .int .i64 a4_21, .bool a4_22] := by
    apply Array.ext_getElem?; intro j
    match j with
    | 0 => exact e4_0
    | 1 => exact e4_1
    | 2 => exact e4_2
    | 3 => exact e4_3
    | 4 => exact e4_4
    | 5 => exact e4_5
    | 6 => exact e4_6
    | 7 => exact e4_7
    | 8 => exact e4_8
    | 9 => exact e4_9
    | 10 => exact e4_10
    | 11 => exact e4_11
    | 12 => exact e4_12
    | 13 => exact e4_13
    | 14 => exact e4_14
    | 15 => exact e4_15
    | 16 => exact e4_16
    | 17 => exact e4_17
    | 18 => exact e4_18
    | 19 => exact e4_19
    | 20 => exact e4_20
    | 21 => exact e4_21
    | 22 => exact e4_22
    | j + 23 => rw [Array.getElem?_eq_none (by simp at hs4; omega), Array.getElem?_eq_none (by simp)]
  obtain ⟨a5, rfl, rfl, rfl, w5⟩ := open_int Try.underlying5 (hval 5 5 v5 rfl rfl) h5
  obtain ⟨a6, rfl, rfl, rfl, w6⟩ := open_int Try.underlying3 (hval 6 3 v6 rfl rfl) h6
  clear hA0 hval0 hsz0 hsz
  refine (Q.sTorn_row a0 w0 a1 w1 a2_0 w2_0 a2_1 w2_1 a2_2 w2_2 a2_3 w2_3 a2_4 w2_4 a2_5 w2_5 a2_6 w2_6 a2_7 w2_7 a2_8 w2_8 a2_9 w2_9 a2_10 w2_10 a2_11 w2_11 a2_12 w2_12 a2_13 w2_13 a2_14 w2_14 a2_15 w2_15 a2_16 w2_16 a2_17 w2_17 a2_18 w2_18 a2_19 w2_19 a2_20 w2_20 a2_21 w2_21 a2_22 a3_0 w3_0 a3_1 w3_1 a3_2 w3_2 a3_3 w3_3 a3_4 w3_4 a3_5 w3_5 a3_6 w3_6 a3_7 w3_7 a3_8 w3_8 a3_9 w3_9 a3_10 w3_10 a3_11 w3_11 a3_12 w3_12 a3_13 w3_13 a3_14 w3_14 a3_15 w3_15 a3_16 w3_16 a3_17 w3_17 a3_18 w3_18 a3_19 w3_19 a3_20 w3_20 a3_21 w3_21 a3_22 a4_0 w4_0 a4_1 w4_1 a4_2 w4_2 a4_3 w4_3 a4_4 w4_4 a4_5 w4_5 a4_6 w4_6 a4_7 w4_7 a4_8 w4_8 a4_9 w4_9 a4_10 w4_10 a4_11 w4_11 a4_12 w4_12 a4_13 w4_13 a4_14 w4_14 a4_15 w4_15 a4_16 w4_16 a4_17 w4_17 a4_18 w4_18 a4_19 w4_19 a4_20 w4_20 a4_21 w4_21 a4_22 a5 w5 a6 w6 W).mono fun e W' ⟨he, bel⟩ => ?_
  subst he
  exact ⟨_, rfl, _, _, _, [], _, [], hW', trodAll_mk1 (shut_bool Try.underlying4 _), (trodAll_cons_mk (shut_int Try.underlying33 w0) (trodAll_cons_mk (shut_int Try.underlying33 w1) (trodAll_cons_mk (Below.trod laidOut (by kernel_rfl) (of_decide_eq_true (by kernel_rfl)) k2 bel lt2) (trodAll_cons_mk (Below.trod laidOut (by kernel_rfl) (of_decide_eq_true (by kernel_rfl)) k3 bel lt3) (trodAll_cons_mk (Below.trod laidOut (by kernel_rfl) (of_decide_eq_true (by kernel_rfl)) k4 bel lt4) (trodAll_cons_mk (shut_int Try.underlying5 w5) (trodAll_cons_mk (shut_int Try.underlying3 w6) trodAll_mk0))))))), rfl, bel.frame _, fun h => by cases h⟩
set_option maxHeartbeats 1000000 in
theorem facts : joinedFacts Try.prog 31 Try.f31 Rows.superTornSpec Rows.superTornRow = true := by
  unfold joinedFacts
  repeat' (with_reducible apply Head.and_mk)
  all_goals first
    | with_reducible exact Head.enters
    | (with_reducible refine Head.lifted_mk ?_; kernel_rfl)
    | (with_reducible refine Head.make_mk ?_; kernel_rfl)
    | (as_aux_lemma => kernel_rfl)
theorem over : Rows.superTornRow.holds Try.pinned (OpenSpec.ofChange Rows.superTornSpec) :=
  OpenClaim.holds_of_wide 31 Try.f31 rfl rfl rfl rfl rfl rfl rfl ⟨rfl, rfl, rfl, rfl, rfl⟩ rfl rfl rfl rfl rfl (by as_aux_lemma => kernel_rfl) Try.func31 facts
    (of_decide_eq_true (by as_aux_lemma => kernel_rfl)) (by unfold Func.isWrapper; first | (rw [if_pos (by decide +kernel)]; kernel_rfl) | (rw [if_neg (by decide +kernel)]; exact ⟨rfl, rfl⟩))
    (fun os started H enc _ => lifted os started H enc)
theorem proved : Rows.SuperTornSaid := over
end Go.Proofs.Ytdchcggllcgokaa.superTorn
namespace Go.Proofs.Ytdchcggllcgokaa
/-- The row, under a short name, for the claim. -/
theorem superTorn_holds : Rows.SuperTornSaid := superTorn.proved
end Go.Proofs.Ytdchcggllcgokaa
