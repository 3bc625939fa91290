/-
  RosterTells: whatever the input, the call returns true and each argument reads behind it as before. No condition.
-/
import Derived.Test.YtdchcggllcgokaaRows
import Derived.Test.YtdchcggllcgokaaHead
import Derived.Test.YtdchcggllcgokaaRos22
import Derived.WalkKit
import Derived.ProofKit
import Derived.OpenShut
import Derived.ShutString
import Derived.ChangeOld
import Derived.Below
import Derived.SizedLaws
import Derived.Test.YtdchcggllcgokaaWWords
import Derived.Test.YtdchcggllcgokaaOpen
namespace Go.Proofs.Ytdchcggllcgokaa.rosterTells
open Go.ChangeShapes Go.WideShapes Go.ChangeAt Go.RowKit
open Go.Proofs.YtdchcggllcgokaaW
set_option linter.unusedVariables false
theorem own : ownKnob Try.prog.godebug = none := by kernel_rfl
theorem laidOut : laidOutB Try.prog = true := by kernel_rfl
def IsRow (k : IntKind) (w : World) (a : Option Addr) (len cap : Nat) (zs : List Int) : Prop :=
  (a = none ∧ len = 0 ∧ cap = 0 ∧ zs = []) ∨
  ∃ x, a = some x ∧ len ≤ cap ∧ cap ≤ maxLen ∧ zs.length = cap ∧ (∀ i, i < zs.length → w.cell? (x.add i) = some (.int k (zs.getD i 0))) ∧ ∀ n ∈ zs, (Lit.int k n).wf = true
set_option maxRecDepth 100000 in
theorem lifted (os : Os) (started : os.Started) (H : Type) (enc : TypeId × Value → H) :
    ReturnsInHanded {} Try.checked os 24 .any (Rows.rosterTellsSpec.pre6 enc Try.prog Try.f24 Rows.rosterTellsRow.domain false) (Rows.rosterTellsSpec.post enc Try.prog Try.f24 false true false false) := by
  refine returnsInHanded_of_change_sized (C := Try.checked) own started (by kernel_rfl) Try.func24
    (ChangeSpec.witness6 (enc := enc) (C := Try.checked) false ⟨#[], #[.agg #[.int .i64 0, .int .i64 0, .int .i64 0, .int .u8 0, .int .u8 0, .int .u8 0, .int .u8 0, .int .u8 0, .int .u8 0, .int .u8 0, .int .u8 0, .int .u8 0, .int .u8 0, .int .u8 0, .int .u8 0, .int .u8 0, .int .u8 0, .int .u8 0, .int .u8 0, .int .i64 0, .bool false], .int .i64 0, .int .i64 0, .bool false], []⟩ 8 (by kernel_rfl) (by kernel_rfl) (by kernel_rfl) (by kernel_rfl)) ?_
  intro W base args ds gs before hval0 hW hcnd hsz0 _
  have hsz : (DataW.weightsEach Try.prog (Try.f24.params.toList ++ Rows.rosterTellsSpec.plain.varTypes Try.prog) (ds ++ gs)).all (· ≤ reachBytes) = true := hsz0
  have hval : ∀ (j : Nat) t v, Try.f24.params[j]? = some t → args[j]? = some v → Value.okWide Try.prog W .any base t v := hval0
  have hW' := hW
  obtain ⟨p, q, hA0, hV, rfl, hfz, hnd⟩ := hW
  have hA : DataW.TrodAll enc Try.prog W 0 (fun _ => true) true Try.f24.params.toList args.toList ds p := hA0
  rw [Try.params24] at hA hval hsz
  obtain ⟨v0, vs0, d0, ds0, p0, q0, hargs, rfl, rfl, h0, r0⟩ := trodAll_cons hA
  obtain ⟨v1, vs1, d1, ds1, p1, q1, rfl, rfl, rfl, h1, r1⟩ := trodAll_cons r0
  obtain ⟨v2, vs2, d2, ds2, p2, q2, rfl, rfl, rfl, h2, r2⟩ := trodAll_cons r1
  obtain ⟨v3, vs3, d3, ds3, p3, q3, rfl, rfl, rfl, h3, r3⟩ := trodAll_cons r2
  obtain ⟨rfl, rfl, rfl⟩ := trodAll_nil r3
  obtain rfl : args = #[v0, v1, v2, v3] := by cases args; simp_all
  obtain ⟨rfl, rfl⟩ := trodVars_none hV
  have k0 := h0
  have lt0 : ∀ x ∈ p0, x.block < W.heap.size := by obtain ⟨m, hm⟩ := k0; exact DataW.trod_lt m _ _ _ hm
  obtain ⟨cs0, rfl, hs0, hc0⟩ := O.agg_cells (ts := [3, 3, 3, 5, 5, 5, 5, 5, 5, 5, 5, 5, 5, 5, 5, 5, 5, 5, 5, 3, 4]) Try.underlying72 rfl (by kernel_rfl) (by kernel_rfl) (hval 0 72 v0 rfl rfl)
  obtain ⟨x0_0, e0_0, y0_0⟩ := O.cell_at hs0 hc0 0 3 rfl
  obtain ⟨a0_0, rfl, w0_0⟩ := O.cell_int Try.underlying3 y0_0
  obtain ⟨x0_1, e0_1, y0_1⟩ := O.cell_at hs0 hc0 1 3 rfl
  obtain ⟨a0_1, rfl, w0_1⟩ := O.cell_int Try.underlying3 y0_1
  obtain ⟨x0_2, e0_2, y0_2⟩ := O.cell_at hs0 hc0 2 3 rfl
  obtain ⟨a0_2, rfl, w0_2⟩ := O.cell_int Try.underlying3 y0_2
  obtain ⟨x0_3, e0_3, y0_3⟩ := O.cell_at hs0 hc0 3 5 rfl
  obtain ⟨a0_3, rfl, w0_3⟩ := O.cell_int Try.underlying5 y0_3
  obtain ⟨x0_4, e0_4, y0_4⟩ := O.cell_at hs0 hc0 4 5 rfl
  obtain ⟨a0_4, rfl, w0_4⟩ := O.cell_int Try.underlying5 y0_4
  obtain ⟨x0_5, e0_5, y0_5⟩ := O.cell_at hs0 hc0 5 5 rfl
  obtain ⟨a0_5, rfl, w0_5⟩ := O.cell_int Try.underlying5 y0_5
  obtain ⟨x0_6, e0_6, y0_6⟩ := O.cell_at hs0 hc0 6 5 rfl
  obtain ⟨a0_6, rfl, w0_6⟩ := O.cell_int Try.underlying5 y0_6
  obtain ⟨x0_7, e0_7, y0_7⟩ := O.cell_at hs0 hc0 7 5 rfl
  obtain ⟨a0_7, rfl, w0_7⟩ := O.cell_int Try.underlying5 y0_7
  obtain ⟨x0_8, e0_8, y0_8⟩ := O.cell_at hs0 hc0 8 5 rfl
  obtain ⟨a0_8, rfl, w0_8⟩ := O.cell_int Try.underlying5 y0_8
  obtain ⟨x0_9, e0_9, y0_9⟩ := O.cell_at hs0 hc0 9 5 rfl
  obtain ⟨a0_9, rfl, w0_9⟩ := O.cell_int Try.underlying5 y0_9
  obtain ⟨x0_10, e0_10, y0_10⟩ := O.cell_at hs0 hc0 10 5 rfl
  obtain ⟨a0_10, rfl, w0_10⟩ := O.cell_int Try.underlying5 y0_10
  obtain ⟨x0_11, e0_11, y0_11⟩ := O.cell_at hs0 hc0 11 5 rfl
  obtain ⟨a0_11, rfl, w0_11⟩ := O.cell_int Try.underlying5 y0_11
  obtain ⟨x0_12, e0_12, y0_12⟩ := O.cell_at hs0 hc0 12 5 rfl
  obtain ⟨a0_12, rfl, w0_12⟩ := O.cell_int Try.underlying5 y0_12
  obtain ⟨x0_13, e0_13, y0_13⟩ := O.cell_at hs0 hc0 13 5 rfl
  obtain ⟨a0_13, rfl, w0_13⟩ := O.cell_int Try.underlying5 y0_13
  obtain ⟨x0_14, e0_14, y0_14⟩ := O.cell_at hs0 hc0 14 5 rfl
  obtain ⟨a0_14, rfl, w0_14⟩ := O.cell_int Try.underlying5 y0_14
  obtain ⟨x0_15, e0_15, y0_15⟩ := O.cell_at hs0 hc0 15 5 rfl
  obtain ⟨a0_15, rfl, w0_15⟩ := O.cell_int Try.underlying5 y0_15
  obtain ⟨x0_16, e0_16, y0_16⟩ := O.cell_at hs0 hc0 16 5 rfl
  obtain ⟨a0_16, rfl, w0_16⟩ := O.cell_int Try.underlying5 y0_16
  obtain ⟨x0_17, e0_17, y0_17⟩ := O.cell_at hs0 hc0 17 5 rfl
  obtain ⟨a0_17, rfl, w0_17⟩ := O.cell_int Try.underlying5 y0_17
  obtain ⟨x0_18, e0_18, y0_18⟩ := O.cell_at hs0 hc0 18 5 rfl
  obtain ⟨a0_18, rfl, w0_18⟩ := O.cell_int Try.underlying5 y0_18
  obtain ⟨x0_19, e0_19, y0_19⟩ := O.cell_at hs0 hc0 19 3 rfl
  obtain ⟨a0_19, rfl, w0_19⟩ := O.cell_int Try.underlying3 y0_19
  obtain ⟨x0_20, e0_20, y0_20⟩ := O.cell_at hs0 hc0 20 4 rfl
  obtain ⟨a0_20, rfl⟩ := O.cell_bool Try.underlying4 y0_20
  obtain rfl : cs0 = #[.int .i64 a0_0, .int .i64 a0_1, .int .i64 a0_2, .int .u8 a0_3, .int .u8 a0_4, .int .u8 a0_5, .int .u8 a0_6, .int .u8 a0_7, .int .u8 a0_8, .int .u8 a0_9, .int .u8 a0_10, .int .u8 a0_11, .int .u8 a0_12, .int .u8 a0_13, .int .u8 a0_14, .int .u8 a0_15, .int .u8 a0_16, .int .u8 a0_17, .int .u8 a0_18, .int .i64 a0_19, .bool a0_20] := by
    apply Array.ext_getElem?; intro j
    match j with
    | 0 => exact e0_0
    | 1 => exact e0_1
    | 2 => exact e0_2
    | 3 => exact e0_3
    | 4 => exact e0_4
    | 5 => exact e0_5
    | 6 => exact e0_6
    | 7 => exact e0_7
    | 8 => exact e0_8
    | 9 => exact e0_9
    | 10 => exact e0_10
    | 11 => exact e0_11
    | 12 => exact e0_12
    | 13 => exact e0_13
    | 14 => exact e0_14
    | 15 => exact e0_15
    | 16 => exact e0_16
    | 17 => exact e0_17
    | 18 => exact e0_18
    | 19 => exact e0_19
    | 20 => exact e0_20
    | j + 21 => rw [Array.getElem?_eq_none (by simp at hs0; omega), Array.getElem?_eq_none (by simp)]
  obtain ⟨a1, rfl, rfl, rfl, w1⟩ := open_int Try.underlying3 (hval 1 3 v1 rfl rfl) h1
  obtain ⟨a2, rfl, rfl, rfl, w2⟩ := open_int Try.underlying3 (hval 2 3 v2 rfl rfl) h2
  obtain ⟨a3, rfl, rfl, rfl⟩ := open_bool Try.underlying4 (hval 3 4 v3 rfl rfl) h3
  clear hA0 hval0 hsz0 hsz
  refine (Q.tells_row a0_0 w0_0 a0_1 w0_1 a0_2 w0_2 a0_3 w0_3 a0_4 w0_4 a0_5 w0_5 a0_6 w0_6 a0_7 w0_7 a0_8 w0_8 a0_9 w0_9 a0_10 w0_10 a0_11 w0_11 a0_12 w0_12 a0_13 w0_13 a0_14 w0_14 a0_15 w0_15 a0_16 w0_16 a0_17 w0_17 a0_18 w0_18 a0_19 w0_19 a0_20 a1 w1 a2 w2 a3 W).mono fun e W' ⟨he, bel⟩ => ?_
  subst he
  exact ⟨_, rfl, _, _, _, [], _, [], hW', trodAll_mk1 (shut_bool Try.underlying4 _), (trodAll_cons_mk (Below.trod laidOut (by kernel_rfl) (of_decide_eq_true (by kernel_rfl)) k0 bel lt0) (trodAll_cons_mk (shut_int Try.underlying3 w1) (trodAll_cons_mk (shut_int Try.underlying3 w2) (trodAll_cons_mk (shut_bool Try.underlying4 _) trodAll_mk0)))), rfl, bel.frame _, fun h => by cases h⟩
set_option maxHeartbeats 1000000 in
theorem facts : joinedFacts Try.prog 24 Try.f24 Rows.rosterTellsSpec Rows.rosterTellsRow = true := by
  unfold joinedFacts
  repeat' (with_reducible apply Head.and_mk)
  all_goals first
    | with_reducible exact Head.enters
    | (with_reducible refine Head.lifted_mk ?_; kernel_rfl)
    | (with_reducible refine Head.make_mk ?_; kernel_rfl)
    | (as_aux_lemma => kernel_rfl)
theorem over : Rows.rosterTellsRow.holds Try.pinned (OpenSpec.ofChange Rows.rosterTellsSpec) :=
  OpenClaim.holds_of_wide 24 Try.f24 rfl rfl rfl rfl rfl rfl rfl ⟨rfl, rfl, rfl, rfl, rfl⟩ rfl rfl rfl rfl rfl (by as_aux_lemma => kernel_rfl) Try.func24 facts
    (of_decide_eq_true (by as_aux_lemma => kernel_rfl)) (by unfold Func.isWrapper; first | (rw [if_pos (by decide +kernel)]; kernel_rfl) | (rw [if_neg (by decide +kernel)]; exact ⟨rfl, rfl⟩))
    (fun os started H enc _ => lifted os started H enc)
theorem proved : Rows.RosterTellsSaid := over
end Go.Proofs.Ytdchcggllcgokaa.rosterTells
namespace Go.Proofs.Ytdchcggllcgokaa
/-- The row, under a short name, for the claim. -/
theorem rosterTells_holds : Rows.RosterTellsSaid := rosterTells.proved
end Go.Proofs.Ytdchcggllcgokaa
