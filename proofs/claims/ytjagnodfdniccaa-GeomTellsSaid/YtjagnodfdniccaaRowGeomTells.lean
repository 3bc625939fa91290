/-
  GeomTells: whatever the input, the call returns true and each argument reads behind it as before. No condition.
-/
import Derived.Test.YtjagnodfdniccaaRows
import Derived.Test.YtjagnodfdniccaaGeoLaw5
import Derived.WalkKit
import Derived.ProofKit
import Derived.OpenShut
import Derived.ShutString
import Derived.ChangeOld
import Derived.Below
import Derived.SizedLaws
import Derived.Test.YtjagnodfdniccaaWWords
import Derived.Test.YtjagnodfdniccaaOpen
namespace Go.Proofs.Ytjagnodfdniccaa.geomTells
open Go.ChangeShapes Go.WideShapes Go.ChangeAt Go.RowKit
open Go.Proofs.YtjagnodfdniccaaW
set_option linter.unusedVariables false
theorem own : ownKnob Try.prog.godebug = none := by kernel_rfl
theorem laidOut : laidOutB Try.prog = true := by kernel_rfl
def IsRow (k : IntKind) (w : World) (a : Option Addr) (len cap : Nat) (zs : List Int) : Prop :=
  (a = none ∧ len = 0 ∧ cap = 0 ∧ zs = []) ∨
  ∃ x, a = some x ∧ len ≤ cap ∧ cap ≤ maxLen ∧ zs.length = cap ∧ (∀ i, i < zs.length → w.cell? (x.add i) = some (.int k (zs.getD i 0))) ∧ ∀ n ∈ zs, (Lit.int k n).wf = true
set_option maxRecDepth 100000 in
theorem lifted (os : Os) (started : os.Started) (H : Type) (enc : TypeId × Value → H) :
    ReturnsInHanded {} Try.checked os 16 .any (Rows.geomTellsSpec.pre6 enc Try.prog Try.f16 Rows.geomTellsRow.domain false) (Rows.geomTellsSpec.post enc Try.prog Try.f16 false true false false) := by
  refine returnsInHanded_of_change_sized (C := Try.checked) own started (by kernel_rfl) Try.func16
    (ChangeSpec.witness6 (enc := enc) (C := Try.checked) false ⟨#[], #[.agg #[.int .i64 0, .int .i64 0, .int .i64 0], .int .i64 0, .int .i64 0, .agg #[.int .i64 0, .int .i64 0]], []⟩ 8 (by kernel_rfl) (by kernel_rfl) (by kernel_rfl) (by kernel_rfl)) ?_
  intro W base args ds gs before hval0 hW hcnd hsz0 _
  have hsz : (DataW.weightsEach Try.prog (Try.f16.params.toList ++ Rows.geomTellsSpec.plain.varTypes Try.prog) (ds ++ gs)).all (· ≤ reachBytes) = true := hsz0
  have hval : ∀ (j : Nat) t v, Try.f16.params[j]? = some t → args[j]? = some v → Value.okWide Try.prog W .any base t v := hval0
  have hW' := hW
  obtain ⟨p, q, hA0, hV, rfl, hfz, hnd⟩ := hW
  have hA : DataW.TrodAll enc Try.prog W 0 (fun _ => true) true Try.f16.params.toList args.toList ds p := hA0
  rw [Try.params16] at hA hval hsz
  obtain ⟨v0, vs0, d0, ds0, p0, q0, hargs, rfl, rfl, h0, r0⟩ := trodAll_cons hA
  obtain ⟨v1, vs1, d1, ds1, p1, q1, rfl, rfl, rfl, h1, r1⟩ := trodAll_cons r0
  obtain ⟨v2, vs2, d2, ds2, p2, q2, rfl, rfl, rfl, h2, r2⟩ := trodAll_cons r1
  obtain ⟨v3, vs3, d3, ds3, p3, q3, rfl, rfl, rfl, h3, r3⟩ := trodAll_cons r2
  obtain ⟨rfl, rfl, rfl⟩ := trodAll_nil r3
  obtain rfl : args = #[v0, v1, v2, v3] := by cases args; simp_all
  obtain ⟨rfl, rfl⟩ := trodVars_none hV
  have k0 := h0
  have lt0 : ∀ x ∈ p0, x.block < W.heap.size := by obtain ⟨m, hm⟩ := k0; exact DataW.trod_lt m _ _ _ hm
  obtain ⟨cs0, rfl, hs0, hc0⟩ := O.agg_cells (ts := [3, 3, 3]) Try.underlying50 rfl (by kernel_rfl) (by kernel_rfl) (hval 0 50 v0 rfl rfl)
  obtain ⟨x0_0, e0_0, y0_0⟩ := O.cell_at hs0 hc0 0 3 rfl
  obtain ⟨a0_0, rfl, w0_0⟩ := O.cell_int Try.underlying3 y0_0
  obtain ⟨x0_1, e0_1, y0_1⟩ := O.cell_at hs0 hc0 1 3 rfl
  obtain ⟨a0_1, rfl, w0_1⟩ := O.cell_int Try.underlying3 y0_1
  obtain ⟨x0_2, e0_2, y0_2⟩ := O.cell_at hs0 hc0 2 3 rfl
  obtain ⟨a0_2, rfl, w0_2⟩ := O.cell_int Try.underlying3 y0_2
  obtain rfl : cs0 = #[.int .i64 a0_0, .int .i64 a0_1, .int .i64 a0_2] := by
    apply Array.ext_getElem?; intro j
    match j with
    | 0 => exact e0_0
    | 1 => exact e0_1
    | 2 => exact e0_2
    | j + 3 => rw [Array.getElem?_eq_none (by simp at hs0; omega), Array.getElem?_eq_none (by simp)]
  obtain ⟨a1, rfl, rfl, rfl, w1⟩ := open_int Try.underlying3 (hval 1 3 v1 rfl rfl) h1
  obtain ⟨a2, rfl, rfl, rfl, w2⟩ := open_int Try.underlying3 (hval 2 3 v2 rfl rfl) h2
  have k3 := h3
  have lt3 : ∀ x ∈ p3, x.block < W.heap.size := by obtain ⟨m, hm⟩ := k3; exact DataW.trod_lt m _ _ _ hm
  obtain ⟨cs3, rfl, hs3, hc3⟩ := O.agg_cells (ts := [3, 3]) Try.underlying54 rfl (by kernel_rfl) (by kernel_rfl) (hval 3 54 v3 rfl rfl)
  obtain ⟨x3_0, e3_0, y3_0⟩ := O.cell_at hs3 hc3 0 3 rfl
  obtain ⟨a3_0, rfl, w3_0⟩ := O.cell_int Try.underlying3 y3_0
  obtain ⟨x3_1, e3_1, y3_1⟩ := O.cell_at hs3 hc3 1 3 rfl
  obtain ⟨a3_1, rfl, w3_1⟩ := O.cell_int Try.underlying3 y3_1
  obtain rfl : cs3 = #[.int .i64 a3_0, .int .i64 a3_1] := by
    apply Array.ext_getElem?; intro j
    match j with
    | 0 => exact e3_0
    | 1 => exact e3_1
    | j + 2 => rw [Array.getElem?_eq_none (by simp at hs3; omega), Array.getElem?_eq_none (by simp)]
  clear hA0 hval0 hsz0 hsz
  refine (G.tells_any' a0_0 w0_0 a0_1 w0_1 a0_2 w0_2 a1 w1 a2 w2 a3_0 w3_0 a3_1 w3_1 W).mono fun e W' ⟨he, bel⟩ => ?_
  subst he
  exact ⟨_, rfl, _, _, _, [], _, [], hW', trodAll_mk1 (shut_bool Try.underlying4 _), (trodAll_cons_mk (Below.trod laidOut (by kernel_rfl) (of_decide_eq_true (by kernel_rfl)) k0 bel lt0) (trodAll_cons_mk (shut_int Try.underlying3 w1) (trodAll_cons_mk (shut_int Try.underlying3 w2) (trodAll_cons_mk (Below.trod laidOut (by kernel_rfl) (of_decide_eq_true (by kernel_rfl)) k3 bel lt3) trodAll_mk0)))), rfl, bel.frame _, fun h => by cases h⟩
theorem over : Rows.geomTellsRow.holds Try.pinned (OpenSpec.ofChange Rows.geomTellsSpec) :=
  OpenClaim.holds_of_wide 16 Try.f16 rfl rfl rfl rfl rfl rfl rfl ⟨rfl, rfl, rfl, rfl, rfl⟩ rfl rfl rfl rfl rfl (by kernel_rfl) Try.func16 (by kernel_rfl)
    (of_decide_eq_true (by kernel_rfl)) (by unfold Func.isWrapper; first | (rw [if_pos (by decide +kernel)]; kernel_rfl) | (rw [if_neg (by decide +kernel)]; exact ⟨rfl, rfl⟩))
    (fun os started H enc _ => lifted os started H enc)
theorem proved : Rows.GeomTellsSaid := over
end Go.Proofs.Ytjagnodfdniccaa.geomTells
namespace Go.Proofs.Ytjagnodfdniccaa
/-- The row, under a short name, for the claim. -/
theorem geomTells_holds : Rows.GeomTellsSaid := geomTells.proved
end Go.Proofs.Ytjagnodfdniccaa
