/-
  MarkNewest: whatever the input, the call returns true and each argument reads behind it as before. No condition.
-/
import Derived.Test.YtdchcggllcgokaaDoorRows
import Derived.Test.YtdchcggllcgokaaDoorHead
import Derived.Test.YtdchcggllcgokaaDoorMarkA
import Derived.Test.YtdchcggllcgokaaDoorTie
import Derived.Test.YtdchcggllcgokaaDoorCards
import Derived.SevenTiedAt
import Derived.LaidMore
import Derived.LaidLaws
import Derived.Stop.Joined
import Derived.Test.YtdchcggllcgokaaDoorMarkC
import Derived.WalkKit
import Derived.ProofKit
import Derived.OpenShut
import Derived.ShutString
import Derived.ChangeOld
import Derived.Below
import Derived.SizedLaws
import Derived.Test.YtdchcggllcgokaaDoorWWords
import Derived.Test.YtdchcggllcgokaaDoorOpen
namespace Go.Proofs.YtdchcggllcgokaaDoor.markNewest
open Go.ChangeShapes Go.WideShapes Go.ChangeAt Go.RowKit
open Go.Proofs.YtdchcggllcgokaaDoorW
set_option linter.unusedVariables false
theorem own : ownKnob Tryd.prog.godebug = none := by kernel_rfl
theorem laidOut : laidOutB Tryd.prog = true := by kernel_rfl
def IsRow (k : IntKind) (w : World) (a : Option Addr) (len cap : Nat) (zs : List Int) : Prop :=
  (a = none ∧ len = 0 ∧ cap = 0 ∧ zs = []) ∨
  ∃ x, a = some x ∧ len ≤ cap ∧ cap ≤ maxLen ∧ zs.length = cap ∧ (∀ i, i < zs.length → w.cell? (x.add i) = some (.int k (zs.getD i 0))) ∧ ∀ n ∈ zs, (Lit.int k n).wf = true
set_option maxRecDepth 100000 in
theorem lifted (os : Os) (started : os.Started) (H : Type) (enc : TypeId × Value → H) :
    ReturnsInHanded {} Tryd.checked os 6 .any (fun w args => (Rows.markNewestSpec.pre enc Tryd.prog Tryd.f6 [] false w args ∧ laidMetH Tryd.prog K.laidS w) ∧ sizedMet enc Tryd.prog Tryd.f6 (OpenSpec.ofChange Rows.markNewestSpec) false w args) (Rows.markNewestSpec.post enc Tryd.prog Tryd.f6 false true false false) := by
  refine returnsInHanded_of_change_and (C := Tryd.checked) (X := fun w _ => laidMetH Tryd.prog K.laidS w) (fun _ _ _ hh h => h.of_heap hh) own started (by kernel_rfl) Tryd.func6
    (ChangeSpec.witness_shaped (enc := enc) (C := Tryd.checked) (os := os) (X := fun w _ => laidMetH Tryd.prog K.laidS w) false (World.doorLaid Tryd.prog 14 os) #[.agg #[.int .u8 0, .int .u8 0, .int .u8 0, .int .u8 0, .int .u8 0, .int .u8 0, .int .u8 0, .int .u8 0, .int .u8 0, .int .u8 0, .int .u8 0, .int .u8 0, .int .u8 0, .int .u8 0, .int .u8 0, .int .u8 0, .int .u8 0, .int .u8 0, .int .u8 0, .int .u8 0, .int .u8 0, .int .u8 0, .int .u8 0, .int .u8 0, .int .u8 0, .int .u8 0, .int .u8 0, .int .u8 0, .int .u8 0, .int .u8 0, .int .u8 0, .int .u8 0, .int .u8 0, .int .u8 0, .int .u8 0, .int .u8 0, .int .u8 0, .int .u8 0, .int .u8 0, .int .u8 0, .int .u8 0, .int .u8 0, .int .u8 0, .int .u8 0, .int .u8 0, .int .u8 0, .int .u8 0, .int .u8 0, .int .u8 0, .int .u8 0, .int .u8 0, .int .u8 0, .int .u8 0, .int .u8 0, .int .u8 0, .int .u8 0, .int .u8 0, .int .u8 0, .int .u8 0, .int .u8 0, .int .u8 0, .int .u8 0, .int .u8 0, .int .u8 0], .agg #[.int .u8 0, .int .u8 0, .int .u8 0, .int .u8 0, .int .u8 0, .int .u8 0, .int .u8 0, .int .u8 0, .int .u8 0, .int .u8 0, .int .u8 0, .int .u8 0, .int .u8 0, .int .u8 0, .int .u8 0, .int .u8 0, .int .u8 0, .int .u8 0, .int .u8 0, .int .u8 0, .int .u8 0, .int .u8 0, .int .u8 0, .int .u8 0, .int .u8 0, .int .u8 0, .int .u8 0, .int .u8 0, .int .u8 0, .int .u8 0, .int .u8 0, .int .u8 0, .int .u8 0, .int .u8 0, .int .u8 0, .int .u8 0, .int .u8 0, .int .u8 0, .int .u8 0, .int .u8 0, .int .u8 0, .int .u8 0, .int .u8 0, .int .u8 0, .int .u8 0, .int .u8 0, .int .u8 0, .int .u8 0, .int .u8 0, .int .u8 0, .int .u8 0, .int .u8 0, .int .u8 0, .int .u8 0, .int .u8 0, .int .u8 0, .int .u8 0, .int .u8 0, .int .u8 0, .int .u8 0, .int .u8 0, .int .u8 0, .int .u8 0, .int .u8 0], .int .u64 0, .int .u64 0, .agg #[.int .u64 0, .int .i64 0, .int .u64 0, .int .u64 0], .agg #[.int .u64 0, .int .i64 0, .int .u64 0, .int .u64 0]] 8 rfl (World.shaped_of_RefB (by kernel_rfl) (by kernel_rfl)) (by kernel_rfl) (by kernel_rfl) (by kernel_rfl) (K.door_met os _)) ?_
  intro W base args ds gs before hval0 hW hcnd hsz0 hL _
  have SZ : K.Siz W := K.of_laid hL
  have hsz : (DataW.weightsEach Tryd.prog (Tryd.f6.params.toList ++ Rows.markNewestSpec.plain.varTypes Tryd.prog) (ds ++ gs)).all (· ≤ reachBytes) = true := hsz0
  have hval : ∀ (j : Nat) t v, Tryd.f6.params[j]? = some t → args[j]? = some v → Value.okWide Tryd.prog W .any base t v := hval0
  have hW' := hW
  obtain ⟨p, q, hA0, hV, rfl, hfz, hnd⟩ := hW
  have hA : DataW.TrodAll enc Tryd.prog W 0 (fun _ => true) true Tryd.f6.params.toList args.toList ds p := hA0
  rw [Tryd.params6] at hA hval hsz
  obtain ⟨v0, vs0, d0, ds0, p0, q0, hargs, rfl, rfl, h0, r0⟩ := trodAll_cons hA
  obtain ⟨v1, vs1, d1, ds1, p1, q1, rfl, rfl, rfl, h1, r1⟩ := trodAll_cons r0
  obtain ⟨v2, vs2, d2, ds2, p2, q2, rfl, rfl, rfl, h2, r2⟩ := trodAll_cons r1
  obtain ⟨v3, vs3, d3, ds3, p3, q3, rfl, rfl, rfl, h3, r3⟩ := trodAll_cons r2
  obtain ⟨v4, vs4, d4, ds4, p4, q4, rfl, rfl, rfl, h4, r4⟩ := trodAll_cons r3
  obtain ⟨v5, vs5, d5, ds5, p5, q5, rfl, rfl, rfl, h5, r5⟩ := trodAll_cons r4
  obtain ⟨rfl, rfl, rfl⟩ := trodAll_nil r5
  obtain rfl : args = #[v0, v1, v2, v3, v4, v5] := by cases args; simp_all
  obtain ⟨rfl, rfl⟩ := trodVars_none hV
  have k0 := h0
  have lt0 : ∀ x ∈ p0, x.block < W.heap.size := by obtain ⟨m, hm⟩ := k0; exact DataW.trod_lt m _ _ _ hm
  obtain ⟨l0, rfl, n0, hw0⟩ := O.arr_ints (n := 64) Tryd.underlying26 (by kernel_rfl) (by kernel_rfl) Tryd.underlying5 (hval 0 26 v0 rfl rfl)
  have k1 := h1
  have lt1 : ∀ x ∈ p1, x.block < W.heap.size := by obtain ⟨m, hm⟩ := k1; exact DataW.trod_lt m _ _ _ hm
  obtain ⟨l1, rfl, n1, hw1⟩ := O.arr_ints (n := 64) Tryd.underlying26 (by kernel_rfl) (by kernel_rfl) Tryd.underlying5 (hval 1 26 v1 rfl rfl)
  obtain ⟨a2, rfl, rfl, rfl, w2⟩ := open_int Tryd.underlying22 (hval 2 22 v2 rfl rfl) h2
  obtain ⟨a3, rfl, rfl, rfl, w3⟩ := open_int Tryd.underlying22 (hval 3 22 v3 rfl rfl) h3
  have k4 := h4
  have lt4 : ∀ x ∈ p4, x.block < W.heap.size := by obtain ⟨m, hm⟩ := k4; exact DataW.trod_lt m _ _ _ hm
  obtain ⟨cs4, rfl, hs4, hc4⟩ := O.agg_cells (ts := [22, 3, 22, 22]) Tryd.underlying24 rfl (by kernel_rfl) (by kernel_rfl) (hval 4 24 v4 rfl rfl)
  obtain ⟨x4_0, e4_0, y4_0⟩ := O.cell_at hs4 hc4 0 22 rfl
  obtain ⟨a4_0, rfl, w4_0⟩ := O.cell_int Tryd.underlying22 y4_0
  obtain ⟨x4_1, e4_1, y4_1⟩ := O.cell_at hs4 hc4 1 3 rfl
  obtain ⟨a4_1, rfl, w4_1⟩ := O.cell_int Tryd.underlying3 y4_1
  obtain ⟨x4_2, e4_2, y4_2⟩ := O.cell_at hs4 hc4 2 22 rfl
  obtain ⟨a4_2, rfl, w4_2⟩ := O.cell_int Tryd.underlying22 y4_2
  obtain ⟨x4_3, e4_3, y4_3⟩ := O.cell_at hs4 hc4 3 22 rfl
  obtain ⟨a4_3, rfl, w4_3⟩ := O.cell_int Tryd.underlying22 y4_3
  obtain rfl : cs4 = #[.int .u64 a4_0, .int .i64 a4_1, .int .u64 a4_2, .int .u64 a4_3] := by
    apply Array.ext_getElem?; intro j
    match j with
    | 0 => exact e4_0
    | 1 => exact e4_1
    | 2 => exact e4_2
    | 3 => exact e4_3
    | j + 4 => rw [Array.getElem?_eq_none (by simp at hs4; omega), Array.getElem?_eq_none (by simp)]
  have k5 := h5
  have lt5 : ∀ x ∈ p5, x.block < W.heap.size := by obtain ⟨m, hm⟩ := k5; exact DataW.trod_lt m _ _ _ hm
  obtain ⟨cs5, rfl, hs5, hc5⟩ := O.agg_cells (ts := [22, 3, 22, 22]) Tryd.underlying24 rfl (by kernel_rfl) (by kernel_rfl) (hval 5 24 v5 rfl rfl)
  obtain ⟨x5_0, e5_0, y5_0⟩ := O.cell_at hs5 hc5 0 22 rfl
  obtain ⟨a5_0, rfl, w5_0⟩ := O.cell_int Tryd.underlying22 y5_0
  obtain ⟨x5_1, e5_1, y5_1⟩ := O.cell_at hs5 hc5 1 3 rfl
  obtain ⟨a5_1, rfl, w5_1⟩ := O.cell_int Tryd.underlying3 y5_1
  obtain ⟨x5_2, e5_2, y5_2⟩ := O.cell_at hs5 hc5 2 22 rfl
  obtain ⟨a5_2, rfl, w5_2⟩ := O.cell_int Tryd.underlying22 y5_2
  obtain ⟨x5_3, e5_3, y5_3⟩ := O.cell_at hs5 hc5 3 22 rfl
  obtain ⟨a5_3, rfl, w5_3⟩ := O.cell_int Tryd.underlying22 y5_3
  obtain rfl : cs5 = #[.int .u64 a5_0, .int .i64 a5_1, .int .u64 a5_2, .int .u64 a5_3] := by
    apply Array.ext_getElem?; intro j
    match j with
    | 0 => exact e5_0
    | 1 => exact e5_1
    | 2 => exact e5_2
    | 3 => exact e5_3
    | j + 4 => rw [Array.getElem?_eq_none (by simp at hs5; omega), Array.getElem?_eq_none (by simp)]
  clear hA0 hval0 hsz0 hsz
  refine (K.nst_row l0 n0 hw0 l1 n1 hw1 a2 w2 a3 w3 a4_0 w4_0 a4_1 w4_1 a4_2 w4_2 a4_3 w4_3 a5_0 w5_0 a5_1 w5_1 a5_2 w5_2 a5_3 w5_3 W SZ).mono fun e W' ⟨he, bel⟩ => ?_
  subst he
  exact ⟨_, rfl, _, _, _, [], _, [], hW', trodAll_mk1 (shut_bool Tryd.underlying4 _), (trodAll_cons_mk (Below.trod laidOut (by kernel_rfl) (of_decide_eq_true (by kernel_rfl)) k0 bel lt0) (trodAll_cons_mk (Below.trod laidOut (by kernel_rfl) (of_decide_eq_true (by kernel_rfl)) k1 bel lt1) (trodAll_cons_mk (shut_int Tryd.underlying22 w2) (trodAll_cons_mk (shut_int Tryd.underlying22 w3) (trodAll_cons_mk (Below.trod laidOut (by kernel_rfl) (of_decide_eq_true (by kernel_rfl)) k4 bel lt4) (trodAll_cons_mk (Below.trod laidOut (by kernel_rfl) (of_decide_eq_true (by kernel_rfl)) k5 bel lt5) trodAll_mk0)))))), rfl, bel.frame _, fun h => by cases h⟩
set_option maxHeartbeats 1000000 in
theorem facts : joinedFacts Tryd.prog 6 Tryd.f6 Rows.markNewestSpec Rows.markNewestRow = true := by
  unfold joinedFacts
  repeat' (with_reducible apply Head.and_mk)
  all_goals first
    | with_reducible exact Head.enters
    | (with_reducible refine Head.lifted_mk ?_; kernel_rfl)
    | (with_reducible refine Head.make_mk ?_; kernel_rfl)
    | (as_aux_lemma => kernel_rfl)
theorem over : Rows.markNewestRow.holds Tryd.pinned (OpenSpec.ofChange Rows.markNewestSpec) :=
  OpenClaim.holds_of_wide 6 Tryd.f6 rfl rfl rfl rfl rfl rfl rfl ⟨rfl, rfl, rfl, rfl, rfl⟩ rfl rfl rfl rfl rfl (by as_aux_lemma => kernel_rfl) Tryd.func6 facts
    (of_decide_eq_true (by as_aux_lemma => kernel_rfl)) (by unfold Func.isWrapper; first | (rw [if_pos (by decide +kernel)]; kernel_rfl) | (rw [if_neg (by decide +kernel)]; exact ⟨rfl, rfl⟩))
    (fun os started H enc _ => lifted os started H enc)
theorem proved : Rows.MarkNewestSaid := over
end Go.Proofs.YtdchcggllcgokaaDoor.markNewest
namespace Go.Proofs.YtdchcggllcgokaaDoor
theorem markNewest_row_holds : Rows.MarkNewestSaid := markNewest.proved
set_option maxRecDepth 100000 in
/-- The tied card. -/
theorem markNewest_holds : Rows.MarkNewestCardSaid :=
  Claim7.holds_tied_plain_at .later [] [.data] true (true, "1fe631e0fe3f62af0f69ce28b7aa75ea7fb9823dfcb1a8385b8999c3e069d5d7") false
    markNewest_row_holds (fun _ h => by cases h) (by kernel_rfl) (fun _ h => by cases h) markNewest_row_tie rfl ⟨rfl, rfl⟩ (by kernel_rfl) rfl
    (fun f fn hf hfn => by
      obtain rfl : f = 6 := Option.some.inj ((show Tryd.prog.funcNamed "ashlar/ashlarlaw09.MarkNewest" = some 6 by kernel_rfl).symm.trans hf) |>.symm
      obtain rfl : fn = Tryd.f6 := (Option.some.inj (Tryd.func6.symm.trans hfn)).symm
      exact ⟨by kernel_rfl, fun j t ht => by
        rw [Tryd.params6] at ht
        have hm : t ∈ [26, 26, 22, 22, 24, 24] := by simpa using Array.mem_of_getElem? ht
        have hall : ([26, 26, 22, 22, 24, 24].all fun u => !Tryd.prog.wantsStandIn u) = true := by kernel_rfl
        exact (show Tryd.prog.wantsStandIn t = false by simpa using List.all_eq_true.1 hall t hm)⟩)
    (by kernel_rfl)
end Go.Proofs.YtdchcggllcgokaaDoor
