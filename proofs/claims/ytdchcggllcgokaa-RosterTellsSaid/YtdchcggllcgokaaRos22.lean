/-
  RosterTells over its cells.
-/
import Derived.Test.YtdchcggllcgokaaRos21
namespace Go.Proofs.Ytdchcggllcgokaa.Q
open Go.RowKit Go.Proofs.Ytdchcggllcgokaa.L Go.Proofs.Ytdchcggllcgokaa.R Go.Proofs.YtdchcggllcgokaaW.PrintWords
set_option linter.unusedVariables false
set_option linter.unusedSimpArgs false
theorem wf16 {m s r cu : Int} {go : Bool} {b0 : Int} {b1 : Int} {b2 : Int} {b3 : Int} {b4 : Int} {b5 : Int} {b6 : Int} {b7 : Int} {b8 : Int} {b9 : Int} {b10 : Int} {b11 : Int} {b12 : Int} {b13 : Int} {b14 : Int} {b15 : Int} (wb0 : (Lit.int .u8 b0).wf = true) (wb1 : (Lit.int .u8 b1).wf = true) (wb2 : (Lit.int .u8 b2).wf = true) (wb3 : (Lit.int .u8 b3).wf = true) (wb4 : (Lit.int .u8 b4).wf = true) (wb5 : (Lit.int .u8 b5).wf = true) (wb6 : (Lit.int .u8 b6).wf = true) (wb7 : (Lit.int .u8 b7).wf = true) (wb8 : (Lit.int .u8 b8).wf = true) (wb9 : (Lit.int .u8 b9).wf = true) (wb10 : (Lit.int .u8 b10).wf = true) (wb11 : (Lit.int .u8 b11).wf = true) (wb12 : (Lit.int .u8 b12).wf = true) (wb13 : (Lit.int .u8 b13).wf = true) (wb14 : (Lit.int .u8 b14).wf = true) (wb15 : (Lit.int .u8 b15).wf = true) : Wf ⟨m, s, r, [b0, b1, b2, b3, b4, b5, b6, b7, b8, b9, b10, b11, b12, b13, b14, b15], cu, go⟩ := by
  refine ⟨rfl, fun v hv => ?_⟩
  simp only [List.mem_cons, List.not_mem_nil, or_false] at hv
  rcases hv with rfl | rfl | rfl | rfl | rfl | rfl | rfl | rfl | rfl | rfl | rfl | rfl | rfl | rfl | rfl | rfl <;> assumption
theorem tells_row (m : Int) (wm : (Lit.int .i64 m).wf = true) (s : Int) (ws : (Lit.int .i64 s).wf = true) (r : Int) (wr : (Lit.int .i64 r).wf = true) (b0 : Int) (wb0 : (Lit.int .u8 b0).wf = true) (b1 : Int) (wb1 : (Lit.int .u8 b1).wf = true) (b2 : Int) (wb2 : (Lit.int .u8 b2).wf = true) (b3 : Int) (wb3 : (Lit.int .u8 b3).wf = true) (b4 : Int) (wb4 : (Lit.int .u8 b4).wf = true) (b5 : Int) (wb5 : (Lit.int .u8 b5).wf = true) (b6 : Int) (wb6 : (Lit.int .u8 b6).wf = true) (b7 : Int) (wb7 : (Lit.int .u8 b7).wf = true) (b8 : Int) (wb8 : (Lit.int .u8 b8).wf = true) (b9 : Int) (wb9 : (Lit.int .u8 b9).wf = true) (b10 : Int) (wb10 : (Lit.int .u8 b10).wf = true) (b11 : Int) (wb11 : (Lit.int .u8 b11).wf = true) (b12 : Int) (wb12 : (Lit.int .u8 b12).wf = true) (b13 : Int) (wb13 : (Lit.int .u8 b13).wf = true) (b14 : Int) (wb14 : (Lit.int .u8 b14).wf = true) (b15 : Int) (wb15 : (Lit.int .u8 b15).wf = true) (cu : Int) (wc : (Lit.int .i64 cu).wf = true) (go : Bool) (i : Int) (wi : (Lit.int .i64 i).wf = true) (j : Int) (wj : (Lit.int .i64 j).wf = true) (g : Bool) (w : World) :
    Calls Try.prog 24 #[.agg #[.int .i64 m, .int .i64 s, .int .i64 r, .int .u8 b0, .int .u8 b1, .int .u8 b2, .int .u8 b3, .int .u8 b4, .int .u8 b5, .int .u8 b6, .int .u8 b7, .int .u8 b8, .int .u8 b9, .int .u8 b10, .int .u8 b11, .int .u8 b12, .int .u8 b13, .int .u8 b14, .int .u8 b15, .int .i64 cu, .bool go], .int .i64 i, .int .i64 j, .bool g] w fun e w' => e = .returned (.bool true) ∧ Below w.heap.size w w' :=
  tells_any ⟨m, s, r, [b0, b1, b2, b3, b4, b5, b6, b7, b8, b9, b10, b11, b12, b13, b14, b15], cu, go⟩ (wf16 wb0 wb1 wb2 wb3 wb4 wb5 wb6 wb7 wb8 wb9 wb10 wb11 wb12 wb13 wb14 wb15) i j g w
end Go.Proofs.Ytdchcggllcgokaa.Q
