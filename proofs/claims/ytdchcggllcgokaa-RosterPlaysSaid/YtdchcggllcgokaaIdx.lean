/-
  An element of an array by value, as a step.
-/
import Derived.Test.YtdchcggllcgokaaFast
namespace Go.Proofs.Ytdchcggllcgokaa.F
open Go.RowKit Go.Proofs.Ytdchcggllcgokaa.L Go.Proofs.Ytdchcggllcgokaa.R Go.Proofs.YtdchcggllcgokaaW.PrintWords
set_option linter.unusedVariables false
section
variable {P : Program} {ops : Array Oper} {rest : List Oper} {op : Oper} {a : Act} {w : World} {Q : Exit → Act → World → Prop}
theorem run_aggIndex {ty e : TypeId} {cs : Array Value} {k : IntKind} {i n : Nat} (hu : P.underlying ty = some (.array n e)) (hi : i < n) (hag : ∀ w : World, (isAgg e).run P w = .ok false w) (hsz : ∀ w : World, (sizeOf e).run P w = .ok 1 w) {v : Value} (hv : cs[i]? = some v) (w : World) :
    (Instr.index ty (.agg cs) (.int k (i : Int))).run P w = .ok v w := by
  simp [Instr.index, asIntOf, run_underlying hu, hi, hsz, part, hag, hv]
theorem aggIndex (ty : TypeId) (x y : Operand) (ho : op.op = .index ty x y) {cs : Array Value} {i n : Nat} {e : TypeId} {k : IntKind} (hx : a.eval x = .agg cs) (hy : a.eval y = .int k (i : Int)) (hu : P.underlying ty = some (.array n e)) (hi : i < n)
    (hag : ∀ w : World, (isAgg e).run P w = .ok false w) (hsz : ∀ w : World, (sizeOf e).run P w = .ok 1 w) {v : Value} (hv : cs[i]? = some v) (hw : Region.wanted op (yielded ops a.tmps) = true)
    (h : wpList P ops Q rest (a.put op.dst v) w) : wpList P ops Q (op :: rest) a w := by
  refine wanted_step hw fun K hK => ?_
  unfold Oper.wp execOp
  simp only [ho, hx, hy, run_aggIndex hu hi hag hsz hv, Sem.run_bind, Result.andThen_ok, Sem.run_pure]
  exact hK _ _ h
end
end Go.Proofs.Ytdchcggllcgokaa.F
