/-
  Rosters are compared: the laws as steps, the operation's shape first.
-/
import Derived.Test.YtdchcggllcgokaaRos17
namespace Go.Proofs.Ytdchcggllcgokaa.Q
open Go.RowKit Go.Proofs.Ytdchcggllcgokaa.L Go.Proofs.Ytdchcggllcgokaa.R Go.Proofs.YtdchcggllcgokaaW.PrintWords
set_option linter.unusedVariables false
set_option linter.unusedSimpArgs false
section
variable {ops : Array Oper} {rest : List Oper} {op : Oper} {A : Act} {w : World} {Q : Exit → Act → World → Prop}
theorem valStep {v : Value} (hr : (execOp A.eval op).run Try.prog w = .ok (.value v) w) (hw : Region.wanted op (yielded ops A.tmps) = true) (h : wpList Try.prog ops Q rest (A.put op.dst v) w) : wpList Try.prog ops Q (op :: rest) A w := by
  refine wanted_step hw fun K hK => ?_
  unfold Oper.wp
  rw [hr]
  exact hK _ _ h
theorem rosEqlS (x y : Operand) (t : TypeId) (ho : op.op = .binOp .eql 72 x y t) {u v : Ro} (hx : A.eval x = ros u) (hy : A.eval y = ros v) (hu : u.st.length = 16) (hv : v.st.length = 16) (b : Bool) (hb : eqR u v = b)
    (hw : Region.wanted op (yielded ops A.tmps) = true) (h : wpList Try.prog ops Q rest (A.put op.dst (.bool b)) w) : wpList Try.prog ops Q (op :: rest) A w :=
  valStep (run_rosEql x y t ho hx hy hu hv b hb w) hw h
theorem rosNeqS (x y : Operand) (t : TypeId) (ho : op.op = .binOp .neq 72 x y t) {u v : Ro} (hx : A.eval x = ros u) (hy : A.eval y = ros v) (hu : u.st.length = 16) (hv : v.st.length = 16) (b : Bool) (hb : (!eqR u v) = b)
    (hw : Region.wanted op (yielded ops A.tmps) = true) (h : wpList Try.prog ops Q rest (A.put op.dst (.bool b)) w) : wpList Try.prog ops Q (op :: rest) A w :=
  valStep (run_rosNeq x y t ho hx hy hu hv b hb w) hw h
end
theorem eqR_self (x : Ro) : eqR x x = true := (eqR_iff x x).2 rfl
theorem neR_self (x : Ro) : (!eqR x x) = false := by rw [eqR_self]; rfl
end Go.Proofs.Ytdchcggllcgokaa.Q
