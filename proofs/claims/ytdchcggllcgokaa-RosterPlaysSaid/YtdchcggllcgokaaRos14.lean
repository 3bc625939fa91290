/-
  Rosters are compared, as steps; Missing whole.
-/
import Derived.Test.YtdchcggllcgokaaRos13
namespace Go.Proofs.Ytdchcggllcgokaa.Q
open Go.RowKit Go.Proofs.Ytdchcggllcgokaa.L Go.Proofs.Ytdchcggllcgokaa.R Go.Proofs.YtdchcggllcgokaaW.PrintWords
set_option linter.unusedVariables false
set_option linter.unusedSimpArgs false
theorem guard_ros : Try.prog.eqGuardType Try.prog.depth 72 = false := by kernel_rfl
theorem run_rosEql (x y : Operand) (t : TypeId) {A : Act} {op : Oper} (ho : op.op = .binOp .eql 72 x y t) {u v : Ro} (hx : A.eval x = ros u) (hy : A.eval y = ros v) (hu : u.st.length = 16) (hv : v.st.length = 16) (b : Bool) (hb : eqR u v = b) (w : World) :
    (execOp A.eval op).run Try.prog w = .ok (.value (.bool b)) w := by
  subst hb
  have h1 : (eqGuard .eql 72 x y (ros u) (ros v)).run Try.prog w = .ok () w := run_eqGuard_agg w .eql _ x y _ _ guard_ros
  have h2 : (binOp .eql 72 (ros u) (ros v)).run Try.prog w = .ok (.bool (eqR u v)) w := by
    unfold ros
    rw [run_eql_struct]
    have h3 := run_eqr w hu hv
    unfold ros at h3
    rw [h3]; rfl
  unfold execOp
  simp only [ho, hx, hy, Sem.run_bind, Sem.run_map, h1, h2, Result.andThen_ok, Sem.run_pure]
theorem run_rosNeq (x y : Operand) (t : TypeId) {A : Act} {op : Oper} (ho : op.op = .binOp .neq 72 x y t) {u v : Ro} (hx : A.eval x = ros u) (hy : A.eval y = ros v) (hu : u.st.length = 16) (hv : v.st.length = 16) (b : Bool) (hb : (!eqR u v) = b) (w : World) :
    (execOp A.eval op).run Try.prog w = .ok (.value (.bool b)) w := by
  subst hb
  have h1 : (eqGuard .neq 72 x y (ros u) (ros v)).run Try.prog w = .ok () w := run_eqGuard_agg w .neq _ x y _ _ guard_ros
  have h2 : (binOp .neq 72 (ros u) (ros v)).run Try.prog w = .ok (.bool (!eqR u v)) w := by
    unfold ros
    rw [run_neq_struct]
    have h3 := run_eqr w hu hv
    unfold ros at h3
    rw [h3]; rfl
  unfold execOp
  simp only [ho, hx, hy, Sem.run_bind, Sem.run_map, h1, h2, Result.andThen_ok, Sem.run_pure]
noncomputable def missR (x : Ro) : Nat := if mayR x = true then 16 - cnt x.st 0 16 else 0
theorem Missing_any (x : Ro) (hx : Wf x) (w : World) : Calls Try.prog 92 #[ros x] w fun e w' => e = .returned (.int .i64 (missR x : Int)) ∧ Below w.heap.size w w' := by
  have p := fun w => May_any x hx w
  have hc := cnt_le x.st 0 16
  cases hm : mayR x with
  | false =>
    rw [hm] at p
    rw [missR, if_neg (by rw [hm]; exact Bool.false_ne_true)]
    exact Missing_A x (Lib.hid hx.1) (Lib.hid p) w
  | true =>
    rw [hm] at p
    rw [missR, if_pos hm, show ((16 - cnt x.st 0 16 : Nat) : Int) = 16 - (cnt x.st 0 16 : Int) by omega]
    exact Missing_B x (Lib.hid hx.1) _ hc (Lib.hid p) (Lib.hid fun w => count_any x hx.1 0 w) w
theorem rMissing_any (x : Ro) (hx : Wf x) (w : World) : Calls Try.prog 93 #[ros x] w fun e w' => e = .returned (.int .i64 (missR x : Int)) ∧ Below w.heap.size w w' := by
  have p := fun w => rMay_any x hx w
  cases hm : mayR x with
  | false =>
    rw [hm] at p
    rw [missR, if_neg (by rw [hm]; exact Bool.false_ne_true)]
    exact rMissing_A x (Lib.hid hx.1) (Lib.hid p) w
  | true =>
    rw [hm] at p
    rw [missR, if_pos hm]
    exact rMissing_B x (Lib.hid hx.1) (Lib.hid p) w
end Go.Proofs.Ytdchcggllcgokaa.Q
