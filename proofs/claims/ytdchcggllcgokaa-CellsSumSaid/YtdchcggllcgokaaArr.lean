/-
  Whole arrays in a walk: made, stored, read, each as one step (the world behind a step is a letter, with what is known of it).
-/
import Derived.Test.YtdchcggllcgokaaLib
import Derived.Deep.MidRow
import Derived.Deep.WholeRow
namespace Go.Proofs.Ytdchcggllcgokaa.L
open Go.RowKit Go.Proofs.YtdchcggllcgokaaW.PrintWords
set_option linter.unusedVariables false
set_option linter.unusedSimpArgs false
section
variable {P : Program} {ops : Array Oper} {rest : List Oper} {op : Oper} {a : Act} {w : World} {Q : Exit → Act → World → Prop}

theorem grown_setRow (w : World) (g : Nat) (cs : Array Value) : w.grownBy (w.setRow g cs) (some g) :=
  ⟨rfl, rfl, rfl, by simp, fun k hk hne => setRow_other w g k cs (fun e => hne (by rw [e]))⟩

/-- A value of a whole array or struct goes into a block that is known whole. -/
theorem rowStore (hgd : op.guard = none) (ty : TypeId) (x y : Operand) (ho : op.op = .store ty x y) (g : Nat) (hx : a.eval x = .pointer (some ⟨g, 0, none⟩))
    (cs : Array Value) (hy : a.eval y = .agg cs) (t : TypeId) (old : Array Value) (hg : w.heap[g]? = some (.cells old t (0, 0))) (hi : (P.info? ty).map (·.size) = some cs.size) (hs : old.size = cs.size)
    (h1 : cs.all (·.oneCell') = true)
    (h : ∀ w1, w1.heap[g]? = some (.cells cs t (0, 0)) → w.grownBy w1 (some g) → wpList P ops Q rest (a.put op.dst undef) w1) : wpList P ops Q (op :: rest) a w := by
  refine wpList_plain hgd fun K hK => ?_
  unfold Oper.wp execOp
  simp only [ho, hx, hy, Instr.storeAt, Instr.sureAddr, Sem.run_bind, Sem.run_pure, Result.andThen_ok, run_storeVar_row w g t ty old cs hg hi hs h1]
  exact hK _ _ (h _ (setRow_heap w g old cs t _ hg) (grown_setRow w g cs))

/-- A variable of a whole array or struct is made. -/
theorem rowAlloc (hgd : op.guard = none) (ty : TypeId) (ho : op.op = .alloc ty) (z : Value) (hz : ∀ w : World, (zeroValue ty).run P w = .ok z w)
    (h : ∀ w1, w1.heap[w.heap.size]? = some (.cells z.cells ty (0, 0)) → w.grownBy w1 none → w.heap.size < w1.heap.size → wpList P ops Q rest (a.put op.dst (.pointer (some ⟨w.heap.size, 0, none⟩))) w1) : wpList P ops Q (op :: rest) a w := by
  refine wpList_plain hgd fun K hK => ?_
  have := h (w.alloc (.cells z.cells ty)) (heap_alloc_last w _) (World.grownBy_alloc w _ _) (by simp)
  unfold Oper.wp execOp
  simp only [ho, Instr.alloc, newVar, newRow, Sem.run_bind, Sem.run_pure, Sem.run_map, Result.andThen_ok, hz, run_newObj_alloc]
  exact hK _ _ this

/-- A value is laid into a variable of its own. -/
theorem rowBox (hgd : op.guard = none) (ty : TypeId) (x : Operand) (ho : op.op = .box ty x) (cs : Array Value) (hx : a.eval x = .agg cs)
    (h : ∀ w1, w1.heap[w.heap.size]? = some (.cells cs ty (0, 0)) → w.grownBy w1 none → w.heap.size < w1.heap.size → wpList P ops Q rest (a.put op.dst (.pointer (some ⟨w.heap.size, 0, none⟩))) w1) : wpList P ops Q (op :: rest) a w := by
  refine wpList_plain hgd fun K hK => ?_
  have := h (w.alloc (.cells cs ty)) (heap_alloc_last w _) (World.grownBy_alloc w _ _) (by simp)
  unfold Oper.wp execOp
  simp only [ho, hx, Instr.box, newVar, newRow, Value.cells, Sem.run_bind, Sem.run_pure, Sem.run_map, Result.andThen_ok, run_newObj_alloc]
  exact hK _ _ this
theorem grown_below {w w1 : World} (h : w.grownBy w1 none) : Below w.heap.size w w1 := (Below.refl _ _).grown h (Nat.le_refl _) (fun _ h => by cases h)
theorem below_own {w W w1 : World} {g : Nat} (h : Below w.heap.size w W) (hg : W.grownBy w1 (some g)) (hb : w.heap.size ≤ g) : Below w.heap.size w w1 :=
  h.grown hg h.size (fun k hk => by injection hk with hk; omega)
end
end Go.Proofs.Ytdchcggllcgokaa.L
