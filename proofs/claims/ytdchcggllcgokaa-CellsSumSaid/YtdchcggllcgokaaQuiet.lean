/-
  Drawn regions whose calls make memory and which store nothing: one walk, over a class of worlds.
-/
import Derived.Test.YtdchcggllcgokaaBlk
import Derived.BigQuiet
namespace Go.Proofs.Ytdchcggllcgokaa.R
open Go.RowKit Go.Proofs.Ytdchcggllcgokaa.L Go.Proofs.YtdchcggllcgokaaW.PrintWords
set_option linter.unusedVariables false
set_option linter.unusedSimpArgs false

section
variable {P : Program} {ops : Array Oper} {C : World → Prop} {Q : Act → Prop} {a : Act} {op : Oper} {rest : List Oper}
theorem quiet_val (hw : Region.wanted op (yielded ops a.tmps) = true) (v : Value) (hr : ∀ w, C w → (execOp a.eval op).run P w = .ok (.value v) w) (h : wpQuiet P ops C Q rest (a.put op.dst v)) : wpQuiet P ops C Q (op :: rest) a :=
  BigFrame.wpQuiet_want hw fun K hK => ⟨v, fun w hC => by unfold Oper.quietAt; rw [hr w hC]; exact ⟨rfl, rfl⟩, hK _ h⟩
theorem qRowLoad (hw : Region.wanted op (yielded ops a.tmps) = true) (ty : TypeId) (x : Operand) (ho : op.op = .load ty x) {g : Nat} {t : TypeId} {cs : Array Value} (hk : ∀ w, C w → Row t w g cs) (hx : a.eval x = .pointer (some ⟨g, 0, none⟩))
    {d : TypeDesc} (hu : P.underlying ty = some d) (hd : (match d with | .struct _ | .array _ _ => true | _ => false) = true) (hi : (P.info? ty).map (·.size) = some cs.size)
    (h : wpQuiet P ops C Q rest (a.put op.dst (.agg cs))) : wpQuiet P ops C Q (op :: rest) a :=
  quiet_val hw _ (fun w hC => by
    unfold execOp
    simp only [ho, hx, Instr.loadAt, Instr.sureAddr, Sem.run_bind, Sem.run_map, Sem.run_pure, Result.andThen_ok, run_loadVar_row w g t ty cs (0, 0) d (hk w hC) hu hd hi]) h
theorem qRowCell (hw : Region.wanted op (yielded ops a.tmps) = true) (ty : TypeId) (x : Operand) (ho : op.op = .load ty x) {g o : Nat} {t : TypeId} {cs : Array Value} {v : Value} (hk : ∀ w, C w → Row t w g cs) (hv : cs[o]? = some v) (hx : a.eval x = .pointer (some ⟨g, o, none⟩))
    (hag : ∀ w : World, (isAgg ty).run P w = .ok false w) (h : wpQuiet P ops C Q rest (a.put op.dst v)) : wpQuiet P ops C Q (op :: rest) a :=
  quiet_val hw _ (fun w hC => by
    unfold execOp
    simp only [ho, hx, Instr.loadAt, Instr.sureAddr, Sem.run_bind, Sem.run_map, Sem.run_pure, Result.andThen_ok, loadVar, hag, Bool.false_eq_true, if_false, run_load_plain ((hk w hC).cell hv)]) h
end
section
variable {ops : Array Oper} {C : World → Prop} {Q : Act → Prop} {a : Act} {op : Oper} {rest : List Oper}
theorem qBlkLoad (hw : Region.wanted op (yielded ops a.tmps) = true) (x : Operand) (ho : op.op = .load 50 x) {g : Nat} {xs : List Int} (hl : xs.length = 64) (hk : ∀ w, C w → Blk w g xs) (hx : a.eval x = .pointer (some ⟨g, 0, none⟩))
    (h : wpQuiet Try.prog ops C Q rest (a.put op.dst (blk xs))) : wpQuiet Try.prog ops C Q (op :: rest) a :=
  qRowLoad hw _ x ho (fun w hC => (hk w hC).2) hx under_blk rfl (info_of hl) h
theorem qBlkEql (hw : Region.wanted op (yielded ops a.tmps) = true) (x y : Operand) (t : TypeId) (ho : op.op = .binOp .eql 50 x y t) {xs ys : List Int} (hx : a.eval x = blk xs) (hy : a.eval y = blk ys) (hlx : xs.length = 64) (hly : ys.length = 64) (b : Bool) (hb : decide (xs = ys) = b)
    (h : wpQuiet Try.prog ops C Q rest (a.put op.dst (.bool b))) : wpQuiet Try.prog ops C Q (op :: rest) a := by
  subst hb
  refine quiet_val hw _ (fun w hC => ?_) h
  have h1 : (eqGuard .eql 50 x y (blk xs) (blk ys)).run Try.prog w = .ok () w := run_eqGuard_agg w .eql _ x y _ _ guard_blk
  unfold execOp
  simp only [ho, hx, hy, Sem.run_bind, Sem.run_map, h1, run_eql_blk w hlx hly, Result.andThen_ok, Sem.run_pure]
/-- at a call of f -/
theorem qAt {P : Program} (f : FuncId) {xs : Array Operand} {ts : Array TypeId} (ho : op.op = .call { callee := .value (.func f), args := xs, argTypes := ts }) (h : wpQuiet P ops C Q (op :: rest) a) : wpQuiet P ops C Q (op :: rest) a := h
theorem wp_region_cls {P : Program} {id : Nat} {Q : Exit → Act → World → Prop} {a : Act} {w : World} {l : List Oper} (C : World → Prop) (hm : P.follows .mixedOrders = true) (hB : Region.lexB .any l.toArray = true) (hC : C { w with drawn := w.drawn + 1 })
    (h : wpQuiet P l.toArray C (fun a' => ∀ w', C w' → Q .normal a' w') l a) : (Code.region id l.toArray true).wp P Q a w :=
  wp_region_quiet (C := C) hm hB hC (by simpa using h)
/-- the class of later worlds -/
structure Later (W : World) where
  w : World
  b : Below W.heap.size W w
instance (W : World) : Nonempty (Later W) := ⟨⟨W, Below.refl _ _⟩⟩
theorem Later.drew (w : World) : ∃ x : Later w, ({ w with drawn := w.drawn + 1 } : World) = x.w := ⟨⟨_, below_drewN (Below.refl _ _) 1⟩, rfl⟩
theorem Later.ext {W w2 : World} (x : Later W) (hb : Below x.w.heap.size x.w w2) : ∃ y : Later W, w2 = y.w := ⟨⟨w2, below_ext x.b hb⟩, rfl⟩
theorem Row.later {W : World} {T : TypeId} {g : Nat} {cs : Array Value} (h : Row T W g cs) : ∀ w', (∃ x : Later W, w' = x.w) → Row T w' g cs := fun w' ⟨x, e⟩ => by rw [e]; exact h.below x.b
theorem Blk.later {W : World} {g : Nat} {xs : List Int} (h : Blk W g xs) : ∀ w', (∃ x : Later W, w' = x.w) → Blk w' g xs := fun w' ⟨x, e⟩ => by rw [e]; exact h.below x.b
end
end Go.Proofs.Ytdchcggllcgokaa.R
