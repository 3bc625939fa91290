/-
  Blocks by value, whole: each operation of a walk one law; a world behind a step is a letter, with what is known of it.
-/
import Derived.Test.YtdchcggllcgokaaArr
import Derived.Test.YtdchcggllcgokaaNumL
import Derived.Laws.StructEq
import Derived.Laws.CopyOwn
namespace Go.Proofs.Ytdchcggllcgokaa.R
open Go.RowKit Go.Proofs.Ytdchcggllcgokaa.L Go.Proofs.YtdchcggllcgokaaW.PrintWords
set_option linter.unusedVariables false
set_option linter.unusedSimpArgs false

section
variable {P : Program} {ops : Array Oper} {rest : List Oper} {op : Oper} {a : Act} {w : World} {Q : Exit → Act → World → Prop}
theorem wanted_step (hw : Region.wanted op (yielded ops a.tmps) = true) (h : ∀ K : Act → World → Prop, (∀ a w, wpList P ops Q rest a w → K a w) → op.wp P a w K Q) : wpList P ops Q (op :: rest) a w := by
  unfold wpList
  rw [if_pos hw]
  exact .inl (h _ fun _ _ h => h)

/-- A block of cells that is known whole. -/
def Row (T : TypeId) (W : World) (g : Nat) (cs : Array Value) : Prop := W.heap[g]? = some (.cells cs T (0, 0))
theorem Row.lt {T : TypeId} {W : World} {g : Nat} {cs : Array Value} (h : Row T W g cs) : g < W.heap.size := blk_lt h
theorem Row.below {T : TypeId} {W W1 : World} {g : Nat} {cs : Array Value} (h : Row T W g cs) (hb : Below W.heap.size W W1) : Row T W1 g cs := blk_below h hb
theorem Row.grown {T : TypeId} {W W1 : World} {g g' : Nat} {cs : Array Value} (h : Row T W g' cs) (hg : W.grownBy W1 (some g)) (hne : g' ≠ g) : Row T W1 g' cs := blk_grown h hg (fun e => hne (by injection e))
theorem Row.cell {T : TypeId} {W : World} {g o : Nat} {cs : Array Value} {v : Value} (h : Row T W g cs) (hv : cs[o]? = some v) : W.cell? ⟨g, o, none⟩ = some v := (cell_of_row W g o cs T (0, 0) h).trans hv
theorem Row.free {T : TypeId} {W : World} {g o : Nat} {cs : Array Value} (h : Row T W g cs) : W.frozen? ⟨g, o, none⟩ = false := by
  unfold Row at h
  simp [World.frozen?, h]
theorem below_at {B g : Nat} {W W1 : World} (h : Below B w W) (hg : W.grownBy W1 (some g)) (hB : B ≤ g) (hs : g < W.heap.size) : Below B w W1 :=
  h.grown hg (by omega) (fun k hk => by injection hk with hk; omega)

theorem rowLoad (hw : Region.wanted op (yielded ops a.tmps) = true) (ty : TypeId) (x : Operand) (ho : op.op = .load ty x) {g : Nat} {t : TypeId} {cs : Array Value} (hk : Row t w g cs) (hx : a.eval x = .pointer (some ⟨g, 0, none⟩))
    {d : TypeDesc} (hu : P.underlying ty = some d) (hd : (match d with | .struct _ | .array _ _ => true | _ => false) = true) (hi : (P.info? ty).map (·.size) = some cs.size)
    (h : wpList P ops Q rest (a.put op.dst (.agg cs)) w) : wpList P ops Q (op :: rest) a w := by
  refine wanted_step hw fun K hK => ?_
  unfold Oper.wp execOp
  simp only [ho, hx, Instr.loadAt, Instr.sureAddr, Sem.run_bind, Sem.run_pure, Result.andThen_ok, run_loadVar_row w g t ty cs (0, 0) d hk hu hd hi]
  exact hK _ _ h
theorem rowStore (hw : Region.wanted op (yielded ops a.tmps) = true) (ty : TypeId) (x y : Operand) (ho : op.op = .store ty x y) {g : Nat} {t : TypeId} {cs old : Array Value} (hk : Row t w g old) (hx : a.eval x = .pointer (some ⟨g, 0, none⟩)) (hy : a.eval y = .agg cs)
    (hi : (P.info? ty).map (·.size) = some cs.size) (hs : old.size = cs.size) (h1 : cs.all (·.oneCell') = true)
    (h : ∀ w1, Row t w1 g cs → w.grownBy w1 (some g) → wpList P ops Q rest (a.put op.dst undef) w1) : wpList P ops Q (op :: rest) a w := by
  refine wanted_step hw fun K hK => ?_
  unfold Oper.wp execOp
  simp only [ho, hx, hy, Instr.storeAt, Instr.sureAddr, Sem.run_bind, Sem.run_pure, Result.andThen_ok, run_storeVar_row w g t ty old cs hk hi hs h1]
  exact hK _ _ (h _ (setRow_heap w g old cs t _ hk) (grown_setRow w g cs))
theorem rowAlloc (hw : Region.wanted op (yielded ops a.tmps) = true) (ty : TypeId) (ho : op.op = .alloc ty) (cs : Array Value) (hz : ∀ w : World, (zeroValue ty).run P w = .ok (.agg cs) w)
    (h : ∀ w1, Row ty w1 w.heap.size cs → Below w.heap.size w w1 → w.heap.size < w1.heap.size → wpList P ops Q rest (a.put op.dst (.pointer (some ⟨w.heap.size, 0, none⟩))) w1) : wpList P ops Q (op :: rest) a w := by
  refine wanted_step hw fun K hK => ?_
  have := h (w.alloc (.cells cs ty)) (heap_alloc_last w _) (grown_below (World.grownBy_alloc w _ _)) (by simp)
  unfold Oper.wp execOp
  simp only [ho, Instr.alloc, newVar, newRow, Value.cells, Sem.run_bind, Sem.run_pure, Sem.run_map, Result.andThen_ok, hz, run_newObj_alloc]
  exact hK _ _ this
theorem rowBox (hw : Region.wanted op (yielded ops a.tmps) = true) (ty : TypeId) (x : Operand) (ho : op.op = .box ty x) {cs : Array Value} (hx : a.eval x = .agg cs)
    (h : ∀ w1, Row ty w1 w.heap.size cs → Below w.heap.size w w1 → w.heap.size < w1.heap.size → wpList P ops Q rest (a.put op.dst (.pointer (some ⟨w.heap.size, 0, none⟩))) w1) : wpList P ops Q (op :: rest) a w := by
  refine wanted_step hw fun K hK => ?_
  have := h (w.alloc (.cells cs ty)) (heap_alloc_last w _) (grown_below (World.grownBy_alloc w _ _)) (by simp)
  unfold Oper.wp execOp
  simp only [ho, hx, Instr.box, newVar, newRow, Value.cells, Sem.run_bind, Sem.run_pure, Sem.run_map, Result.andThen_ok, run_newObj_alloc]
  exact hK _ _ this
theorem run_load_plain {p : Addr} {v : Value} (hc : w.cell? p = some v) : (load p).run P w = .ok v w := by
  simp [hc, go_sem]
/-- One cell of a block is read. -/
theorem rowCell (hw : Region.wanted op (yielded ops a.tmps) = true) (ty : TypeId) (x : Operand) (ho : op.op = .load ty x) {g o : Nat} {v : Value} (hc : w.cell? ⟨g, o, none⟩ = some v) (hx : a.eval x = .pointer (some ⟨g, o, none⟩))
    (hag : ∀ w : World, (isAgg ty).run P w = .ok false w) (h : wpList P ops Q rest (a.put op.dst v) w) : wpList P ops Q (op :: rest) a w := by
  refine wanted_step hw fun K hK => ?_
  unfold Oper.wp execOp
  simp only [ho, hx, Instr.loadAt, Instr.sureAddr, Sem.run_bind, Sem.run_pure, Result.andThen_ok, loadVar, hag, Bool.false_eq_true, if_false, run_load_plain hc]
  exact hK _ _ h
theorem setCell_row {T : TypeId} {g o : Nat} {cs : Array Value} {v : Value} (hk : Row T w g cs) : Row T (w.setCell ⟨g, o, none⟩ v) g (cs.setIfInBounds o v) ∧ w.grownBy (w.setCell ⟨g, o, none⟩ v) (some g) := by
  constructor
  · unfold Row at hk ⊢
    simp [World.setCell, Array.getElem?_modify, hk]
  · refine ⟨rfl, rfl, rfl, by simp [World.setCell], fun k hk hne => ?_⟩
    simp only [World.setCell, Array.getElem?_modify]
    rw [if_neg (fun e => hne (by rw [e]))]
/-- One cell of a block is written. -/
theorem rowSet (hw : Region.wanted op (yielded ops a.tmps) = true) (ty : TypeId) (x y : Operand) (ho : op.op = .store ty x y) {g : Nat} {t : TypeId} {cs : Array Value} (hk : Row t w g cs) (o : Nat) (hlt : o < cs.size) (hx : a.eval x = .pointer (some ⟨g, o, none⟩)) (v : Value) (hy : a.eval y = v)
    (hv : v.cells = #[v]) (h1 : v.oneCell' = true) (hi : (P.info? ty).map (·.size) = some 1)
    (h : ∀ w1, Row t w1 g (cs.setIfInBounds o v) → w.grownBy w1 (some g) → wpList P ops Q rest (a.put op.dst undef) w1) : wpList P ops Q (op :: rest) a w := by
  refine wanted_step hw fun K hK => ?_
  have hc : w.cell? ⟨g, o, none⟩ = some cs[o] := hk.cell (by simp [hlt])
  have hs := run_storeCells_cells (P := P) g o [v] 0 w (fun j hj => by
    obtain rfl : j = 0 := by simpa using hj
    show (w.cell? ⟨g, o, none⟩).isSome = true
    rw [hc]; rfl) (fun j hj => by
    obtain rfl : j = 0 := by simpa using hj
    exact hk.free) (fun u hu => by
    obtain rfl : u = v := by simpa using hu
    exact h1)
  have hrun : (storeVar ty ⟨g, o, none⟩ v).run P w = .ok () (w.setCell ⟨g, o, none⟩ v) := by
    cases hq : P.info? ty with
    | none => simp [hq] at hi
    | some i =>
      have hs1 : i.size = 1 := by simpa [hq] using hi
      simp only [Nat.add_zero] at hs
      simpa [storeVar, sizeOf, typeInfo, hq, hv, hs1, World.setCells] using hs
  unfold Oper.wp execOp
  simp only [ho, hx, hy, Instr.storeAt, Instr.sureAddr, Sem.run_bind, Sem.run_pure, Result.andThen_ok, hrun]
  exact hK _ _ (h _ (setCell_row hk).1 (setCell_row hk).2)
/-- bytes that are copied into a block -/
theorem rowCopy (hw : Region.wanted op (yielded ops a.tmps) = true) (d s : Operand) (dT sT : TypeId) (ho : op.op = .call { callee := .builtin .copy, args := #[d, s], argTypes := #[dT, sT] }) (elem : TypeId) (hu : P.underlying dT = some (.slice elem)) (hsz : (P.info? elem).map (·.size) = some 1)
    {g : Nat} {t : TypeId} {xs : List Int} {k : IntKind} (hk : Row t w g (nums k xs).toArray) (off dLen dCap : Nat) (hd : a.eval d = .slice (some ⟨g, off, none⟩) dLen dCap) {A : Option Addr} {n c : Nat} {ys : List Int} (hr : ReadsInt w k A n ys) (hs : a.eval s = .slice A n c) (hfit : off + dLen ≤ xs.length)
    (h : ∀ w1, Row t w1 g (nums k (splice xs off (ys.take dLen))).toArray → w.grownBy w1 (some g) → wpList P ops Q rest (a.put op.dst (goInt (min n dLen : Nat))) w1) : wpList P ops Q (op :: rest) a w := by
  have hl : ys.length = n := hr.1
  refine wanted_step hw fun K hK => ?_
  have hn : (nums k (ys.take dLen)).length = Nat.min n dLen := by rw [nums_length, List.length_take, hl, Nat.min_comm]
  have hsp : splice (nums k xs) off (nums k (ys.take dLen)) = nums k (splice xs off (ys.take dLen)) := by
    simp [splice, nums, List.map_take, List.map_drop]
  by_cases h0 : Nat.min n dLen = 0
  · have e : ys.take dLen = [] := by
      apply List.eq_nil_of_length_eq_zero
      rw [← nums_length k, hn]; exact h0
    have hrun := run_copy_none (P := P) w dT sT op.type elem (some ⟨g, off, none⟩) A dLen dCap n c hu hsz h0
    have h2 := h w (by rw [e]; simpa [splice] using hk) ⟨rfl, rfl, rfl, Nat.le_refl _, fun _ _ _ => rfl⟩
    rw [show min n dLen = 0 from h0] at h2
    unfold Oper.wp
    simp [execOp, ho, resolve, invoke, builtin, hd, hs, hrun, Result.andThen]
    exact hK _ _ h2
  · have hp : 0 < n := by
      rcases Nat.eq_zero_or_pos n with h1 | h1
      · rw [h1] at h0; exact absurd (Nat.zero_min _) h0
      · exact h1
    obtain ⟨ad, rfl, hc⟩ := hr.2.2 hp
    have hrun := run_copy_row (P := P) w dT sT op.type elem g off dLen dCap ad n c (nums k xs).toArray t (nums k (ys.take dLen)) hu hsz hk hn (fun j v hv => by
      have hj : j < (nums k (ys.take dLen)).length := (List.getElem?_eq_some_iff.1 hv).1
      rw [nums_length, List.length_take] at hj
      rw [hc j (by omega)]
      simp only [nums, List.getElem?_map, List.getElem?_take] at hv
      rw [if_pos (by omega), List.getElem?_eq_getElem (by omega)] at hv
      rw [List.getD_eq_getElem?_getD, List.getElem?_eq_getElem (by omega)]
      simpa using hv) (by
      have h9 : Nat.min n dLen ≤ dLen := Nat.min_le_right n dLen
      have h8 : (nums k xs).toArray.size = xs.length := by simp [nums]
      rw [hn, h8]; exact Nat.le_trans (Nat.add_le_add_left h9 off) hfit) (fun v hv => by
      simp only [nums, List.mem_map] at hv
      obtain ⟨x, _, rfl⟩ := hv
      rfl)
    have h2 := h _ (by
      have h3 := setRow_heap w g (nums k xs).toArray (splice (nums k xs) off (nums k (ys.take dLen))).toArray t _ hk
      rw [hsp] at h3
      exact h3) (grown_setRow w g _)
    rw [← hsp] at h2
    unfold Oper.wp
    simp only [splice, hn] at h2
    simp [execOp, ho, resolve, invoke, builtin, hd, hs, hrun, Result.andThen, hn]
    exact hK _ _ h2
end
end Go.Proofs.Ytdchcggllcgokaa.R
