/-
  Blocks by value, whole: each operation of a walk one law; a world behind a step is a letter, with what is known of it. Sectors: blocks of 64 bytes by value; each operation of a walk one law. The laws of single operations with the guard's proof last: an arm that does not fit fails at once. Drawn regions whose calls make memory and which store nothing: one walk, over a class of worlds. An element of an array by value, as a step.
-/
import Derived.Test.YtdchcggllcgokaaSpA
import Derived.Test.YtdchcggllcgokaaSpC
import Derived.Laws.StructEq
import Derived.Laws.CopyOwn
import Derived.Test.YtdchcggllcgokaaProg
import Derived.Stop.BytesEq
import Derived.BigQuiet
namespace Go.Proofs.Ytdchcggllcgokaa.R
open Go.RowKit Go.Proofs.Ytdchcggllcgokaa.L Go.Proofs.YtdchcggllcgokaaW.PrintWords
set_option linter.unusedVariables false
set_option linter.unusedSimpArgs false

section
variable {P : Program} {ops : Array Oper} {rest : List Oper} {op : Oper} {a : Act} {w : World} {Q : Exit → Act → World → Prop}
theorem wanted_step (hw : Region.wanted op (yielded ops a.tmps) = true) (h : ∀ K : Act → World → Prop, (∀ a w, wpList P ops Q rest a w → K a w) → op.wp P a w K Q) : wpList P ops Q (op :: rest) a w := by
  unfold wpList
  rw [if_pos hw]
  exact .inl (h _ fun _ _ h => h)

/-- A block of cells that is known whole. -/
def Row (T : TypeId) (W : World) (g : Nat) (cs : Array Value) : Prop := W.heap[g]? = some (.cells cs T (0, 0))
theorem Row.lt {T : TypeId} {W : World} {g : Nat} {cs : Array Value} (h : Row T W g cs) : g < W.heap.size := blk_lt h
theorem Row.below {T : TypeId} {W W1 : World} {g : Nat} {cs : Array Value} (h : Row T W g cs) (hb : Below W.heap.size W W1) : Row T W1 g cs := blk_below h hb
theorem Row.grown {T : TypeId} {W W1 : World} {g g' : Nat} {cs : Array Value} (h : Row T W g' cs) (hg : W.grownBy W1 (some g)) (hne : g' ≠ g) : Row T W1 g' cs := blk_grown h hg (fun e => hne (by injection e))
theorem Row.cell {T : TypeId} {W : World} {g o : Nat} {cs : Array Value} {v : Value} (h : Row T W g cs) (hv : cs[o]? = some v) : W.cell? ⟨g, o, none⟩ = some v := (cell_of_row W g o cs T (0, 0) h).trans hv
theorem Row.free {T : TypeId} {W : World} {g o : Nat} {cs : Array Value} (h : Row T W g cs) : W.frozen? ⟨g, o, none⟩ = false := by
  unfold Row at h
  simp [World.frozen?, h]
theorem below_at {B g : Nat} {W W1 : World} (h : Below B w W) (hg : W.grownBy W1 (some g)) (hB : B ≤ g) (hs : g < W.heap.size) : Below B w W1 :=
  h.grown hg (by omega) (fun k hk => by injection hk with hk; omega)

theorem rowLoad (hw : Region.wanted op (yielded ops a.tmps) = true) (ty : TypeId) (x : Operand) (ho : op.op = .load ty x) {g : Nat} {t : TypeId} {cs : Array Value} (hk : Row t w g cs) (hx : a.eval x = .pointer (some ⟨g, 0, none⟩))
    {d : TypeDesc} (hu : P.underlying ty = some d) (hd : (match d with | .struct _ | .array _ _ => true | _ => false) = true) (hi : (P.info? ty).map (·.size) = some cs.size)
    (h : wpList P ops Q rest (a.put op.dst (.agg cs)) w) : wpList P ops Q (op :: rest) a w := by
  refine wanted_step hw fun K hK => ?_
  unfold Oper.wp execOp
  simp only [ho, hx, Instr.loadAt, Instr.sureAddr, Sem.run_bind, Sem.run_pure, Result.andThen_ok, run_loadVar_row w g t ty cs (0, 0) d hk hu hd hi]
  exact hK _ _ h
theorem rowStore (hw : Region.wanted op (yielded ops a.tmps) = true) (ty : TypeId) (x y : Operand) (ho : op.op = .store ty x y) {g : Nat} {t : TypeId} {cs old : Array Value} (hk : Row t w g old) (hx : a.eval x = .pointer (some ⟨g, 0, none⟩)) (hy : a.eval y = .agg cs)
    (hi : (P.info? ty).map (·.size) = some cs.size) (hs : old.size = cs.size) (h1 : cs.all (·.oneCell') = true)
    (h : ∀ w1, Row t w1 g cs → w.grownBy w1 (some g) → wpList P ops Q rest (a.put op.dst undef) w1) : wpList P ops Q (op :: rest) a w := by
  refine wanted_step hw fun K hK => ?_
  unfold Oper.wp execOp
  simp only [ho, hx, hy, Instr.storeAt, Instr.sureAddr, Sem.run_bind, Sem.run_pure, Result.andThen_ok, run_storeVar_row w g t ty old cs hk hi hs h1]
  exact hK _ _ (h _ (setRow_heap w g old cs t _ hk) (grown_setRow w g cs))
theorem rowAlloc (hw : Region.wanted op (yielded ops a.tmps) = true) (ty : TypeId) (ho : op.op = .alloc ty) (cs : Array Value) (hz : ∀ w : World, (zeroValue ty).run P w = .ok (.agg cs) w)
    (h : ∀ w1, Row ty w1 w.heap.size cs → Below w.heap.size w w1 → w.heap.size < w1.heap.size → wpList P ops Q rest (a.put op.dst (.pointer (some ⟨w.heap.size, 0, none⟩))) w1) : wpList P ops Q (op :: rest) a w := by
  refine wanted_step hw fun K hK => ?_
  have := h (w.alloc (.cells cs ty)) (heap_alloc_last w _) (grown_below (World.grownBy_alloc w _ _)) (by simp)
  unfold Oper.wp execOp
  simp only [ho, Instr.alloc, newVar, newRow, Value.cells, Sem.run_bind, Sem.run_pure, Sem.run_map, Result.andThen_ok, hz, run_newObj_alloc]
  exact hK _ _ this
theorem rowBox (hw : Region.wanted op (yielded ops a.tmps) = true) (ty : TypeId) (x : Operand) (ho : op.op = .box ty x) {cs : Array Value} (hx : a.eval x = .agg cs)
    (h : ∀ w1, Row ty w1 w.heap.size cs → Below w.heap.size w w1 → w.heap.size < w1.heap.size → wpList P ops Q rest (a.put op.dst (.pointer (some ⟨w.heap.size, 0, none⟩))) w1) : wpList P ops Q (op :: rest) a w := by
  refine wanted_step hw fun K hK => ?_
  have := h (w.alloc (.cells cs ty)) (heap_alloc_last w _) (grown_below (World.grownBy_alloc w _ _)) (by simp)
  unfold Oper.wp execOp
  simp only [ho, hx, Instr.box, newVar, newRow, Value.cells, Sem.run_bind, Sem.run_pure, Sem.run_map, Result.andThen_ok, run_newObj_alloc]
  exact hK _ _ this
theorem run_load_plain {p : Addr} {v : Value} (hc : w.cell? p = some v) : (load p).run P w = .ok v w := by
  simp [hc, go_sem]
/-- One cell of a block is read. -/
theorem rowCell (hw : Region.wanted op (yielded ops a.tmps) = true) (ty : TypeId) (x : Operand) (ho : op.op = .load ty x) {g o : Nat} {v : Value} (hc : w.cell? ⟨g, o, none⟩ = some v) (hx : a.eval x = .pointer (some ⟨g, o, none⟩))
    (hag : ∀ w : World, (isAgg ty).run P w = .ok false w) (h : wpList P ops Q rest (a.put op.dst v) w) : wpList P ops Q (op :: rest) a w := by
  refine wanted_step hw fun K hK => ?_
  unfold Oper.wp execOp
  simp only [ho, hx, Instr.loadAt, Instr.sureAddr, Sem.run_bind, Sem.run_pure, Result.andThen_ok, loadVar, hag, Bool.false_eq_true, if_false, run_load_plain hc]
  exact hK _ _ h
theorem setCell_row {T : TypeId} {g o : Nat} {cs : Array Value} {v : Value} (hk : Row T w g cs) : Row T (w.setCell ⟨g, o, none⟩ v) g (cs.setIfInBounds o v) ∧ w.grownBy (w.setCell ⟨g, o, none⟩ v) (some g) := by
  constructor
  · unfold Row at hk ⊢
    simp [World.setCell, Array.getElem?_modify, hk]
  · refine ⟨rfl, rfl, rfl, by simp [World.setCell], fun k hk hne => ?_⟩
    simp only [World.setCell, Array.getElem?_modify]
    rw [if_neg (fun e => hne (by rw [e]))]
/-- One cell of a block is written. -/
theorem rowSet (hw : Region.wanted op (yielded ops a.tmps) = true) (ty : TypeId) (x y : Operand) (ho : op.op = .store ty x y) {g : Nat} {t : TypeId} {cs : Array Value} (hk : Row t w g cs) (o : Nat) (hlt : o < cs.size) (hx : a.eval x = .pointer (some ⟨g, o, none⟩)) (v : Value) (hy : a.eval y = v)
    (hv : v.cells = #[v]) (h1 : v.oneCell' = true) (hi : (P.info? ty).map (·.size) = some 1)
    (h : ∀ w1, Row t w1 g (cs.setIfInBounds o v) → w.grownBy w1 (some g) → wpList P ops Q rest (a.put op.dst undef) w1) : wpList P ops Q (op :: rest) a w := by
  refine wanted_step hw fun K hK => ?_
  have hc : w.cell? ⟨g, o, none⟩ = some cs[o] := hk.cell (by simp [hlt])
  have hs := run_storeCells_cells (P := P) g o [v] 0 w (fun j hj => by
    obtain rfl : j = 0 := by simpa using hj
    show (w.cell? ⟨g, o, none⟩).isSome = true
    rw [hc]; rfl) (fun j hj => by
    obtain rfl : j = 0 := by simpa using hj
    exact hk.free) (fun u hu => by
    obtain rfl : u = v := by simpa using hu
    exact h1)
  have hrun : (storeVar ty ⟨g, o, none⟩ v).run P w = .ok () (w.setCell ⟨g, o, none⟩ v) := by
    cases hq : P.info? ty with
    | none => simp [hq] at hi
    | some i =>
      have hs1 : i.size = 1 := by simpa [hq] using hi
      simp only [Nat.add_zero] at hs
      simpa [storeVar, sizeOf, typeInfo, hq, hv, hs1, World.setCells] using hs
  unfold Oper.wp execOp
  simp only [ho, hx, hy, Instr.storeAt, Instr.sureAddr, Sem.run_bind, Sem.run_pure, Result.andThen_ok, hrun]
  exact hK _ _ (h _ (setCell_row hk).1 (setCell_row hk).2)
/-- bytes that are copied into a block -/
theorem rowCopy (hw : Region.wanted op (yielded ops a.tmps) = true) (d s : Operand) (dT sT : TypeId) (ho : op.op = .call { callee := .builtin .copy, args := #[d, s], argTypes := #[dT, sT] }) (elem : TypeId) (hu : P.underlying dT = some (.slice elem)) (hsz : (P.info? elem).map (·.size) = some 1)
    {g : Nat} {t : TypeId} {xs : List Int} {k : IntKind} (hk : Row t w g (nums k xs).toArray) (off dLen dCap : Nat) (hd : a.eval d = .slice (some ⟨g, off, none⟩) dLen dCap) {A : Option Addr} {n c : Nat} {ys : List Int} (hr : ReadsInt w k A n ys) (hs : a.eval s = .slice A n c) (hfit : off + dLen ≤ xs.length)
    (h : ∀ w1, Row t w1 g (nums k (splice xs off (ys.take dLen))).toArray → w.grownBy w1 (some g) → wpList P ops Q rest (a.put op.dst (goInt (min n dLen : Nat))) w1) : wpList P ops Q (op :: rest) a w := by
  have hl : ys.length = n := hr.1
  refine wanted_step hw fun K hK => ?_
  have hn : (nums k (ys.take dLen)).length = Nat.min n dLen := by rw [nums_length, List.length_take, hl, Nat.min_comm]
  have hsp : splice (nums k xs) off (nums k (ys.take dLen)) = nums k (splice xs off (ys.take dLen)) := by
    simp [splice, nums, List.map_take, List.map_drop]
  by_cases h0 : Nat.min n dLen = 0
  · have e : ys.take dLen = [] := by
      apply List.eq_nil_of_length_eq_zero
      rw [← nums_length k, hn]; exact h0
    have hrun := run_copy_none (P := P) w dT sT op.type elem (some ⟨g, off, none⟩) A dLen dCap n c hu hsz h0
    have h2 := h w (by rw [e]; simpa [splice] using hk) ⟨rfl, rfl, rfl, Nat.le_refl _, fun _ _ _ => rfl⟩
    rw [show min n dLen = 0 from h0] at h2
    unfold Oper.wp
    simp [execOp, ho, resolve, invoke, builtin, hd, hs, hrun, Result.andThen]
    exact hK _ _ h2
  · have hp : 0 < n := by
      rcases Nat.eq_zero_or_pos n with h1 | h1
      · rw [h1] at h0; exact absurd (Nat.zero_min _) h0
      · exact h1
    obtain ⟨ad, rfl, hc⟩ := hr.2.2 hp
    have hrun := run_copy_row (P := P) w dT sT op.type elem g off dLen dCap ad n c (nums k xs).toArray t (nums k (ys.take dLen)) hu hsz hk hn (fun j v hv => by
      have hj : j < (nums k (ys.take dLen)).length := (List.getElem?_eq_some_iff.1 hv).1
      rw [nums_length, List.length_take] at hj
      rw [hc j (by omega)]
      simp only [nums, List.getElem?_map, List.getElem?_take] at hv
      rw [if_pos (by omega), List.getElem?_eq_getElem (by omega)] at hv
      rw [List.getD_eq_getElem?_getD, List.getElem?_eq_getElem (by omega)]
      simpa using hv) (by
      have h9 : Nat.min n dLen ≤ dLen := Nat.min_le_right n dLen
      have h8 : (nums k xs).toArray.size = xs.length := by simp [nums]
      rw [hn, h8]; exact Nat.le_trans (Nat.add_le_add_left h9 off) hfit) (fun v hv => by
      simp only [nums, List.mem_map] at hv
      obtain ⟨x, _, rfl⟩ := hv
      rfl)
    have h2 := h _ (by
      have h3 := setRow_heap w g (nums k xs).toArray (splice (nums k xs) off (nums k (ys.take dLen))).toArray t _ hk
      rw [hsp] at h3
      exact h3) (grown_setRow w g _)
    rw [← hsp] at h2
    unfold Oper.wp
    simp only [splice, hn] at h2
    simp [execOp, ho, resolve, invoke, builtin, hd, hs, hrun, Result.andThen, hn]
    exact hK _ _ h2
end
end Go.Proofs.Ytdchcggllcgokaa.R

namespace Go.Proofs.Ytdchcggllcgokaa.R
open Go.RowKit Go.Proofs.Ytdchcggllcgokaa.L Go.Proofs.YtdchcggllcgokaaW.PrintWords
set_option linter.unusedVariables false
set_option linter.unusedSimpArgs false

def zeros : List Int := List.replicate 64 0
def blk (xs : List Int) : Value := .agg (nums .u8 xs).toArray
def Blk (W : World) (g : Nat) (xs : List Int) : Prop := xs.length = 64 ∧ Row 50 W g (nums .u8 xs).toArray
theorem zeros_length : zeros.length = 64 := by simp [zeros]
theorem info_blk : (Try.prog.info? 50).map (·.size) = some 64 := by kernel_rfl
theorem under_blk : Try.prog.underlying 50 = some (.array 64 5) := by kernel_rfl
theorem under_u8 : Try.prog.underlying 5 = some (.int .u8) := by kernel_rfl
theorem info_u8s : (Try.prog.info? 5).map (·.size) = some 1 := by kernel_rfl
theorem zero_blk (w : World) : (zeroValue 50).run Try.prog w = .ok (blk zeros) w := by kernel_rfl
theorem agg_u8 (w : World) : (isAgg 5).run Try.prog w = .ok false w := by kernel_rfl
theorem size_u8 (w : World) : (sizeOf 5).run Try.prog w = .ok 1 w := by kernel_rfl
theorem guard_blk : Try.prog.eqGuardType Try.prog.depth 50 = false := by kernel_rfl
theorem info_of {xs : List Int} (h : xs.length = 64) : (Try.prog.info? 50).map (·.size) = some (nums .u8 xs).toArray.size := by
  rw [info_blk]; simp [nums, h]
theorem one_of (xs : List Int) : (nums .u8 xs).toArray.all (·.oneCell') = true := by
  rw [Array.all_eq_true_iff_forall_mem]
  intro v hv
  simp only [nums, List.mem_toArray, List.mem_map] at hv
  obtain ⟨x, _, rfl⟩ := hv
  rfl
theorem Blk.lt {W : World} {g : Nat} {xs : List Int} (h : Blk W g xs) : g < W.heap.size := h.2.lt
theorem Blk.below {W W1 : World} {g : Nat} {xs : List Int} (h : Blk W g xs) (hb : Below W.heap.size W W1) : Blk W1 g xs := ⟨h.1, h.2.below hb⟩
theorem Blk.grown {W W1 : World} {g g' : Nat} {xs : List Int} (h : Blk W g' xs) (hg : W.grownBy W1 (some g)) (hne : g' ≠ g) : Blk W1 g' xs := ⟨h.1, h.2.grown hg hne⟩
theorem Blk.cell {W : World} {g : Nat} {xs : List Int} (h : Blk W g xs) (i : Nat) (hi : i < 64) : W.cell? ⟨g, i, none⟩ = some (.int .u8 (rd xs (i : Int))) := by
  refine h.2.cell ?_
  have hl := h.1
  simp [nums, rd, List.getD_eq_getElem?_getD, List.getElem?_eq_getElem (show i < xs.length by omega)]
theorem Blk.reads {W : World} {g : Nat} {xs : List Int} (h : Blk W g xs) (o n : Nat) (hn : o + n ≤ 64) : ReadsInt W .u8 (some ⟨g, o, none⟩) n ((xs.drop o).take n) := by
  have hl := h.1
  refine ⟨by rw [List.length_take, List.length_drop]; omega, by omega, fun _ => ⟨_, rfl, fun j hj => ?_⟩⟩
  rw [Addr.add_mid, h.cell (o + j) (by omega)]
  have e9 : ((o : Int) + (j : Int)).toNat = o + j := by omega
  simp [rd, List.getD_eq_getElem?_getD, List.getElem?_take, hj, List.getElem?_drop, e9]
theorem Blk.all {W : World} {g : Nat} {xs : List Int} (h : Blk W g xs) : ReadsInt W .u8 (some ⟨g, 0, none⟩) xs.length xs := by
  have h2 := h.reads 0 64 (by omega)
  rw [List.drop_zero, List.take_of_length_le (by have := h.1; omega)] at h2
  rw [h.1]; exact h2
section
variable {ops : Array Oper} {rest : List Oper} {op : Oper} {a : Act} {w : World} {Q : Exit → Act → World → Prop}
theorem blkLoad (hw : Region.wanted op (yielded ops a.tmps) = true) (x : Operand) (ho : op.op = .load 50 x) {g : Nat} {xs : List Int} (hk : Blk w g xs) (hx : a.eval x = .pointer (some ⟨g, 0, none⟩))
    (h : wpList Try.prog ops Q rest (a.put op.dst (blk xs)) w) : wpList Try.prog ops Q (op :: rest) a w :=
  rowLoad hw _ x ho hk.2 hx under_blk rfl (info_of hk.1) h
theorem blkStore (hw : Region.wanted op (yielded ops a.tmps) = true) (x y : Operand) (ho : op.op = .store 50 x y) {g : Nat} {xs ys : List Int} (hk : Blk w g xs) (hx : a.eval x = .pointer (some ⟨g, 0, none⟩)) (hy : a.eval y = blk ys) (hl : ys.length = 64)
    (h : ∀ w1, Blk w1 g ys → w.grownBy w1 (some g) → wpList Try.prog ops Q rest (a.put op.dst undef) w1) : wpList Try.prog ops Q (op :: rest) a w :=
  rowStore hw _ x y ho hk.2 hx hy (info_of hl) (by simp [nums, hl, hk.1]) (one_of ys) fun w1 h1 h2 => h w1 ⟨hl, h1⟩ h2
theorem blkAlloc (hw : Region.wanted op (yielded ops a.tmps) = true) (ho : op.op = .alloc 50)
    (h : ∀ w1, Blk w1 w.heap.size zeros → Below w.heap.size w w1 → w.heap.size < w1.heap.size → wpList Try.prog ops Q rest (a.put op.dst (.pointer (some ⟨w.heap.size, 0, none⟩))) w1) : wpList Try.prog ops Q (op :: rest) a w :=
  rowAlloc hw _ ho _ zero_blk fun w1 h1 h2 h3 => h w1 ⟨zeros_length, h1⟩ h2 h3
theorem blkBox (hw : Region.wanted op (yielded ops a.tmps) = true) (x : Operand) (ho : op.op = .box 50 x) {xs : List Int} (hx : a.eval x = blk xs) (hl : xs.length = 64)
    (h : ∀ w1, Blk w1 w.heap.size xs → Below w.heap.size w w1 → w.heap.size < w1.heap.size → wpList Try.prog ops Q rest (a.put op.dst (.pointer (some ⟨w.heap.size, 0, none⟩))) w1) : wpList Try.prog ops Q (op :: rest) a w :=
  rowBox hw _ x ho hx fun w1 h1 h2 h3 => h w1 ⟨hl, h1⟩ h2 h3
theorem blkBuild (hw : Region.wanted op (yielded ops a.tmps) = true) (ho : op.op = .build 50 #[]) (h : wpList Try.prog ops Q rest (a.put op.dst (blk zeros)) w) : wpList Try.prog ops Q (op :: rest) a w := by
  refine wanted_step hw fun K hK => ?_
  unfold Oper.wp execOp
  have hrun : (Instr.build 50 #[]).run Try.prog w = .ok (blk zeros) w := by kernel_rfl
  simp only [ho, List.map_toArray, List.map_nil, hrun, Array.map_empty, Sem.run_map, Sem.run_bind, Result.andThen_ok, Sem.run_pure]
  exact hK _ _ h
theorem blkCopy (hw : Region.wanted op (yielded ops a.tmps) = true) (d s : Operand) (ho : op.op = .call { callee := .builtin .copy, args := #[d, s], argTypes := #[22, 22] })
    {g : Nat} {xs : List Int} (hk : Blk w g xs) (off dLen dCap : Nat) (hd : a.eval d = .slice (some ⟨g, off, none⟩) dLen dCap) {A : Option Addr} {n c : Nat} {ys : List Int} (hr : ReadsInt w .u8 A n ys) (hs : a.eval s = .slice A n c) (hfit : off + dLen ≤ 64)
    (h : ∀ w1, Blk w1 g (splice xs off (ys.take dLen)) → w.grownBy w1 (some g) → wpList Try.prog ops Q rest (a.put op.dst (goInt (min n dLen : Nat))) w1) : wpList Try.prog ops Q (op :: rest) a w :=
  rowCopy hw d s _ _ ho _ Try.underlying22 info_u8s hk.2 off dLen dCap hd hr hs (by rw [hk.1]; exact hfit) fun w1 h1 h2 => h w1 ⟨by
    rw [length_splice _ _ _ (by rw [List.length_take, hk.1]; omega), hk.1], h1⟩ h2
theorem blkSet (hw : Region.wanted op (yielded ops a.tmps) = true) (x y : Operand) (ho : op.op = .store 5 x y) {g : Nat} {xs : List Int} (hk : Blk w g xs) (o : Nat) (hlt : o < 64) (hx : a.eval x = .pointer (some ⟨g, o, none⟩)) (v : Int) (hy : a.eval y = .int .u8 v)
    (h : ∀ w1, Blk w1 g (xs.set o v) → w.grownBy w1 (some g) → wpList Try.prog ops Q rest (a.put op.dst undef) w1) : wpList Try.prog ops Q (op :: rest) a w :=
  rowSet hw _ x y ho hk.2 o (by simp [nums, hk.1, hlt]) hx _ hy rfl rfl info_u8s fun w1 h1 h2 => h w1 ⟨by rw [List.length_set, hk.1], by
    have e : (nums .u8 xs).toArray.setIfInBounds o (.int .u8 v) = (nums .u8 (xs.set o v)).toArray := by simp [nums, List.map_set]
    rwa [e] at h1⟩ h2
/-- two sectors are compared -/
theorem eq_all : ∀ (xs ys : List Int), xs.length = ys.length → ((List.range xs.length).all fun i => xs.getD i 0 == ys.getD i 0) = decide (xs = ys)
  | [], [], _ => by simp
  | x :: xs, y :: ys, h => by
    have ih := eq_all xs ys (by simpa using h)
    rw [List.length_cons, List.range_succ_eq_map, List.all_cons, List.all_map]
    simp only [List.getD_cons_zero, Function.comp_def, List.getD_cons_succ, ih]
    by_cases h1 : x = y <;> by_cases h2 : xs = ys <;> simp [h1, h2]
  | [], _ :: _, h => by simp at h
  | _ :: _, [], h => by simp at h
theorem run_equalIn_ints {P : Program} (w : World) (d : Nat) (t e : TypeId) (n : Nat) (k : IntKind) (ht : P.underlying t = some (.array n e)) (he : P.underlying e = some (.int k)) (hsz : ∀ w, (sizeOf e).run P w = .ok 1 w)
    (xs ys : List Int) (hx : xs.length = n) (hy : ys.length = n) :
    (Op.equalIn (d + 2) t (.agg (nums k xs).toArray) (.agg (nums k ys).toArray)).run P w = .ok (decide (xs = ys)) w := by
  rw [← eq_all xs ys (hx.trans hy.symm), hx, List.range_eq_range', Op.equalIn]
  simp only [Sem.run_bind, run_underlying ht, Result.andThen_ok, hsz, Std.Legacy.Range.forIn_eq_forIn_range', Std.Legacy.Range.size, Nat.sub_zero, Nat.add_sub_cancel, Nat.div_one]
  have hl : ∀ i ∈ List.range' 0 n 1, i < n := fun i hi => by simpa using (List.mem_range'_1.1 hi).2
  generalize List.range' 0 n 1 = l at hl ⊢
  induction l with
  | nil => simp
  | cons i l ih =>
    have hi : i < n := hl i (by simp)
    have px : (part e (nums k xs).toArray (i * 1)).run P w = .ok (.int k (xs.getD i 0)) w := by
      simp [part, isAgg, run_underlying he, List.getD, nums, List.getElem?_eq_getElem (show i < xs.length by omega)]
    have py : (part e (nums k ys).toArray (i * 1)).run P w = .ok (.int k (ys.getD i 0)) w := by
      simp [part, isAgg, run_underlying he, List.getD, nums, List.getElem?_eq_getElem (show i < ys.length by omega)]
    have pe : (Op.equalIn (d + 1) e (.int k (xs.getD i 0)) (.int k (ys.getD i 0))).run P w = .ok (xs.getD i 0 == ys.getD i 0) w := run_equalIn_int w d e k k _ _ he
    simp only [List.forIn_cons, Sem.run_bind, px, py, pe, Result.andThen_ok, List.all_cons]
    cases hb : (xs.getD i 0 == ys.getD i 0)
    · simp
    · simp only [Bool.not_true, Bool.false_eq_true, if_false, Sem.run_pure, Result.andThen_ok, Bool.true_and]
      exact ih fun j hj => hl j (by simp [hj])
theorem run_eql_blk (w : World) {xs ys : List Int} (hx : xs.length = 64) (hy : ys.length = 64) : (binOp .eql 50 (blk xs) (blk ys)).run Try.prog w = .ok (.bool (decide (xs = ys))) w := by
  unfold blk
  rw [run_eql_struct, run_equalIn_ints w 9998 _ _ 64 .u8 under_blk under_u8 size_u8 xs ys hx hy]
  rfl
theorem run_neq_blk (w : World) {xs ys : List Int} (hx : xs.length = 64) (hy : ys.length = 64) : (binOp .neq 50 (blk xs) (blk ys)).run Try.prog w = .ok (.bool (!decide (xs = ys))) w := by
  unfold blk
  rw [run_neq_struct, run_equalIn_ints w 9998 _ _ 64 .u8 under_blk under_u8 size_u8 xs ys hx hy]
  rfl
theorem blkEql (hw : Region.wanted op (yielded ops a.tmps) = true) (x y : Operand) (t : TypeId) (ho : op.op = .binOp .eql 50 x y t) {xs ys : List Int} (hx : a.eval x = blk xs) (hy : a.eval y = blk ys) (hlx : xs.length = 64) (hly : ys.length = 64) (b : Bool) (hb : decide (xs = ys) = b)
    (h : wpList Try.prog ops Q rest (a.put op.dst (.bool b)) w) : wpList Try.prog ops Q (op :: rest) a w := by
  subst hb
  refine wanted_step hw fun K hK => ?_
  have h1 : (eqGuard .eql 50 x y (blk xs) (blk ys)).run Try.prog w = .ok () w := run_eqGuard_agg w .eql _ x y _ _ guard_blk
  unfold Oper.wp execOp
  simp only [ho, hx, hy, Sem.run_bind, Sem.run_map, h1, run_eql_blk w hlx hly, Result.andThen_ok, Sem.run_pure]
  exact hK _ _ h
theorem blkNeq (hw : Region.wanted op (yielded ops a.tmps) = true) (x y : Operand) (t : TypeId) (ho : op.op = .binOp .neq 50 x y t) {xs ys : List Int} (hx : a.eval x = blk xs) (hy : a.eval y = blk ys) (hlx : xs.length = 64) (hly : ys.length = 64) (b : Bool) (hb : decide (xs = ys) = !b)
    (h : wpList Try.prog ops Q rest (a.put op.dst (.bool b)) w) : wpList Try.prog ops Q (op :: rest) a w := by
  have hb2 : b = !decide (xs = ys) := by rw [hb, Bool.not_not]
  subst hb2
  refine wanted_step hw fun K hK => ?_
  have h1 : (eqGuard .neq 50 x y (blk xs) (blk ys)).run Try.prog w = .ok () w := run_eqGuard_agg w .neq _ x y _ _ guard_blk
  unfold Oper.wp execOp
  simp only [ho, hx, hy, Sem.run_bind, Sem.run_map, h1, run_neq_blk w hlx hly, Result.andThen_ok, Sem.run_pure]
  exact hK _ _ h
end
/-- results -/
theorem ret_blk {fn : Func} {p u : Tmp} (h : fn.results = #[.cell p 50, .tmp u]) (tmps : Array Value) (w : World) {g : Nat} {xs : List Int} (hk : Blk w g xs) (hp : tmps.getD p undef = .pointer (some ⟨g, 0, none⟩)) {v : Value} (hv : tmps.getD u undef = v) :
    (results fn tmps).run Try.prog w = .ok (.tuple #[blk xs, v]) w := by
  subst hv
  exact results_ct h tmps w g _ _ (0, 0) _ hp hk.2 under_blk rfl (info_of hk.1)
theorem ret_blk1 {fn : Func} {p : Tmp} (h : fn.results = #[.cell p 50]) (tmps : Array Value) (w : World) {g : Nat} {xs : List Int} (hk : Blk w g xs) (hp : tmps.getD p undef = .pointer (some ⟨g, 0, none⟩)) :
    (results fn tmps).run Try.prog w = .ok (blk xs) w :=
  results_cell_row h tmps w g _ _ (0, 0) _ hp hk.2 under_blk rfl (info_of hk.1)
end Go.Proofs.Ytdchcggllcgokaa.R

namespace Go.Proofs.Ytdchcggllcgokaa.F
open Go.RowKit Go.Proofs.Ytdchcggllcgokaa.L Go.Proofs.Ytdchcggllcgokaa.R Go.Proofs.YtdchcggllcgokaaW.PrintWords
set_option linter.unusedVariables false
section
variable {P : Program} {ops : Array Oper} {rest : List Oper} {op : Oper} {a : Act} {w : World} {Q : Exit → Act → World → Prop}
theorem rowLoad (ty : TypeId) (x : Operand) (ho : op.op = .load ty x) {g : Nat} {t : TypeId} {cs : Array Value} (hk : Row t w g cs) (hx : a.eval x = .pointer (some ⟨g, 0, none⟩)) {d : TypeDesc} (hu : P.underlying ty = some d) (hd : (match d with | .struct _ | .array _ _ => true | _ => false) = true) (hi : (P.info? ty).map (·.size) = some cs.size) (hw : Region.wanted op (yielded ops a.tmps) = true) (h : wpList P ops Q rest (a.put op.dst (.agg cs)) w) : wpList P ops Q (op :: rest) a w :=
  R.rowLoad hw ty x ho hk hx hu hd hi h
theorem rowStore (ty : TypeId) (x y : Operand) (ho : op.op = .store ty x y) {g : Nat} {t : TypeId} {cs old : Array Value} (hk : Row t w g old) (hx : a.eval x = .pointer (some ⟨g, 0, none⟩)) (hy : a.eval y = .agg cs) (hi : (P.info? ty).map (·.size) = some cs.size) (hs : old.size = cs.size) (h1 : cs.all (·.oneCell') = true) (hw : Region.wanted op (yielded ops a.tmps) = true) (h : ∀ w1, Row t w1 g cs → w.grownBy w1 (some g) → wpList P ops Q rest (a.put op.dst undef) w1) : wpList P ops Q (op :: rest) a w :=
  R.rowStore hw ty x y ho hk hx hy hi hs h1 h
theorem rowAlloc (ty : TypeId) (ho : op.op = .alloc ty) (cs : Array Value) (hz : ∀ w : World, (zeroValue ty).run P w = .ok (.agg cs) w) (hw : Region.wanted op (yielded ops a.tmps) = true) (h : ∀ w1, Row ty w1 w.heap.size cs → Below w.heap.size w w1 → w.heap.size < w1.heap.size → wpList P ops Q rest (a.put op.dst (.pointer (some ⟨w.heap.size, 0, none⟩))) w1) : wpList P ops Q (op :: rest) a w :=
  R.rowAlloc hw ty ho cs hz h
theorem rowBox (ty : TypeId) (x : Operand) (ho : op.op = .box ty x) {cs : Array Value} (hx : a.eval x = .agg cs) (hw : Region.wanted op (yielded ops a.tmps) = true) (h : ∀ w1, Row ty w1 w.heap.size cs → Below w.heap.size w w1 → w.heap.size < w1.heap.size → wpList P ops Q rest (a.put op.dst (.pointer (some ⟨w.heap.size, 0, none⟩))) w1) : wpList P ops Q (op :: rest) a w :=
  R.rowBox hw ty x ho hx h
theorem rowCell (ty : TypeId) (x : Operand) (ho : op.op = .load ty x) {g o : Nat} {v : Value} (hc : w.cell? ⟨g, o, none⟩ = some v) (hx : a.eval x = .pointer (some ⟨g, o, none⟩)) (hag : ∀ w : World, (isAgg ty).run P w = .ok false w) (hw : Region.wanted op (yielded ops a.tmps) = true) (h : wpList P ops Q rest (a.put op.dst v) w) : wpList P ops Q (op :: rest) a w :=
  R.rowCell hw ty x ho hc hx hag h
theorem rowSet (ty : TypeId) (x y : Operand) (ho : op.op = .store ty x y) {g : Nat} {t : TypeId} {cs : Array Value} (hk : Row t w g cs) (o : Nat) (hlt : o < cs.size) (hx : a.eval x = .pointer (some ⟨g, o, none⟩)) (v : Value) (hy : a.eval y = v) (hv : v.cells = #[v]) (h1 : v.oneCell' = true) (hi : (P.info? ty).map (·.size) = some 1) (hw : Region.wanted op (yielded ops a.tmps) = true) (h : ∀ w1, Row t w1 g (cs.setIfInBounds o v) → w.grownBy w1 (some g) → wpList P ops Q rest (a.put op.dst undef) w1) : wpList P ops Q (op :: rest) a w :=
  R.rowSet hw ty x y ho hk o hlt hx v hy hv h1 hi h
theorem rowCopy (d s : Operand) (dT sT : TypeId) (ho : op.op = .call { callee := .builtin .copy, args := #[d, s], argTypes := #[dT, sT] }) (elem : TypeId) (hu : P.underlying dT = some (.slice elem)) (hsz : (P.info? elem).map (·.size) = some 1) {g : Nat} {t : TypeId} {xs : List Int} {k : IntKind} (hk : Row t w g (nums k xs).toArray) (off dLen dCap : Nat) (hd : a.eval d = .slice (some ⟨g, off, none⟩) dLen dCap) {A : Option Addr} {n c : Nat} {ys : List Int} (hr : ReadsInt w k A n ys) (hs : a.eval s = .slice A n c) (hfit : off + dLen ≤ xs.length) (hw : Region.wanted op (yielded ops a.tmps) = true) (h : ∀ w1, Row t w1 g (nums k (splice xs off (ys.take dLen))).toArray → w.grownBy w1 (some g) → wpList P ops Q rest (a.put op.dst (goInt (min n dLen : Nat))) w1) : wpList P ops Q (op :: rest) a w :=
  R.rowCopy hw d s dT sT ho elem hu hsz hk off dLen dCap hd hr hs hfit h
end
section
variable {ops : Array Oper} {rest : List Oper} {op : Oper} {a : Act} {w : World} {Q : Exit → Act → World → Prop}
theorem blkLoad (x : Operand) (ho : op.op = .load 50 x) {g : Nat} {xs : List Int} (hk : Blk w g xs) (hx : a.eval x = .pointer (some ⟨g, 0, none⟩)) (hw : Region.wanted op (yielded ops a.tmps) = true) (h : wpList Try.prog ops Q rest (a.put op.dst (blk xs)) w) : wpList Try.prog ops Q (op :: rest) a w :=
  R.blkLoad hw x ho hk hx h
theorem blkStore (x y : Operand) (ho : op.op = .store 50 x y) {g : Nat} {xs ys : List Int} (hk : Blk w g xs) (hx : a.eval x = .pointer (some ⟨g, 0, none⟩)) (hy : a.eval y = blk ys) (hl : ys.length = 64) (hw : Region.wanted op (yielded ops a.tmps) = true) (h : ∀ w1, Blk w1 g ys → w.grownBy w1 (some g) → wpList Try.prog ops Q rest (a.put op.dst undef) w1) : wpList Try.prog ops Q (op :: rest) a w :=
  R.blkStore hw x y ho hk hx hy hl h
theorem blkAlloc (ho : op.op = .alloc 50) (hw : Region.wanted op (yielded ops a.tmps) = true) (h : ∀ w1, Blk w1 w.heap.size zeros → Below w.heap.size w w1 → w.heap.size < w1.heap.size → wpList Try.prog ops Q rest (a.put op.dst (.pointer (some ⟨w.heap.size, 0, none⟩))) w1) : wpList Try.prog ops Q (op :: rest) a w :=
  R.blkAlloc hw ho h
theorem blkBox (x : Operand) (ho : op.op = .box 50 x) {xs : List Int} (hx : a.eval x = blk xs) (hl : xs.length = 64) (hw : Region.wanted op (yielded ops a.tmps) = true) (h : ∀ w1, Blk w1 w.heap.size xs → Below w.heap.size w w1 → w.heap.size < w1.heap.size → wpList Try.prog ops Q rest (a.put op.dst (.pointer (some ⟨w.heap.size, 0, none⟩))) w1) : wpList Try.prog ops Q (op :: rest) a w :=
  R.blkBox hw x ho hx hl h
theorem blkBuild (ho : op.op = .build 50 #[]) (hw : Region.wanted op (yielded ops a.tmps) = true) (h : wpList Try.prog ops Q rest (a.put op.dst (blk zeros)) w) : wpList Try.prog ops Q (op :: rest) a w :=
  R.blkBuild hw ho h
theorem blkCopy (d s : Operand) (ho : op.op = .call { callee := .builtin .copy, args := #[d, s], argTypes := #[22, 22] }) {g : Nat} {xs : List Int} (hk : Blk w g xs) (off dLen dCap : Nat) (hd : a.eval d = .slice (some ⟨g, off, none⟩) dLen dCap) {A : Option Addr} {n c : Nat} {ys : List Int} (hr : ReadsInt w .u8 A n ys) (hs : a.eval s = .slice A n c) (hfit : off + dLen ≤ 64) (hw : Region.wanted op (yielded ops a.tmps) = true) (h : ∀ w1, Blk w1 g (splice xs off (ys.take dLen)) → w.grownBy w1 (some g) → wpList Try.prog ops Q rest (a.put op.dst (goInt (min n dLen : Nat))) w1) : wpList Try.prog ops Q (op :: rest) a w :=
  R.blkCopy hw d s ho hk off dLen dCap hd hr hs hfit h
theorem blkSet (x y : Operand) (ho : op.op = .store 5 x y) {g : Nat} {xs : List Int} (hk : Blk w g xs) (o : Nat) (hlt : o < 64) (hx : a.eval x = .pointer (some ⟨g, o, none⟩)) (v : Int) (hy : a.eval y = .int .u8 v) (hw : Region.wanted op (yielded ops a.tmps) = true) (h : ∀ w1, Blk w1 g (xs.set o v) → w.grownBy w1 (some g) → wpList Try.prog ops Q rest (a.put op.dst undef) w1) : wpList Try.prog ops Q (op :: rest) a w :=
  R.blkSet hw x y ho hk o hlt hx v hy h
theorem blkEql (x y : Operand) (t : TypeId) (ho : op.op = .binOp .eql 50 x y t) {xs ys : List Int} (hx : a.eval x = blk xs) (hy : a.eval y = blk ys) (hlx : xs.length = 64) (hly : ys.length = 64) (b : Bool) (hb : decide (xs = ys) = b) (hw : Region.wanted op (yielded ops a.tmps) = true) (h : wpList Try.prog ops Q rest (a.put op.dst (.bool b)) w) : wpList Try.prog ops Q (op :: rest) a w :=
  R.blkEql hw x y t ho hx hy hlx hly b hb h
theorem blkNeq (x y : Operand) (t : TypeId) (ho : op.op = .binOp .neq 50 x y t) {xs ys : List Int} (hx : a.eval x = blk xs) (hy : a.eval y = blk ys) (hlx : xs.length = 64) (hly : ys.length = 64) (b : Bool) (hb : decide (xs = ys) = !b) (hw : Region.wanted op (yielded ops a.tmps) = true) (h : wpList Try.prog ops Q rest (a.put op.dst (.bool b)) w) : wpList Try.prog ops Q (op :: rest) a w :=
  R.blkNeq hw x y t ho hx hy hlx hly b hb h
end
end Go.Proofs.Ytdchcggllcgokaa.F

namespace Go.Proofs.Ytdchcggllcgokaa.R
open Go.RowKit Go.Proofs.Ytdchcggllcgokaa.L Go.Proofs.YtdchcggllcgokaaW.PrintWords
set_option linter.unusedVariables false
set_option linter.unusedSimpArgs false

section
variable {P : Program} {ops : Array Oper} {C : World → Prop} {Q : Act → Prop} {a : Act} {op : Oper} {rest : List Oper}
theorem quiet_val (hw : Region.wanted op (yielded ops a.tmps) = true) (v : Value) (hr : ∀ w, C w → (execOp a.eval op).run P w = .ok (.value v) w) (h : wpQuiet P ops C Q rest (a.put op.dst v)) : wpQuiet P ops C Q (op :: rest) a :=
  BigFrame.wpQuiet_want hw fun K hK => ⟨v, fun w hC => by unfold Oper.quietAt; rw [hr w hC]; exact ⟨rfl, rfl⟩, hK _ h⟩
theorem qRowLoad (hw : Region.wanted op (yielded ops a.tmps) = true) (ty : TypeId) (x : Operand) (ho : op.op = .load ty x) {g : Nat} {t : TypeId} {cs : Array Value} (hk : ∀ w, C w → Row t w g cs) (hx : a.eval x = .pointer (some ⟨g, 0, none⟩))
    {d : TypeDesc} (hu : P.underlying ty = some d) (hd : (match d with | .struct _ | .array _ _ => true | _ => false) = true) (hi : (P.info? ty).map (·.size) = some cs.size)
    (h : wpQuiet P ops C Q rest (a.put op.dst (.agg cs))) : wpQuiet P ops C Q (op :: rest) a :=
  quiet_val hw _ (fun w hC => by
    unfold execOp
    simp only [ho, hx, Instr.loadAt, Instr.sureAddr, Sem.run_bind, Sem.run_map, Sem.run_pure, Result.andThen_ok, run_loadVar_row w g t ty cs (0, 0) d (hk w hC) hu hd hi]) h
theorem qRowCell (hw : Region.wanted op (yielded ops a.tmps) = true) (ty : TypeId) (x : Operand) (ho : op.op = .load ty x) {g o : Nat} {t : TypeId} {cs : Array Value} {v : Value} (hk : ∀ w, C w → Row t w g cs) (hv : cs[o]? = some v) (hx : a.eval x = .pointer (some ⟨g, o, none⟩))
    (hag : ∀ w : World, (isAgg ty).run P w = .ok false w) (h : wpQuiet P ops C Q rest (a.put op.dst v)) : wpQuiet P ops C Q (op :: rest) a :=
  quiet_val hw _ (fun w hC => by
    unfold execOp
    simp only [ho, hx, Instr.loadAt, Instr.sureAddr, Sem.run_bind, Sem.run_map, Sem.run_pure, Result.andThen_ok, loadVar, hag, Bool.false_eq_true, if_false, run_load_plain ((hk w hC).cell hv)]) h
end
section
variable {ops : Array Oper} {C : World → Prop} {Q : Act → Prop} {a : Act} {op : Oper} {rest : List Oper}
theorem qBlkLoad (hw : Region.wanted op (yielded ops a.tmps) = true) (x : Operand) (ho : op.op = .load 50 x) {g : Nat} {xs : List Int} (hl : xs.length = 64) (hk : ∀ w, C w → Blk w g xs) (hx : a.eval x = .pointer (some ⟨g, 0, none⟩))
    (h : wpQuiet Try.prog ops C Q rest (a.put op.dst (blk xs))) : wpQuiet Try.prog ops C Q (op :: rest) a :=
  qRowLoad hw _ x ho (fun w hC => (hk w hC).2) hx under_blk rfl (info_of hl) h
theorem qBlkEql (hw : Region.wanted op (yielded ops a.tmps) = true) (x y : Operand) (t : TypeId) (ho : op.op = .binOp .eql 50 x y t) {xs ys : List Int} (hx : a.eval x = blk xs) (hy : a.eval y = blk ys) (hlx : xs.length = 64) (hly : ys.length = 64) (b : Bool) (hb : decide (xs = ys) = b)
    (h : wpQuiet Try.prog ops C Q rest (a.put op.dst (.bool b))) : wpQuiet Try.prog ops C Q (op :: rest) a := by
  subst hb
  refine quiet_val hw _ (fun w hC => ?_) h
  have h1 : (eqGuard .eql 50 x y (blk xs) (blk ys)).run Try.prog w = .ok () w := run_eqGuard_agg w .eql _ x y _ _ guard_blk
  unfold execOp
  simp only [ho, hx, hy, Sem.run_bind, Sem.run_map, h1, run_eql_blk w hlx hly, Result.andThen_ok, Sem.run_pure]
/-- at a call of f -/
theorem qAt {P : Program} (f : FuncId) {xs : Array Operand} {ts : Array TypeId} (ho : op.op = .call { callee := .value (.func f), args := xs, argTypes := ts }) (h : wpQuiet P ops C Q (op :: rest) a) : wpQuiet P ops C Q (op :: rest) a := h
theorem wp_region_cls {P : Program} {id : Nat} {Q : Exit → Act → World → Prop} {a : Act} {w : World} {l : List Oper} (C : World → Prop) (hm : P.follows .mixedOrders = true) (hB : Region.lexB .any l.toArray = true) (hC : C { w with drawn := w.drawn + 1 })
    (h : wpQuiet P l.toArray C (fun a' => ∀ w', C w' → Q .normal a' w') l a) : (Code.region id l.toArray true).wp P Q a w :=
  wp_region_quiet (C := C) hm hB hC (by simpa using h)
/-- the class of later worlds -/
structure Later (W : World) where
  w : World
  b : Below W.heap.size W w
instance (W : World) : Nonempty (Later W) := ⟨⟨W, Below.refl _ _⟩⟩
theorem Later.drew (w : World) : ∃ x : Later w, ({ w with drawn := w.drawn + 1 } : World) = x.w := ⟨⟨_, below_drewN (Below.refl _ _) 1⟩, rfl⟩
theorem Later.ext {W w2 : World} (x : Later W) (hb : Below x.w.heap.size x.w w2) : ∃ y : Later W, w2 = y.w := ⟨⟨w2, below_ext x.b hb⟩, rfl⟩
theorem Row.later {W : World} {T : TypeId} {g : Nat} {cs : Array Value} (h : Row T W g cs) : ∀ w', (∃ x : Later W, w' = x.w) → Row T w' g cs := fun w' ⟨x, e⟩ => by rw [e]; exact h.below x.b
theorem Blk.later {W : World} {g : Nat} {xs : List Int} (h : Blk W g xs) : ∀ w', (∃ x : Later W, w' = x.w) → Blk w' g xs := fun w' ⟨x, e⟩ => by rw [e]; exact h.below x.b
end
end Go.Proofs.Ytdchcggllcgokaa.R

namespace Go.Proofs.Ytdchcggllcgokaa.F
open Go.RowKit Go.Proofs.Ytdchcggllcgokaa.L Go.Proofs.Ytdchcggllcgokaa.R Go.Proofs.YtdchcggllcgokaaW.PrintWords
set_option linter.unusedVariables false
section
variable {P : Program} {ops : Array Oper} {rest : List Oper} {op : Oper} {a : Act} {w : World} {Q : Exit → Act → World → Prop}
theorem run_aggIndex {ty e : TypeId} {cs : Array Value} {k : IntKind} {i n : Nat} (hu : P.underlying ty = some (.array n e)) (hi : i < n) (hag : ∀ w : World, (isAgg e).run P w = .ok false w) (hsz : ∀ w : World, (sizeOf e).run P w = .ok 1 w) {v : Value} (hv : cs[i]? = some v) (w : World) :
    (Instr.index ty (.agg cs) (.int k (i : Int))).run P w = .ok v w := by
  simp [Instr.index, asIntOf, run_underlying hu, hi, hsz, part, hag, hv]
theorem aggIndex (ty : TypeId) (x y : Operand) (ho : op.op = .index ty x y) {cs : Array Value} {i n : Nat} {e : TypeId} {k : IntKind} (hx : a.eval x = .agg cs) (hy : a.eval y = .int k (i : Int)) (hu : P.underlying ty = some (.array n e)) (hi : i < n)
    (hag : ∀ w : World, (isAgg e).run P w = .ok false w) (hsz : ∀ w : World, (sizeOf e).run P w = .ok 1 w) {v : Value} (hv : cs[i]? = some v) (hw : Region.wanted op (yielded ops a.tmps) = true)
    (h : wpList P ops Q rest (a.put op.dst v) w) : wpList P ops Q (op :: rest) a w := by
  refine wanted_step hw fun K hK => ?_
  unfold Oper.wp execOp
  simp only [ho, hx, hy, run_aggIndex hu hi hag hsz hv, Sem.run_bind, Result.andThen_ok, Sem.run_pure]
  exact hK _ _ h
end
end Go.Proofs.Ytdchcggllcgokaa.F
