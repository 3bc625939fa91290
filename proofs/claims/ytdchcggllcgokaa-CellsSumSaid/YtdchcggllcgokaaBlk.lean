/-
  Sectors: blocks of 64 bytes by value; each operation of a walk one law.
-/
import Derived.Test.YtdchcggllcgokaaProg
import Derived.Test.YtdchcggllcgokaaRow
import Derived.Stop.BytesEq
namespace Go.Proofs.Ytdchcggllcgokaa.R
open Go.RowKit Go.Proofs.Ytdchcggllcgokaa.L Go.Proofs.YtdchcggllcgokaaW.PrintWords
set_option linter.unusedVariables false
set_option linter.unusedSimpArgs false

def zeros : List Int := List.replicate 64 0
def blk (xs : List Int) : Value := .agg (nums .u8 xs).toArray
def Blk (W : World) (g : Nat) (xs : List Int) : Prop := xs.length = 64 ∧ Row 50 W g (nums .u8 xs).toArray
theorem zeros_length : zeros.length = 64 := by simp [zeros]
theorem info_blk : (Try.prog.info? 50).map (·.size) = some 64 := by kernel_rfl
theorem under_blk : Try.prog.underlying 50 = some (.array 64 5) := by kernel_rfl
theorem under_u8 : Try.prog.underlying 5 = some (.int .u8) := by kernel_rfl
theorem info_u8s : (Try.prog.info? 5).map (·.size) = some 1 := by kernel_rfl
theorem zero_blk (w : World) : (zeroValue 50).run Try.prog w = .ok (blk zeros) w := by kernel_rfl
theorem agg_u8 (w : World) : (isAgg 5).run Try.prog w = .ok false w := by kernel_rfl
theorem size_u8 (w : World) : (sizeOf 5).run Try.prog w = .ok 1 w := by kernel_rfl
theorem guard_blk : Try.prog.eqGuardType Try.prog.depth 50 = false := by kernel_rfl
theorem info_of {xs : List Int} (h : xs.length = 64) : (Try.prog.info? 50).map (·.size) = some (nums .u8 xs).toArray.size := by
  rw [info_blk]; simp [nums, h]
theorem one_of (xs : List Int) : (nums .u8 xs).toArray.all (·.oneCell') = true := by
  rw [Array.all_eq_true_iff_forall_mem]
  intro v hv
  simp only [nums, List.mem_toArray, List.mem_map] at hv
  obtain ⟨x, _, rfl⟩ := hv
  rfl
theorem Blk.lt {W : World} {g : Nat} {xs : List Int} (h : Blk W g xs) : g < W.heap.size := h.2.lt
theorem Blk.below {W W1 : World} {g : Nat} {xs : List Int} (h : Blk W g xs) (hb : Below W.heap.size W W1) : Blk W1 g xs := ⟨h.1, h.2.below hb⟩
theorem Blk.grown {W W1 : World} {g g' : Nat} {xs : List Int} (h : Blk W g' xs) (hg : W.grownBy W1 (some g)) (hne : g' ≠ g) : Blk W1 g' xs := ⟨h.1, h.2.grown hg hne⟩
theorem Blk.cell {W : World} {g : Nat} {xs : List Int} (h : Blk W g xs) (i : Nat) (hi : i < 64) : W.cell? ⟨g, i, none⟩ = some (.int .u8 (rd xs (i : Int))) := by
  refine h.2.cell ?_
  have hl := h.1
  simp [nums, rd, List.getD_eq_getElem?_getD, List.getElem?_eq_getElem (show i < xs.length by omega)]
theorem Blk.reads {W : World} {g : Nat} {xs : List Int} (h : Blk W g xs) (o n : Nat) (hn : o + n ≤ 64) : ReadsInt W .u8 (some ⟨g, o, none⟩) n ((xs.drop o).take n) := by
  have hl := h.1
  refine ⟨by rw [List.length_take, List.length_drop]; omega, by omega, fun _ => ⟨_, rfl, fun j hj => ?_⟩⟩
  rw [Addr.add_mid, h.cell (o + j) (by omega)]
  have e9 : ((o : Int) + (j : Int)).toNat = o + j := by omega
  simp [rd, List.getD_eq_getElem?_getD, List.getElem?_take, hj, List.getElem?_drop, e9]
theorem Blk.all {W : World} {g : Nat} {xs : List Int} (h : Blk W g xs) : ReadsInt W .u8 (some ⟨g, 0, none⟩) xs.length xs := by
  have h2 := h.reads 0 64 (by omega)
  rw [List.drop_zero, List.take_of_length_le (by have := h.1; omega)] at h2
  rw [h.1]; exact h2
section
variable {ops : Array Oper} {rest : List Oper} {op : Oper} {a : Act} {w : World} {Q : Exit → Act → World → Prop}
theorem blkLoad (hw : Region.wanted op (yielded ops a.tmps) = true) (x : Operand) (ho : op.op = .load 50 x) {g : Nat} {xs : List Int} (hk : Blk w g xs) (hx : a.eval x = .pointer (some ⟨g, 0, none⟩))
    (h : wpList Try.prog ops Q rest (a.put op.dst (blk xs)) w) : wpList Try.prog ops Q (op :: rest) a w :=
  rowLoad hw _ x ho hk.2 hx under_blk rfl (info_of hk.1) h
theorem blkStore (hw : Region.wanted op (yielded ops a.tmps) = true) (x y : Operand) (ho : op.op = .store 50 x y) {g : Nat} {xs ys : List Int} (hk : Blk w g xs) (hx : a.eval x = .pointer (some ⟨g, 0, none⟩)) (hy : a.eval y = blk ys) (hl : ys.length = 64)
    (h : ∀ w1, Blk w1 g ys → w.grownBy w1 (some g) → wpList Try.prog ops Q rest (a.put op.dst undef) w1) : wpList Try.prog ops Q (op :: rest) a w :=
  rowStore hw _ x y ho hk.2 hx hy (info_of hl) (by simp [nums, hl, hk.1]) (one_of ys) fun w1 h1 h2 => h w1 ⟨hl, h1⟩ h2
theorem blkAlloc (hw : Region.wanted op (yielded ops a.tmps) = true) (ho : op.op = .alloc 50)
    (h : ∀ w1, Blk w1 w.heap.size zeros → Below w.heap.size w w1 → w.heap.size < w1.heap.size → wpList Try.prog ops Q rest (a.put op.dst (.pointer (some ⟨w.heap.size, 0, none⟩))) w1) : wpList Try.prog ops Q (op :: rest) a w :=
  rowAlloc hw _ ho _ zero_blk fun w1 h1 h2 h3 => h w1 ⟨zeros_length, h1⟩ h2 h3
theorem blkBox (hw : Region.wanted op (yielded ops a.tmps) = true) (x : Operand) (ho : op.op = .box 50 x) {xs : List Int} (hx : a.eval x = blk xs) (hl : xs.length = 64)
    (h : ∀ w1, Blk w1 w.heap.size xs → Below w.heap.size w w1 → w.heap.size < w1.heap.size → wpList Try.prog ops Q rest (a.put op.dst (.pointer (some ⟨w.heap.size, 0, none⟩))) w1) : wpList Try.prog ops Q (op :: rest) a w :=
  rowBox hw _ x ho hx fun w1 h1 h2 h3 => h w1 ⟨hl, h1⟩ h2 h3
theorem blkBuild (hw : Region.wanted op (yielded ops a.tmps) = true) (ho : op.op = .build 50 #[]) (h : wpList Try.prog ops Q rest (a.put op.dst (blk zeros)) w) : wpList Try.prog ops Q (op :: rest) a w := by
  refine wanted_step hw fun K hK => ?_
  unfold Oper.wp execOp
  have hrun : (Instr.build 50 #[]).run Try.prog w = .ok (blk zeros) w := by kernel_rfl
  simp only [ho, List.map_toArray, List.map_nil, hrun, Array.map_empty, Sem.run_map, Sem.run_bind, Result.andThen_ok, Sem.run_pure]
  exact hK _ _ h
theorem blkCopy (hw : Region.wanted op (yielded ops a.tmps) = true) (d s : Operand) (ho : op.op = .call { callee := .builtin .copy, args := #[d, s], argTypes := #[22, 22] })
    {g : Nat} {xs : List Int} (hk : Blk w g xs) (off dLen dCap : Nat) (hd : a.eval d = .slice (some ⟨g, off, none⟩) dLen dCap) {A : Option Addr} {n c : Nat} {ys : List Int} (hr : ReadsInt w .u8 A n ys) (hs : a.eval s = .slice A n c) (hfit : off + dLen ≤ 64)
    (h : ∀ w1, Blk w1 g (splice xs off (ys.take dLen)) → w.grownBy w1 (some g) → wpList Try.prog ops Q rest (a.put op.dst (goInt (min n dLen : Nat))) w1) : wpList Try.prog ops Q (op :: rest) a w :=
  rowCopy hw d s _ _ ho _ Try.underlying22 info_u8s hk.2 off dLen dCap hd hr hs (by rw [hk.1]; exact hfit) fun w1 h1 h2 => h w1 ⟨by
    rw [length_splice _ _ _ (by rw [List.length_take, hk.1]; omega), hk.1], h1⟩ h2
theorem blkSet (hw : Region.wanted op (yielded ops a.tmps) = true) (x y : Operand) (ho : op.op = .store 5 x y) {g : Nat} {xs : List Int} (hk : Blk w g xs) (o : Nat) (hlt : o < 64) (hx : a.eval x = .pointer (some ⟨g, o, none⟩)) (v : Int) (hy : a.eval y = .int .u8 v)
    (h : ∀ w1, Blk w1 g (xs.set o v) → w.grownBy w1 (some g) → wpList Try.prog ops Q rest (a.put op.dst undef) w1) : wpList Try.prog ops Q (op :: rest) a w :=
  rowSet hw _ x y ho hk.2 o (by simp [nums, hk.1, hlt]) hx _ hy rfl rfl info_u8s fun w1 h1 h2 => h w1 ⟨by rw [List.length_set, hk.1], by
    have e : (nums .u8 xs).toArray.setIfInBounds o (.int .u8 v) = (nums .u8 (xs.set o v)).toArray := by simp [nums, List.map_set]
    rwa [e] at h1⟩ h2
/-- two sectors are compared -/
theorem eq_all : ∀ (xs ys : List Int), xs.length = ys.length → ((List.range xs.length).all fun i => xs.getD i 0 == ys.getD i 0) = decide (xs = ys)
  | [], [], _ => by simp
  | x :: xs, y :: ys, h => by
    have ih := eq_all xs ys (by simpa using h)
    rw [List.length_cons, List.range_succ_eq_map, List.all_cons, List.all_map]
    simp only [List.getD_cons_zero, Function.comp_def, List.getD_cons_succ, ih]
    by_cases h1 : x = y <;> by_cases h2 : xs = ys <;> simp [h1, h2]
  | [], _ :: _, h => by simp at h
  | _ :: _, [], h => by simp at h
theorem run_equalIn_ints {P : Program} (w : World) (d : Nat) (t e : TypeId) (n : Nat) (k : IntKind) (ht : P.underlying t = some (.array n e)) (he : P.underlying e = some (.int k)) (hsz : ∀ w, (sizeOf e).run P w = .ok 1 w)
    (xs ys : List Int) (hx : xs.length = n) (hy : ys.length = n) :
    (Op.equalIn (d + 2) t (.agg (nums k xs).toArray) (.agg (nums k ys).toArray)).run P w = .ok (decide (xs = ys)) w := by
  rw [← eq_all xs ys (hx.trans hy.symm), hx, List.range_eq_range', Op.equalIn]
  simp only [Sem.run_bind, run_underlying ht, Result.andThen_ok, hsz, Std.Legacy.Range.forIn_eq_forIn_range', Std.Legacy.Range.size, Nat.sub_zero, Nat.add_sub_cancel, Nat.div_one]
  have hl : ∀ i ∈ List.range' 0 n 1, i < n := fun i hi => by simpa using (List.mem_range'_1.1 hi).2
  generalize List.range' 0 n 1 = l at hl ⊢
  induction l with
  | nil => simp
  | cons i l ih =>
    have hi : i < n := hl i (by simp)
    have px : (part e (nums k xs).toArray (i * 1)).run P w = .ok (.int k (xs.getD i 0)) w := by
      simp [part, isAgg, run_underlying he, List.getD, nums, List.getElem?_eq_getElem (show i < xs.length by omega)]
    have py : (part e (nums k ys).toArray (i * 1)).run P w = .ok (.int k (ys.getD i 0)) w := by
      simp [part, isAgg, run_underlying he, List.getD, nums, List.getElem?_eq_getElem (show i < ys.length by omega)]
    have pe : (Op.equalIn (d + 1) e (.int k (xs.getD i 0)) (.int k (ys.getD i 0))).run P w = .ok (xs.getD i 0 == ys.getD i 0) w := run_equalIn_int w d e k k _ _ he
    simp only [List.forIn_cons, Sem.run_bind, px, py, pe, Result.andThen_ok, List.all_cons]
    cases hb : (xs.getD i 0 == ys.getD i 0)
    · simp
    · simp only [Bool.not_true, Bool.false_eq_true, if_false, Sem.run_pure, Result.andThen_ok, Bool.true_and]
      exact ih fun j hj => hl j (by simp [hj])
theorem run_eql_blk (w : World) {xs ys : List Int} (hx : xs.length = 64) (hy : ys.length = 64) : (binOp .eql 50 (blk xs) (blk ys)).run Try.prog w = .ok (.bool (decide (xs = ys))) w := by
  unfold blk
  rw [run_eql_struct, run_equalIn_ints w 9998 _ _ 64 .u8 under_blk under_u8 size_u8 xs ys hx hy]
  rfl
theorem run_neq_blk (w : World) {xs ys : List Int} (hx : xs.length = 64) (hy : ys.length = 64) : (binOp .neq 50 (blk xs) (blk ys)).run Try.prog w = .ok (.bool (!decide (xs = ys))) w := by
  unfold blk
  rw [run_neq_struct, run_equalIn_ints w 9998 _ _ 64 .u8 under_blk under_u8 size_u8 xs ys hx hy]
  rfl
theorem blkEql (hw : Region.wanted op (yielded ops a.tmps) = true) (x y : Operand) (t : TypeId) (ho : op.op = .binOp .eql 50 x y t) {xs ys : List Int} (hx : a.eval x = blk xs) (hy : a.eval y = blk ys) (hlx : xs.length = 64) (hly : ys.length = 64) (b : Bool) (hb : decide (xs = ys) = b)
    (h : wpList Try.prog ops Q rest (a.put op.dst (.bool b)) w) : wpList Try.prog ops Q (op :: rest) a w := by
  subst hb
  refine wanted_step hw fun K hK => ?_
  have h1 : (eqGuard .eql 50 x y (blk xs) (blk ys)).run Try.prog w = .ok () w := run_eqGuard_agg w .eql _ x y _ _ guard_blk
  unfold Oper.wp execOp
  simp only [ho, hx, hy, Sem.run_bind, Sem.run_map, h1, run_eql_blk w hlx hly, Result.andThen_ok, Sem.run_pure]
  exact hK _ _ h
theorem blkNeq (hw : Region.wanted op (yielded ops a.tmps) = true) (x y : Operand) (t : TypeId) (ho : op.op = .binOp .neq 50 x y t) {xs ys : List Int} (hx : a.eval x = blk xs) (hy : a.eval y = blk ys) (hlx : xs.length = 64) (hly : ys.length = 64) (b : Bool) (hb : decide (xs = ys) = !b)
    (h : wpList Try.prog ops Q rest (a.put op.dst (.bool b)) w) : wpList Try.prog ops Q (op :: rest) a w := by
  have hb2 : b = !decide (xs = ys) := by rw [hb, Bool.not_not]
  subst hb2
  refine wanted_step hw fun K hK => ?_
  have h1 : (eqGuard .neq 50 x y (blk xs) (blk ys)).run Try.prog w = .ok () w := run_eqGuard_agg w .neq _ x y _ _ guard_blk
  unfold Oper.wp execOp
  simp only [ho, hx, hy, Sem.run_bind, Sem.run_map, h1, run_neq_blk w hlx hly, Result.andThen_ok, Sem.run_pure]
  exact hK _ _ h
end
/-- results -/
theorem ret_blk {fn : Func} {p u : Tmp} (h : fn.results = #[.cell p 50, .tmp u]) (tmps : Array Value) (w : World) {g : Nat} {xs : List Int} (hk : Blk w g xs) (hp : tmps.getD p undef = .pointer (some ⟨g, 0, none⟩)) {v : Value} (hv : tmps.getD u undef = v) :
    (results fn tmps).run Try.prog w = .ok (.tuple #[blk xs, v]) w := by
  subst hv
  exact results_ct h tmps w g _ _ (0, 0) _ hp hk.2 under_blk rfl (info_of hk.1)
theorem ret_blk1 {fn : Func} {p : Tmp} (h : fn.results = #[.cell p 50]) (tmps : Array Value) (w : World) {g : Nat} {xs : List Int} (hk : Blk w g xs) (hp : tmps.getD p undef = .pointer (some ⟨g, 0, none⟩)) :
    (results fn tmps).run Try.prog w = .ok (blk xs) w :=
  results_cell_row h tmps w g _ _ (0, 0) _ hp hk.2 under_blk rfl (info_of hk.1)
end Go.Proofs.Ytdchcggllcgokaa.R
