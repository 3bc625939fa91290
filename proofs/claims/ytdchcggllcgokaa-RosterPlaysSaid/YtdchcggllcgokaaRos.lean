/-
  Rosters by value: three numbers, sixteen states, a cursor, a mark; each operation of a walk one law.
-/
import Derived.Test.YtdchcggllcgokaaFast
import Derived.Test.YtdchcggllcgokaaQuiet
import Derived.Deep.MidRow
import Derived.Test.YtdchcggllcgokaaWEqStruct
namespace Go.Proofs.Ytdchcggllcgokaa.Q
open Go.RowKit Go.Proofs.Ytdchcggllcgokaa.L Go.Proofs.Ytdchcggllcgokaa.R Go.Proofs.YtdchcggllcgokaaW.PrintWords
set_option linter.unusedVariables false
set_option linter.unusedSimpArgs false

structure Ro where
  m : Int
  s : Int
  r : Int
  st : List Int
  cu : Int
  go : Bool
def rosL (x : Ro) : List Value := .int .i64 x.m :: .int .i64 x.s :: .int .i64 x.r :: (nums .u8 x.st ++ [.int .i64 x.cu, .bool x.go])
def ros (x : Ro) : Value := .agg (rosL x).toArray
def geo (m s r : Int) : Value := .agg #[.int .i64 m, .int .i64 s, .int .i64 r]
def sts (l : List Int) : Value := .agg (nums .u8 l).toArray
def Ros (W : World) (g : Nat) (x : Ro) : Prop := x.st.length = 16 ∧ Row 72 W g (rosL x).toArray
def zero16 : List Int := List.replicate 16 0
def ro0 : Ro := ⟨0, 0, 0, zero16, 0, false⟩
theorem zero16_length : zero16.length = 16 := by simp [zero16]
theorem rosL_length {x : Ro} (h : x.st.length = 16) : (rosL x).length = 21 := by simp [rosL, nums, h]
theorem info_ros : (Try.prog.info? 72).map (·.size) = some 21 := by kernel_rfl
theorem info_geo : (Try.prog.info? 68).map (·.size) = some 3 := by kernel_rfl
theorem info_sts : (Try.prog.info? 70).map (·.size) = some 16 := by kernel_rfl
theorem info_int : (Try.prog.info? 3).map (·.size) = some 1 := by kernel_rfl
theorem info_u8 : (Try.prog.info? 5).map (·.size) = some 1 := by kernel_rfl
theorem info_bool : (Try.prog.info? 4).map (·.size) = some 1 := by kernel_rfl
theorem agg_int (w : World) : (isAgg 3).run Try.prog w = .ok false w := by kernel_rfl
theorem agg_bool (w : World) : (isAgg 4).run Try.prog w = .ok false w := by kernel_rfl
theorem zero_ros (w : World) : (zeroValue 72).run Try.prog w = .ok (ros ro0) w := by kernel_rfl
theorem zero_geo (w : World) : (zeroValue 68).run Try.prog w = .ok (.agg #[.int .i64 0, .int .i64 0, .int .i64 0]) w := by kernel_rfl
theorem info_of_ros {x : Ro} (h : x.st.length = 16) : (Try.prog.info? 72).map (·.size) = some (rosL x).toArray.size := by
  rw [info_ros, List.size_toArray, rosL_length h]
theorem ones_ros (x : Ro) : (rosL x).toArray.all (·.oneCell') = true := by
  rw [Array.all_eq_true_iff_forall_mem]
  intro v hv
  simp only [rosL, List.mem_toArray, List.mem_cons, List.mem_append, nums, List.mem_map, List.not_mem_nil, or_false] at hv
  rcases hv with rfl | rfl | rfl | ⟨x, _, rfl⟩ | rfl | rfl <;> rfl
theorem Ros.lt {W : World} {g : Nat} {x : Ro} (h : Ros W g x) : g < W.heap.size := h.2.lt
theorem Ros.below {W W1 : World} {g : Nat} {x : Ro} (h : Ros W g x) (hb : Below W.heap.size W W1) : Ros W1 g x := ⟨h.1, h.2.below hb⟩
theorem Ros.grown {W W1 : World} {g g' : Nat} {x : Ro} (h : Ros W g' x) (hg : W.grownBy W1 (some g)) (hne : g' ≠ g) : Ros W1 g' x := ⟨h.1, h.2.grown hg hne⟩
theorem Ros.later {W : World} {g : Nat} {x : Ro} (h : Ros W g x) : ∀ w', (∃ y : Later W, w' = y.w) → Ros w' g x := fun w' ⟨y, e⟩ => by rw [e]; exact h.below y.b
theorem Ros.cm {W : World} {g : Nat} {x : Ro} (h : Ros W g x) : W.cell? ⟨g, 0, none⟩ = some (.int .i64 x.m) := h.2.cell rfl
theorem Ros.cs {W : World} {g : Nat} {x : Ro} (h : Ros W g x) : W.cell? ⟨g, 1, none⟩ = some (.int .i64 x.s) := h.2.cell rfl
theorem Ros.cr {W : World} {g : Nat} {x : Ro} (h : Ros W g x) : W.cell? ⟨g, 2, none⟩ = some (.int .i64 x.r) := h.2.cell rfl
theorem at_st {x : Ro} (h : x.st.length = 16) (i : Nat) (hi : i < 16) : (rosL x)[3 + i]? = some (.int .u8 (rd x.st (i : Int))) := by
  rw [show 3 + i = i + 1 + 1 + 1 by omega]
  simp only [rosL, List.getElem?_cons_succ]
  rw [List.getElem?_append_left (by simp [nums, h, hi])]
  simp [nums, rd, List.getD_eq_getElem?_getD, List.getElem?_eq_getElem (show i < x.st.length by omega)]
theorem at_cu {x : Ro} (h : x.st.length = 16) : (rosL x)[19]? = some (.int .i64 x.cu) := by
  simp only [rosL, List.getElem?_cons_succ]
  rw [List.getElem?_append_right (by simp [nums, h])]
  simp [nums, h]
theorem at_go {x : Ro} (h : x.st.length = 16) : (rosL x)[20]? = some (.bool x.go) := by
  simp only [rosL, List.getElem?_cons_succ]
  rw [List.getElem?_append_right (by simp [nums, h])]
  simp [nums, h]
theorem Ros.ci {W : World} {g : Nat} {x : Ro} (h : Ros W g x) (i : Nat) (hi : i < 16) : W.cell? ⟨g, 3 + i, none⟩ = some (.int .u8 (rd x.st (i : Int))) := h.2.cell (by simpa using at_st h.1 i hi)
theorem Ros.ccu {W : World} {g : Nat} {x : Ro} (h : Ros W g x) : W.cell? ⟨g, 19, none⟩ = some (.int .i64 x.cu) := h.2.cell (by simpa using at_cu h.1)
theorem Ros.cgo {W : World} {g : Nat} {x : Ro} (h : Ros W g x) : W.cell? ⟨g, 20, none⟩ = some (.bool x.go) := h.2.cell (by simpa using at_go h.1)
theorem Ros.geo {W : World} {g : Nat} {x : Ro} (h : Ros W g x) : W.rangeAt g 0 [.int .i64 x.m, .int .i64 x.s, .int .i64 x.r] := fun j v hv => by
  rw [Nat.zero_add]
  match j, hv with
  | 0, hv => rw [← hv]; exact h.cm
  | 1, hv => rw [← hv]; exact h.cs
  | 2, hv => rw [← hv]; exact h.cr
  | j + 3, hv => simp at hv
theorem Ros.sts {W : World} {g : Nat} {x : Ro} (h : Ros W g x) : W.rangeAt g 3 (nums .u8 x.st) := fun j v hv => by
  have hj : j < 16 := by
    have := (List.getElem?_eq_some_iff.1 hv).1
    rw [nums_length, h.1] at this; exact this
  rw [h.ci j hj]
  simp only [nums, List.getElem?_map, List.getElem?_eq_getElem (show j < x.st.length by rw [h.1]; exact hj), Option.map_some, Option.some.injEq] at hv
  rw [← hv]
  simp [rd, List.getD_eq_getElem?_getD, List.getElem?_eq_getElem (show j < x.st.length by rw [h.1]; exact hj)]
theorem Ros.reads {W : World} {g : Nat} {x : Ro} (h : Ros W g x) (o : Nat) (ho : o ≤ 16) : ReadsInt W .u8 (some ⟨g, 3 + o, none⟩) (16 - o) (x.st.drop o) := by
  have hl := h.1
  refine ⟨by rw [List.length_drop]; omega, by omega, fun _ => ⟨_, rfl, fun j hj => ?_⟩⟩
  rw [Addr.add_mid, Nat.add_assoc, h.ci (o + j) (by omega)]
  have e9 : ((o : Int) + (j : Int)).toNat = o + j := by omega
  simp [rd, List.getD_eq_getElem?_getD, List.getElem?_drop, e9]
theorem set_cu {x : Ro} (h : x.st.length = 16) (v : Int) : ((rosL x).toArray.setIfInBounds 19 (.int .i64 v)) = (rosL { x with cu := v }).toArray := by
  simp only [List.setIfInBounds_toArray, rosL, List.set_cons_succ]
  rw [List.set_append_right _ _ (by simp [nums, h])]
  simp [nums, h]
theorem set_go {x : Ro} (h : x.st.length = 16) (v : Bool) : ((rosL x).toArray.setIfInBounds 20 (.bool v)) = (rosL { x with go := v }).toArray := by
  simp only [List.setIfInBounds_toArray, rosL, List.set_cons_succ]
  rw [List.set_append_right _ _ (by simp [nums, h])]
  simp [nums, h]
theorem set_st {x : Ro} (h : x.st.length = 16) (i : Nat) (hi : i < 16) (v : Int) : ((rosL x).toArray.setIfInBounds (3 + i) (.int .u8 v)) = (rosL { x with st := x.st.set i v }).toArray := by
  rw [show 3 + i = i + 1 + 1 + 1 by omega]
  simp only [List.setIfInBounds_toArray, rosL, List.set_cons_succ]
  rw [List.set_append_left _ _ (by simp [nums, h, hi])]
  simp [nums, List.map_set]
section
variable {ops : Array Oper} {rest : List Oper} {op : Oper} {a : Act} {w : World} {Q : Exit → Act → World → Prop}
theorem rosLoad (x : Operand) (ho : op.op = .load 72 x) {g : Nat} {y : Ro} (hk : Ros w g y) (hx : a.eval x = .pointer (some ⟨g, 0, none⟩)) (hw : Region.wanted op (yielded ops a.tmps) = true)
    (h : wpList Try.prog ops Q rest (a.put op.dst (ros y)) w) : wpList Try.prog ops Q (op :: rest) a w :=
  R.rowLoad hw _ x ho hk.2 hx Try.underlying72 rfl (info_of_ros hk.1) h
theorem rosStore (x y : Operand) (ho : op.op = .store 72 x y) {g : Nat} {o z : Ro} (hk : Ros w g o) (hx : a.eval x = .pointer (some ⟨g, 0, none⟩)) (hy : a.eval y = ros z) (hl : z.st.length = 16) (hw : Region.wanted op (yielded ops a.tmps) = true)
    (h : ∀ w1, Ros w1 g z → w.grownBy w1 (some g) → wpList Try.prog ops Q rest (a.put op.dst undef) w1) : wpList Try.prog ops Q (op :: rest) a w :=
  R.rowStore hw _ x y ho hk.2 hx hy (info_of_ros hl) (by rw [List.size_toArray, List.size_toArray, rosL_length hk.1, rosL_length hl]) (ones_ros z) fun w1 h1 h2 => h w1 ⟨hl, h1⟩ h2
theorem rosAlloc (ho : op.op = .alloc 72) (hw : Region.wanted op (yielded ops a.tmps) = true)
    (h : ∀ w1, Ros w1 w.heap.size ro0 → Below w.heap.size w w1 → w.heap.size < w1.heap.size → wpList Try.prog ops Q rest (a.put op.dst (.pointer (some ⟨w.heap.size, 0, none⟩))) w1) : wpList Try.prog ops Q (op :: rest) a w :=
  R.rowAlloc hw _ ho _ zero_ros fun w1 h1 h2 h3 => h w1 ⟨zero16_length, h1⟩ h2 h3
theorem rosBox (x : Operand) (ho : op.op = .box 72 x) {y : Ro} (hx : a.eval x = ros y) (hl : y.st.length = 16) (hw : Region.wanted op (yielded ops a.tmps) = true)
    (h : ∀ w1, Ros w1 w.heap.size y → Below w.heap.size w w1 → w.heap.size < w1.heap.size → wpList Try.prog ops Q rest (a.put op.dst (.pointer (some ⟨w.heap.size, 0, none⟩))) w1) : wpList Try.prog ops Q (op :: rest) a w :=
  R.rowBox hw _ x ho hx fun w1 h1 h2 h3 => h w1 ⟨hl, h1⟩ h2 h3
theorem geoLoad (x : Operand) (ho : op.op = .load 68 x) {g : Nat} {y : Ro} (hk : Ros w g y) (hx : a.eval x = .pointer (some ⟨g, 0, none⟩)) (hw : Region.wanted op (yielded ops a.tmps) = true)
    (h : wpList Try.prog ops Q rest (a.put op.dst (geo y.m y.s y.r)) w) : wpList Try.prog ops Q (op :: rest) a w := by
  refine wanted_step hw fun K hK => ?_
  unfold Oper.wp execOp
  simp only [ho, hx, Instr.loadAt, Instr.sureAddr, Sem.run_bind, Sem.run_pure, Result.andThen_ok, run_loadVar_mid w g 0 68 _ _ hk.geo Try.underlying68 rfl info_geo]
  exact hK _ _ h
theorem stsLoad (x : Operand) (ho : op.op = .load 70 x) {g : Nat} {y : Ro} (hk : Ros w g y) (hx : a.eval x = .pointer (some ⟨g, 3, none⟩)) (hw : Region.wanted op (yielded ops a.tmps) = true)
    (h : wpList Try.prog ops Q rest (a.put op.dst (sts y.st)) w) : wpList Try.prog ops Q (op :: rest) a w := by
  refine wanted_step hw fun K hK => ?_
  unfold Oper.wp execOp
  simp only [ho, hx, Instr.loadAt, Instr.sureAddr, Sem.run_bind, Sem.run_pure, Result.andThen_ok, run_loadVar_mid w g 3 70 _ _ hk.sts Try.underlying70 rfl (by rw [info_sts, nums_length, hk.1])]
  exact hK _ _ h
theorem rosSetCu (x y : Operand) (ho : op.op = .store 3 x y) {g : Nat} {z : Ro} (hk : Ros w g z) (hx : a.eval x = .pointer (some ⟨g, 19, none⟩)) (v : Int) (hy : a.eval y = .int .i64 v) (hw : Region.wanted op (yielded ops a.tmps) = true)
    (h : ∀ w1, Ros w1 g { z with cu := v } → w.grownBy w1 (some g) → wpList Try.prog ops Q rest (a.put op.dst undef) w1) : wpList Try.prog ops Q (op :: rest) a w :=
  R.rowSet hw _ x y ho hk.2 19 (by rw [List.size_toArray, rosL_length hk.1]; decide) hx _ hy rfl rfl info_int fun w1 h1 h2 => h w1 ⟨hk.1, by rwa [set_cu hk.1] at h1⟩ h2
theorem rosSetGo (x y : Operand) (ho : op.op = .store 4 x y) {g : Nat} {z : Ro} (hk : Ros w g z) (hx : a.eval x = .pointer (some ⟨g, 20, none⟩)) (v : Bool) (hy : a.eval y = .bool v) (hw : Region.wanted op (yielded ops a.tmps) = true)
    (h : ∀ w1, Ros w1 g { z with go := v } → w.grownBy w1 (some g) → wpList Try.prog ops Q rest (a.put op.dst undef) w1) : wpList Try.prog ops Q (op :: rest) a w :=
  R.rowSet hw _ x y ho hk.2 20 (by rw [List.size_toArray, rosL_length hk.1]; decide) hx _ hy rfl rfl info_bool fun w1 h1 h2 => h w1 ⟨hk.1, by rwa [set_go hk.1] at h1⟩ h2
theorem rosSetSt (x y : Operand) (ho : op.op = .store 5 x y) {g : Nat} {z : Ro} (hk : Ros w g z) (i : Nat) (hi : i < 16) (hx : a.eval x = .pointer (some ⟨g, 3 + i, none⟩)) (v : Int) (hy : a.eval y = .int .u8 v) (hw : Region.wanted op (yielded ops a.tmps) = true)
    (h : ∀ w1, Ros w1 g { z with st := z.st.set i v } → w.grownBy w1 (some g) → wpList Try.prog ops Q rest (a.put op.dst undef) w1) : wpList Try.prog ops Q (op :: rest) a w :=
  R.rowSet hw _ x y ho hk.2 (3 + i) (by rw [List.size_toArray, rosL_length hk.1]; omega) hx _ hy rfl rfl info_u8 fun w1 h1 h2 => h w1 ⟨by rw [List.length_set]; exact hk.1, by rwa [set_st hk.1 i hi] at h1⟩ h2
theorem rosBuild0 (ho : op.op = .build 72 #[]) (hw : Region.wanted op (yielded ops a.tmps) = true) (h : wpList Try.prog ops Q rest (a.put op.dst (ros ro0)) w) : wpList Try.prog ops Q (op :: rest) a w := by
  refine wanted_step hw fun K hK => ?_
  unfold Oper.wp execOp
  have hrun : (Instr.build 72 #[]).run Try.prog w = .ok (ros ro0) w := by kernel_rfl
  simp only [ho, List.map_toArray, List.map_nil, hrun, Array.map_empty, Sem.run_map, Sem.run_bind, Result.andThen_ok, Sem.run_pure]
  exact hK _ _ h
theorem rosBuildG (t : Operand) (ho : op.op = .build 72 #[(0, t)]) {m s r : Int} (ht : a.eval t = geo m s r) (hw : Region.wanted op (yielded ops a.tmps) = true) (h : wpList Try.prog ops Q rest (a.put op.dst (ros { ro0 with m := m, s := s, r := r })) w) : wpList Try.prog ops Q (op :: rest) a w := by
  refine wanted_step hw fun K hK => ?_
  unfold Oper.wp execOp
  have hrun : (Instr.build 72 #[(0, geo m s r)]).run Try.prog w = .ok (ros { ro0 with m := m, s := s, r := r }) w := by kernel_rfl
  simp only [ho, List.map_toArray, List.map_cons, List.map_nil, ht, hrun, Sem.run_map, Sem.run_bind, Result.andThen_ok, Sem.run_pure]
  exact hK _ _ h
end
theorem ret_ros {fn : Func} {p u : Tmp} (h : fn.results = #[.cell p 72, .tmp u]) (tmps : Array Value) (w : World) {g : Nat} {x : Ro} (hk : Ros w g x) (hp : tmps.getD p undef = .pointer (some ⟨g, 0, none⟩)) {v : Value} (hv : tmps.getD u undef = v) :
    (results fn tmps).run Try.prog w = .ok (.tuple #[ros x, v]) w := by
  subst hv
  exact results_ct h tmps w g _ _ (0, 0) _ hp hk.2 Try.underlying72 rfl (info_of_ros hk.1)
end Go.Proofs.Ytdchcggllcgokaa.Q
