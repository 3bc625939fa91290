/-
  Rosters by value: three numbers, sixteen states, a cursor, a mark; each operation of a walk one law. geom.within, geom.May, ashlarref04.May, roster.count: the walks. roster.May: the walks. roster.May whole; ashlarref08.Fine: the walks. Rosters: what superblocks need of them (compared; new; may be).
-/
import Derived.Test.YtdchcggllcgokaaSpD
import Derived.Deep.MidRow
import Derived.Test.YtdchcggllcgokaaWEqStruct
namespace Go.Proofs.Ytdchcggllcgokaa.Q
open Go.RowKit Go.Proofs.Ytdchcggllcgokaa.L Go.Proofs.Ytdchcggllcgokaa.R Go.Proofs.YtdchcggllcgokaaW.PrintWords
set_option linter.unusedVariables false
set_option linter.unusedSimpArgs false

structure Ro where
  m : Int
  s : Int
  r : Int
  st : List Int
  cu : Int
  go : Bool
def rosL (x : Ro) : List Value := .int .i64 x.m :: .int .i64 x.s :: .int .i64 x.r :: (nums .u8 x.st ++ [.int .i64 x.cu, .bool x.go])
def ros (x : Ro) : Value := .agg (rosL x).toArray
def geo (m s r : Int) : Value := .agg #[.int .i64 m, .int .i64 s, .int .i64 r]
def sts (l : List Int) : Value := .agg (nums .u8 l).toArray
def Ros (W : World) (g : Nat) (x : Ro) : Prop := x.st.length = 16 ∧ Row 72 W g (rosL x).toArray
def zero16 : List Int := List.replicate 16 0
def ro0 : Ro := ⟨0, 0, 0, zero16, 0, false⟩
theorem zero16_length : zero16.length = 16 := by simp [zero16]
theorem rosL_length {x : Ro} (h : x.st.length = 16) : (rosL x).length = 21 := by simp [rosL, nums, h]
theorem info_ros : (Try.prog.info? 72).map (·.size) = some 21 := by kernel_rfl
theorem info_geo : (Try.prog.info? 68).map (·.size) = some 3 := by kernel_rfl
theorem info_sts : (Try.prog.info? 70).map (·.size) = some 16 := by kernel_rfl
theorem info_int : (Try.prog.info? 3).map (·.size) = some 1 := by kernel_rfl
theorem info_u8 : (Try.prog.info? 5).map (·.size) = some 1 := by kernel_rfl
theorem info_bool : (Try.prog.info? 4).map (·.size) = some 1 := by kernel_rfl
theorem agg_int (w : World) : (isAgg 3).run Try.prog w = .ok false w := by kernel_rfl
theorem agg_bool (w : World) : (isAgg 4).run Try.prog w = .ok false w := by kernel_rfl
theorem zero_ros (w : World) : (zeroValue 72).run Try.prog w = .ok (ros ro0) w := by kernel_rfl
theorem zero_geo (w : World) : (zeroValue 68).run Try.prog w = .ok (.agg #[.int .i64 0, .int .i64 0, .int .i64 0]) w := by kernel_rfl
theorem info_of_ros {x : Ro} (h : x.st.length = 16) : (Try.prog.info? 72).map (·.size) = some (rosL x).toArray.size := by
  rw [info_ros, List.size_toArray, rosL_length h]
theorem ones_ros (x : Ro) : (rosL x).toArray.all (·.oneCell') = true := by
  rw [Array.all_eq_true_iff_forall_mem]
  intro v hv
  simp only [rosL, List.mem_toArray, List.mem_cons, List.mem_append, nums, List.mem_map, List.not_mem_nil, or_false] at hv
  rcases hv with rfl | rfl | rfl | ⟨x, _, rfl⟩ | rfl | rfl <;> rfl
theorem Ros.lt {W : World} {g : Nat} {x : Ro} (h : Ros W g x) : g < W.heap.size := h.2.lt
theorem Ros.below {W W1 : World} {g : Nat} {x : Ro} (h : Ros W g x) (hb : Below W.heap.size W W1) : Ros W1 g x := ⟨h.1, h.2.below hb⟩
theorem Ros.grown {W W1 : World} {g g' : Nat} {x : Ro} (h : Ros W g' x) (hg : W.grownBy W1 (some g)) (hne : g' ≠ g) : Ros W1 g' x := ⟨h.1, h.2.grown hg hne⟩
theorem Ros.later {W : World} {g : Nat} {x : Ro} (h : Ros W g x) : ∀ w', (∃ y : Later W, w' = y.w) → Ros w' g x := fun w' ⟨y, e⟩ => by rw [e]; exact h.below y.b
theorem Ros.cm {W : World} {g : Nat} {x : Ro} (h : Ros W g x) : W.cell? ⟨g, 0, none⟩ = some (.int .i64 x.m) := h.2.cell rfl
theorem Ros.cs {W : World} {g : Nat} {x : Ro} (h : Ros W g x) : W.cell? ⟨g, 1, none⟩ = some (.int .i64 x.s) := h.2.cell rfl
theorem Ros.cr {W : World} {g : Nat} {x : Ro} (h : Ros W g x) : W.cell? ⟨g, 2, none⟩ = some (.int .i64 x.r) := h.2.cell rfl
theorem at_st {x : Ro} (h : x.st.length = 16) (i : Nat) (hi : i < 16) : (rosL x)[3 + i]? = some (.int .u8 (rd x.st (i : Int))) := by
  rw [show 3 + i = i + 1 + 1 + 1 by omega]
  simp only [rosL, List.getElem?_cons_succ]
  rw [List.getElem?_append_left (by simp [nums, h, hi])]
  simp [nums, rd, List.getD_eq_getElem?_getD, List.getElem?_eq_getElem (show i < x.st.length by omega)]
theorem at_cu {x : Ro} (h : x.st.length = 16) : (rosL x)[19]? = some (.int .i64 x.cu) := by
  simp only [rosL, List.getElem?_cons_succ]
  rw [List.getElem?_append_right (by simp [nums, h])]
  simp [nums, h]
theorem at_go {x : Ro} (h : x.st.length = 16) : (rosL x)[20]? = some (.bool x.go) := by
  simp only [rosL, List.getElem?_cons_succ]
  rw [List.getElem?_append_right (by simp [nums, h])]
  simp [nums, h]
theorem Ros.ci {W : World} {g : Nat} {x : Ro} (h : Ros W g x) (i : Nat) (hi : i < 16) : W.cell? ⟨g, 3 + i, none⟩ = some (.int .u8 (rd x.st (i : Int))) := h.2.cell (by simpa using at_st h.1 i hi)
theorem Ros.ccu {W : World} {g : Nat} {x : Ro} (h : Ros W g x) : W.cell? ⟨g, 19, none⟩ = some (.int .i64 x.cu) := h.2.cell (by simpa using at_cu h.1)
theorem Ros.cgo {W : World} {g : Nat} {x : Ro} (h : Ros W g x) : W.cell? ⟨g, 20, none⟩ = some (.bool x.go) := h.2.cell (by simpa using at_go h.1)
theorem Ros.geo {W : World} {g : Nat} {x : Ro} (h : Ros W g x) : W.rangeAt g 0 [.int .i64 x.m, .int .i64 x.s, .int .i64 x.r] := fun j v hv => by
  rw [Nat.zero_add]
  match j, hv with
  | 0, hv => rw [← hv]; exact h.cm
  | 1, hv => rw [← hv]; exact h.cs
  | 2, hv => rw [← hv]; exact h.cr
  | j + 3, hv => simp at hv
theorem Ros.sts {W : World} {g : Nat} {x : Ro} (h : Ros W g x) : W.rangeAt g 3 (nums .u8 x.st) := fun j v hv => by
  have hj : j < 16 := by
    have := (List.getElem?_eq_some_iff.1 hv).1
    rw [nums_length, h.1] at this; exact this
  rw [h.ci j hj]
  simp only [nums, List.getElem?_map, List.getElem?_eq_getElem (show j < x.st.length by rw [h.1]; exact hj), Option.map_some, Option.some.injEq] at hv
  rw [← hv]
  simp [rd, List.getD_eq_getElem?_getD, List.getElem?_eq_getElem (show j < x.st.length by rw [h.1]; exact hj)]
theorem Ros.reads {W : World} {g : Nat} {x : Ro} (h : Ros W g x) (o : Nat) (ho : o ≤ 16) : ReadsInt W .u8 (some ⟨g, 3 + o, none⟩) (16 - o) (x.st.drop o) := by
  have hl := h.1
  refine ⟨by rw [List.length_drop]; omega, by omega, fun _ => ⟨_, rfl, fun j hj => ?_⟩⟩
  rw [Addr.add_mid, Nat.add_assoc, h.ci (o + j) (by omega)]
  have e9 : ((o : Int) + (j : Int)).toNat = o + j := by omega
  simp [rd, List.getD_eq_getElem?_getD, List.getElem?_drop, e9]
theorem set_cu {x : Ro} (h : x.st.length = 16) (v : Int) : ((rosL x).toArray.setIfInBounds 19 (.int .i64 v)) = (rosL { x with cu := v }).toArray := by
  simp only [List.setIfInBounds_toArray, rosL, List.set_cons_succ]
  rw [List.set_append_right _ _ (by simp [nums, h])]
  simp [nums, h]
theorem set_go {x : Ro} (h : x.st.length = 16) (v : Bool) : ((rosL x).toArray.setIfInBounds 20 (.bool v)) = (rosL { x with go := v }).toArray := by
  simp only [List.setIfInBounds_toArray, rosL, List.set_cons_succ]
  rw [List.set_append_right _ _ (by simp [nums, h])]
  simp [nums, h]
theorem set_st {x : Ro} (h : x.st.length = 16) (i : Nat) (hi : i < 16) (v : Int) : ((rosL x).toArray.setIfInBounds (3 + i) (.int .u8 v)) = (rosL { x with st := x.st.set i v }).toArray := by
  rw [show 3 + i = i + 1 + 1 + 1 by omega]
  simp only [List.setIfInBounds_toArray, rosL, List.set_cons_succ]
  rw [List.set_append_left _ _ (by simp [nums, h, hi])]
  simp [nums, List.map_set]
section
variable {ops : Array Oper} {rest : List Oper} {op : Oper} {a : Act} {w : World} {Q : Exit → Act → World → Prop}
theorem rosLoad (x : Operand) (ho : op.op = .load 72 x) {g : Nat} {y : Ro} (hk : Ros w g y) (hx : a.eval x = .pointer (some ⟨g, 0, none⟩)) (hw : Region.wanted op (yielded ops a.tmps) = true)
    (h : wpList Try.prog ops Q rest (a.put op.dst (ros y)) w) : wpList Try.prog ops Q (op :: rest) a w :=
  R.rowLoad hw _ x ho hk.2 hx Try.underlying72 rfl (info_of_ros hk.1) h
theorem rosStore (x y : Operand) (ho : op.op = .store 72 x y) {g : Nat} {o z : Ro} (hk : Ros w g o) (hx : a.eval x = .pointer (some ⟨g, 0, none⟩)) (hy : a.eval y = ros z) (hl : z.st.length = 16) (hw : Region.wanted op (yielded ops a.tmps) = true)
    (h : ∀ w1, Ros w1 g z → w.grownBy w1 (some g) → wpList Try.prog ops Q rest (a.put op.dst undef) w1) : wpList Try.prog ops Q (op :: rest) a w :=
  R.rowStore hw _ x y ho hk.2 hx hy (info_of_ros hl) (by rw [List.size_toArray, List.size_toArray, rosL_length hk.1, rosL_length hl]) (ones_ros z) fun w1 h1 h2 => h w1 ⟨hl, h1⟩ h2
theorem rosAlloc (ho : op.op = .alloc 72) (hw : Region.wanted op (yielded ops a.tmps) = true)
    (h : ∀ w1, Ros w1 w.heap.size ro0 → Below w.heap.size w w1 → w.heap.size < w1.heap.size → wpList Try.prog ops Q rest (a.put op.dst (.pointer (some ⟨w.heap.size, 0, none⟩))) w1) : wpList Try.prog ops Q (op :: rest) a w :=
  R.rowAlloc hw _ ho _ zero_ros fun w1 h1 h2 h3 => h w1 ⟨zero16_length, h1⟩ h2 h3
theorem rosBox (x : Operand) (ho : op.op = .box 72 x) {y : Ro} (hx : a.eval x = ros y) (hl : y.st.length = 16) (hw : Region.wanted op (yielded ops a.tmps) = true)
    (h : ∀ w1, Ros w1 w.heap.size y → Below w.heap.size w w1 → w.heap.size < w1.heap.size → wpList Try.prog ops Q rest (a.put op.dst (.pointer (some ⟨w.heap.size, 0, none⟩))) w1) : wpList Try.prog ops Q (op :: rest) a w :=
  R.rowBox hw _ x ho hx fun w1 h1 h2 h3 => h w1 ⟨hl, h1⟩ h2 h3
theorem geoLoad (x : Operand) (ho : op.op = .load 68 x) {g : Nat} {y : Ro} (hk : Ros w g y) (hx : a.eval x = .pointer (some ⟨g, 0, none⟩)) (hw : Region.wanted op (yielded ops a.tmps) = true)
    (h : wpList Try.prog ops Q rest (a.put op.dst (geo y.m y.s y.r)) w) : wpList Try.prog ops Q (op :: rest) a w := by
  refine wanted_step hw fun K hK => ?_
  unfold Oper.wp execOp
  simp only [ho, hx, Instr.loadAt, Instr.sureAddr, Sem.run_bind, Sem.run_pure, Result.andThen_ok, run_loadVar_mid w g 0 68 _ _ hk.geo Try.underlying68 rfl info_geo]
  exact hK _ _ h
theorem stsLoad (x : Operand) (ho : op.op = .load 70 x) {g : Nat} {y : Ro} (hk : Ros w g y) (hx : a.eval x = .pointer (some ⟨g, 3, none⟩)) (hw : Region.wanted op (yielded ops a.tmps) = true)
    (h : wpList Try.prog ops Q rest (a.put op.dst (sts y.st)) w) : wpList Try.prog ops Q (op :: rest) a w := by
  refine wanted_step hw fun K hK => ?_
  unfold Oper.wp execOp
  simp only [ho, hx, Instr.loadAt, Instr.sureAddr, Sem.run_bind, Sem.run_pure, Result.andThen_ok, run_loadVar_mid w g 3 70 _ _ hk.sts Try.underlying70 rfl (by rw [info_sts, nums_length, hk.1])]
  exact hK _ _ h
theorem rosSetCu (x y : Operand) (ho : op.op = .store 3 x y) {g : Nat} {z : Ro} (hk : Ros w g z) (hx : a.eval x = .pointer (some ⟨g, 19, none⟩)) (v : Int) (hy : a.eval y = .int .i64 v) (hw : Region.wanted op (yielded ops a.tmps) = true)
    (h : ∀ w1, Ros w1 g { z with cu := v } → w.grownBy w1 (some g) → wpList Try.prog ops Q rest (a.put op.dst undef) w1) : wpList Try.prog ops Q (op :: rest) a w :=
  R.rowSet hw _ x y ho hk.2 19 (by rw [List.size_toArray, rosL_length hk.1]; decide) hx _ hy rfl rfl info_int fun w1 h1 h2 => h w1 ⟨hk.1, by rwa [set_cu hk.1] at h1⟩ h2
theorem rosSetGo (x y : Operand) (ho : op.op = .store 4 x y) {g : Nat} {z : Ro} (hk : Ros w g z) (hx : a.eval x = .pointer (some ⟨g, 20, none⟩)) (v : Bool) (hy : a.eval y = .bool v) (hw : Region.wanted op (yielded ops a.tmps) = true)
    (h : ∀ w1, Ros w1 g { z with go := v } → w.grownBy w1 (some g) → wpList Try.prog ops Q rest (a.put op.dst undef) w1) : wpList Try.prog ops Q (op :: rest) a w :=
  R.rowSet hw _ x y ho hk.2 20 (by rw [List.size_toArray, rosL_length hk.1]; decide) hx _ hy rfl rfl info_bool fun w1 h1 h2 => h w1 ⟨hk.1, by rwa [set_go hk.1] at h1⟩ h2
theorem rosSetSt (x y : Operand) (ho : op.op = .store 5 x y) {g : Nat} {z : Ro} (hk : Ros w g z) (i : Nat) (hi : i < 16) (hx : a.eval x = .pointer (some ⟨g, 3 + i, none⟩)) (v : Int) (hy : a.eval y = .int .u8 v) (hw : Region.wanted op (yielded ops a.tmps) = true)
    (h : ∀ w1, Ros w1 g { z with st := z.st.set i v } → w.grownBy w1 (some g) → wpList Try.prog ops Q rest (a.put op.dst undef) w1) : wpList Try.prog ops Q (op :: rest) a w :=
  R.rowSet hw _ x y ho hk.2 (3 + i) (by rw [List.size_toArray, rosL_length hk.1]; omega) hx _ hy rfl rfl info_u8 fun w1 h1 h2 => h w1 ⟨by rw [List.length_set]; exact hk.1, by rwa [set_st hk.1 i hi] at h1⟩ h2
theorem rosBuild0 (ho : op.op = .build 72 #[]) (hw : Region.wanted op (yielded ops a.tmps) = true) (h : wpList Try.prog ops Q rest (a.put op.dst (ros ro0)) w) : wpList Try.prog ops Q (op :: rest) a w := by
  refine wanted_step hw fun K hK => ?_
  unfold Oper.wp execOp
  have hrun : (Instr.build 72 #[]).run Try.prog w = .ok (ros ro0) w := by kernel_rfl
  simp only [ho, List.map_toArray, List.map_nil, hrun, Array.map_empty, Sem.run_map, Sem.run_bind, Result.andThen_ok, Sem.run_pure]
  exact hK _ _ h
theorem rosBuildG (t : Operand) (ho : op.op = .build 72 #[(0, t)]) {m s r : Int} (ht : a.eval t = geo m s r) (hw : Region.wanted op (yielded ops a.tmps) = true) (h : wpList Try.prog ops Q rest (a.put op.dst (ros { ro0 with m := m, s := s, r := r })) w) : wpList Try.prog ops Q (op :: rest) a w := by
  refine wanted_step hw fun K hK => ?_
  unfold Oper.wp execOp
  have hrun : (Instr.build 72 #[(0, geo m s r)]).run Try.prog w = .ok (ros { ro0 with m := m, s := s, r := r }) w := by kernel_rfl
  simp only [ho, List.map_toArray, List.map_cons, List.map_nil, ht, hrun, Sem.run_map, Sem.run_bind, Result.andThen_ok, Sem.run_pure]
  exact hK _ _ h
end
theorem ret_ros {fn : Func} {p u : Tmp} (h : fn.results = #[.cell p 72, .tmp u]) (tmps : Array Value) (w : World) {g : Nat} {x : Ro} (hk : Ros w g x) (hp : tmps.getD p undef = .pointer (some ⟨g, 0, none⟩)) {v : Value} (hv : tmps.getD u undef = v) :
    (results fn tmps).run Try.prog w = .ok (.tuple #[ros x, v]) w := by
  subst hv
  exact results_ct h tmps w g _ _ (0, 0) _ hp hk.2 Try.underlying72 rfl (info_of_ros hk.1)
end Go.Proofs.Ytdchcggllcgokaa.Q

namespace Go.Proofs.Ytdchcggllcgokaa.Q
open Go.RowKit Go.Proofs.Ytdchcggllcgokaa.L Go.Proofs.Ytdchcggllcgokaa.R Go.Proofs.YtdchcggllcgokaaW.PrintWords
set_option linter.unusedVariables false
set_option linter.unusedSimpArgs false
theorem ones_geo (m s r : Int) : (#[Value.int .i64 m, .int .i64 s, .int .i64 r] : Array Value).all (·.oneCell') = true := by
  rw [Array.all_eq_true_iff_forall_mem]
  intro v hv
  simp at hv
  rcases hv with rfl | rfl | rfl <;> rfl
theorem size_u8s (w : World) : (sizeOf 5).run Try.prog w = .ok 1 w := by kernel_rfl
def mayG (m s r : Int) : Bool := decide (3 ≤ m ∧ m ≤ 16 ∧ 1 ≤ s ∧ s ≤ 64 ∧ 40 ≤ r ∧ r ≤ 256)
theorem mayG_ok {m s r : Int} (h : mayG m s r = true) : 3 ≤ m ∧ m ≤ 16 ∧ 1 ≤ s ∧ s ≤ 64 ∧ 40 ≤ r ∧ r ≤ 256 := of_decide_eq_true h
theorem within_any (x lo hi : Int) (z : Bool) (hz : decide (lo ≤ x ∧ x ≤ hi) = z) (w : World) : Calls Try.prog 146 #[.int .i64 x, .int .i64 lo, .int .i64 hi] w fun e w' => e = .returned (.bool z) ∧ Below w.heap.size w w' := by
  subst hz
  by_cases h1 : lo ≤ x
  · have g1 : decide (lo ≤ x) = true := by simpa using h1
    go_enter Try.func146, Try.ntmps146
    go_wp2
    go_ret
    exact ⟨ret_b (by simp [h1]), Below.refl _ _⟩
  · have g1 : decide (lo ≤ x) = false := by simpa using h1
    go_enter Try.func146, Try.ntmps146
    go_wp2
    go_ret
    exact ⟨ret_b (by simp [h1]), Below.refl _ _⟩
set_option maxRecDepth 100000 in
set_option maxHeartbeats 2000000 in
theorem gMay_0 (m s r : Int) (z : Bool) (P1 : Hid (∀ w : World, Calls Try.prog 146 #[.int .i64 m, .int .i64 3, .int .i64 16] w fun e w' => e = .returned (.bool false) ∧ Below w.heap.size w w')) (w : World) : Calls Try.prog 126 #[geo m s r] w fun e w' => e = .returned (.bool false) ∧ Below w.heap.size w w' := by
  have HB := Lib.hid (Below.refl w.heap.size w)
  unfold geo
  have tok0 : True := trivial
  have tp0 : True := trivial
  go_enter Try.func126, Try.ntmps126
  go_wp2_with (first
    | (go_skip)
    | (refine F.rowBox 68 (.tmp 0) rfl rfl rfl ?_; intro w1 hk hb1 hz1; replace HB := Lib.hid (below_ext HB.out hb1); have K1 := Lib.hid hk; clear hk hb1)
    | (refine F.rowCell _ (.tmp 3) rfl (K1.out.cell (o := 0) rfl) rfl agg_int rfl ?_)
    | (have _t := tp0; go_at_call 146; refine (P1.out _).mono ?_; rintro e w2 ⟨rfl, hb2⟩; replace K1 := Lib.hid (K1.out.below hb2); replace HB := Lib.hid (below_ext HB.out hb2); have hz2 := hb2.size; clear hb2; have tp1 : True := trivial; clear _t tp0)
    | (refine F.rowCell _ (.tmp 7) rfl (K1.out.cell (o := 1) rfl) rfl agg_int rfl ?_)
    | (have _t := tp1; go_at_call 146; refine (trivial).mono ?_; rintro e w3 ⟨rfl, hb3⟩; replace K1 := Lib.hid (K1.out.below hb3); replace HB := Lib.hid (below_ext HB.out hb3); have hz3 := hb3.size; clear hb3; have tp2 : True := trivial; clear _t tp1)
    | (refine F.rowCell _ (.tmp 12) rfl (K1.out.cell (o := 2) rfl) rfl agg_int rfl ?_)
    | (have _t := tp2; go_at_call 146; refine (trivial).mono ?_; rintro e w4 ⟨rfl, hb4⟩; replace K1 := Lib.hid (K1.out.below hb4); replace HB := Lib.hid (below_ext HB.out hb4); have hz4 := hb4.size; clear hb4; have tp3 : True := trivial; clear _t tp2))
  go_ret
  exact ⟨rfl, HB.out⟩
set_option maxRecDepth 100000 in
set_option maxHeartbeats 2000000 in
theorem gMay_1 (m s r : Int) (z : Bool) (P1 : Hid (∀ w : World, Calls Try.prog 146 #[.int .i64 m, .int .i64 3, .int .i64 16] w fun e w' => e = .returned (.bool true) ∧ Below w.heap.size w w')) (P2 : Hid (∀ w : World, Calls Try.prog 146 #[.int .i64 s, .int .i64 1, .int .i64 64] w fun e w' => e = .returned (.bool false) ∧ Below w.heap.size w w')) (w : World) : Calls Try.prog 126 #[geo m s r] w fun e w' => e = .returned (.bool false) ∧ Below w.heap.size w w' := by
  have HB := Lib.hid (Below.refl w.heap.size w)
  unfold geo
  have tok0 : True := trivial
  have tp0 : True := trivial
  go_enter Try.func126, Try.ntmps126
  go_wp2_with (first
    | (go_skip)
    | (refine F.rowBox 68 (.tmp 0) rfl rfl rfl ?_; intro w1 hk hb1 hz1; replace HB := Lib.hid (below_ext HB.out hb1); have K1 := Lib.hid hk; clear hk hb1)
    | (refine F.rowCell _ (.tmp 3) rfl (K1.out.cell (o := 0) rfl) rfl agg_int rfl ?_)
    | (have _t := tp0; go_at_call 146; refine (P1.out _).mono ?_; rintro e w2 ⟨rfl, hb2⟩; replace K1 := Lib.hid (K1.out.below hb2); replace HB := Lib.hid (below_ext HB.out hb2); have hz2 := hb2.size; clear hb2; have tp1 : True := trivial; clear _t tp0)
    | (refine F.rowCell _ (.tmp 7) rfl (K1.out.cell (o := 1) rfl) rfl agg_int rfl ?_)
    | (have _t := tp1; go_at_call 146; refine (P2.out _).mono ?_; rintro e w3 ⟨rfl, hb3⟩; replace K1 := Lib.hid (K1.out.below hb3); replace HB := Lib.hid (below_ext HB.out hb3); have hz3 := hb3.size; clear hb3; have tp2 : True := trivial; clear _t tp1)
    | (refine F.rowCell _ (.tmp 12) rfl (K1.out.cell (o := 2) rfl) rfl agg_int rfl ?_)
    | (have _t := tp2; go_at_call 146; refine (trivial).mono ?_; rintro e w4 ⟨rfl, hb4⟩; replace K1 := Lib.hid (K1.out.below hb4); replace HB := Lib.hid (below_ext HB.out hb4); have hz4 := hb4.size; clear hb4; have tp3 : True := trivial; clear _t tp2))
  go_ret
  exact ⟨rfl, HB.out⟩
set_option maxRecDepth 100000 in
set_option maxHeartbeats 2000000 in
theorem gMay_2 (m s r : Int) (z : Bool) (P1 : Hid (∀ w : World, Calls Try.prog 146 #[.int .i64 m, .int .i64 3, .int .i64 16] w fun e w' => e = .returned (.bool true) ∧ Below w.heap.size w w')) (P2 : Hid (∀ w : World, Calls Try.prog 146 #[.int .i64 s, .int .i64 1, .int .i64 64] w fun e w' => e = .returned (.bool true) ∧ Below w.heap.size w w')) (P3 : Hid (∀ w : World, Calls Try.prog 146 #[.int .i64 r, .int .i64 40, .int .i64 256] w fun e w' => e = .returned (.bool z) ∧ Below w.heap.size w w')) (w : World) : Calls Try.prog 126 #[geo m s r] w fun e w' => e = .returned (.bool z) ∧ Below w.heap.size w w' := by
  have HB := Lib.hid (Below.refl w.heap.size w)
  unfold geo
  have tok0 : True := trivial
  have tp0 : True := trivial
  go_enter Try.func126, Try.ntmps126
  go_wp2_with (first
    | (go_skip)
    | (refine F.rowBox 68 (.tmp 0) rfl rfl rfl ?_; intro w1 hk hb1 hz1; replace HB := Lib.hid (below_ext HB.out hb1); have K1 := Lib.hid hk; clear hk hb1)
    | (refine F.rowCell _ (.tmp 3) rfl (K1.out.cell (o := 0) rfl) rfl agg_int rfl ?_)
    | (have _t := tp0; go_at_call 146; refine (P1.out _).mono ?_; rintro e w2 ⟨rfl, hb2⟩; replace K1 := Lib.hid (K1.out.below hb2); replace HB := Lib.hid (below_ext HB.out hb2); have hz2 := hb2.size; clear hb2; have tp1 : True := trivial; clear _t tp0)
    | (refine F.rowCell _ (.tmp 7) rfl (K1.out.cell (o := 1) rfl) rfl agg_int rfl ?_)
    | (have _t := tp1; go_at_call 146; refine (P2.out _).mono ?_; rintro e w3 ⟨rfl, hb3⟩; replace K1 := Lib.hid (K1.out.below hb3); replace HB := Lib.hid (below_ext HB.out hb3); have hz3 := hb3.size; clear hb3; have tp2 : True := trivial; clear _t tp1)
    | (refine F.rowCell _ (.tmp 12) rfl (K1.out.cell (o := 2) rfl) rfl agg_int rfl ?_)
    | (have _t := tp2; go_at_call 146; refine (P3.out _).mono ?_; rintro e w4 ⟨rfl, hb4⟩; replace K1 := Lib.hid (K1.out.below hb4); replace HB := Lib.hid (below_ext HB.out hb4); have hz4 := hb4.size; clear hb4; have tp3 : True := trivial; clear _t tp2))
  go_ret
  exact ⟨rfl, HB.out⟩
theorem gMay_any (m s r : Int) (w : World) : Calls Try.prog 126 #[geo m s r] w fun e w' => e = .returned (.bool (mayG m s r)) ∧ Below w.heap.size w w' := by
  by_cases h1 : 3 ≤ m ∧ m ≤ 16
  · by_cases h2 : 1 ≤ s ∧ s ≤ 64
    · have h := gMay_2 m s r (decide (40 ≤ r ∧ r ≤ 256)) (Lib.hid fun w => within_any m 3 16 true (by simpa using h1) w) (Lib.hid fun w => within_any s 1 64 true (by simpa using h2) w) (Lib.hid fun w => within_any r 40 256 _ rfl w) w
      rw [show mayG m s r = decide (40 ≤ r ∧ r ≤ 256) by rw [mayG, Bool.eq_iff_iff]; simp only [decide_eq_true_eq]; omega]
      exact h
    · rw [show mayG m s r = false by rw [mayG, decide_eq_false_iff_not]; omega]
      exact gMay_1 m s r true (Lib.hid fun w => within_any m 3 16 true (by simpa using h1) w) (Lib.hid fun w => within_any s 1 64 false (decide_eq_false h2) w) w
  · rw [show mayG m s r = false by rw [mayG, decide_eq_false_iff_not]; omega]
    exact gMay_0 m s r true (Lib.hid fun w => within_any m 3 16 false (decide_eq_false h1) w) w
set_option maxRecDepth 100000 in
set_option maxHeartbeats 2000000 in
theorem rgMay_any (m s r : Int) (w : World) : Calls Try.prog 149 #[geo m s r] w fun e w' => e = .returned (.bool (mayG m s r)) ∧ Below w.heap.size w w' := by
  unfold geo
  rcases (by omega : (m < 3) ∨ (3 ≤ m ∧ 16 < m) ∨ (3 ≤ m ∧ m ≤ 16 ∧ s < 1) ∨ (3 ≤ m ∧ m ≤ 16 ∧ 1 ≤ s ∧ 64 < s) ∨ (3 ≤ m ∧ m ≤ 16 ∧ 1 ≤ s ∧ s ≤ 64 ∧ r < 40) ∨ (3 ≤ m ∧ m ≤ 16 ∧ 1 ≤ s ∧ s ≤ 64 ∧ 40 ≤ r ∧ 256 < r) ∨ (3 ≤ m ∧ m ≤ 16 ∧ 1 ≤ s ∧ s ≤ 64 ∧ 40 ≤ r ∧ r ≤ 256)) with h1 | ⟨h1, h2⟩ | ⟨h1, h2, h3⟩ | ⟨h1, h2, h3, h4⟩ | ⟨h1, h2, h3, h4, h5⟩ | ⟨h1, h2, h3, h4, h5, h6⟩ | ⟨h1, h2, h3, h4, h5, h6⟩
  all_goals
    go_enter Try.func149, Try.ntmps149
    go_wp2
    go_ret
    exact ⟨ret_b (by rw [Bool.eq_iff_iff]; simp [mayG]; try omega), (Below.refl _ _).alloc (Nat.le_refl _) _⟩
theorem st_at {l : List Int} {q : Nat} (h : q < l.length) : (nums .u8 l).toArray[q]? = some (.int .u8 (rd l (q : Int))) := by
  simp [nums, rd, List.getD_eq_getElem?_getD, List.getElem?_eq_getElem h]
/-- how many of the first q states are v -/
def cnt (l : List Int) (v : Int) (q : Nat) : Nat := ((List.range q).filter fun (i : Nat) => rd l (i : Int) == v).length
theorem cnt_0 (l : List Int) (v : Int) : cnt l v 0 = 0 := rfl
theorem cnt_succ (l : List Int) (v : Int) (q : Nat) : cnt l v (q + 1) = cnt l v q + if rd l (q : Int) = v then 1 else 0 := by
  unfold cnt
  rw [List.range_succ, List.filter_append, List.length_append]
  by_cases h : rd l (q : Int) = v <;> simp [h]
theorem cnt_le (l : List Int) (v : Int) (q : Nat) : cnt l v q ≤ q := by
  unfold cnt
  exact Nat.le_trans (List.length_filter_le _ _) (by simp)
set_option maxRecDepth 100000 in
set_option maxHeartbeats 2000000 in
theorem count_any (x : Ro) (hl : x.st.length = 16) (v : Int) (w : World) : Calls Try.prog 133 #[ros x, .int .u8 v] w fun e w' => e = .returned (.int .i64 (cnt x.st v 16 : Int)) ∧ Below w.heap.size w w' := by
  have HL := Lib.hid hl
  have HB := Lib.hid (Below.refl w.heap.size w)
  go_enter Try.func133, Try.ntmps133
  go_wp2_with (first
    | (refine rosBox (.tmp 0) rfl rfl HL.out rfl ?_; intro w1 hk hb hz1; have K2 := Lib.hid hk; replace HB := Lib.hid (below_ext HB.out hb); clear hk hb)
    | (refine stsLoad (.tmp 8) rfl K2.out rfl rfl ?_))
  go_loopw [5, 10] (fun n i wr => ∃ q : Nat, q ≤ 16 ∧ i = .int .i64 (q : Int) ∧ n = .int .i64 (cnt x.st v q : Int) ∧ Hid (Below w.heap.size w wr)) (fun _ i _ => 16 - (intOf i).toNat)
  case atStart => exact ⟨0, by omega, rfl, rfl, HB⟩
  case round =>
    clear HB K2
    obtain ⟨q, hq, rfl, rfl, HB⟩ := hrel
    have hc := cnt_le x.st v q
    have hs := cnt_succ x.st v q
    by_cases hlt : q < 16
    · by_cases he : rd x.st (q : Int) = v
      · have g1 : (rd x.st (q : Int) == v) = true := by simpa using he
        rw [if_pos he] at hs
        clear he
        go_wp2_with (first
          | (refine F.aggIndex (i := q) (n := 16) 70 (.tmp 9) (.tmp 10) rfl rfl rfl Try.underlying70 hlt R.agg_u8 size_u8s (st_at (by rw [HL.out]; exact hlt)) rfl ?_))
        go_roundw
        case rel => exact ⟨q + 1, by omega, by go_num, by rw [hs]; go_num, HB⟩
        case measure => simp [intOf]; omega
      · have g1 : (rd x.st (q : Int) == v) = false := by simpa using he
        rw [if_neg he] at hs
        clear he
        go_wp2_with (first
          | (refine F.aggIndex (i := q) (n := 16) 70 (.tmp 9) (.tmp 10) rfl rfl rfl Try.underlying70 hlt R.agg_u8 size_u8s (st_at (by rw [HL.out]; exact hlt)) rfl ?_))
        go_roundw
        case rel => exact ⟨q + 1, by omega, by go_num, by rw [hs]; rfl, HB⟩
        case measure => simp [intOf]; omega
    · obtain rfl : q = 16 := by omega
      go_wp2
      go_ret
      exact ⟨rfl, HB.out⟩
end Go.Proofs.Ytdchcggllcgokaa.Q

namespace Go.Proofs.Ytdchcggllcgokaa.Q
open Go.RowKit Go.Proofs.Ytdchcggllcgokaa.L Go.Proofs.Ytdchcggllcgokaa.R Go.Proofs.YtdchcggllcgokaaW.PrintWords
set_option linter.unusedVariables false
set_option linter.unusedSimpArgs false
theorem Ros.m_ {W : World} {g : Nat} {m s r : Int} {st : List Int} {cu : Int} {go : Bool} (h : Ros W g ⟨m, s, r, st, cu, go⟩) : W.cell? ⟨g, 0, none⟩ = some (.int .i64 m) := h.cm
theorem Ros.s_ {W : World} {g : Nat} {m s r : Int} {st : List Int} {cu : Int} {go : Bool} (h : Ros W g ⟨m, s, r, st, cu, go⟩) : W.cell? ⟨g, 1, none⟩ = some (.int .i64 s) := h.cs
theorem Ros.cu_ {W : World} {g : Nat} {m s r : Int} {st : List Int} {cu : Int} {go : Bool} (h : Ros W g ⟨m, s, r, st, cu, go⟩) : W.cell? ⟨g, 19, none⟩ = some (.int .i64 cu) := h.ccu
theorem Ros.go_ {W : World} {g : Nat} {m s r : Int} {st : List Int} {cu : Int} {go : Bool} (h : Ros W g ⟨m, s, r, st, cu, go⟩) : W.cell? ⟨g, 20, none⟩ = some (.bool go) := h.cgo
theorem rd_drop (l : List Int) (k : Nat) (q : Nat) : rd (l.drop k) (q : Int) = rd l ((k + q : Nat) : Int) := by
  simp only [rd, Int.toNat_natCast, List.getD_eq_getElem?_getD, List.getElem?_drop]
section
variable {ops : Array Oper} {rest : List Oper} {op : Oper} {a : Act} {w : World} {Q : Exit → Act → World → Prop}
theorem stsSlice (x y : Operand) (ho : op.op = .slice 70 x (some y) none none) {g k : Nat} (hx : a.eval x = .pointer (some ⟨g, 3, none⟩)) (hy : a.eval y = .int .i64 (k : Int)) (hk : k ≤ 16) (hw : Region.wanted op (yielded ops a.tmps) = true)
    (h : ∀ A, (∀ (W : World) (z : Ro), Ros W g z → ReadsInt W .u8 A (16 - k) (z.st.drop k)) → wpList Try.prog ops Q rest (a.put op.dst (.slice A (16 - k) (16 - k))) w) : wpList Try.prog ops Q (op :: rest) a w := by
  refine wanted_step hw fun K hK => ?_
  have hrun : (Instr.sliceAt 70 (.pointer (some ⟨g, 3, none⟩)) (some (.int .i64 (k : Int))) none none).run Try.prog w = .ok (.slice (some ⟨g, 3 + (if 16 = k then 0 else k), none⟩) (16 - k) (16 - k)) w := by
    have h3 : Try.prog.arrayLen 70 = 16 := by kernel_rfl
    have h1 := run_sliceAt_array_l (P := Try.prog) w 70 ⟨g, 3, none⟩ (by kernel_rfl) .i64 (k : Int) (by omega) (by rw [h3]; omega)
    rw [h1]
    have h2 : (sizeOf (Try.prog.elem 70)).run Try.prog w = .ok 1 w := by kernel_rfl
    rw [h2, h3]
    simp only [Result.andThen_ok, slicedAt, Int.toNat_natCast, Nat.mul_one, Addr.add_mid]
    by_cases h16 : 16 = k
    · rw [if_pos h16, if_pos h16]
    · rw [if_neg h16, if_neg h16]
  unfold Oper.wp execOp
  simp only [ho, hx, hy, Option.map_some, Option.map_none, hrun, Sem.run_bind, Sem.run_map, Sem.run_pure, Result.andThen_ok]
  refine hK _ _ (h _ fun W z hz => ?_)
  by_cases h16 : 16 = k
  · rw [if_pos h16, ← h16]
    exact ⟨by rw [List.length_drop, hz.1], by omega, fun hp => absurd hp (by omega)⟩
  · rw [if_neg h16]
    exact hz.reads k hk
end
section
variable {ops : Array Oper} {C : World → Prop} {Q : Act → Prop} {a : Act} {op : Oper} {rest : List Oper}
theorem qRosLoad (x : Operand) (ho : op.op = .load 72 x) {g : Nat} {y : Ro} (hl : y.st.length = 16) (hk : ∀ w, C w → Ros w g y) (hx : a.eval x = .pointer (some ⟨g, 0, none⟩)) (hw : Region.wanted op (yielded ops a.tmps) = true)
    (h : wpQuiet Try.prog ops C Q rest (a.put op.dst (ros y))) : wpQuiet Try.prog ops C Q (op :: rest) a :=
  qRowLoad hw _ x ho (fun w hC => (hk w hC).2) hx Try.underlying72 rfl (info_of_ros hl) h
theorem qCell (ty : TypeId) (x : Operand) (ho : op.op = .load ty x) {g o : Nat} {v : Value} (hc : ∀ w, C w → w.cell? ⟨g, o, none⟩ = some v) (hx : a.eval x = .pointer (some ⟨g, o, none⟩))
    (hag : ∀ w : World, (isAgg ty).run Try.prog w = .ok false w) (hw : Region.wanted op (yielded ops a.tmps) = true) (h : wpQuiet Try.prog ops C Q rest (a.put op.dst v)) : wpQuiet Try.prog ops C Q (op :: rest) a :=
  quiet_val hw _ (fun w hC => by
    unfold execOp
    simp only [ho, hx, Instr.loadAt, Instr.sureAddr, Sem.run_bind, Sem.run_map, Sem.run_pure, Result.andThen_ok, loadVar, hag, Bool.false_eq_true, if_false, run_load_plain (hc w hC)]) h
end
set_option maxRecDepth 100000 in
set_option maxHeartbeats 2000000 in
theorem May_A (m : Int) (s r : Int) (st : List Int) (cu : Int) (go : Bool) (HL : Hid (st.length = 16)) 
    (PG : Hid (∀ w : World, Calls Try.prog 126 #[geo m s r] w fun e w' => e = .returned (.bool false) ∧ Below w.heap.size w w')) (w : World) : Calls Try.prog 89 #[ros ⟨m, s, r, st, cu, go⟩] w fun e w' => e = .returned (.bool false) ∧ Below w.heap.size w w' := by
  have HB := Lib.hid (Below.refl w.heap.size w)
  go_enter Try.func89, Try.ntmps89
  go_wp2_with (first
    | (go_skip)
    | (refine rosBox (.tmp 0) rfl rfl HL.out rfl ?_; intro w1 hk hb hz1; have K1 := Lib.hid hk; replace HB := Lib.hid (below_ext HB.out hb); clear hk hb)
    | (refine geoLoad (.tmp 6) rfl K1.out rfl rfl ?_)
    | (go_at_call 126; refine (PG.out _).mono ?_; rintro e w2 ⟨rfl, hb⟩; replace K1 := Lib.hid (K1.out.below hb); replace HB := Lib.hid (below_ext HB.out hb); have hz2 := hb.size; clear hb)
    | (refine F.rowCell _ (.tmp 11) rfl K1.out.cu_ rfl agg_int rfl ?_)
    | (refine F.rowCell _ (.tmp 16) rfl K1.out.cu_ rfl agg_int rfl ?_)
    | (refine F.rowCell _ (.tmp 19) rfl K1.out.s_ rfl agg_int rfl ?_))
  go_ret
  exact ⟨rfl, HB.out⟩
set_option maxRecDepth 100000 in
set_option maxHeartbeats 2000000 in
theorem May_B (m : Int) (s r : Int) (st : List Int) (cu : Int) (go : Bool) (HL : Hid (st.length = 16)) (h1 : cu < 0)
    (PG : Hid (∀ w : World, Calls Try.prog 126 #[geo m s r] w fun e w' => e = .returned (.bool true) ∧ Below w.heap.size w w')) (w : World) : Calls Try.prog 89 #[ros ⟨m, s, r, st, cu, go⟩] w fun e w' => e = .returned (.bool false) ∧ Below w.heap.size w w' := by
  have HB := Lib.hid (Below.refl w.heap.size w)
  have g1 : decide (cu < 0) = true := by simpa using h1
  go_enter Try.func89, Try.ntmps89
  go_wp2_with (first
    | (go_skip)
    | (refine rosBox (.tmp 0) rfl rfl HL.out rfl ?_; intro w1 hk hb hz1; have K1 := Lib.hid hk; replace HB := Lib.hid (below_ext HB.out hb); clear hk hb)
    | (refine geoLoad (.tmp 6) rfl K1.out rfl rfl ?_)
    | (go_at_call 126; refine (PG.out _).mono ?_; rintro e w2 ⟨rfl, hb⟩; replace K1 := Lib.hid (K1.out.below hb); replace HB := Lib.hid (below_ext HB.out hb); have hz2 := hb.size; clear hb)
    | (refine F.rowCell _ (.tmp 11) rfl K1.out.cu_ rfl agg_int rfl ?_)
    | (refine F.rowCell _ (.tmp 16) rfl K1.out.cu_ rfl agg_int rfl ?_)
    | (refine F.rowCell _ (.tmp 19) rfl K1.out.s_ rfl agg_int rfl ?_))
  go_ret
  exact ⟨rfl, HB.out⟩
set_option maxRecDepth 100000 in
set_option maxHeartbeats 2000000 in
theorem May_C (m : Int) (s r : Int) (st : List Int) (cu : Int) (go : Bool) (HL : Hid (st.length = 16)) (h1 : 0 ≤ cu) (h2 : s ≤ cu)
    (PG : Hid (∀ w : World, Calls Try.prog 126 #[geo m s r] w fun e w' => e = .returned (.bool true) ∧ Below w.heap.size w w')) (w : World) : Calls Try.prog 89 #[ros ⟨m, s, r, st, cu, go⟩] w fun e w' => e = .returned (.bool false) ∧ Below w.heap.size w w' := by
  have HB := Lib.hid (Below.refl w.heap.size w)
  have g1 : decide (cu < 0) = false := by simp; omega
  have g2 : decide (s ≤ cu) = true := by simpa using h2
  go_enter Try.func89, Try.ntmps89
  go_wp2_with (first
    | (go_skip)
    | (refine rosBox (.tmp 0) rfl rfl HL.out rfl ?_; intro w1 hk hb hz1; have K1 := Lib.hid hk; replace HB := Lib.hid (below_ext HB.out hb); clear hk hb)
    | (refine geoLoad (.tmp 6) rfl K1.out rfl rfl ?_)
    | (go_at_call 126; refine (PG.out _).mono ?_; rintro e w2 ⟨rfl, hb⟩; replace K1 := Lib.hid (K1.out.below hb); replace HB := Lib.hid (below_ext HB.out hb); have hz2 := hb.size; clear hb)
    | (refine F.rowCell _ (.tmp 11) rfl K1.out.cu_ rfl agg_int rfl ?_)
    | (refine F.rowCell _ (.tmp 16) rfl K1.out.cu_ rfl agg_int rfl ?_)
    | (refine F.rowCell _ (.tmp 19) rfl K1.out.s_ rfl agg_int rfl ?_))
  go_ret
  exact ⟨rfl, HB.out⟩
set_option maxRecDepth 100000 in
set_option maxHeartbeats 2000000 in
theorem May_D (k : Nat) (s r : Int) (st : List Int) (cu : Int) (go : Bool) (HL : Hid (st.length = 16)) (k3 : 3 ≤ k) (k16 : k ≤ 16) (h1 : 0 ≤ cu) (h2 : cu < s) (hz : Hid (¬ ∀ j : Nat, j < 16 - k → rd (st.drop k) (j : Int) = 0))
    (PG : Hid (∀ w : World, Calls Try.prog 126 #[geo (k : Int) s r] w fun e w' => e = .returned (.bool true) ∧ Below w.heap.size w w')) (w : World) : Calls Try.prog 89 #[ros ⟨(k : Int), s, r, st, cu, go⟩] w fun e w' => e = .returned (.bool false) ∧ Below w.heap.size w w' := by
  have HB := Lib.hid (Below.refl w.heap.size w)
  have g1 : decide (cu < 0) = false := by simp; omega
  have g2 : decide (s ≤ cu) = false := by simp; omega
  go_enter Try.func89, Try.ntmps89
  go_wp2_with (first
    | (go_skip)
    | (refine rosBox (.tmp 0) rfl rfl HL.out rfl ?_; intro w1 hk hb hz1; have K1 := Lib.hid hk; replace HB := Lib.hid (below_ext HB.out hb); clear hk hb)
    | (refine geoLoad (.tmp 6) rfl K1.out rfl rfl ?_)
    | (go_at_call 126; refine (PG.out _).mono ?_; rintro e w2 ⟨rfl, hb⟩; replace K1 := Lib.hid (K1.out.below hb); replace HB := Lib.hid (below_ext HB.out hb); have hz2 := hb.size; clear hb)
    | (refine F.rowCell _ (.tmp 11) rfl K1.out.cu_ rfl agg_int rfl ?_)
    | (refine F.rowCell _ (.tmp 16) rfl K1.out.cu_ rfl agg_int rfl ?_)
    | (refine F.rowCell _ (.tmp 19) rfl K1.out.s_ rfl agg_int rfl ?_)
    | (refine F.rowCell _ (.tmp 25) rfl K1.out.m_ rfl agg_int rfl ?_)
    | (refine stsSlice (.tmp 23) (.tmp 26) rfl rfl rfl k16 rfl ?_; intro A hA; have HR := Lib.hid (hA _ _ K1.out); clear hA))
  have D0 : ∃ D, D = st.drop k := ⟨_, rfl⟩
  obtain ⟨D, hD⟩ := D0
  have HR2 : Hid (ReadsInt w2 .u8 A (16 - k) D) := Lib.hid (by rw [hD]; exact HR.out)
  replace hz := Lib.hid (show ¬ ∀ j : Nat, j < 16 - k → rd D (j : Int) = 0 from by rw [hD]; exact hz.out)
  clear HR hD
  go_loopw [29] (fun i wr => ∃ q : Nat, q ≤ 16 - k ∧ i = .int .i64 (q : Int) ∧ Hid (∀ j : Nat, j < q → rd D (j : Int) = 0) ∧ Hid (ReadsInt wr .u8 A (16 - k) D) ∧ Hid (Ros wr w.heap.size ⟨(k : Int), s, r, st, cu, go⟩) ∧ Hid (Below w.heap.size w wr)) (fun i _ => 16 - (intOf i).toNat)
  case atStart => exact ⟨0, by omega, rfl, Lib.hid (fun j h => absurd h (by omega)), HR2, K1, HB⟩
  case round =>
    clear HR2 K1 HB
    obtain ⟨q, hq, rfl, HA, HR, K1, HB⟩ := hrel
    have hi0 : (0 : Int) ≤ (q : Int) := by omega
    by_cases hlt : q < 16 - k
    · obtain ⟨ax, rfl, cx⟩ := HR.out.at_ (q : Int) (by omega) (by omega)
      simp only [Int.toNat_natCast] at cx
      by_cases he : rd D q = 0
      · have hb : (rd D q != 0) = false := by simp [he]
        have HE := Lib.hid he
        clear he
        go_wp2
        go_roundw
        case rel =>
          refine ⟨q + 1, by omega, by go_num, Lib.hid (fun j h1 => ?_), HR, K1, HB⟩
          rcases Nat.lt_or_ge j q with h | h
          · exact HA.out j h
          · obtain rfl : j = q := by omega
            exact HE.out
        case measure => simp [intOf]; omega
      · have hb : (rd D q != 0) = true := by simpa using he
        clear he
        go_wp2
        go_ret
        exact ⟨rfl, HB.out⟩
    · obtain rfl : q = 16 - k := by omega
      exact absurd (fun j h1 => HA.out j h1) hz.out
set_option maxRecDepth 100000 in
set_option maxHeartbeats 2000000 in
theorem May_E1 (k c0 c1 h : Nat) (s r : Int) (st : List Int) (cu : Int) (go : Bool) (HL : Hid (st.length = 16)) (k3 : 3 ≤ k) (k16 : k ≤ 16) (b0 : c0 ≤ 16) (b1 : c1 ≤ 16) (b2 : h ≤ 16) (h1 : 0 ≤ cu) (h2 : cu < s) (hz : Hid (∀ j : Nat, j < 16 - k → rd (st.drop k) (j : Int) = 0)) (h16 : c0 + c1 + h ≠ 16)
    (PG : Hid (∀ w : World, Calls Try.prog 126 #[geo (k : Int) s r] w fun e w' => e = .returned (.bool true) ∧ Below w.heap.size w w'))
    (C2 : Hid (∀ w : World, Calls Try.prog 133 #[ros ⟨(k : Int), s, r, st, cu, go⟩, .int .u8 2] w fun e w' => e = .returned (.int .i64 (h : Int)) ∧ Below w.heap.size w w'))
    (C0 : Hid (∀ w : World, Calls Try.prog 133 #[ros ⟨(k : Int), s, r, st, cu, go⟩, .int .u8 0] w fun e w' => e = .returned (.int .i64 (c0 : Int)) ∧ Below w.heap.size w w'))
    (C1 : Hid (∀ w : World, Calls Try.prog 133 #[ros ⟨(k : Int), s, r, st, cu, go⟩, .int .u8 1] w fun e w' => e = .returned (.int .i64 (c1 : Int)) ∧ Below w.heap.size w w')) (w : World) : Calls Try.prog 89 #[ros ⟨(k : Int), s, r, st, cu, go⟩] w fun e w' => e = .returned (.bool false) ∧ Below w.heap.size w w' := by
  have HB := Lib.hid (Below.refl w.heap.size w)
  have g1 : decide (cu < 0) = false := by simp; omega
  have g2 : decide (s ≤ cu) = false := by simp; omega
  have gs : ((c0 : Int) + (c1 : Int) + (h : Int) == 16) = false := by rw [beq_eq_false_iff_ne]; omega
  go_enter Try.func89, Try.ntmps89
  go_wp2_with (first
    | (go_skip)
    | (refine rosBox (.tmp 0) rfl rfl HL.out rfl ?_; intro w1 hk hb hz1; have K1 := Lib.hid hk; replace HB := Lib.hid (below_ext HB.out hb); clear hk hb)
    | (refine geoLoad (.tmp 6) rfl K1.out rfl rfl ?_)
    | (go_at_call 126; refine (PG.out _).mono ?_; rintro e w2 ⟨rfl, hb⟩; replace K1 := Lib.hid (K1.out.below hb); replace HB := Lib.hid (below_ext HB.out hb); have hz2 := hb.size; clear hb)
    | (refine F.rowCell _ (.tmp 11) rfl K1.out.cu_ rfl agg_int rfl ?_)
    | (refine F.rowCell _ (.tmp 16) rfl K1.out.cu_ rfl agg_int rfl ?_)
    | (refine F.rowCell _ (.tmp 19) rfl K1.out.s_ rfl agg_int rfl ?_)
    | (refine F.rowCell _ (.tmp 25) rfl K1.out.m_ rfl agg_int rfl ?_)
    | (refine stsSlice (.tmp 23) (.tmp 26) rfl rfl rfl k16 rfl ?_; intro A hA; have HR := Lib.hid (hA _ _ K1.out); clear hA))
  have D0 : ∃ D, D = st.drop k := ⟨_, rfl⟩
  obtain ⟨D, hD⟩ := D0
  have HR2 : Hid (ReadsInt w2 .u8 A (16 - k) D) := Lib.hid (by rw [hD]; exact HR.out)
  replace hz := Lib.hid (show ∀ j : Nat, j < 16 - k → rd D (j : Int) = 0 from by rw [hD]; exact hz.out)
  clear HR hD
  go_loopw [29] (fun i wr => ∃ q : Nat, q ≤ 16 - k ∧ i = .int .i64 (q : Int) ∧ Hid (∀ j : Nat, j < q → rd D (j : Int) = 0) ∧ Hid (ReadsInt wr .u8 A (16 - k) D) ∧ Hid (Ros wr w.heap.size ⟨(k : Int), s, r, st, cu, go⟩) ∧ Hid (Below w.heap.size w wr)) (fun i _ => 16 - (intOf i).toNat)
  case atStart => exact ⟨0, by omega, rfl, Lib.hid (fun j h => absurd h (by omega)), HR2, K1, HB⟩
  case round =>
    clear HR2 K1 HB
    obtain ⟨q, hq, rfl, HA, HR, K1, HB⟩ := hrel
    have hi0 : (0 : Int) ≤ (q : Int) := by omega
    by_cases hlt : q < 16 - k
    · obtain ⟨ax, rfl, cx⟩ := HR.out.at_ (q : Int) (by omega) (by omega)
      simp only [Int.toNat_natCast] at cx
      by_cases he : rd D q = 0
      · have hb : (rd D q != 0) = false := by simp [he]
        have HE := Lib.hid he
        clear he
        go_wp2
        go_roundw
        case rel =>
          refine ⟨q + 1, by omega, by go_num, Lib.hid (fun j h1 => ?_), HR, K1, HB⟩
          rcases Nat.lt_or_ge j q with h | h
          · exact HA.out j h
          · obtain rfl : j = q := by omega
            exact HE.out
        case measure => simp [intOf]; omega
      · exact absurd (hz.out q hlt) he
    · obtain rfl : q = 16 - k := by omega
      clear HA HR hz
      go_wp2_with (first
        | (refine rosLoad (.tmp 1) rfl K1.out rfl rfl ?_)
        | (go_at_call 133; refine (C2.out _).mono ?_; rintro e w5 ⟨rfl, hb⟩; replace K1 := Lib.hid (K1.out.below hb); replace HB := Lib.hid (below_ext HB.out hb); clear hb C2))
      have qK1 := K1.out.later
      have tq0 : True := trivial
      refine wp_region_cls (fun w9 => ∃ x : Later w5, w9 = x.w) (by kernel_rfl) (by kernel_rfl) (Later.drew _) ?_
      repeat (first
        | go_big_quiet_skip
        | (refine qRosLoad (.tmp 1) rfl HL.out qK1 rfl rfl ?_; simp only [Act.put, List.setIfInBounds_toArray, List.set_cons_zero, List.set_cons_succ])
        | (refine qCell _ (.tmp 53) rfl (fun w hC => (qK1 w hC).cu_) rfl agg_int rfl ?_; simp only [Act.put, List.setIfInBounds_toArray, List.set_cons_zero, List.set_cons_succ])
        | (have _t := tq0; refine qAt 133 rfl ?_; go_big_quiet_want; go_big_quiet_op; apply Exists.intro; refine ⟨fun x => ?_, ?_⟩; (· refine (C0.out _).mono ?_; rintro e x2 ⟨rfl, hb⟩; exact ⟨rfl, x.ext hb⟩); go_big_quiet_on; have tq1 : True := trivial; clear _t tq0)
        | (have _t := tq1; refine qAt 133 rfl ?_; go_big_quiet_want; go_big_quiet_op; apply Exists.intro; refine ⟨fun x => ?_, ?_⟩; (· refine (C1.out _).mono ?_; rintro e x2 ⟨rfl, hb⟩; exact ⟨rfl, x.ext hb⟩); go_big_quiet_on; have tq2 : True := trivial; clear _t tq1)
        | (go_big_quiet_want; go_big_quiet_op; go_big_quiet_on))
      refine wpQuiet_nil ?_
      rintro w9 ⟨⟨x9, h9⟩, rfl⟩
      have hb9 := below_ext HB.out h9
      clear h9
      go_wp2
      go_ret
      exact ⟨rfl, hb9⟩
set_option maxRecDepth 100000 in
set_option maxHeartbeats 2000000 in
theorem May_E2 (k c0 c1 h : Nat) (s r : Int) (st : List Int) (cu : Int) (go : Bool) (HL : Hid (st.length = 16)) (k3 : 3 ≤ k) (k16 : k ≤ 16) (b0 : c0 ≤ 16) (b1 : c1 ≤ 16) (b2 : h ≤ 16) (h1 : 0 ≤ cu) (h2 : cu < s) (hz : Hid (∀ j : Nat, j < 16 - k → rd (st.drop k) (j : Int) = 0)) (h16 : c0 + c1 + h = 16) (hh : h = 1)
    (PG : Hid (∀ w : World, Calls Try.prog 126 #[geo (k : Int) s r] w fun e w' => e = .returned (.bool true) ∧ Below w.heap.size w w'))
    (C2 : Hid (∀ w : World, Calls Try.prog 133 #[ros ⟨(k : Int), s, r, st, cu, go⟩, .int .u8 2] w fun e w' => e = .returned (.int .i64 (h : Int)) ∧ Below w.heap.size w w'))
    (C0 : Hid (∀ w : World, Calls Try.prog 133 #[ros ⟨(k : Int), s, r, st, cu, go⟩, .int .u8 0] w fun e w' => e = .returned (.int .i64 (c0 : Int)) ∧ Below w.heap.size w w'))
    (C1 : Hid (∀ w : World, Calls Try.prog 133 #[ros ⟨(k : Int), s, r, st, cu, go⟩, .int .u8 1] w fun e w' => e = .returned (.int .i64 (c1 : Int)) ∧ Below w.heap.size w w')) (w : World) : Calls Try.prog 89 #[ros ⟨(k : Int), s, r, st, cu, go⟩] w fun e w' => e = .returned (.bool true) ∧ Below w.heap.size w w' := by
  have HB := Lib.hid (Below.refl w.heap.size w)
  have g1 : decide (cu < 0) = false := by simp; omega
  have g2 : decide (s ≤ cu) = false := by simp; omega
  have gs : ((c0 : Int) + (c1 : Int) + (h : Int) == 16) = true := by rw [beq_iff_eq]; omega
  have gh : ((h : Int) == 1) = true := by rw [beq_iff_eq]; omega
  clear hh
  go_enter Try.func89, Try.ntmps89
  go_wp2_with (first
    | (go_skip)
    | (refine rosBox (.tmp 0) rfl rfl HL.out rfl ?_; intro w1 hk hb hz1; have K1 := Lib.hid hk; replace HB := Lib.hid (below_ext HB.out hb); clear hk hb)
    | (refine geoLoad (.tmp 6) rfl K1.out rfl rfl ?_)
    | (go_at_call 126; refine (PG.out _).mono ?_; rintro e w2 ⟨rfl, hb⟩; replace K1 := Lib.hid (K1.out.below hb); replace HB := Lib.hid (below_ext HB.out hb); have hz2 := hb.size; clear hb)
    | (refine F.rowCell _ (.tmp 11) rfl K1.out.cu_ rfl agg_int rfl ?_)
    | (refine F.rowCell _ (.tmp 16) rfl K1.out.cu_ rfl agg_int rfl ?_)
    | (refine F.rowCell _ (.tmp 19) rfl K1.out.s_ rfl agg_int rfl ?_)
    | (refine F.rowCell _ (.tmp 25) rfl K1.out.m_ rfl agg_int rfl ?_)
    | (refine stsSlice (.tmp 23) (.tmp 26) rfl rfl rfl k16 rfl ?_; intro A hA; have HR := Lib.hid (hA _ _ K1.out); clear hA))
  have D0 : ∃ D, D = st.drop k := ⟨_, rfl⟩
  obtain ⟨D, hD⟩ := D0
  have HR2 : Hid (ReadsInt w2 .u8 A (16 - k) D) := Lib.hid (by rw [hD]; exact HR.out)
  replace hz := Lib.hid (show ∀ j : Nat, j < 16 - k → rd D (j : Int) = 0 from by rw [hD]; exact hz.out)
  clear HR hD
  go_loopw [29] (fun i wr => ∃ q : Nat, q ≤ 16 - k ∧ i = .int .i64 (q : Int) ∧ Hid (∀ j : Nat, j < q → rd D (j : Int) = 0) ∧ Hid (ReadsInt wr .u8 A (16 - k) D) ∧ Hid (Ros wr w.heap.size ⟨(k : Int), s, r, st, cu, go⟩) ∧ Hid (Below w.heap.size w wr)) (fun i _ => 16 - (intOf i).toNat)
  case atStart => exact ⟨0, by omega, rfl, Lib.hid (fun j h => absurd h (by omega)), HR2, K1, HB⟩
  case round =>
    clear HR2 K1 HB
    obtain ⟨q, hq, rfl, HA, HR, K1, HB⟩ := hrel
    have hi0 : (0 : Int) ≤ (q : Int) := by omega
    by_cases hlt : q < 16 - k
    · obtain ⟨ax, rfl, cx⟩ := HR.out.at_ (q : Int) (by omega) (by omega)
      simp only [Int.toNat_natCast] at cx
      by_cases he : rd D q = 0
      · have hb : (rd D q != 0) = false := by simp [he]
        have HE := Lib.hid he
        clear he
        go_wp2
        go_roundw
        case rel =>
          refine ⟨q + 1, by omega, by go_num, Lib.hid (fun j h1 => ?_), HR, K1, HB⟩
          rcases Nat.lt_or_ge j q with h | h
          · exact HA.out j h
          · obtain rfl : j = q := by omega
            exact HE.out
        case measure => simp [intOf]; omega
      · exact absurd (hz.out q hlt) he
    · obtain rfl : q = 16 - k := by omega
      clear HA HR hz
      go_wp2_with (first
        | (refine rosLoad (.tmp 1) rfl K1.out rfl rfl ?_)
        | (go_at_call 133; refine (C2.out _).mono ?_; rintro e w5 ⟨rfl, hb⟩; replace K1 := Lib.hid (K1.out.below hb); replace HB := Lib.hid (below_ext HB.out hb); clear hb C2))
      have qK1 := K1.out.later
      have tq0 : True := trivial
      refine wp_region_cls (fun w9 => ∃ x : Later w5, w9 = x.w) (by kernel_rfl) (by kernel_rfl) (Later.drew _) ?_
      repeat (first
        | go_big_quiet_skip
        | (refine qRosLoad (.tmp 1) rfl HL.out qK1 rfl rfl ?_; simp only [Act.put, List.setIfInBounds_toArray, List.set_cons_zero, List.set_cons_succ])
        | (refine qCell _ (.tmp 53) rfl (fun w hC => (qK1 w hC).cu_) rfl agg_int rfl ?_; simp only [Act.put, List.setIfInBounds_toArray, List.set_cons_zero, List.set_cons_succ])
        | (have _t := tq0; refine qAt 133 rfl ?_; go_big_quiet_want; go_big_quiet_op; apply Exists.intro; refine ⟨fun x => ?_, ?_⟩; (· refine (C0.out _).mono ?_; rintro e x2 ⟨rfl, hb⟩; exact ⟨rfl, x.ext hb⟩); go_big_quiet_on; have tq1 : True := trivial; clear _t tq0)
        | (have _t := tq1; refine qAt 133 rfl ?_; go_big_quiet_want; go_big_quiet_op; apply Exists.intro; refine ⟨fun x => ?_, ?_⟩; (· refine (C1.out _).mono ?_; rintro e x2 ⟨rfl, hb⟩; exact ⟨rfl, x.ext hb⟩); go_big_quiet_on; have tq2 : True := trivial; clear _t tq1)
        | (go_big_quiet_want; go_big_quiet_op; go_big_quiet_on))
      refine wpQuiet_nil ?_
      rintro w9 ⟨⟨x9, h9⟩, rfl⟩
      have hb9 := below_ext HB.out h9
      clear h9
      go_wp2
      go_ret
      exact ⟨rfl, hb9⟩
set_option maxRecDepth 100000 in
set_option maxHeartbeats 2000000 in
theorem May_E3 (k c0 c1 h : Nat) (s r : Int) (st : List Int) (cu : Int) (go : Bool) (HL : Hid (st.length = 16)) (k3 : 3 ≤ k) (k16 : k ≤ 16) (b0 : c0 ≤ 16) (b1 : c1 ≤ 16) (b2 : h ≤ 16) (h1 : 0 ≤ cu) (h2 : cu < s) (hz : Hid (∀ j : Nat, j < 16 - k → rd (st.drop k) (j : Int) = 0)) (h16 : c0 + c1 + h = 16) (hh : 1 < h)
    (PG : Hid (∀ w : World, Calls Try.prog 126 #[geo (k : Int) s r] w fun e w' => e = .returned (.bool true) ∧ Below w.heap.size w w'))
    (C2 : Hid (∀ w : World, Calls Try.prog 133 #[ros ⟨(k : Int), s, r, st, cu, go⟩, .int .u8 2] w fun e w' => e = .returned (.int .i64 (h : Int)) ∧ Below w.heap.size w w'))
    (C0 : Hid (∀ w : World, Calls Try.prog 133 #[ros ⟨(k : Int), s, r, st, cu, go⟩, .int .u8 0] w fun e w' => e = .returned (.int .i64 (c0 : Int)) ∧ Below w.heap.size w w'))
    (C1 : Hid (∀ w : World, Calls Try.prog 133 #[ros ⟨(k : Int), s, r, st, cu, go⟩, .int .u8 1] w fun e w' => e = .returned (.int .i64 (c1 : Int)) ∧ Below w.heap.size w w')) (w : World) : Calls Try.prog 89 #[ros ⟨(k : Int), s, r, st, cu, go⟩] w fun e w' => e = .returned (.bool false) ∧ Below w.heap.size w w' := by
  have HB := Lib.hid (Below.refl w.heap.size w)
  have g1 : decide (cu < 0) = false := by simp; omega
  have g2 : decide (s ≤ cu) = false := by simp; omega
  have gs : ((c0 : Int) + (c1 : Int) + (h : Int) == 16) = true := by rw [beq_iff_eq]; omega
  have gh : ((h : Int) == 1) = false := by rw [beq_eq_false_iff_ne]; omega
  have gh0 : ((h : Int) == 0) = false := by rw [beq_eq_false_iff_ne]; omega
  go_enter Try.func89, Try.ntmps89
  go_wp2_with (first
    | (go_skip)
    | (refine rosBox (.tmp 0) rfl rfl HL.out rfl ?_; intro w1 hk hb hz1; have K1 := Lib.hid hk; replace HB := Lib.hid (below_ext HB.out hb); clear hk hb)
    | (refine geoLoad (.tmp 6) rfl K1.out rfl rfl ?_)
    | (go_at_call 126; refine (PG.out _).mono ?_; rintro e w2 ⟨rfl, hb⟩; replace K1 := Lib.hid (K1.out.below hb); replace HB := Lib.hid (below_ext HB.out hb); have hz2 := hb.size; clear hb)
    | (refine F.rowCell _ (.tmp 11) rfl K1.out.cu_ rfl agg_int rfl ?_)
    | (refine F.rowCell _ (.tmp 16) rfl K1.out.cu_ rfl agg_int rfl ?_)
    | (refine F.rowCell _ (.tmp 19) rfl K1.out.s_ rfl agg_int rfl ?_)
    | (refine F.rowCell _ (.tmp 25) rfl K1.out.m_ rfl agg_int rfl ?_)
    | (refine stsSlice (.tmp 23) (.tmp 26) rfl rfl rfl k16 rfl ?_; intro A hA; have HR := Lib.hid (hA _ _ K1.out); clear hA))
  have D0 : ∃ D, D = st.drop k := ⟨_, rfl⟩
  obtain ⟨D, hD⟩ := D0
  have HR2 : Hid (ReadsInt w2 .u8 A (16 - k) D) := Lib.hid (by rw [hD]; exact HR.out)
  replace hz := Lib.hid (show ∀ j : Nat, j < 16 - k → rd D (j : Int) = 0 from by rw [hD]; exact hz.out)
  clear HR hD
  go_loopw [29] (fun i wr => ∃ q : Nat, q ≤ 16 - k ∧ i = .int .i64 (q : Int) ∧ Hid (∀ j : Nat, j < q → rd D (j : Int) = 0) ∧ Hid (ReadsInt wr .u8 A (16 - k) D) ∧ Hid (Ros wr w.heap.size ⟨(k : Int), s, r, st, cu, go⟩) ∧ Hid (Below w.heap.size w wr)) (fun i _ => 16 - (intOf i).toNat)
  case atStart => exact ⟨0, by omega, rfl, Lib.hid (fun j h => absurd h (by omega)), HR2, K1, HB⟩
  case round =>
    clear HR2 K1 HB
    obtain ⟨q, hq, rfl, HA, HR, K1, HB⟩ := hrel
    have hi0 : (0 : Int) ≤ (q : Int) := by omega
    by_cases hlt : q < 16 - k
    · obtain ⟨ax, rfl, cx⟩ := HR.out.at_ (q : Int) (by omega) (by omega)
      simp only [Int.toNat_natCast] at cx
      by_cases he : rd D q = 0
      · have hb : (rd D q != 0) = false := by simp [he]
        have HE := Lib.hid he
        clear he
        go_wp2
        go_roundw
        case rel =>
          refine ⟨q + 1, by omega, by go_num, Lib.hid (fun j h1 => ?_), HR, K1, HB⟩
          rcases Nat.lt_or_ge j q with h | h
          · exact HA.out j h
          · obtain rfl : j = q := by omega
            exact HE.out
        case measure => simp [intOf]; omega
      · exact absurd (hz.out q hlt) he
    · obtain rfl : q = 16 - k := by omega
      clear HA HR hz
      go_wp2_with (first
        | (refine rosLoad (.tmp 1) rfl K1.out rfl rfl ?_)
        | (go_at_call 133; refine (C2.out _).mono ?_; rintro e w5 ⟨rfl, hb⟩; replace K1 := Lib.hid (K1.out.below hb); replace HB := Lib.hid (below_ext HB.out hb); clear hb C2))
      have qK1 := K1.out.later
      have tq0 : True := trivial
      refine wp_region_cls (fun w9 => ∃ x : Later w5, w9 = x.w) (by kernel_rfl) (by kernel_rfl) (Later.drew _) ?_
      repeat (first
        | go_big_quiet_skip
        | (refine qRosLoad (.tmp 1) rfl HL.out qK1 rfl rfl ?_; simp only [Act.put, List.setIfInBounds_toArray, List.set_cons_zero, List.set_cons_succ])
        | (refine qCell _ (.tmp 53) rfl (fun w hC => (qK1 w hC).cu_) rfl agg_int rfl ?_; simp only [Act.put, List.setIfInBounds_toArray, List.set_cons_zero, List.set_cons_succ])
        | (have _t := tq0; refine qAt 133 rfl ?_; go_big_quiet_want; go_big_quiet_op; apply Exists.intro; refine ⟨fun x => ?_, ?_⟩; (· refine (C0.out _).mono ?_; rintro e x2 ⟨rfl, hb⟩; exact ⟨rfl, x.ext hb⟩); go_big_quiet_on; have tq1 : True := trivial; clear _t tq0)
        | (have _t := tq1; refine qAt 133 rfl ?_; go_big_quiet_want; go_big_quiet_op; apply Exists.intro; refine ⟨fun x => ?_, ?_⟩; (· refine (C1.out _).mono ?_; rintro e x2 ⟨rfl, hb⟩; exact ⟨rfl, x.ext hb⟩); go_big_quiet_on; have tq2 : True := trivial; clear _t tq1)
        | (go_big_quiet_want; go_big_quiet_op; go_big_quiet_on))
      refine wpQuiet_nil ?_
      rintro w9 ⟨⟨x9, h9⟩, rfl⟩
      have hb9 := below_ext HB.out h9
      clear h9
      go_wp2
      go_ret
      exact ⟨rfl, hb9⟩
set_option maxRecDepth 100000 in
set_option maxHeartbeats 2000000 in
theorem May_E4 (k c0 c1 h : Nat) (s r : Int) (st : List Int) (cu : Int) (go : Bool) (HL : Hid (st.length = 16)) (k3 : 3 ≤ k) (k16 : k ≤ 16) (b0 : c0 ≤ 16) (b1 : c1 ≤ 16) (b2 : h ≤ 16) (h1 : 0 ≤ cu) (h2 : cu < s) (hz : Hid (∀ j : Nat, j < 16 - k → rd (st.drop k) (j : Int) = 0)) (h16 : c0 + c1 + h = 16) (hh : h = 0) (z : Bool) (hc : (cu == 0) = z)
    (PG : Hid (∀ w : World, Calls Try.prog 126 #[geo (k : Int) s r] w fun e w' => e = .returned (.bool true) ∧ Below w.heap.size w w'))
    (C2 : Hid (∀ w : World, Calls Try.prog 133 #[ros ⟨(k : Int), s, r, st, cu, go⟩, .int .u8 2] w fun e w' => e = .returned (.int .i64 (h : Int)) ∧ Below w.heap.size w w'))
    (C0 : Hid (∀ w : World, Calls Try.prog 133 #[ros ⟨(k : Int), s, r, st, cu, go⟩, .int .u8 0] w fun e w' => e = .returned (.int .i64 (c0 : Int)) ∧ Below w.heap.size w w'))
    (C1 : Hid (∀ w : World, Calls Try.prog 133 #[ros ⟨(k : Int), s, r, st, cu, go⟩, .int .u8 1] w fun e w' => e = .returned (.int .i64 (c1 : Int)) ∧ Below w.heap.size w w')) (w : World) : Calls Try.prog 89 #[ros ⟨(k : Int), s, r, st, cu, go⟩] w fun e w' => e = .returned (.bool z) ∧ Below w.heap.size w w' := by
  have HB := Lib.hid (Below.refl w.heap.size w)
  have g1 : decide (cu < 0) = false := by simp; omega
  have g2 : decide (s ≤ cu) = false := by simp; omega
  have gs : ((c0 : Int) + (c1 : Int) + (h : Int) == 16) = true := by rw [beq_iff_eq]; omega
  have gh : ((h : Int) == 1) = false := by rw [beq_eq_false_iff_ne]; omega
  have gh0 : ((h : Int) == 0) = true := by rw [beq_iff_eq]; omega
  clear hh
  go_enter Try.func89, Try.ntmps89
  go_wp2_with (first
    | (go_skip)
    | (refine rosBox (.tmp 0) rfl rfl HL.out rfl ?_; intro w1 hk hb hz1; have K1 := Lib.hid hk; replace HB := Lib.hid (below_ext HB.out hb); clear hk hb)
    | (refine geoLoad (.tmp 6) rfl K1.out rfl rfl ?_)
    | (go_at_call 126; refine (PG.out _).mono ?_; rintro e w2 ⟨rfl, hb⟩; replace K1 := Lib.hid (K1.out.below hb); replace HB := Lib.hid (below_ext HB.out hb); have hz2 := hb.size; clear hb)
    | (refine F.rowCell _ (.tmp 11) rfl K1.out.cu_ rfl agg_int rfl ?_)
    | (refine F.rowCell _ (.tmp 16) rfl K1.out.cu_ rfl agg_int rfl ?_)
    | (refine F.rowCell _ (.tmp 19) rfl K1.out.s_ rfl agg_int rfl ?_)
    | (refine F.rowCell _ (.tmp 25) rfl K1.out.m_ rfl agg_int rfl ?_)
    | (refine stsSlice (.tmp 23) (.tmp 26) rfl rfl rfl k16 rfl ?_; intro A hA; have HR := Lib.hid (hA _ _ K1.out); clear hA))
  have D0 : ∃ D, D = st.drop k := ⟨_, rfl⟩
  obtain ⟨D, hD⟩ := D0
  have HR2 : Hid (ReadsInt w2 .u8 A (16 - k) D) := Lib.hid (by rw [hD]; exact HR.out)
  replace hz := Lib.hid (show ∀ j : Nat, j < 16 - k → rd D (j : Int) = 0 from by rw [hD]; exact hz.out)
  clear HR hD
  go_loopw [29] (fun i wr => ∃ q : Nat, q ≤ 16 - k ∧ i = .int .i64 (q : Int) ∧ Hid (∀ j : Nat, j < q → rd D (j : Int) = 0) ∧ Hid (ReadsInt wr .u8 A (16 - k) D) ∧ Hid (Ros wr w.heap.size ⟨(k : Int), s, r, st, cu, go⟩) ∧ Hid (Below w.heap.size w wr)) (fun i _ => 16 - (intOf i).toNat)
  case atStart => exact ⟨0, by omega, rfl, Lib.hid (fun j h => absurd h (by omega)), HR2, K1, HB⟩
  case round =>
    clear HR2 K1 HB
    obtain ⟨q, hq, rfl, HA, HR, K1, HB⟩ := hrel
    have hi0 : (0 : Int) ≤ (q : Int) := by omega
    by_cases hlt : q < 16 - k
    · obtain ⟨ax, rfl, cx⟩ := HR.out.at_ (q : Int) (by omega) (by omega)
      simp only [Int.toNat_natCast] at cx
      by_cases he : rd D q = 0
      · have hb : (rd D q != 0) = false := by simp [he]
        have HE := Lib.hid he
        clear he
        go_wp2
        go_roundw
        case rel =>
          refine ⟨q + 1, by omega, by go_num, Lib.hid (fun j h1 => ?_), HR, K1, HB⟩
          rcases Nat.lt_or_ge j q with h | h
          · exact HA.out j h
          · obtain rfl : j = q := by omega
            exact HE.out
        case measure => simp [intOf]; omega
      · exact absurd (hz.out q hlt) he
    · obtain rfl : q = 16 - k := by omega
      clear HA HR hz
      go_wp2_with (first
        | (refine rosLoad (.tmp 1) rfl K1.out rfl rfl ?_)
        | (go_at_call 133; refine (C2.out _).mono ?_; rintro e w5 ⟨rfl, hb⟩; replace K1 := Lib.hid (K1.out.below hb); replace HB := Lib.hid (below_ext HB.out hb); clear hb C2))
      have qK1 := K1.out.later
      have tq0 : True := trivial
      refine wp_region_cls (fun w9 => ∃ x : Later w5, w9 = x.w) (by kernel_rfl) (by kernel_rfl) (Later.drew _) ?_
      repeat (first
        | go_big_quiet_skip
        | (refine qRosLoad (.tmp 1) rfl HL.out qK1 rfl rfl ?_; simp only [Act.put, List.setIfInBounds_toArray, List.set_cons_zero, List.set_cons_succ])
        | (refine qCell _ (.tmp 53) rfl (fun w hC => (qK1 w hC).cu_) rfl agg_int rfl ?_; simp only [Act.put, List.setIfInBounds_toArray, List.set_cons_zero, List.set_cons_succ])
        | (have _t := tq0; refine qAt 133 rfl ?_; go_big_quiet_want; go_big_quiet_op; apply Exists.intro; refine ⟨fun x => ?_, ?_⟩; (· refine (C0.out _).mono ?_; rintro e x2 ⟨rfl, hb⟩; exact ⟨rfl, x.ext hb⟩); go_big_quiet_on; have tq1 : True := trivial; clear _t tq0)
        | (have _t := tq1; refine qAt 133 rfl ?_; go_big_quiet_want; go_big_quiet_op; apply Exists.intro; refine ⟨fun x => ?_, ?_⟩; (· refine (C1.out _).mono ?_; rintro e x2 ⟨rfl, hb⟩; exact ⟨rfl, x.ext hb⟩); go_big_quiet_on; have tq2 : True := trivial; clear _t tq1)
        | (go_big_quiet_want; go_big_quiet_op; go_big_quiet_on))
      refine wpQuiet_nil ?_
      rintro w9 ⟨⟨x9, h9⟩, rfl⟩
      have hb9 := below_ext HB.out h9
      clear h9
      go_wp2
      go_ret
      exact ⟨rfl, hb9⟩
end Go.Proofs.Ytdchcggllcgokaa.Q

namespace Go.Proofs.Ytdchcggllcgokaa.Q
open Go.RowKit Go.Proofs.Ytdchcggllcgokaa.L Go.Proofs.Ytdchcggllcgokaa.R Go.Proofs.YtdchcggllcgokaaW.PrintWords
set_option linter.unusedVariables false
set_option linter.unusedSimpArgs false
/-- may a roster be? -/
def okR (x : Ro) : Prop := mayG x.m x.s x.r = true ∧ 0 ≤ x.cu ∧ x.cu < x.s ∧ (∀ i, i < 16 → (rd x.st (i : Nat) ≤ 2 ∧ (x.m ≤ (i : Int) → rd x.st (i : Nat) = 0))) ∧ (cnt x.st 2 16 = 1 ∨ (cnt x.st 2 16 = 0 ∧ x.cu = 0))
noncomputable def mayR (x : Ro) : Bool := @decide (okR x) (Classical.propDecidable _)
theorem mayR_iff (x : Ro) : mayR x = true ↔ okR x := by
  unfold mayR
  exact @decide_eq_true_iff (okR x) (Classical.propDecidable _)
theorem bool_no {z : Bool} {p : Prop} (h : z = true ↔ p) (hn : ¬ p) : z = false := by
  cases z with
  | false => rfl
  | true => exact absurd (h.1 rfl) hn
def Wf (x : Ro) : Prop := x.st.length = 16 ∧ ∀ v ∈ x.st, (Lit.int .u8 v).wf = true
theorem rd_nn {x : Ro} (h : Wf x) (i : Nat) : 0 ≤ rd x.st (i : Int) ∧ rd x.st (i : Int) < 256 := by
  by_cases hi : i < x.st.length
  · have h2 := h.2 x.st[i] (List.getElem_mem hi)
    have h3 := bounds_u8 h2
    have h4 : rd x.st (i : Int) = x.st[i] := by rw [rd, Int.toNat_natCast, List.getD_eq_getElem?_getD, List.getElem?_eq_getElem hi, Option.getD_some]
    rw [h4]; omega
  · have h4 : rd x.st (i : Int) = 0 := by rw [rd, Int.toNat_natCast, List.getD_eq_getElem?_getD, List.getElem?_eq_none (by omega), Option.getD_none]
    rw [h4]; omega
/-- counts of the three states make all just if each is one of them -/
theorem cnt_all {x : Ro} (h : Wf x) : ∀ q, cnt x.st 0 q + cnt x.st 1 q + cnt x.st 2 q ≤ q ∧ (cnt x.st 0 q + cnt x.st 1 q + cnt x.st 2 q = q ↔ ∀ i, i < q → rd x.st (i : Nat) ≤ 2)
  | 0 => by simp [cnt_0]
  | q + 1 => by
    obtain ⟨h1, h2⟩ := cnt_all h q
    have hb := rd_nn h q
    rw [cnt_succ, cnt_succ, cnt_succ]
    have h3 : (∀ i, i < q + 1 → rd x.st (i : Nat) ≤ 2) ↔ ((∀ i, i < q → rd x.st (i : Nat) ≤ 2) ∧ rd x.st (q : Nat) ≤ 2) := by
      constructor
      · intro h; exact ⟨fun i hi => h i (by omega), h q (by omega)⟩
      · rintro ⟨h, h5⟩ i hi
        rcases Nat.lt_or_ge i q with h6 | h6
        · exact h i h6
        · obtain rfl : i = q := by omega
          exact h5
    rw [h3]
    by_cases e0 : rd x.st (q : Int) = 0
    · rw [if_pos e0, if_neg (by omega), if_neg (by omega)]
      exact ⟨by omega, ⟨fun h => ⟨h2.1 (by omega), by omega⟩, fun h => by have := h2.2 h.1; omega⟩⟩
    · by_cases e1 : rd x.st (q : Int) = 1
      · rw [if_neg e0, if_pos e1, if_neg (by omega)]
        exact ⟨by omega, ⟨fun h => ⟨h2.1 (by omega), by omega⟩, fun h => by have := h2.2 h.1; omega⟩⟩
      · by_cases e2 : rd x.st (q : Int) = 2
        · rw [if_neg e0, if_neg e1, if_pos e2]
          exact ⟨by omega, ⟨fun h => ⟨h2.1 (by omega), by omega⟩, fun h => by have := h2.2 h.1; omega⟩⟩
        · rw [if_neg e0, if_neg e1, if_neg e2]
          exact ⟨by omega, ⟨fun h => by omega, fun h => by omega⟩⟩
theorem May_any (x : Ro) (hx : Wf x) (w : World) : Calls Try.prog 89 #[ros x] w fun e w' => e = .returned (.bool (mayR x)) ∧ Below w.heap.size w w' := by
  have hl := hx.1
  have pg := fun w => gMay_any x.m x.s x.r w
  have q0 := fun w => count_any x hl 0 w
  have q1 := fun w => count_any x hl 1 w
  have q2 := fun w => count_any x hl 2 w
  have hall := cnt_all hx 16
  have hr := mayR_iff x
  have b0 := cnt_le x.st 0 16
  have b1 := cnt_le x.st 1 16
  have b2 := cnt_le x.st 2 16
  unfold okR at hr
  generalize mayR x = z at hr ⊢
  obtain ⟨m, s, r, st, cu, go⟩ := x
  simp only at *
  by_cases hG : mayG m s r = true
  · obtain ⟨m1, m2, s1, s2, r1, r2⟩ := mayG_ok hG
    rw [hG] at pg
    obtain ⟨k, rfl⟩ : ∃ k : Nat, m = k := ⟨m.toNat, by omega⟩
    by_cases h1 : cu < 0
    · obtain rfl := bool_no hr (by intro h; have := h.2.1; omega)
      exact May_B (k : Int) s r st cu go (Lib.hid hl) h1 (Lib.hid pg) w
    by_cases h2 : s ≤ cu
    · obtain rfl := bool_no hr (by intro h; have := h.2.2.1; omega)
      exact May_C (k : Int) s r st cu go (Lib.hid hl) (by omega) h2 (Lib.hid pg) w
    by_cases hz : ∀ j : Nat, j < 16 - k → rd (st.drop k) (j : Int) = 0
    · have hz2 : ∀ i : Nat, i < 16 → ((k : Int) ≤ (i : Int) → rd st (i : Int) = 0) := fun i hi hk => by
        have h3 := hz (i - k) (by omega)
        rw [rd_drop, show k + (i - k) = i by omega] at h3
        exact h3
      generalize cnt st 0 16 = c0 at *
      generalize cnt st 1 16 = c1 at *
      generalize cnt st 2 16 = h at *
      by_cases h16 : c0 + c1 + h = 16
      · have hle := hall.2.1 h16
        have hr2 : z = true ↔ (h = 1 ∨ (h = 0 ∧ cu = 0)) := hr.trans ⟨fun h => h.2.2.2.2, fun h => ⟨hG, by omega, by omega, fun i hi => ⟨hle i hi, hz2 i hi⟩, h⟩⟩
        by_cases hh1 : h = 1
        · obtain rfl : z = true := hr2.2 (.inl hh1)
          exact May_E2 k c0 c1 h s r st cu go (Lib.hid hl) (by omega) (by omega) b0 b1 b2 (by omega) (by omega) (Lib.hid hz) h16 hh1 (Lib.hid pg) (Lib.hid q2) (Lib.hid q0) (Lib.hid q1) w
        by_cases hh0 : h = 0
        · have hzz : (cu == 0) = z := by rw [Bool.eq_iff_iff, hr2, beq_iff_eq]; exact ⟨fun h => .inr ⟨hh0, h⟩, fun h => by rcases h with h | h; exact absurd h hh1; exact h.2⟩
          exact May_E4 k c0 c1 h s r st cu go (Lib.hid hl) (by omega) (by omega) b0 b1 b2 (by omega) (by omega) (Lib.hid hz) h16 hh0 z hzz (Lib.hid pg) (Lib.hid q2) (Lib.hid q0) (Lib.hid q1) w
        · obtain rfl := bool_no hr2 (by omega)
          exact May_E3 k c0 c1 h s r st cu go (Lib.hid hl) (by omega) (by omega) b0 b1 b2 (by omega) (by omega) (Lib.hid hz) h16 (by omega) (Lib.hid pg) (Lib.hid q2) (Lib.hid q0) (Lib.hid q1) w
      · obtain rfl := bool_no hr (fun h => h16 (hall.2.2 fun i hi => (h.2.2.2.1 i hi).1))
        exact May_E1 k c0 c1 h s r st cu go (Lib.hid hl) (by omega) (by omega) b0 b1 b2 (by omega) (by omega) (Lib.hid hz) h16 (Lib.hid pg) (Lib.hid q2) (Lib.hid q0) (Lib.hid q1) w
    · obtain rfl := bool_no hr (by
        intro h
        exact hz fun j hj => by rw [rd_drop]; exact (h.2.2.2.1 (k + j) (by omega)).2 (by omega))
      exact May_D k s r st cu go (Lib.hid hl) (by omega) (by omega) (by omega) (by omega) (Lib.hid hz) (Lib.hid pg) w
  · have hG' : mayG m s r = false := by simpa using hG
    rw [hG'] at pg
    obtain rfl := bool_no hr (fun h => hG h.1)
    exact May_A m s r st cu go (Lib.hid hl) (Lib.hid pg) w
end Go.Proofs.Ytdchcggllcgokaa.Q

namespace Go.Proofs.Ytdchcggllcgokaa.Q
open Go.RowKit Go.Proofs.Ytdchcggllcgokaa.L Go.Proofs.Ytdchcggllcgokaa.R Go.Proofs.YtdchcggllcgokaaW.PrintWords
set_option linter.unusedVariables false
set_option linter.unusedSimpArgs false
theorem part_plain {P : Program} {t : TypeId} (hag : ∀ w : World, (isAgg t).run P w = .ok false w) {cs : Array Value} {o : Nat} {v : Value} (h : cs[o]? = some v) (w : World) : (part t cs o).run P w = .ok v w := by
  simp [part, hag, h]
theorem part_agg {P : Program} {t : TypeId} {n : Nat} (hag : ∀ w : World, (isAgg t).run P w = .ok true w) (hsz : ∀ w : World, (sizeOf t).run P w = .ok n w) {cs ds : Array Value} {o : Nat} (h : cs.extract o (o + n) = ds) (w : World) : (part t cs o).run P w = .ok (.agg ds) w := by
  simp [part, hag, hsz, h]
theorem agg_geo (w : World) : (isAgg 68).run Try.prog w = .ok true w := by kernel_rfl
theorem agg_sts (w : World) : (isAgg 70).run Try.prog w = .ok true w := by kernel_rfl
theorem size_geo (w : World) : (sizeOf 68).run Try.prog w = .ok 3 w := by kernel_rfl
theorem size_sts (w : World) : (sizeOf 70).run Try.prog w = .ok 16 w := by kernel_rfl
theorem ex_geo (x : Ro) : (rosL x).toArray.extract 0 (0 + 3) = #[.int .i64 x.m, .int .i64 x.s, .int .i64 x.r] := by
  simp [rosL]
theorem ex_sts {x : Ro} (h : x.st.length = 16) : (rosL x).toArray.extract 3 (3 + 16) = (nums .u8 x.st).toArray := by
  have hn : (nums .u8 x.st).length = 16 := by rw [nums_length, h]
  simp [rosL, hn]
theorem run_eqg (d : Nat) (w : World) (m s r m' s' r' : Int) : (Op.equalIn (d + 2) 68 (.agg #[.int .i64 m, .int .i64 s, .int .i64 r]) (.agg #[.int .i64 m', .int .i64 s', .int .i64 r'])).run Try.prog w = .ok (m == m' && (s == s' && r == r')) w := by
  refine eqA_of Try.underlying68 (by kernel_rfl) ?_
  refine eqf_cons rfl (part_plain agg_int rfl w) (part_plain agg_int rfl w) (run_equalIn_int w _ _ _ .i64 _ _ Try.underlying3) ?_
  refine eqf_cons rfl (part_plain agg_int rfl w) (part_plain agg_int rfl w) (run_equalIn_int w _ _ _ .i64 _ _ Try.underlying3) ?_
  exact eqf_last rfl (part_plain agg_int rfl w) (part_plain agg_int rfl w) (run_equalIn_int w _ _ _ .i64 _ _ Try.underlying3)
def eqR (x y : Ro) : Bool := (x.m == y.m && (x.s == y.s && x.r == y.r)) && (decide (x.st = y.st) && (x.cu == y.cu && x.go == y.go))
theorem run_eqr (w : World) {x y : Ro} (hx : x.st.length = 16) (hy : y.st.length = 16) : (Op.equalIn 10000 72 (ros x) (ros y)).run Try.prog w = .ok (eqR x y) w := by
  unfold ros eqR
  refine eqA_of Try.underlying72 (by kernel_rfl) ?_
  refine eqf_cons rfl (part_agg agg_geo size_geo (ex_geo x) w) (part_agg agg_geo size_geo (ex_geo y) w) (run_eqg 9997 w _ _ _ _ _ _) ?_
  refine eqf_cons rfl (part_agg agg_sts size_sts (ex_sts hx) w) (part_agg agg_sts size_sts (ex_sts hy) w) (run_equalIn_ints w 9997 _ _ 16 .u8 Try.underlying70 R.under_u8 R.size_u8 x.st y.st hx hy) ?_
  refine eqf_cons rfl (part_plain agg_int (by simpa using at_cu hx) w) (part_plain agg_int (by simpa using at_cu hy) w) (run_equalIn_int w _ _ _ .i64 _ _ Try.underlying3) ?_
  exact eqf_last rfl (part_plain agg_bool (by simpa using at_go hx) w) (part_plain agg_bool (by simpa using at_go hy) w) (run_equalIn_bool' w _ _ _ _ Try.underlying4)
theorem eqR_iff (x y : Ro) : eqR x y = true ↔ x = y := by
  obtain ⟨m, s, r, st, cu, go⟩ := x
  obtain ⟨m', s', r', st', cu', go'⟩ := y
  simp [eqR]
  constructor
  · rintro ⟨⟨rfl, rfl, rfl⟩, rfl, rfl, rfl⟩; exact ⟨rfl, rfl, rfl, rfl, rfl, rfl⟩
  · rintro ⟨rfl, rfl, rfl, rfl, rfl, rfl⟩; exact ⟨⟨rfl, rfl, rfl⟩, rfl, rfl, rfl⟩
theorem guard_ros : Try.prog.eqGuardType Try.prog.depth 72 = false := by kernel_rfl
theorem run_rosEql (x y : Operand) (t : TypeId) {A : Act} {op : Oper} (ho : op.op = .binOp .eql 72 x y t) {u v : Ro} (hx : A.eval x = ros u) (hy : A.eval y = ros v) (hu : u.st.length = 16) (hv : v.st.length = 16) (b : Bool) (hb : eqR u v = b) (w : World) :
    (execOp A.eval op).run Try.prog w = .ok (.value (.bool b)) w := by
  subst hb
  have h1 : (eqGuard .eql 72 x y (ros u) (ros v)).run Try.prog w = .ok () w := run_eqGuard_agg w .eql _ x y _ _ guard_ros
  have h2 : (binOp .eql 72 (ros u) (ros v)).run Try.prog w = .ok (.bool (eqR u v)) w := by
    unfold ros
    rw [run_eql_struct]
    have h3 := run_eqr w hu hv
    unfold ros at h3
    rw [h3]; rfl
  unfold execOp
  simp only [ho, hx, hy, Sem.run_bind, Sem.run_map, h1, h2, Result.andThen_ok, Sem.run_pure]
theorem run_rosNeq (x y : Operand) (t : TypeId) {A : Act} {op : Oper} (ho : op.op = .binOp .neq 72 x y t) {u v : Ro} (hx : A.eval x = ros u) (hy : A.eval y = ros v) (hu : u.st.length = 16) (hv : v.st.length = 16) (b : Bool) (hb : (!eqR u v) = b) (w : World) :
    (execOp A.eval op).run Try.prog w = .ok (.value (.bool b)) w := by
  subst hb
  have h1 : (eqGuard .neq 72 x y (ros u) (ros v)).run Try.prog w = .ok () w := run_eqGuard_agg w .neq _ x y _ _ guard_ros
  have h2 : (binOp .neq 72 (ros u) (ros v)).run Try.prog w = .ok (.bool (!eqR u v)) w := by
    unfold ros
    rw [run_neq_struct]
    have h3 := run_eqr w hu hv
    unfold ros at h3
    rw [h3]; rfl
  unfold execOp
  simp only [ho, hx, hy, Sem.run_bind, Sem.run_map, h1, h2, Result.andThen_ok, Sem.run_pure]
theorem may_m {x : Ro} (h : mayR x = true) : 3 ≤ x.m ∧ x.m ≤ 16 ∧ 1 ≤ x.s ∧ x.s ≤ 64 ∧ 0 ≤ x.cu ∧ x.cu < x.s := by
  have h1 := (mayR_iff x).1 h
  have h2 := mayG_ok h1.1
  exact ⟨h2.1, h2.2.1, h2.2.2.1, h2.2.2.2.1, h1.2.1, h1.2.2.1⟩
theorem rd_set {l : List Int} {i : Nat} (hi : i < l.length) (v : Int) (j : Nat) : rd (l.set i v) (j : Int) = if j = i then v else rd l (j : Int) := by
  rw [rd, rd, Int.toNat_natCast, List.getD_eq_getElem?_getD, List.getD_eq_getElem?_getD]
  by_cases h : j = i
  · subst h; rw [if_pos rfl, List.getElem?_set_self hi]; rfl
  · rw [if_neg h, List.getElem?_set_ne (by omega)]
theorem set_rd {l : List Int} {i : Nat} (hi : i < l.length) {v : Int} (h : rd l (i : Int) = v) : l.set i v = l := by
  rw [rd, Int.toNat_natCast, List.getD_eq_getElem?_getD, List.getElem?_eq_getElem hi, Option.getD_some] at h
  subst h
  exact List.set_getElem_self _
theorem Wf.set {x : Ro} (h : Wf x) (i : Nat) {v : Int} (hv : (Lit.int .u8 v).wf = true) (cu : Int) (go : Bool) : Wf { x with st := x.st.set i v, cu := cu, go := go } := by
  refine ⟨by rw [List.length_set]; exact h.1, fun u hu => ?_⟩
  rcases List.mem_or_eq_of_mem_set hu with h1 | h1
  · exact h.2 u h1
  · subst h1; exact hv
theorem Wf_ro0 : Wf ro0 := ⟨zero16_length, fun v hv => by
  rw [List.eq_of_mem_replicate hv]; rfl⟩
theorem Wf_rog (m s r : Int) : Wf { ro0 with m := m, s := s, r := r } := ⟨zero16_length, fun v hv => by
  rw [List.eq_of_mem_replicate hv]; rfl⟩
theorem cnt_zero16 : cnt zero16 2 16 = 0 ∧ cnt zero16 0 16 = 16 := by decide
theorem rd_zero16 (i : Nat) : rd zero16 (i : Int) = 0 := by
  rw [rd, zero16, List.getD_eq_getElem?_getD, List.getElem?_replicate]
  split <;> rfl
theorem mayR_new (m s r : Int) : mayR { ro0 with m := m, s := s, r := r } = mayG m s r := by
  rw [Bool.eq_iff_iff, mayR_iff]
  unfold okR
  simp only [ro0]
  constructor
  · exact fun h => h.1
  · intro h
    have h1 := mayG_ok h
    exact ⟨h, Int.le_refl _, by omega, fun i _ => by rw [rd_zero16]; exact ⟨by decide, fun _ => rfl⟩, .inr ⟨cnt_zero16.1, trivial⟩⟩
section
variable {ops : Array Oper} {rest : List Oper} {op : Oper} {A : Act} {w : World} {Q : Exit → Act → World → Prop}
theorem valStep {v : Value} (hr : (execOp A.eval op).run Try.prog w = .ok (.value v) w) (hw : Region.wanted op (yielded ops A.tmps) = true) (h : wpList Try.prog ops Q rest (A.put op.dst v) w) : wpList Try.prog ops Q (op :: rest) A w := by
  refine wanted_step hw fun K hK => ?_
  unfold Oper.wp
  rw [hr]
  exact hK _ _ h
theorem rosEqlS (x y : Operand) (t : TypeId) (ho : op.op = .binOp .eql 72 x y t) {u v : Ro} (hx : A.eval x = ros u) (hy : A.eval y = ros v) (hu : u.st.length = 16) (hv : v.st.length = 16) (b : Bool) (hb : eqR u v = b)
    (hw : Region.wanted op (yielded ops A.tmps) = true) (h : wpList Try.prog ops Q rest (A.put op.dst (.bool b)) w) : wpList Try.prog ops Q (op :: rest) A w :=
  valStep (run_rosEql x y t ho hx hy hu hv b hb w) hw h
theorem rosNeqS (x y : Operand) (t : TypeId) (ho : op.op = .binOp .neq 72 x y t) {u v : Ro} (hx : A.eval x = ros u) (hy : A.eval y = ros v) (hu : u.st.length = 16) (hv : v.st.length = 16) (b : Bool) (hb : (!eqR u v) = b)
    (hw : Region.wanted op (yielded ops A.tmps) = true) (h : wpList Try.prog ops Q rest (A.put op.dst (.bool b)) w) : wpList Try.prog ops Q (op :: rest) A w :=
  valStep (run_rosNeq x y t ho hx hy hu hv b hb w) hw h
end
theorem eqR_self (x : Ro) : eqR x x = true := (eqR_iff x x).2 rfl
theorem neR_self (x : Ro) : (!eqR x x) = false := by rw [eqR_self]; rfl
end Go.Proofs.Ytdchcggllcgokaa.Q
