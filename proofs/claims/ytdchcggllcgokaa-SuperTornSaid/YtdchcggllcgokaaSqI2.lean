/-
  Superblocks by value: a number, a member, a roster; super.fine whole. super.May, ashlarref08.May, event: the walks, and whole.
-/
import Derived.Test.YtdchcggllcgokaaSqI1
import Derived.Test.YtdchcggllcgokaaSqF
namespace Go.Proofs.Ytdchcggllcgokaa.Q
open Go.RowKit Go.Proofs.Ytdchcggllcgokaa.L Go.Proofs.Ytdchcggllcgokaa.R Go.Proofs.YtdchcggllcgokaaW.PrintWords
set_option linter.unusedVariables false
set_option linter.unusedSimpArgs false
theorem sFine_any (x : Ro) (hx : Wf x) (w : World) : Calls Try.prog 144 #[ros x] w fun e w' => e = .returned (.bool (mayR x)) ∧ Below w.heap.size w w' := by
  have hl := hx.1
  have pg := fun w => gMay_any x.m x.s x.r w
  have hw := rd_nn hx
  have hr := mayR_iff x
  unfold okR at hr
  generalize mayR x = z at hr ⊢
  obtain ⟨m, s, r, st, cu, go⟩ := x
  simp only at *
  by_cases hG : mayG m s r = true
  · rw [hG] at pg
    by_cases hz : ∀ j : Nat, j < 16 → (rd st (j : Int) ≤ 2 ∧ (m ≤ (j : Int) → rd st (j : Int) = 0))
    · obtain ⟨h, hh⟩ : ∃ h, cnt st 2 16 = h := ⟨_, rfl⟩
      rw [hh] at hr
      by_cases h1 : 1 < h
      · obtain rfl := bool_no hr (by intro q; have := q.2.2.2.2; omega)
        exact sFine_C m s r st cu go (Lib.hid hl) (Lib.hid hw) h (Lib.hid hh) (Lib.hid hz) h1 (Lib.hid pg) w
      by_cases h2 : cu < 0
      · obtain rfl := bool_no hr (by intro q; have := q.2.1; omega)
        exact sFine_D m s r st cu go (Lib.hid hl) (Lib.hid hw) h (Lib.hid hh) (Lib.hid hz) (by omega) h2 (Lib.hid pg) w
      by_cases h3 : s ≤ cu
      · obtain rfl := bool_no hr (by intro q; have := q.2.2.1; omega)
        exact sFine_E m s r st cu go (Lib.hid hl) (Lib.hid hw) h (Lib.hid hh) (Lib.hid hz) (by omega) (by omega) h3 (Lib.hid pg) w
      have hr2 : z = true ↔ (h = 1 ∨ (h = 0 ∧ cu = 0)) := hr.trans ⟨fun q => q.2.2.2.2, fun q => ⟨hG, by omega, by omega, hz, q⟩⟩
      by_cases h4 : h = 1
      · obtain rfl : z = true := hr2.2 (.inl h4)
        exact sFine_F m s r st cu go (Lib.hid hl) (Lib.hid hw) h (Lib.hid hh) (Lib.hid hz) h4 (by omega) (by omega) (Lib.hid pg) w
      · have h5 : h = 0 := by omega
        have hzz : (cu == 0) = z := by rw [Bool.eq_iff_iff, hr2, beq_iff_eq]; exact ⟨fun q => .inr ⟨h5, q⟩, fun q => by rcases q with q | q; exact absurd q h4; exact q.2⟩
        exact sFine_G m s r st cu go (Lib.hid hl) (Lib.hid hw) h (Lib.hid hh) (Lib.hid hz) h5 (by omega) (by omega) z hzz (Lib.hid pg) w
    · obtain rfl := bool_no hr (fun q => hz q.2.2.2.1)
      exact sFine_B m s r st cu go (Lib.hid hl) (Lib.hid hw) (Lib.hid hz) (Lib.hid pg) w
  · have hG' : mayG m s r = false := by simpa using hG
    rw [hG'] at pg
    obtain rfl := bool_no hr (fun h => hG h.1)
    exact sFine_A m s r st cu go (Lib.hid hl) (Lib.hid hw) (Lib.hid pg) w
structure Su where
  id : Nat
  self : Int
  x : Ro
def supL (y : Su) : List Value := .int .u64 (y.id : Int) :: .int .i64 y.self :: rosL y.x
def sup (y : Su) : Value := .agg (supL y).toArray
def Sup (W : World) (g : Nat) (y : Su) : Prop := y.x.st.length = 16 ∧ Row 110 W g (supL y).toArray
def su0 : Su := ⟨0, 0, ro0⟩
theorem supL_length {y : Su} (h : y.x.st.length = 16) : (supL y).length = 23 := by rw [supL, List.length_cons, List.length_cons, rosL_length h]
theorem info_sup : (Try.prog.info? 110).map (·.size) = some 23 := by kernel_rfl
theorem info_u64 : (Try.prog.info? 33).map (·.size) = some 1 := by kernel_rfl
theorem agg_u64 (w : World) : (isAgg 33).run Try.prog w = .ok false w := by kernel_rfl
theorem zero_sup (w : World) : (zeroValue 110).run Try.prog w = .ok (sup su0) w := by kernel_rfl
theorem info_of_sup {y : Su} (h : y.x.st.length = 16) : (Try.prog.info? 110).map (·.size) = some (supL y).toArray.size := by
  rw [info_sup, List.size_toArray, supL_length h]
theorem ones_sup (y : Su) : (supL y).toArray.all (·.oneCell') = true := by
  have h := ones_ros y.x
  rw [Array.all_eq_true_iff_forall_mem] at h ⊢
  intro v hv
  simp only [supL, List.mem_toArray, List.mem_cons] at hv
  rcases hv with rfl | rfl | hv
  · rfl
  · rfl
  · exact h v (by simpa using hv)
theorem Sup.lt {W : World} {g : Nat} {y : Su} (h : Sup W g y) : g < W.heap.size := h.2.lt
theorem Sup.below {W W1 : World} {g : Nat} {y : Su} (h : Sup W g y) (hb : Below W.heap.size W W1) : Sup W1 g y := ⟨h.1, h.2.below hb⟩
theorem Sup.grown {W W1 : World} {g g' : Nat} {y : Su} (h : Sup W g' y) (hg : W.grownBy W1 (some g)) (hne : g' ≠ g) : Sup W1 g' y := ⟨h.1, h.2.grown hg hne⟩
theorem Sup.later {W : World} {g : Nat} {y : Su} (h : Sup W g y) : ∀ w', (∃ z : Later W, w' = z.w) → Sup w' g y := fun w' ⟨z, e⟩ => by rw [e]; exact h.below z.b
theorem Sup.cid {W : World} {g : Nat} {y : Su} (h : Sup W g y) : W.cell? ⟨g, 0, none⟩ = some (.int .u64 (y.id : Int)) := h.2.cell rfl
theorem Sup.cself {W : World} {g : Nat} {y : Su} (h : Sup W g y) : W.cell? ⟨g, 1, none⟩ = some (.int .i64 y.self) := h.2.cell rfl
theorem Sup.cm {W : World} {g : Nat} {y : Su} (h : Sup W g y) : W.cell? ⟨g, 2, none⟩ = some (.int .i64 y.x.m) := h.2.cell rfl
theorem Sup.cs {W : World} {g : Nat} {y : Su} (h : Sup W g y) : W.cell? ⟨g, 3, none⟩ = some (.int .i64 y.x.s) := h.2.cell rfl
theorem Sup.cr {W : World} {g : Nat} {y : Su} (h : Sup W g y) : W.cell? ⟨g, 4, none⟩ = some (.int .i64 y.x.r) := h.2.cell rfl
theorem sup_at (y : Su) (j : Nat) : (supL y)[2 + j]? = (rosL y.x)[j]? := by
  rw [show 2 + j = j + 1 + 1 by omega]; rfl
theorem Sup.cx {W : World} {g : Nat} {y : Su} (h : Sup W g y) {j : Nat} {v : Value} (hv : (rosL y.x)[j]? = some v) : W.cell? ⟨g, 2 + j, none⟩ = some v := h.2.cell (by rw [List.getElem?_toArray, sup_at]; exact hv)
theorem Sup.ci {W : World} {g : Nat} {y : Su} (h : Sup W g y) (i : Nat) (hi : i < 16) : W.cell? ⟨g, 2 + (3 + i), none⟩ = some (.int .u8 (rd y.x.st (i : Int))) := h.cx (at_st h.1 i hi)
theorem Sup.ccu {W : World} {g : Nat} {y : Su} (h : Sup W g y) : W.cell? ⟨g, 21, none⟩ = some (.int .i64 y.x.cu) := h.cx (j := 19) (at_cu h.1)
theorem Sup.cgo {W : World} {g : Nat} {y : Su} (h : Sup W g y) : W.cell? ⟨g, 22, none⟩ = some (.bool y.x.go) := h.cx (j := 20) (at_go h.1)
theorem Sup.ros {W : World} {g : Nat} {y : Su} (h : Sup W g y) : W.rangeAt g 2 (rosL y.x) := fun j v hv => h.cx hv
section
variable {ops : Array Oper} {rest : List Oper} {op : Oper} {a : Act} {w : World} {Q : Exit → Act → World → Prop}
theorem supLoad (x : Operand) (ho : op.op = .load 110 x) {g : Nat} {y : Su} (hk : Sup w g y) (hx : a.eval x = .pointer (some ⟨g, 0, none⟩)) (hw : Region.wanted op (yielded ops a.tmps) = true)
    (h : wpList Try.prog ops Q rest (a.put op.dst (sup y)) w) : wpList Try.prog ops Q (op :: rest) a w :=
  R.rowLoad hw _ x ho hk.2 hx Try.underlying110 rfl (info_of_sup hk.1) h
theorem supStore (x y : Operand) (ho : op.op = .store 110 x y) {g : Nat} {o z : Su} (hk : Sup w g o) (hx : a.eval x = .pointer (some ⟨g, 0, none⟩)) (hy : a.eval y = sup z) (hl : z.x.st.length = 16) (hw : Region.wanted op (yielded ops a.tmps) = true)
    (h : ∀ w1, Sup w1 g z → w.grownBy w1 (some g) → wpList Try.prog ops Q rest (a.put op.dst undef) w1) : wpList Try.prog ops Q (op :: rest) a w :=
  R.rowStore hw _ x y ho hk.2 hx hy (info_of_sup hl) (by rw [List.size_toArray, List.size_toArray, supL_length hk.1, supL_length hl]) (ones_sup z) fun w1 h1 h2 => h w1 ⟨hl, h1⟩ h2
theorem supAlloc (ho : op.op = .alloc 110) (hw : Region.wanted op (yielded ops a.tmps) = true)
    (h : ∀ w1, Sup w1 w.heap.size su0 → Below w.heap.size w w1 → w.heap.size < w1.heap.size → wpList Try.prog ops Q rest (a.put op.dst (.pointer (some ⟨w.heap.size, 0, none⟩))) w1) : wpList Try.prog ops Q (op :: rest) a w :=
  R.rowAlloc hw _ ho _ zero_sup fun w1 h1 h2 h3 => h w1 ⟨zero16_length, h1⟩ h2 h3
theorem supBox (x : Operand) (ho : op.op = .box 110 x) {y : Su} (hx : a.eval x = sup y) (hl : y.x.st.length = 16) (hw : Region.wanted op (yielded ops a.tmps) = true)
    (h : ∀ w1, Sup w1 w.heap.size y → Below w.heap.size w w1 → w.heap.size < w1.heap.size → wpList Try.prog ops Q rest (a.put op.dst (.pointer (some ⟨w.heap.size, 0, none⟩))) w1) : wpList Try.prog ops Q (op :: rest) a w :=
  R.rowBox hw _ x ho hx fun w1 h1 h2 h3 => h w1 ⟨hl, h1⟩ h2 h3
theorem supRos (x : Operand) (ho : op.op = .load 72 x) {g : Nat} {y : Su} (hk : Sup w g y) (hx : a.eval x = .pointer (some ⟨g, 2, none⟩)) (hw : Region.wanted op (yielded ops a.tmps) = true)
    (h : wpList Try.prog ops Q rest (a.put op.dst (ros y.x)) w) : wpList Try.prog ops Q (op :: rest) a w := by
  refine wanted_step hw fun K hK => ?_
  unfold Oper.wp execOp
  simp only [ho, hx, Instr.loadAt, Instr.sureAddr, Sem.run_bind, Sem.run_pure, Result.andThen_ok, run_loadVar_mid w g 2 72 _ _ hk.ros Try.underlying72 rfl (by rw [info_ros, rosL_length hk.1])]
  exact hK _ _ h
end
end Go.Proofs.Ytdchcggllcgokaa.Q

namespace Go.Proofs.Ytdchcggllcgokaa.Q
open Go.RowKit Go.Proofs.Ytdchcggllcgokaa.L Go.Proofs.Ytdchcggllcgokaa.R Go.Proofs.YtdchcggllcgokaaW.PrintWords
set_option linter.unusedVariables false
set_option linter.unusedSimpArgs false
theorem event_any (n : Nat) (z : Bool) (hz : decide (1 ≤ n ∧ n ≤ 4611686018427387904) = z) (w : World) : Calls Try.prog 138 #[.int .u64 (n : Int)] w fun e w' => e = .returned (.bool z) ∧ Below w.heap.size w w' := by
  subst hz
  by_cases h1 : 1 ≤ n
  · have g1 : decide (1 ≤ n) = true := by simpa using h1
    have g2 : decide ((1 : Int) ≤ (n : Int)) = true := by simp; omega
    go_enter Try.func138, Try.ntmps138
    go_wp2
    go_ret
    exact ⟨ret_b (by simp [h1]; try omega), Below.refl _ _⟩
  · have g1 : decide (1 ≤ n) = false := by simpa using h1
    have g2 : decide ((1 : Int) ≤ (n : Int)) = false := by simp; omega
    go_enter Try.func138, Try.ntmps138
    go_wp2
    go_ret
    exact ⟨ret_b (by simp [h1]), Below.refl _ _⟩
theorem revent_any (n : Nat) (z : Bool) (hz : decide (1 ≤ n ∧ n ≤ 4611686018427387904) = z) (w : World) : Calls Try.prog 140 #[.int .u64 (n : Int)] w fun e w' => e = .returned (.bool z) ∧ Below w.heap.size w w' := by
  subst hz
  by_cases h1 : 1 ≤ n
  · have g1 : decide (1 ≤ n) = true := by simpa using h1
    have g2 : decide ((1 : Int) ≤ (n : Int)) = true := by simp; omega
    go_enter Try.func140, Try.ntmps140
    go_wp2
    go_ret
    exact ⟨ret_b (by simp [h1]; try omega), Below.refl _ _⟩
  · have g1 : decide (1 ≤ n) = false := by simpa using h1
    have g2 : decide ((1 : Int) ≤ (n : Int)) = false := by simp; omega
    go_enter Try.func140, Try.ntmps140
    go_wp2
    go_ret
    exact ⟨ret_b (by simp [h1]), Below.refl _ _⟩
set_option maxRecDepth 100000 in
set_option maxHeartbeats 2000000 in
theorem sMay_A (y : Su) (HL : Hid (y.x.st.length = 16))  (h : y.id = 0)
     (w : World) : Calls Try.prog 107 #[sup y] w fun e w' => e = .returned (.bool false) ∧ Below w.heap.size w w' := by
  have HB := Lib.hid (Below.refl w.heap.size w)
  have g1 : ((y.id : Int) != 0) = false := by simp; omega
  have g1n : (y.id != 0) = false := by simp; omega
  clear h
  have tok0 : True := trivial
  have tp0 : True := trivial
  go_enter Try.func107, Try.ntmps107
  go_wp2_with (first
    | (go_skip)
    | (refine supBox (.tmp 0) rfl rfl HL.out rfl ?_; intro w1 hk hb1 hz1; replace HB := Lib.hid (below_ext HB.out hb1); have K1 := Lib.hid hk; clear hk hb1)
    | (refine F.rowCell _ (.tmp 3) rfl K1.out.cid rfl agg_u64 rfl ?_)
    | (refine F.rowCell _ (.tmp 7) rfl K1.out.cself rfl agg_int rfl ?_)
    | (refine F.rowCell _ (.tmp 12) rfl K1.out.cself rfl agg_int rfl ?_)
    | (refine F.rowCell _ (.tmp 16) rfl K1.out.cm rfl agg_int rfl ?_)
    | (refine supRos (.tmp 21) rfl K1.out rfl rfl ?_)
    | (have _t := tp0; go_at_call 144; refine (trivial).mono ?_; rintro e w2 ⟨rfl, hb2⟩; replace K1 := Lib.hid (K1.out.below hb2); replace HB := Lib.hid (below_ext HB.out hb2); have hz2 := hb2.size; clear hb2; have tp1 : True := trivial; clear _t tp0))
  go_ret
  exact ⟨rfl, HB.out⟩
set_option maxRecDepth 100000 in
set_option maxHeartbeats 2000000 in
theorem sMay_B (y : Su) (HL : Hid (y.x.st.length = 16))  (h : y.id ≠ 0) (h2 : y.self < 0)
     (w : World) : Calls Try.prog 107 #[sup y] w fun e w' => e = .returned (.bool false) ∧ Below w.heap.size w w' := by
  have HB := Lib.hid (Below.refl w.heap.size w)
  have g1 : ((y.id : Int) != 0) = true := by simp; omega
  have g1n : (y.id != 0) = true := by simp; omega
  have g2 : decide (0 ≤ y.self) = false := by simp; omega
  clear h
  have tok0 : True := trivial
  have tp0 : True := trivial
  go_enter Try.func107, Try.ntmps107
  go_wp2_with (first
    | (go_skip)
    | (refine supBox (.tmp 0) rfl rfl HL.out rfl ?_; intro w1 hk hb1 hz1; replace HB := Lib.hid (below_ext HB.out hb1); have K1 := Lib.hid hk; clear hk hb1)
    | (refine F.rowCell _ (.tmp 3) rfl K1.out.cid rfl agg_u64 rfl ?_)
    | (refine F.rowCell _ (.tmp 7) rfl K1.out.cself rfl agg_int rfl ?_)
    | (refine F.rowCell _ (.tmp 12) rfl K1.out.cself rfl agg_int rfl ?_)
    | (refine F.rowCell _ (.tmp 16) rfl K1.out.cm rfl agg_int rfl ?_)
    | (refine supRos (.tmp 21) rfl K1.out rfl rfl ?_)
    | (have _t := tp0; go_at_call 144; refine (trivial).mono ?_; rintro e w2 ⟨rfl, hb2⟩; replace K1 := Lib.hid (K1.out.below hb2); replace HB := Lib.hid (below_ext HB.out hb2); have hz2 := hb2.size; clear hb2; have tp1 : True := trivial; clear _t tp0))
  go_ret
  exact ⟨rfl, HB.out⟩
set_option maxRecDepth 100000 in
set_option maxHeartbeats 2000000 in
theorem sMay_C (y : Su) (HL : Hid (y.x.st.length = 16))  (h : y.id ≠ 0) (h2 : 0 ≤ y.self) (h3 : y.x.m ≤ y.self)
     (w : World) : Calls Try.prog 107 #[sup y] w fun e w' => e = .returned (.bool false) ∧ Below w.heap.size w w' := by
  have HB := Lib.hid (Below.refl w.heap.size w)
  have g1 : ((y.id : Int) != 0) = true := by simp; omega
  have g1n : (y.id != 0) = true := by simp; omega
  have g2 : decide (0 ≤ y.self) = true := by simp; omega
  have g3 : decide (y.self < y.x.m) = false := by simp; omega
  clear h
  have tok0 : True := trivial
  have tp0 : True := trivial
  go_enter Try.func107, Try.ntmps107
  go_wp2_with (first
    | (go_skip)
    | (refine supBox (.tmp 0) rfl rfl HL.out rfl ?_; intro w1 hk hb1 hz1; replace HB := Lib.hid (below_ext HB.out hb1); have K1 := Lib.hid hk; clear hk hb1)
    | (refine F.rowCell _ (.tmp 3) rfl K1.out.cid rfl agg_u64 rfl ?_)
    | (refine F.rowCell _ (.tmp 7) rfl K1.out.cself rfl agg_int rfl ?_)
    | (refine F.rowCell _ (.tmp 12) rfl K1.out.cself rfl agg_int rfl ?_)
    | (refine F.rowCell _ (.tmp 16) rfl K1.out.cm rfl agg_int rfl ?_)
    | (refine supRos (.tmp 21) rfl K1.out rfl rfl ?_)
    | (have _t := tp0; go_at_call 144; refine (trivial).mono ?_; rintro e w2 ⟨rfl, hb2⟩; replace K1 := Lib.hid (K1.out.below hb2); replace HB := Lib.hid (below_ext HB.out hb2); have hz2 := hb2.size; clear hb2; have tp1 : True := trivial; clear _t tp0))
  go_ret
  exact ⟨rfl, HB.out⟩
set_option maxRecDepth 100000 in
set_option maxHeartbeats 2000000 in
theorem sMay_D (y : Su) (HL : Hid (y.x.st.length = 16))  (h : y.id ≠ 0) (h2 : 0 ≤ y.self) (h3 : y.self < y.x.m) (z : Bool)
    (PF : Hid (∀ w : World, Calls Try.prog 144 #[ros y.x] w fun e w' => e = .returned (.bool z) ∧ Below w.heap.size w w')) (w : World) : Calls Try.prog 107 #[sup y] w fun e w' => e = .returned (.bool z) ∧ Below w.heap.size w w' := by
  have HB := Lib.hid (Below.refl w.heap.size w)
  have g1 : ((y.id : Int) != 0) = true := by simp; omega
  have g1n : (y.id != 0) = true := by simp; omega
  have g2 : decide (0 ≤ y.self) = true := by simp; omega
  have g3 : decide (y.self < y.x.m) = true := by simp; omega
  clear h
  have tok0 : True := trivial
  have tp0 : True := trivial
  go_enter Try.func107, Try.ntmps107
  go_wp2_with (first
    | (go_skip)
    | (refine supBox (.tmp 0) rfl rfl HL.out rfl ?_; intro w1 hk hb1 hz1; replace HB := Lib.hid (below_ext HB.out hb1); have K1 := Lib.hid hk; clear hk hb1)
    | (refine F.rowCell _ (.tmp 3) rfl K1.out.cid rfl agg_u64 rfl ?_)
    | (refine F.rowCell _ (.tmp 7) rfl K1.out.cself rfl agg_int rfl ?_)
    | (refine F.rowCell _ (.tmp 12) rfl K1.out.cself rfl agg_int rfl ?_)
    | (refine F.rowCell _ (.tmp 16) rfl K1.out.cm rfl agg_int rfl ?_)
    | (refine supRos (.tmp 21) rfl K1.out rfl rfl ?_)
    | (have _t := tp0; go_at_call 144; refine (PF.out _).mono ?_; rintro e w2 ⟨rfl, hb2⟩; replace K1 := Lib.hid (K1.out.below hb2); replace HB := Lib.hid (below_ext HB.out hb2); have hz2 := hb2.size; clear hb2; have tp1 : True := trivial; clear _t tp0))
  go_ret
  exact ⟨rfl, HB.out⟩
set_option maxRecDepth 100000 in
set_option maxHeartbeats 2000000 in
theorem rsMay_A (y : Su) (HL : Hid (y.x.st.length = 16))  (h : y.id = 0)
     (w : World) : Calls Try.prog 109 #[sup y] w fun e w' => e = .returned (.bool false) ∧ Below w.heap.size w w' := by
  have HB := Lib.hid (Below.refl w.heap.size w)
  have g1 : ((y.id : Int) != 0) = false := by simp; omega
  have g1n : (y.id != 0) = false := by simp; omega
  clear h
  have tok0 : True := trivial
  have tp0 : True := trivial
  go_enter Try.func109, Try.ntmps109
  go_wp2_with (first
    | (go_skip)
    | (refine supBox (.tmp 0) rfl rfl HL.out rfl ?_; intro w1 hk hb1 hz1; replace HB := Lib.hid (below_ext HB.out hb1); have K1 := Lib.hid hk; clear hk hb1)
    | (refine F.rowCell _ (.tmp 3) rfl K1.out.cid rfl agg_u64 rfl ?_)
    | (refine supRos (.tmp 7) rfl K1.out rfl rfl ?_)
    | (have _t := tp0; go_at_call 132; refine (trivial).mono ?_; rintro e w2 ⟨rfl, hb2⟩; replace K1 := Lib.hid (K1.out.below hb2); replace HB := Lib.hid (below_ext HB.out hb2); have hz2 := hb2.size; clear hb2; have tp1 : True := trivial; clear _t tp0)
    | (refine F.rowCell _ (.tmp 12) rfl K1.out.cself rfl agg_int rfl ?_)
    | (refine F.rowCell _ (.tmp 17) rfl K1.out.cself rfl agg_int rfl ?_)
    | (refine F.rowCell _ (.tmp 21) rfl K1.out.cm rfl agg_int rfl ?_))
  go_ret
  exact ⟨rfl, HB.out⟩
set_option maxRecDepth 100000 in
set_option maxHeartbeats 2000000 in
theorem rsMay_B (y : Su) (HL : Hid (y.x.st.length = 16))  (h : y.id ≠ 0)
    (PF : Hid (∀ w : World, Calls Try.prog 132 #[ros y.x] w fun e w' => e = .returned (.bool false) ∧ Below w.heap.size w w')) (w : World) : Calls Try.prog 109 #[sup y] w fun e w' => e = .returned (.bool false) ∧ Below w.heap.size w w' := by
  have HB := Lib.hid (Below.refl w.heap.size w)
  have g1 : ((y.id : Int) != 0) = true := by simp; omega
  have g1n : (y.id != 0) = true := by simp; omega
  clear h
  have tok0 : True := trivial
  have tp0 : True := trivial
  go_enter Try.func109, Try.ntmps109
  go_wp2_with (first
    | (go_skip)
    | (refine supBox (.tmp 0) rfl rfl HL.out rfl ?_; intro w1 hk hb1 hz1; replace HB := Lib.hid (below_ext HB.out hb1); have K1 := Lib.hid hk; clear hk hb1)
    | (refine F.rowCell _ (.tmp 3) rfl K1.out.cid rfl agg_u64 rfl ?_)
    | (refine supRos (.tmp 7) rfl K1.out rfl rfl ?_)
    | (have _t := tp0; go_at_call 132; refine (PF.out _).mono ?_; rintro e w2 ⟨rfl, hb2⟩; replace K1 := Lib.hid (K1.out.below hb2); replace HB := Lib.hid (below_ext HB.out hb2); have hz2 := hb2.size; clear hb2; have tp1 : True := trivial; clear _t tp0)
    | (refine F.rowCell _ (.tmp 12) rfl K1.out.cself rfl agg_int rfl ?_)
    | (refine F.rowCell _ (.tmp 17) rfl K1.out.cself rfl agg_int rfl ?_)
    | (refine F.rowCell _ (.tmp 21) rfl K1.out.cm rfl agg_int rfl ?_))
  go_ret
  exact ⟨rfl, HB.out⟩
set_option maxRecDepth 100000 in
set_option maxHeartbeats 2000000 in
theorem rsMay_C (y : Su) (HL : Hid (y.x.st.length = 16))  (h : y.id ≠ 0) (h2 : y.self < 0)
    (PF : Hid (∀ w : World, Calls Try.prog 132 #[ros y.x] w fun e w' => e = .returned (.bool true) ∧ Below w.heap.size w w')) (w : World) : Calls Try.prog 109 #[sup y] w fun e w' => e = .returned (.bool false) ∧ Below w.heap.size w w' := by
  have HB := Lib.hid (Below.refl w.heap.size w)
  have g1 : ((y.id : Int) != 0) = true := by simp; omega
  have g1n : (y.id != 0) = true := by simp; omega
  have g2 : decide (0 ≤ y.self) = false := by simp; omega
  clear h
  have tok0 : True := trivial
  have tp0 : True := trivial
  go_enter Try.func109, Try.ntmps109
  go_wp2_with (first
    | (go_skip)
    | (refine supBox (.tmp 0) rfl rfl HL.out rfl ?_; intro w1 hk hb1 hz1; replace HB := Lib.hid (below_ext HB.out hb1); have K1 := Lib.hid hk; clear hk hb1)
    | (refine F.rowCell _ (.tmp 3) rfl K1.out.cid rfl agg_u64 rfl ?_)
    | (refine supRos (.tmp 7) rfl K1.out rfl rfl ?_)
    | (have _t := tp0; go_at_call 132; refine (PF.out _).mono ?_; rintro e w2 ⟨rfl, hb2⟩; replace K1 := Lib.hid (K1.out.below hb2); replace HB := Lib.hid (below_ext HB.out hb2); have hz2 := hb2.size; clear hb2; have tp1 : True := trivial; clear _t tp0)
    | (refine F.rowCell _ (.tmp 12) rfl K1.out.cself rfl agg_int rfl ?_)
    | (refine F.rowCell _ (.tmp 17) rfl K1.out.cself rfl agg_int rfl ?_)
    | (refine F.rowCell _ (.tmp 21) rfl K1.out.cm rfl agg_int rfl ?_))
  go_ret
  exact ⟨rfl, HB.out⟩
set_option maxRecDepth 100000 in
set_option maxHeartbeats 2000000 in
theorem rsMay_D (y : Su) (HL : Hid (y.x.st.length = 16))  (h : y.id ≠ 0) (h2 : 0 ≤ y.self) (z : Bool) (hz : decide (y.self < y.x.m) = z)
    (PF : Hid (∀ w : World, Calls Try.prog 132 #[ros y.x] w fun e w' => e = .returned (.bool true) ∧ Below w.heap.size w w')) (w : World) : Calls Try.prog 109 #[sup y] w fun e w' => e = .returned (.bool z) ∧ Below w.heap.size w w' := by
  have HB := Lib.hid (Below.refl w.heap.size w)
  have g1 : ((y.id : Int) != 0) = true := by simp; omega
  have g1n : (y.id != 0) = true := by simp; omega
  have g2 : decide (0 ≤ y.self) = true := by simp; omega
  clear h
  have tok0 : True := trivial
  have tp0 : True := trivial
  go_enter Try.func109, Try.ntmps109
  go_wp2_with (first
    | (go_skip)
    | (refine supBox (.tmp 0) rfl rfl HL.out rfl ?_; intro w1 hk hb1 hz1; replace HB := Lib.hid (below_ext HB.out hb1); have K1 := Lib.hid hk; clear hk hb1)
    | (refine F.rowCell _ (.tmp 3) rfl K1.out.cid rfl agg_u64 rfl ?_)
    | (refine supRos (.tmp 7) rfl K1.out rfl rfl ?_)
    | (have _t := tp0; go_at_call 132; refine (PF.out _).mono ?_; rintro e w2 ⟨rfl, hb2⟩; replace K1 := Lib.hid (K1.out.below hb2); replace HB := Lib.hid (below_ext HB.out hb2); have hz2 := hb2.size; clear hb2; have tp1 : True := trivial; clear _t tp0)
    | (refine F.rowCell _ (.tmp 12) rfl K1.out.cself rfl agg_int rfl ?_)
    | (refine F.rowCell _ (.tmp 17) rfl K1.out.cself rfl agg_int rfl ?_)
    | (refine F.rowCell _ (.tmp 21) rfl K1.out.cm rfl agg_int rfl ?_))
  go_ret
  exact ⟨rfl, HB.out⟩
/-- may a superblock be? -/
noncomputable def mayS (y : Su) : Bool := decide (y.id ≠ 0) && (decide (0 ≤ y.self ∧ y.self < y.x.m) && mayR y.x)
theorem sMay_any (y : Su) (hx : Wf y.x) (w : World) : Calls Try.prog 107 #[sup y] w fun e w' => e = .returned (.bool (mayS y)) ∧ Below w.heap.size w w' := by
  have hl := Lib.hid hx.1
  unfold mayS
  by_cases h : y.id = 0
  · rw [decide_eq_false (show ¬ y.id ≠ 0 from fun h2 => h2 h), Bool.false_and]
    exact sMay_A y hl h w
  rw [decide_eq_true h, Bool.true_and]
  by_cases h2 : y.self < 0
  · rw [decide_eq_false (by omega), Bool.false_and]
    exact sMay_B y hl h h2 w
  by_cases h3 : y.x.m ≤ y.self
  · rw [decide_eq_false (by omega), Bool.false_and]
    exact sMay_C y hl h (by omega) h3 w
  rw [decide_eq_true (by omega), Bool.true_and]
  exact sMay_D y hl h (by omega) (by omega) _ (Lib.hid fun w => sFine_any y.x hx w) w
theorem rsMay_any (y : Su) (hx : Wf y.x) (w : World) : Calls Try.prog 109 #[sup y] w fun e w' => e = .returned (.bool (mayS y)) ∧ Below w.heap.size w w' := by
  have hl := Lib.hid hx.1
  have p := fun w => Fine_any y.x hx w
  unfold mayS
  by_cases h : y.id = 0
  · rw [decide_eq_false (show ¬ y.id ≠ 0 from fun h2 => h2 h), Bool.false_and]
    exact rsMay_A y hl h w
  rw [decide_eq_true h, Bool.true_and]
  cases hm : mayR y.x with
  | false =>
    rw [hm] at p
    rw [Bool.and_false]
    exact rsMay_B y hl h (Lib.hid p) w
  | true =>
    rw [hm] at p
    rw [Bool.and_true]
    by_cases h2 : y.self < 0
    · rw [decide_eq_false (by omega)]
      exact rsMay_C y hl h h2 (Lib.hid p) w
    · exact rsMay_D y hl h (by omega) _ (by rw [decide_eq_decide]; omega) (Lib.hid p) w
end Go.Proofs.Ytdchcggllcgokaa.Q
