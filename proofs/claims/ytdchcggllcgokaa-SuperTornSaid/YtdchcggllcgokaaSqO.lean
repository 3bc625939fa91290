/-
  Superblocks are compared: one law, as steps. super.Rosters whole. ashlarref08.Rosters: the walks, and whole.
-/
import Derived.Test.YtdchcggllcgokaaSqN
import Derived.Test.YtdchcggllcgokaaSqE
import Derived.Test.YtdchcggllcgokaaSqI2
import Derived.Test.YtdchcggllcgokaaSpC
import Derived.Deep.RegionHeld3
import Derived.Deep.MidRow
namespace Go.Proofs.Ytdchcggllcgokaa.Q
open Go.RowKit Go.Proofs.Ytdchcggllcgokaa.L Go.Proofs.Ytdchcggllcgokaa.U Go.Proofs.Ytdchcggllcgokaa.E Go.Proofs.Ytdchcggllcgokaa.R Go.Proofs.YtdchcggllcgokaaW.PrintWords
set_option linter.unusedVariables false
set_option linter.unusedSimpArgs false
theorem run_eqr' (d : Nat) (w : World) {x y : Ro} (hx : x.st.length = 16) (hy : y.st.length = 16) : (Op.equalIn (d + 3) 72 (ros x) (ros y)).run Try.prog w = .ok (eqR x y) w := by
  unfold ros eqR
  refine eqA_of Try.underlying72 (by kernel_rfl) ?_
  refine eqf_cons rfl (part_agg agg_geo size_geo (ex_geo x) w) (part_agg agg_geo size_geo (ex_geo y) w) (run_eqg d w _ _ _ _ _ _) ?_
  refine eqf_cons rfl (part_agg agg_sts size_sts (ex_sts hx) w) (part_agg agg_sts size_sts (ex_sts hy) w) (run_equalIn_ints w d _ _ 16 .u8 Try.underlying70 R.under_u8 R.size_u8 x.st y.st hx hy) ?_
  refine eqf_cons rfl (part_plain agg_int (by simpa using at_cu hx) w) (part_plain agg_int (by simpa using at_cu hy) w) (run_equalIn_int w _ _ _ .i64 _ _ Try.underlying3) ?_
  exact eqf_last rfl (part_plain agg_bool (by simpa using at_go hx) w) (part_plain agg_bool (by simpa using at_go hy) w) (run_equalIn_bool' w _ _ _ _ Try.underlying4)
theorem agg_ros (w : World) : (isAgg 72).run Try.prog w = .ok true w := by kernel_rfl
theorem size_ros (w : World) : (sizeOf 72).run Try.prog w = .ok 21 w := by kernel_rfl
theorem ex_ros {y : Su} (h : y.x.st.length = 16) : (supL y).toArray.extract 2 (2 + 21) = (rosL y.x).toArray := by
  have hn : (rosL y.x).length = 21 := rosL_length h
  have h2 : (rosL y.x).take 21 = rosL y.x := List.take_of_length_le (by omega)
  simp [supL, hn, h2]
def eqS (x y : Su) : Bool := ((x.id : Int) == (y.id : Int)) && ((x.self == y.self) && eqR x.x y.x)
theorem eqS_iff (x y : Su) : eqS x y = true ↔ x = y := by
  obtain ⟨i, s, r⟩ := x
  obtain ⟨i', s', r'⟩ := y
  simp only [eqS, Bool.and_eq_true, eqR_iff, beq_iff_eq, Su.mk.injEq]
  constructor
  · rintro ⟨h1, h2, h3⟩; exact ⟨by omega, h2, h3⟩
  · rintro ⟨h1, h2, h3⟩; exact ⟨by omega, h2, h3⟩
theorem eqS_self (x : Su) : eqS x x = true := (eqS_iff x x).2 rfl
theorem neS_self (x : Su) : (!eqS x x) = false := by rw [eqS_self]; rfl
theorem run_eqs (w : World) {x y : Su} (hx : x.x.st.length = 16) (hy : y.x.st.length = 16) : (Op.equalIn 10000 110 (sup x) (sup y)).run Try.prog w = .ok (eqS x y) w := by
  unfold sup eqS
  refine eqA_of Try.underlying110 (by kernel_rfl) ?_
  refine eqf_cons rfl (part_plain agg_u64 rfl w) (part_plain agg_u64 rfl w) (run_equalIn_int w _ _ _ .u64 _ _ Try.underlying33) ?_
  refine eqf_cons rfl (part_plain agg_int rfl w) (part_plain agg_int rfl w) (run_equalIn_int w _ _ _ .i64 _ _ Try.underlying3) ?_
  exact eqf_last rfl (part_agg agg_ros size_ros (ex_ros hx) w) (part_agg agg_ros size_ros (ex_ros hy) w) (run_eqr' 9996 w hx hy)
theorem guard_sup : Try.prog.eqGuardType Try.prog.depth 110 = false := by kernel_rfl
theorem run_supEql (x y : Operand) (t : TypeId) {A : Act} {op : Oper} (ho : op.op = .binOp .eql 110 x y t) {u v : Su} (hx : A.eval x = sup u) (hy : A.eval y = sup v) (hu : u.x.st.length = 16) (hv : v.x.st.length = 16) (b : Bool) (hb : eqS u v = b) (w : World) :
    (execOp A.eval op).run Try.prog w = .ok (.value (.bool b)) w := by
  subst hb
  have h1 : (eqGuard .eql 110 x y (sup u) (sup v)).run Try.prog w = .ok () w := run_eqGuard_agg w .eql _ x y _ _ guard_sup
  have h2 : (binOp .eql 110 (sup u) (sup v)).run Try.prog w = .ok (.bool (eqS u v)) w := by
    unfold sup
    rw [run_eql_struct]
    have h3 := run_eqs w hu hv
    unfold sup at h3
    rw [h3]; rfl
  unfold execOp
  simp only [ho, hx, hy, Sem.run_bind, Sem.run_map, h1, h2, Result.andThen_ok, Sem.run_pure]
theorem run_supNeq (x y : Operand) (t : TypeId) {A : Act} {op : Oper} (ho : op.op = .binOp .neq 110 x y t) {u v : Su} (hx : A.eval x = sup u) (hy : A.eval y = sup v) (hu : u.x.st.length = 16) (hv : v.x.st.length = 16) (b : Bool) (hb : (!eqS u v) = b) (w : World) :
    (execOp A.eval op).run Try.prog w = .ok (.value (.bool b)) w := by
  subst hb
  have h1 : (eqGuard .neq 110 x y (sup u) (sup v)).run Try.prog w = .ok () w := run_eqGuard_agg w .neq _ x y _ _ guard_sup
  have h2 : (binOp .neq 110 (sup u) (sup v)).run Try.prog w = .ok (.bool (!eqS u v)) w := by
    unfold sup
    rw [run_neq_struct]
    have h3 := run_eqs w hu hv
    unfold sup at h3
    rw [h3]; rfl
  unfold execOp
  simp only [ho, hx, hy, Sem.run_bind, Sem.run_map, h1, h2, Result.andThen_ok, Sem.run_pure]
section
variable {ops : Array Oper} {rest : List Oper} {op : Oper} {A : Act} {w : World} {Q : Exit → Act → World → Prop}
theorem supEqlS (x y : Operand) (t : TypeId) (ho : op.op = .binOp .eql 110 x y t) {u v : Su} (hx : A.eval x = sup u) (hy : A.eval y = sup v) (hu : u.x.st.length = 16) (hv : v.x.st.length = 16) (b : Bool) (hb : eqS u v = b)
    (hw : Region.wanted op (yielded ops A.tmps) = true) (h : wpList Try.prog ops Q rest (A.put op.dst (.bool b)) w) : wpList Try.prog ops Q (op :: rest) A w :=
  valStep (run_supEql x y t ho hx hy hu hv b hb w) hw h
theorem supNeqS (x y : Operand) (t : TypeId) (ho : op.op = .binOp .neq 110 x y t) {u v : Su} (hx : A.eval x = sup u) (hy : A.eval y = sup v) (hu : u.x.st.length = 16) (hv : v.x.st.length = 16) (b : Bool) (hb : (!eqS u v) = b)
    (hw : Region.wanted op (yielded ops A.tmps) = true) (h : wpList Try.prog ops Q rest (A.put op.dst (.bool b)) w) : wpList Try.prog ops Q (op :: rest) A w :=
  valStep (run_supNeq x y t ho hx hy hu hv b hb w) hw h
end
section
variable {ops : Array Oper} {rest : List Oper} {op : Oper} {a : Act} {C : World → Prop} {Q : Act → Prop}
theorem qSupLoad (x : Operand) (ho : op.op = .load 110 x) {g : Nat} {y : Su} (hl : y.x.st.length = 16) (hk : ∀ w, C w → Sup w g y) (hx : a.eval x = .pointer (some ⟨g, 0, none⟩)) (hw : Region.wanted op (yielded ops a.tmps) = true)
    (h : wpQuiet Try.prog ops C Q rest (a.put op.dst (sup y))) : wpQuiet Try.prog ops C Q (op :: rest) a :=
  qRowLoad hw _ x ho (fun w hC => (hk w hC).2) hx Try.underlying110 rfl (info_of_sup hl) h
theorem qSupEql (x y : Operand) (t : TypeId) (ho : op.op = .binOp .eql 110 x y t) {u v : Su} (hx : a.eval x = sup u) (hy : a.eval y = sup v) (hu : u.x.st.length = 16) (hv : v.x.st.length = 16) (b : Bool) (hb : eqS u v = b)
    (hw : Region.wanted op (yielded ops a.tmps) = true) (h : wpQuiet Try.prog ops C Q rest (a.put op.dst (.bool b))) : wpQuiet Try.prog ops C Q (op :: rest) a :=
  quiet_val hw _ (fun w _ => run_supEql x y t ho hx hy hu hv b hb w) h
theorem qSupNeq (x y : Operand) (t : TypeId) (ho : op.op = .binOp .neq 110 x y t) {u v : Su} (hx : a.eval x = sup u) (hy : a.eval y = sup v) (hu : u.x.st.length = 16) (hv : v.x.st.length = 16) (b : Bool) (hb : (!eqS u v) = b)
    (hw : Region.wanted op (yielded ops a.tmps) = true) (h : wpQuiet Try.prog ops C Q rest (a.put op.dst (.bool b))) : wpQuiet Try.prog ops C Q (op :: rest) a :=
  quiet_val hw _ (fun w _ => run_supNeq x y t ho hx hy hu hv b hb w) h
theorem qSupBuild0 (ho : op.op = .build 110 #[]) (hw : Region.wanted op (yielded ops a.tmps) = true) (h : wpQuiet Try.prog ops C Q rest (a.put op.dst (sup su0))) : wpQuiet Try.prog ops C Q (op :: rest) a :=
  quiet_val hw _ (fun w _ => by
    unfold execOp
    have hrun : (Instr.build 110 #[]).run Try.prog w = .ok (sup su0) w := by kernel_rfl
    simp only [ho, List.map_toArray, List.map_nil, hrun, Array.map_empty, Sem.run_map, Sem.run_bind, Result.andThen_ok, Sem.run_pure]) h
end
end Go.Proofs.Ytdchcggllcgokaa.Q

namespace Go.Proofs.Ytdchcggllcgokaa.Q
open Go.RowKit Go.Proofs.Ytdchcggllcgokaa.L Go.Proofs.Ytdchcggllcgokaa.R Go.Proofs.YtdchcggllcgokaaW.PrintWords
set_option linter.unusedVariables false
set_option linter.unusedSimpArgs false
set_option maxRecDepth 100000 in
set_option maxHeartbeats 2000000 in
theorem Rosters_walk (x y : Ro) (HL : Hid (x.st.length = 16)) (HM : Hid (y.st.length = 16)) (b : Bool) (hb : eqR x y = b) (w : World) : Calls Try.prog 110 #[ros x, ros y] w fun e w' => e = .returned (.bool b) ∧ Below w.heap.size w w' := by
  have HB := Lib.hid (Below.refl w.heap.size w)
  have tok0 : True := trivial
  have tp0 : True := trivial
  go_enter Try.func110, Try.ntmps110
  go_wp2_with (first
    | (go_skip)
    | (refine rosBox (.tmp 0) rfl rfl HL.out rfl ?_; intro w1 hk hb1 hz1; replace HB := Lib.hid (below_ext HB.out hb1); have K2 := Lib.hid hk; clear hk hb1)
    | (refine rosBox (.tmp 1) rfl rfl HM.out rfl ?_; intro w2 hk hb2 hz2; replace K2 := Lib.hid (K2.out.below hb2); replace HB := Lib.hid (below_ext HB.out hb2); have K3 := Lib.hid hk; clear hk hb2)
    | (refine rosLoad (.tmp 2) rfl K2.out rfl rfl ?_)
    | (refine rosLoad (.tmp 3) rfl K3.out rfl rfl ?_)
    | (refine rosEqlS (.tmp 5) (.tmp 6) _ rfl rfl rfl HL.out HM.out b hb rfl ?_))
  go_ret
  exact ⟨rfl, HB.out⟩
theorem Rosters_any (x y : Ro) (hx : x.st.length = 16) (hy : y.st.length = 16) (w : World) : Calls Try.prog 110 #[ros x, ros y] w fun e w' => e = .returned (.bool (eqR x y)) ∧ Below w.heap.size w w' :=
  Rosters_walk x y (Lib.hid hx) (Lib.hid hy) _ rfl w
end Go.Proofs.Ytdchcggllcgokaa.Q

namespace Go.Proofs.Ytdchcggllcgokaa.Q
open Go.RowKit Go.Proofs.Ytdchcggllcgokaa.L Go.Proofs.Ytdchcggllcgokaa.U Go.Proofs.Ytdchcggllcgokaa.E Go.Proofs.Ytdchcggllcgokaa.R Go.Proofs.YtdchcggllcgokaaW.PrintWords
set_option linter.unusedVariables false
set_option linter.unusedSimpArgs false
section
variable {ops : Array Oper} {rest : List Oper} {op : Oper} {a : Act} {C : World → Prop} {Q : Act → Prop}
theorem qStsAll (x : Operand) (ho : op.op = .slice 70 x none none none) {g o : Nat} (hx : a.eval x = .pointer (some ⟨g, o, none⟩)) (hw : Region.wanted op (yielded ops a.tmps) = true)
    (h : wpQuiet Try.prog ops C Q rest (a.put op.dst (.slice (some ⟨g, o, none⟩) 16 16))) : wpQuiet Try.prog ops C Q (op :: rest) a :=
  quiet_val hw _ (fun w _ => by
    have hrun : (Instr.sliceAt 70 (.pointer (some ⟨g, o, none⟩)) none none none).run Try.prog w = .ok (.slice (some ⟨g, o, none⟩) 16 16) w := by
      have h3 : Try.prog.arrayLen 70 = 16 := by kernel_rfl
      have h1 := run_sliceAt_array_all (P := Try.prog) w 70 ⟨g, o, none⟩ (by kernel_rfl)
      rw [h1]
      have h2 : (sizeOf (Try.prog.elem 70)).run Try.prog w = .ok 1 w := by kernel_rfl
      rw [h2, h3]
      simp only [Result.andThen_ok, slicedAt, Nat.mul_one, Addr.add_mid]
      rfl
    unfold execOp
    simp only [ho, hx, Option.map_none, hrun, Sem.run_bind, Sem.run_map, Sem.run_pure, Result.andThen_ok]) h
theorem qBlkBuild (ho : op.op = .build 50 #[]) (hw : Region.wanted op (yielded ops a.tmps) = true) (h : wpQuiet Try.prog ops C Q rest (a.put op.dst (blk zeros))) : wpQuiet Try.prog ops C Q (op :: rest) a :=
  quiet_val hw _ (fun w _ => by
    have hrun : (Instr.build 50 #[]).run Try.prog w = .ok (blk zeros) w := by kernel_rfl
    unfold execOp
    simp only [ho, List.map_toArray, List.map_nil, hrun, Array.map_empty, Sem.run_map, Sem.run_bind, Result.andThen_ok, Sem.run_pure]) h
end
set_option maxRecDepth 100000 in
set_option maxHeartbeats 4000000 in
theorem rRos_0 (x y : Ro) (HL : Hid (x.st.length = 16)) (HM : Hid (y.st.length = 16)) (h0 : (x.m != y.m) = true) (w : World) : Calls Try.prog 111 #[ros x, ros y] w fun e w' => e = .returned (.bool false) ∧ Below w.heap.size w w' := by
  have HB := Lib.hid (Below.refl w.heap.size w)
  have tok0 : True := trivial
  have tp0 : True := trivial
  go_enter Try.func111, Try.ntmps111
  go_wp2_with (first
    | (go_skip)
    | (refine rosBox (.tmp 0) rfl rfl HL.out rfl ?_; intro w1 hk hb1 hz1; replace HB := Lib.hid (below_ext HB.out hb1); have K2 := Lib.hid hk; clear hk hb1)
    | (refine rosBox (.tmp 1) rfl rfl HM.out rfl ?_; intro w2 hk hb2 hz2; replace K2 := Lib.hid (K2.out.below hb2); replace HB := Lib.hid (below_ext HB.out hb2); have K3 := Lib.hid hk; clear hk hb2)
    | (refine F.rowCell _ (.tmp 6) rfl K2.out.cm rfl agg_int rfl ?_)
    | (refine F.rowCell _ (.tmp 9) rfl K3.out.cm rfl agg_int rfl ?_)
    | (refine F.rowCell _ (.tmp 14) rfl K2.out.cs rfl agg_int rfl ?_)
    | (refine F.rowCell _ (.tmp 17) rfl K3.out.cs rfl agg_int rfl ?_)
    | (refine F.rowCell _ (.tmp 23) rfl K2.out.cr rfl agg_int rfl ?_)
    | (refine F.rowCell _ (.tmp 26) rfl K3.out.cr rfl agg_int rfl ?_)
    | (refine F.rowCell _ (.tmp 31) rfl K2.out.ccu rfl agg_int rfl ?_)
    | (refine F.rowCell _ (.tmp 33) rfl K3.out.ccu rfl agg_int rfl ?_)
    | (refine F.rowCell _ (.tmp 38) rfl K2.out.cgo rfl agg_bool rfl ?_)
    | (refine F.rowCell _ (.tmp 40) rfl K3.out.cgo rfl agg_bool rfl ?_))
  go_ret
  exact ⟨rfl, HB.out⟩
set_option maxRecDepth 100000 in
set_option maxHeartbeats 4000000 in
theorem rRos_1 (x y : Ro) (HL : Hid (x.st.length = 16)) (HM : Hid (y.st.length = 16)) (h0 : (x.m != y.m) = false) (h1 : (x.s != y.s) = true) (w : World) : Calls Try.prog 111 #[ros x, ros y] w fun e w' => e = .returned (.bool false) ∧ Below w.heap.size w w' := by
  have HB := Lib.hid (Below.refl w.heap.size w)
  have tok0 : True := trivial
  have tp0 : True := trivial
  go_enter Try.func111, Try.ntmps111
  go_wp2_with (first
    | (go_skip)
    | (refine rosBox (.tmp 0) rfl rfl HL.out rfl ?_; intro w1 hk hb1 hz1; replace HB := Lib.hid (below_ext HB.out hb1); have K2 := Lib.hid hk; clear hk hb1)
    | (refine rosBox (.tmp 1) rfl rfl HM.out rfl ?_; intro w2 hk hb2 hz2; replace K2 := Lib.hid (K2.out.below hb2); replace HB := Lib.hid (below_ext HB.out hb2); have K3 := Lib.hid hk; clear hk hb2)
    | (refine F.rowCell _ (.tmp 6) rfl K2.out.cm rfl agg_int rfl ?_)
    | (refine F.rowCell _ (.tmp 9) rfl K3.out.cm rfl agg_int rfl ?_)
    | (refine F.rowCell _ (.tmp 14) rfl K2.out.cs rfl agg_int rfl ?_)
    | (refine F.rowCell _ (.tmp 17) rfl K3.out.cs rfl agg_int rfl ?_)
    | (refine F.rowCell _ (.tmp 23) rfl K2.out.cr rfl agg_int rfl ?_)
    | (refine F.rowCell _ (.tmp 26) rfl K3.out.cr rfl agg_int rfl ?_)
    | (refine F.rowCell _ (.tmp 31) rfl K2.out.ccu rfl agg_int rfl ?_)
    | (refine F.rowCell _ (.tmp 33) rfl K3.out.ccu rfl agg_int rfl ?_)
    | (refine F.rowCell _ (.tmp 38) rfl K2.out.cgo rfl agg_bool rfl ?_)
    | (refine F.rowCell _ (.tmp 40) rfl K3.out.cgo rfl agg_bool rfl ?_))
  go_ret
  exact ⟨rfl, HB.out⟩
set_option maxRecDepth 100000 in
set_option maxHeartbeats 4000000 in
theorem rRos_2 (x y : Ro) (HL : Hid (x.st.length = 16)) (HM : Hid (y.st.length = 16)) (h0 : (x.m != y.m) = false) (h1 : (x.s != y.s) = false) (h2 : (x.r != y.r) = true) (w : World) : Calls Try.prog 111 #[ros x, ros y] w fun e w' => e = .returned (.bool false) ∧ Below w.heap.size w w' := by
  have HB := Lib.hid (Below.refl w.heap.size w)
  have tok0 : True := trivial
  have tp0 : True := trivial
  go_enter Try.func111, Try.ntmps111
  go_wp2_with (first
    | (go_skip)
    | (refine rosBox (.tmp 0) rfl rfl HL.out rfl ?_; intro w1 hk hb1 hz1; replace HB := Lib.hid (below_ext HB.out hb1); have K2 := Lib.hid hk; clear hk hb1)
    | (refine rosBox (.tmp 1) rfl rfl HM.out rfl ?_; intro w2 hk hb2 hz2; replace K2 := Lib.hid (K2.out.below hb2); replace HB := Lib.hid (below_ext HB.out hb2); have K3 := Lib.hid hk; clear hk hb2)
    | (refine F.rowCell _ (.tmp 6) rfl K2.out.cm rfl agg_int rfl ?_)
    | (refine F.rowCell _ (.tmp 9) rfl K3.out.cm rfl agg_int rfl ?_)
    | (refine F.rowCell _ (.tmp 14) rfl K2.out.cs rfl agg_int rfl ?_)
    | (refine F.rowCell _ (.tmp 17) rfl K3.out.cs rfl agg_int rfl ?_)
    | (refine F.rowCell _ (.tmp 23) rfl K2.out.cr rfl agg_int rfl ?_)
    | (refine F.rowCell _ (.tmp 26) rfl K3.out.cr rfl agg_int rfl ?_)
    | (refine F.rowCell _ (.tmp 31) rfl K2.out.ccu rfl agg_int rfl ?_)
    | (refine F.rowCell _ (.tmp 33) rfl K3.out.ccu rfl agg_int rfl ?_)
    | (refine F.rowCell _ (.tmp 38) rfl K2.out.cgo rfl agg_bool rfl ?_)
    | (refine F.rowCell _ (.tmp 40) rfl K3.out.cgo rfl agg_bool rfl ?_))
  go_ret
  exact ⟨rfl, HB.out⟩
set_option maxRecDepth 100000 in
set_option maxHeartbeats 4000000 in
theorem rRos_3 (x y : Ro) (HL : Hid (x.st.length = 16)) (HM : Hid (y.st.length = 16)) (h0 : (x.m != y.m) = false) (h1 : (x.s != y.s) = false) (h2 : (x.r != y.r) = false) (h3 : (x.cu != y.cu) = true) (w : World) : Calls Try.prog 111 #[ros x, ros y] w fun e w' => e = .returned (.bool false) ∧ Below w.heap.size w w' := by
  have HB := Lib.hid (Below.refl w.heap.size w)
  have tok0 : True := trivial
  have tp0 : True := trivial
  go_enter Try.func111, Try.ntmps111
  go_wp2_with (first
    | (go_skip)
    | (refine rosBox (.tmp 0) rfl rfl HL.out rfl ?_; intro w1 hk hb1 hz1; replace HB := Lib.hid (below_ext HB.out hb1); have K2 := Lib.hid hk; clear hk hb1)
    | (refine rosBox (.tmp 1) rfl rfl HM.out rfl ?_; intro w2 hk hb2 hz2; replace K2 := Lib.hid (K2.out.below hb2); replace HB := Lib.hid (below_ext HB.out hb2); have K3 := Lib.hid hk; clear hk hb2)
    | (refine F.rowCell _ (.tmp 6) rfl K2.out.cm rfl agg_int rfl ?_)
    | (refine F.rowCell _ (.tmp 9) rfl K3.out.cm rfl agg_int rfl ?_)
    | (refine F.rowCell _ (.tmp 14) rfl K2.out.cs rfl agg_int rfl ?_)
    | (refine F.rowCell _ (.tmp 17) rfl K3.out.cs rfl agg_int rfl ?_)
    | (refine F.rowCell _ (.tmp 23) rfl K2.out.cr rfl agg_int rfl ?_)
    | (refine F.rowCell _ (.tmp 26) rfl K3.out.cr rfl agg_int rfl ?_)
    | (refine F.rowCell _ (.tmp 31) rfl K2.out.ccu rfl agg_int rfl ?_)
    | (refine F.rowCell _ (.tmp 33) rfl K3.out.ccu rfl agg_int rfl ?_)
    | (refine F.rowCell _ (.tmp 38) rfl K2.out.cgo rfl agg_bool rfl ?_)
    | (refine F.rowCell _ (.tmp 40) rfl K3.out.cgo rfl agg_bool rfl ?_))
  go_ret
  exact ⟨rfl, HB.out⟩
set_option maxRecDepth 100000 in
set_option maxHeartbeats 4000000 in
theorem rRos_4 (x y : Ro) (HL : Hid (x.st.length = 16)) (HM : Hid (y.st.length = 16)) (h0 : (x.m != y.m) = false) (h1 : (x.s != y.s) = false) (h2 : (x.r != y.r) = false) (h3 : (x.cu != y.cu) = false) (h4 : (x.go != y.go) = true) (w : World) : Calls Try.prog 111 #[ros x, ros y] w fun e w' => e = .returned (.bool false) ∧ Below w.heap.size w w' := by
  have HB := Lib.hid (Below.refl w.heap.size w)
  have h5 : (x.go == y.go) = false := by simpa using h4
  have h6 : (!x.go == y.go) = true := by simpa using h4
  have tok0 : True := trivial
  have tp0 : True := trivial
  go_enter Try.func111, Try.ntmps111
  go_wp2_with (first
    | (go_skip)
    | (refine rosBox (.tmp 0) rfl rfl HL.out rfl ?_; intro w1 hk hb1 hz1; replace HB := Lib.hid (below_ext HB.out hb1); have K2 := Lib.hid hk; clear hk hb1)
    | (refine rosBox (.tmp 1) rfl rfl HM.out rfl ?_; intro w2 hk hb2 hz2; replace K2 := Lib.hid (K2.out.below hb2); replace HB := Lib.hid (below_ext HB.out hb2); have K3 := Lib.hid hk; clear hk hb2)
    | (refine F.rowCell _ (.tmp 6) rfl K2.out.cm rfl agg_int rfl ?_)
    | (refine F.rowCell _ (.tmp 9) rfl K3.out.cm rfl agg_int rfl ?_)
    | (refine F.rowCell _ (.tmp 14) rfl K2.out.cs rfl agg_int rfl ?_)
    | (refine F.rowCell _ (.tmp 17) rfl K3.out.cs rfl agg_int rfl ?_)
    | (refine F.rowCell _ (.tmp 23) rfl K2.out.cr rfl agg_int rfl ?_)
    | (refine F.rowCell _ (.tmp 26) rfl K3.out.cr rfl agg_int rfl ?_)
    | (refine F.rowCell _ (.tmp 31) rfl K2.out.ccu rfl agg_int rfl ?_)
    | (refine F.rowCell _ (.tmp 33) rfl K3.out.ccu rfl agg_int rfl ?_)
    | (refine F.rowCell _ (.tmp 38) rfl K2.out.cgo rfl agg_bool rfl ?_)
    | (refine F.rowCell _ (.tmp 40) rfl K3.out.cgo rfl agg_bool rfl ?_))
  go_ret
  exact ⟨rfl, HB.out⟩
set_option maxRecDepth 100000 in
set_option maxHeartbeats 4000000 in
theorem rRos_5 (x y : Ro) (HL : Hid (x.st.length = 16)) (HM : Hid (y.st.length = 16)) (h0 : (x.m != y.m) = false) (h1 : (x.s != y.s) = false) (h2 : (x.r != y.r) = false) (h3 : (x.cu != y.cu) = false) (h4 : (x.go != y.go) = false)
    (b : Bool) (PS : Hid (∀ (A B : Option Addr) (w : World), ReadsInt w .u8 A 16 x.st → ReadsInt w .u8 B 16 y.st → Calls Try.prog 38 #[.slice A 16 16, .slice B 16 16] w fun e w' => e = .returned (.bool b) ∧ Below w.heap.size w w')) (w : World) : Calls Try.prog 111 #[ros x, ros y] w fun e w' => e = .returned (.bool b) ∧ Below w.heap.size w w' := by
  have HB := Lib.hid (Below.refl w.heap.size w)
  have h5 : (x.go == y.go) = true := by simpa using h4
  have h6 : (!x.go == y.go) = false := by simpa using h4
  have tok0 : True := trivial
  have tp0 : True := trivial
  go_enter Try.func111, Try.ntmps111
  go_wp2_with (first
    | (go_skip)
    | (refine rosBox (.tmp 0) rfl rfl HL.out rfl ?_; intro w1 hk hb1 hz1; replace HB := Lib.hid (below_ext HB.out hb1); have K2 := Lib.hid hk; clear hk hb1)
    | (refine rosBox (.tmp 1) rfl rfl HM.out rfl ?_; intro w2 hk hb2 hz2; replace K2 := Lib.hid (K2.out.below hb2); replace HB := Lib.hid (below_ext HB.out hb2); have K3 := Lib.hid hk; clear hk hb2)
    | (refine F.rowCell _ (.tmp 6) rfl K2.out.cm rfl agg_int rfl ?_)
    | (refine F.rowCell _ (.tmp 9) rfl K3.out.cm rfl agg_int rfl ?_)
    | (refine F.rowCell _ (.tmp 14) rfl K2.out.cs rfl agg_int rfl ?_)
    | (refine F.rowCell _ (.tmp 17) rfl K3.out.cs rfl agg_int rfl ?_)
    | (refine F.rowCell _ (.tmp 23) rfl K2.out.cr rfl agg_int rfl ?_)
    | (refine F.rowCell _ (.tmp 26) rfl K3.out.cr rfl agg_int rfl ?_)
    | (refine F.rowCell _ (.tmp 31) rfl K2.out.ccu rfl agg_int rfl ?_)
    | (refine F.rowCell _ (.tmp 33) rfl K3.out.ccu rfl agg_int rfl ?_)
    | (refine F.rowCell _ (.tmp 38) rfl K2.out.cgo rfl agg_bool rfl ?_)
    | (refine F.rowCell _ (.tmp 40) rfl K3.out.cgo rfl agg_bool rfl ?_))
  have R2 : ∀ z : Later w2, ReadsInt z.w .u8 (some ⟨w.heap.size, 3, none⟩) 16 x.st := fun z => by
    have h := (K2.out.below z.b).reads 0 (by decide)
    exact h
  have R3 : ∀ z : Later w2, ReadsInt z.w .u8 (some ⟨w1.heap.size, 3, none⟩) 16 y.st := fun z => by
    have h := (K3.out.below z.b).reads 0 (by decide)
    exact h
  have tq0 : True := trivial
  refine wp_region_cls (fun w9 => ∃ x : Later w2, w9 = x.w) (by kernel_rfl) (by kernel_rfl) (Later.drew _) ?_
  repeat (first
    | go_big_quiet_skip
    | (refine qStsAll (.tmp 44) rfl rfl rfl ?_; simp only [Act.put, List.setIfInBounds_toArray, List.set_cons_zero, List.set_cons_succ])
    | (refine qStsAll (.tmp 46) rfl rfl rfl ?_; simp only [Act.put, List.setIfInBounds_toArray, List.set_cons_zero, List.set_cons_succ])
    | (have _t := tq0; refine qAt 38 rfl ?_; go_big_quiet_want; go_big_quiet_op; apply Exists.intro; refine ⟨fun x => ?_, ?_⟩; (· refine (PS.out _ _ x.w (R2 x) (R3 x)).mono ?_; rintro e x2 ⟨rfl, hb⟩; exact ⟨rfl, x.ext hb⟩); go_big_quiet_on; have tq1 : True := trivial; clear _t tq0)
    | (go_big_quiet_want; go_big_quiet_op; go_big_quiet_on))
  refine wpQuiet_nil ?_
  rintro w9 ⟨⟨x9, h9⟩, rfl⟩
  have hb9 := below_ext HB.out h9
  clear h9
  go_wp2
  go_ret
  exact ⟨rfl, hb9⟩
theorem same_16 {xs ys : List Int} (hx : xs.length = 16) (hy : ys.length = 16) (A B : Option Addr) (w : World) (h1 : ReadsInt w .u8 A 16 xs) (h2 : ReadsInt w .u8 B 16 ys) :
    Calls Try.prog 38 #[.slice A 16 16, .slice B 16 16] w fun e w' => e = .returned (.bool (decide (xs = ys))) ∧ Below w.heap.size w w' := by
  by_cases he : xs = ys
  · subst he
    rw [decide_eq_true rfl]
    have h := same_yes A B 16 16 xs w (by rw [hx]; exact h1) (by rw [hx]; exact h2)
    rw [hx] at h
    exact h
  · rw [decide_eq_false he]
    have h := same_no A B 16 16 xs ys w he (by rw [hx]; exact h1) (by rw [hy]; exact h2)
    rw [hx, hy] at h
    exact h
theorem rRosters_any (x y : Ro) (hx : x.st.length = 16) (hy : y.st.length = 16) (w : World) : Calls Try.prog 111 #[ros x, ros y] w fun e w' => e = .returned (.bool (eqR x y)) ∧ Below w.heap.size w w' := by
  by_cases h0 : x.m = y.m
  · by_cases h1 : x.s = y.s
    · by_cases h2 : x.r = y.r
      · by_cases h3 : x.cu = y.cu
        · by_cases h4 : x.go = y.go
          · have he : eqR x y = decide (x.st = y.st) := by simp [eqR, h0, h1, h2, h3, h4]
            rw [he]
            exact rRos_5 x y (Lib.hid hx) (Lib.hid hy) (by simp [h0]) (by simp [h1]) (by simp [h2]) (by simp [h3]) (by simp [h4]) _ (Lib.hid fun A B w a b => same_16 hx hy A B w a b) w
          · rw [show eqR x y = false by simp [eqR, h4]]
            exact rRos_4 x y (Lib.hid hx) (Lib.hid hy) (by simp [h0]) (by simp [h1]) (by simp [h2]) (by simp [h3]) (by simpa using h4) w
        · rw [show eqR x y = false by simp [eqR, h3]]
          exact rRos_3 x y (Lib.hid hx) (Lib.hid hy) (by simp [h0]) (by simp [h1]) (by simp [h2]) (by simpa using h3) w
      · rw [show eqR x y = false by simp [eqR, h2]]
        exact rRos_2 x y (Lib.hid hx) (Lib.hid hy) (by simp [h0]) (by simp [h1]) (by simpa using h2) w
    · rw [show eqR x y = false by simp [eqR, h1]]
      exact rRos_1 x y (Lib.hid hx) (Lib.hid hy) (by simp [h0]) (by simpa using h1) w
  · rw [show eqR x y = false by simp [eqR, h0]]
    exact rRos_0 x y (Lib.hid hx) (Lib.hid hy) (by simpa using h0) w
end Go.Proofs.Ytdchcggllcgokaa.Q
