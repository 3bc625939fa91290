/-
  roster.May: the walks.
-/
import Derived.Test.YtdchcggllcgokaaRos1
namespace Go.Proofs.Ytdchcggllcgokaa.Q
open Go.RowKit Go.Proofs.Ytdchcggllcgokaa.L Go.Proofs.Ytdchcggllcgokaa.R Go.Proofs.YtdchcggllcgokaaW.PrintWords
set_option linter.unusedVariables false
set_option linter.unusedSimpArgs false
theorem Ros.m_ {W : World} {g : Nat} {m s r : Int} {st : List Int} {cu : Int} {go : Bool} (h : Ros W g ⟨m, s, r, st, cu, go⟩) : W.cell? ⟨g, 0, none⟩ = some (.int .i64 m) := h.cm
theorem Ros.s_ {W : World} {g : Nat} {m s r : Int} {st : List Int} {cu : Int} {go : Bool} (h : Ros W g ⟨m, s, r, st, cu, go⟩) : W.cell? ⟨g, 1, none⟩ = some (.int .i64 s) := h.cs
theorem Ros.cu_ {W : World} {g : Nat} {m s r : Int} {st : List Int} {cu : Int} {go : Bool} (h : Ros W g ⟨m, s, r, st, cu, go⟩) : W.cell? ⟨g, 19, none⟩ = some (.int .i64 cu) := h.ccu
theorem Ros.go_ {W : World} {g : Nat} {m s r : Int} {st : List Int} {cu : Int} {go : Bool} (h : Ros W g ⟨m, s, r, st, cu, go⟩) : W.cell? ⟨g, 20, none⟩ = some (.bool go) := h.cgo
theorem rd_drop (l : List Int) (k : Nat) (q : Nat) : rd (l.drop k) (q : Int) = rd l ((k + q : Nat) : Int) := by
  simp only [rd, Int.toNat_natCast, List.getD_eq_getElem?_getD, List.getElem?_drop]
section
variable {ops : Array Oper} {rest : List Oper} {op : Oper} {a : Act} {w : World} {Q : Exit → Act → World → Prop}
theorem stsSlice (x y : Operand) (ho : op.op = .slice 70 x (some y) none none) {g k : Nat} (hx : a.eval x = .pointer (some ⟨g, 3, none⟩)) (hy : a.eval y = .int .i64 (k : Int)) (hk : k ≤ 16) (hw : Region.wanted op (yielded ops a.tmps) = true)
    (h : ∀ A, (∀ (W : World) (z : Ro), Ros W g z → ReadsInt W .u8 A (16 - k) (z.st.drop k)) → wpList Try.prog ops Q rest (a.put op.dst (.slice A (16 - k) (16 - k))) w) : wpList Try.prog ops Q (op :: rest) a w := by
  refine wanted_step hw fun K hK => ?_
  have hrun : (Instr.sliceAt 70 (.pointer (some ⟨g, 3, none⟩)) (some (.int .i64 (k : Int))) none none).run Try.prog w = .ok (.slice (some ⟨g, 3 + (if 16 = k then 0 else k), none⟩) (16 - k) (16 - k)) w := by
    have h3 : Try.prog.arrayLen 70 = 16 := by kernel_rfl
    have h1 := run_sliceAt_array_l (P := Try.prog) w 70 ⟨g, 3, none⟩ (by kernel_rfl) .i64 (k : Int) (by omega) (by rw [h3]; omega)
    rw [h1]
    have h2 : (sizeOf (Try.prog.elem 70)).run Try.prog w = .ok 1 w := by kernel_rfl
    rw [h2, h3]
    simp only [Result.andThen_ok, slicedAt, Int.toNat_natCast, Nat.mul_one, Addr.add_mid]
    by_cases h16 : 16 = k
    · rw [if_pos h16, if_pos h16]
    · rw [if_neg h16, if_neg h16]
  unfold Oper.wp execOp
  simp only [ho, hx, hy, Option.map_some, Option.map_none, hrun, Sem.run_bind, Sem.run_map, Sem.run_pure, Result.andThen_ok]
  refine hK _ _ (h _ fun W z hz => ?_)
  by_cases h16 : 16 = k
  · rw [if_pos h16, ← h16]
    exact ⟨by rw [List.length_drop, hz.1], by omega, fun hp => absurd hp (by omega)⟩
  · rw [if_neg h16]
    exact hz.reads k hk
end
section
variable {ops : Array Oper} {C : World → Prop} {Q : Act → Prop} {a : Act} {op : Oper} {rest : List Oper}
theorem qRosLoad (x : Operand) (ho : op.op = .load 72 x) {g : Nat} {y : Ro} (hl : y.st.length = 16) (hk : ∀ w, C w → Ros w g y) (hx : a.eval x = .pointer (some ⟨g, 0, none⟩)) (hw : Region.wanted op (yielded ops a.tmps) = true)
    (h : wpQuiet Try.prog ops C Q rest (a.put op.dst (ros y))) : wpQuiet Try.prog ops C Q (op :: rest) a :=
  qRowLoad hw _ x ho (fun w hC => (hk w hC).2) hx Try.underlying72 rfl (info_of_ros hl) h
theorem qCell (ty : TypeId) (x : Operand) (ho : op.op = .load ty x) {g o : Nat} {v : Value} (hc : ∀ w, C w → w.cell? ⟨g, o, none⟩ = some v) (hx : a.eval x = .pointer (some ⟨g, o, none⟩))
    (hag : ∀ w : World, (isAgg ty).run Try.prog w = .ok false w) (hw : Region.wanted op (yielded ops a.tmps) = true) (h : wpQuiet Try.prog ops C Q rest (a.put op.dst v)) : wpQuiet Try.prog ops C Q (op :: rest) a :=
  quiet_val hw _ (fun w hC => by
    unfold execOp
    simp only [ho, hx, Instr.loadAt, Instr.sureAddr, Sem.run_bind, Sem.run_map, Sem.run_pure, Result.andThen_ok, loadVar, hag, Bool.false_eq_true, if_false, run_load_plain (hc w hC)]) h
end
set_option maxRecDepth 100000 in
set_option maxHeartbeats 2000000 in
theorem May_A (m : Int) (s r : Int) (st : List Int) (cu : Int) (go : Bool) (HL : Hid (st.length = 16)) 
    (PG : Hid (∀ w : World, Calls Try.prog 126 #[geo m s r] w fun e w' => e = .returned (.bool false) ∧ Below w.heap.size w w')) (w : World) : Calls Try.prog 89 #[ros ⟨m, s, r, st, cu, go⟩] w fun e w' => e = .returned (.bool false) ∧ Below w.heap.size w w' := by
  have HB := Lib.hid (Below.refl w.heap.size w)
  go_enter Try.func89, Try.ntmps89
  go_wp2_with (first
    | (go_skip)
    | (refine rosBox (.tmp 0) rfl rfl HL.out rfl ?_; intro w1 hk hb hz1; have K1 := Lib.hid hk; replace HB := Lib.hid (below_ext HB.out hb); clear hk hb)
    | (refine geoLoad (.tmp 6) rfl K1.out rfl rfl ?_)
    | (go_at_call 126; refine (PG.out _).mono ?_; rintro e w2 ⟨rfl, hb⟩; replace K1 := Lib.hid (K1.out.below hb); replace HB := Lib.hid (below_ext HB.out hb); have hz2 := hb.size; clear hb)
    | (refine F.rowCell _ (.tmp 11) rfl K1.out.cu_ rfl agg_int rfl ?_)
    | (refine F.rowCell _ (.tmp 16) rfl K1.out.cu_ rfl agg_int rfl ?_)
    | (refine F.rowCell _ (.tmp 19) rfl K1.out.s_ rfl agg_int rfl ?_))
  go_ret
  exact ⟨rfl, HB.out⟩
set_option maxRecDepth 100000 in
set_option maxHeartbeats 2000000 in
theorem May_B (m : Int) (s r : Int) (st : List Int) (cu : Int) (go : Bool) (HL : Hid (st.length = 16)) (h1 : cu < 0)
    (PG : Hid (∀ w : World, Calls Try.prog 126 #[geo m s r] w fun e w' => e = .returned (.bool true) ∧ Below w.heap.size w w')) (w : World) : Calls Try.prog 89 #[ros ⟨m, s, r, st, cu, go⟩] w fun e w' => e = .returned (.bool false) ∧ Below w.heap.size w w' := by
  have HB := Lib.hid (Below.refl w.heap.size w)
  have g1 : decide (cu < 0) = true := by simpa using h1
  go_enter Try.func89, Try.ntmps89
  go_wp2_with (first
    | (go_skip)
    | (refine rosBox (.tmp 0) rfl rfl HL.out rfl ?_; intro w1 hk hb hz1; have K1 := Lib.hid hk; replace HB := Lib.hid (below_ext HB.out hb); clear hk hb)
    | (refine geoLoad (.tmp 6) rfl K1.out rfl rfl ?_)
    | (go_at_call 126; refine (PG.out _).mono ?_; rintro e w2 ⟨rfl, hb⟩; replace K1 := Lib.hid (K1.out.below hb); replace HB := Lib.hid (below_ext HB.out hb); have hz2 := hb.size; clear hb)
    | (refine F.rowCell _ (.tmp 11) rfl K1.out.cu_ rfl agg_int rfl ?_)
    | (refine F.rowCell _ (.tmp 16) rfl K1.out.cu_ rfl agg_int rfl ?_)
    | (refine F.rowCell _ (.tmp 19) rfl K1.out.s_ rfl agg_int rfl ?_))
  go_ret
  exact ⟨rfl, HB.out⟩
set_option maxRecDepth 100000 in
set_option maxHeartbeats 2000000 in
theorem May_C (m : Int) (s r : Int) (st : List Int) (cu : Int) (go : Bool) (HL : Hid (st.length = 16)) (h1 : 0 ≤ cu) (h2 : s ≤ cu)
    (PG : Hid (∀ w : World, Calls Try.prog 126 #[geo m s r] w fun e w' => e = .returned (.bool true) ∧ Below w.heap.size w w')) (w : World) : Calls Try.prog 89 #[ros ⟨m, s, r, st, cu, go⟩] w fun e w' => e = .returned (.bool false) ∧ Below w.heap.size w w' := by
  have HB := Lib.hid (Below.refl w.heap.size w)
  have g1 : decide (cu < 0) = false := by simp; omega
  have g2 : decide (s ≤ cu) = true := by simpa using h2
  go_enter Try.func89, Try.ntmps89
  go_wp2_with (first
    | (go_skip)
    | (refine rosBox (.tmp 0) rfl rfl HL.out rfl ?_; intro w1 hk hb hz1; have K1 := Lib.hid hk; replace HB := Lib.hid (below_ext HB.out hb); clear hk hb)
    | (refine geoLoad (.tmp 6) rfl K1.out rfl rfl ?_)
    | (go_at_call 126; refine (PG.out _).mono ?_; rintro e w2 ⟨rfl, hb⟩; replace K1 := Lib.hid (K1.out.below hb); replace HB := Lib.hid (below_ext HB.out hb); have hz2 := hb.size; clear hb)
    | (refine F.rowCell _ (.tmp 11) rfl K1.out.cu_ rfl agg_int rfl ?_)
    | (refine F.rowCell _ (.tmp 16) rfl K1.out.cu_ rfl agg_int rfl ?_)
    | (refine F.rowCell _ (.tmp 19) rfl K1.out.s_ rfl agg_int rfl ?_))
  go_ret
  exact ⟨rfl, HB.out⟩
set_option maxRecDepth 100000 in
set_option maxHeartbeats 2000000 in
theorem May_D (k : Nat) (s r : Int) (st : List Int) (cu : Int) (go : Bool) (HL : Hid (st.length = 16)) (k3 : 3 ≤ k) (k16 : k ≤ 16) (h1 : 0 ≤ cu) (h2 : cu < s) (hz : Hid (¬ ∀ j : Nat, j < 16 - k → rd (st.drop k) (j : Int) = 0))
    (PG : Hid (∀ w : World, Calls Try.prog 126 #[geo (k : Int) s r] w fun e w' => e = .returned (.bool true) ∧ Below w.heap.size w w')) (w : World) : Calls Try.prog 89 #[ros ⟨(k : Int), s, r, st, cu, go⟩] w fun e w' => e = .returned (.bool false) ∧ Below w.heap.size w w' := by
  have HB := Lib.hid (Below.refl w.heap.size w)
  have g1 : decide (cu < 0) = false := by simp; omega
  have g2 : decide (s ≤ cu) = false := by simp; omega
  go_enter Try.func89, Try.ntmps89
  go_wp2_with (first
    | (go_skip)
    | (refine rosBox (.tmp 0) rfl rfl HL.out rfl ?_; intro w1 hk hb hz1; have K1 := Lib.hid hk; replace HB := Lib.hid (below_ext HB.out hb); clear hk hb)
    | (refine geoLoad (.tmp 6) rfl K1.out rfl rfl ?_)
    | (go_at_call 126; refine (PG.out _).mono ?_; rintro e w2 ⟨rfl, hb⟩; replace K1 := Lib.hid (K1.out.below hb); replace HB := Lib.hid (below_ext HB.out hb); have hz2 := hb.size; clear hb)
    | (refine F.rowCell _ (.tmp 11) rfl K1.out.cu_ rfl agg_int rfl ?_)
    | (refine F.rowCell _ (.tmp 16) rfl K1.out.cu_ rfl agg_int rfl ?_)
    | (refine F.rowCell _ (.tmp 19) rfl K1.out.s_ rfl agg_int rfl ?_)
    | (refine F.rowCell _ (.tmp 25) rfl K1.out.m_ rfl agg_int rfl ?_)
    | (refine stsSlice (.tmp 23) (.tmp 26) rfl rfl rfl k16 rfl ?_; intro A hA; have HR := Lib.hid (hA _ _ K1.out); clear hA))
  have D0 : ∃ D, D = st.drop k := ⟨_, rfl⟩
  obtain ⟨D, hD⟩ := D0
  have HR2 : Hid (ReadsInt w2 .u8 A (16 - k) D) := Lib.hid (by rw [hD]; exact HR.out)
  replace hz := Lib.hid (show ¬ ∀ j : Nat, j < 16 - k → rd D (j : Int) = 0 from by rw [hD]; exact hz.out)
  clear HR hD
  go_loopw [29] (fun i wr => ∃ q : Nat, q ≤ 16 - k ∧ i = .int .i64 (q : Int) ∧ Hid (∀ j : Nat, j < q → rd D (j : Int) = 0) ∧ Hid (ReadsInt wr .u8 A (16 - k) D) ∧ Hid (Ros wr w.heap.size ⟨(k : Int), s, r, st, cu, go⟩) ∧ Hid (Below w.heap.size w wr)) (fun i _ => 16 - (intOf i).toNat)
  case atStart => exact ⟨0, by omega, rfl, Lib.hid (fun j h => absurd h (by omega)), HR2, K1, HB⟩
  case round =>
    clear HR2 K1 HB
    obtain ⟨q, hq, rfl, HA, HR, K1, HB⟩ := hrel
    have hi0 : (0 : Int) ≤ (q : Int) := by omega
    by_cases hlt : q < 16 - k
    · obtain ⟨ax, rfl, cx⟩ := HR.out.at_ (q : Int) (by omega) (by omega)
      simp only [Int.toNat_natCast] at cx
      by_cases he : rd D q = 0
      · have hb : (rd D q != 0) = false := by simp [he]
        have HE := Lib.hid he
        clear he
        go_wp2
        go_roundw
        case rel =>
          refine ⟨q + 1, by omega, by go_num, Lib.hid (fun j h1 => ?_), HR, K1, HB⟩
          rcases Nat.lt_or_ge j q with h | h
          · exact HA.out j h
          · obtain rfl : j = q := by omega
            exact HE.out
        case measure => simp [intOf]; omega
      · have hb : (rd D q != 0) = true := by simpa using he
        clear he
        go_wp2
        go_ret
        exact ⟨rfl, HB.out⟩
    · obtain rfl : q = 16 - k := by omega
      exact absurd (fun j h1 => HA.out j h1) hz.out
set_option maxRecDepth 100000 in
set_option maxHeartbeats 2000000 in
theorem May_E1 (k c0 c1 h : Nat) (s r : Int) (st : List Int) (cu : Int) (go : Bool) (HL : Hid (st.length = 16)) (k3 : 3 ≤ k) (k16 : k ≤ 16) (b0 : c0 ≤ 16) (b1 : c1 ≤ 16) (b2 : h ≤ 16) (h1 : 0 ≤ cu) (h2 : cu < s) (hz : Hid (∀ j : Nat, j < 16 - k → rd (st.drop k) (j : Int) = 0)) (h16 : c0 + c1 + h ≠ 16)
    (PG : Hid (∀ w : World, Calls Try.prog 126 #[geo (k : Int) s r] w fun e w' => e = .returned (.bool true) ∧ Below w.heap.size w w'))
    (C2 : Hid (∀ w : World, Calls Try.prog 133 #[ros ⟨(k : Int), s, r, st, cu, go⟩, .int .u8 2] w fun e w' => e = .returned (.int .i64 (h : Int)) ∧ Below w.heap.size w w'))
    (C0 : Hid (∀ w : World, Calls Try.prog 133 #[ros ⟨(k : Int), s, r, st, cu, go⟩, .int .u8 0] w fun e w' => e = .returned (.int .i64 (c0 : Int)) ∧ Below w.heap.size w w'))
    (C1 : Hid (∀ w : World, Calls Try.prog 133 #[ros ⟨(k : Int), s, r, st, cu, go⟩, .int .u8 1] w fun e w' => e = .returned (.int .i64 (c1 : Int)) ∧ Below w.heap.size w w')) (w : World) : Calls Try.prog 89 #[ros ⟨(k : Int), s, r, st, cu, go⟩] w fun e w' => e = .returned (.bool false) ∧ Below w.heap.size w w' := by
  have HB := Lib.hid (Below.refl w.heap.size w)
  have g1 : decide (cu < 0) = false := by simp; omega
  have g2 : decide (s ≤ cu) = false := by simp; omega
  have gs : ((c0 : Int) + (c1 : Int) + (h : Int) == 16) = false := by rw [beq_eq_false_iff_ne]; omega
  go_enter Try.func89, Try.ntmps89
  go_wp2_with (first
    | (go_skip)
    | (refine rosBox (.tmp 0) rfl rfl HL.out rfl ?_; intro w1 hk hb hz1; have K1 := Lib.hid hk; replace HB := Lib.hid (below_ext HB.out hb); clear hk hb)
    | (refine geoLoad (.tmp 6) rfl K1.out rfl rfl ?_)
    | (go_at_call 126; refine (PG.out _).mono ?_; rintro e w2 ⟨rfl, hb⟩; replace K1 := Lib.hid (K1.out.below hb); replace HB := Lib.hid (below_ext HB.out hb); have hz2 := hb.size; clear hb)
    | (refine F.rowCell _ (.tmp 11) rfl K1.out.cu_ rfl agg_int rfl ?_)
    | (refine F.rowCell _ (.tmp 16) rfl K1.out.cu_ rfl agg_int rfl ?_)
    | (refine F.rowCell _ (.tmp 19) rfl K1.out.s_ rfl agg_int rfl ?_)
    | (refine F.rowCell _ (.tmp 25) rfl K1.out.m_ rfl agg_int rfl ?_)
    | (refine stsSlice (.tmp 23) (.tmp 26) rfl rfl rfl k16 rfl ?_; intro A hA; have HR := Lib.hid (hA _ _ K1.out); clear hA))
  have D0 : ∃ D, D = st.drop k := ⟨_, rfl⟩
  obtain ⟨D, hD⟩ := D0
  have HR2 : Hid (ReadsInt w2 .u8 A (16 - k) D) := Lib.hid (by rw [hD]; exact HR.out)
  replace hz := Lib.hid (show ∀ j : Nat, j < 16 - k → rd D (j : Int) = 0 from by rw [hD]; exact hz.out)
  clear HR hD
  go_loopw [29] (fun i wr => ∃ q : Nat, q ≤ 16 - k ∧ i = .int .i64 (q : Int) ∧ Hid (∀ j : Nat, j < q → rd D (j : Int) = 0) ∧ Hid (ReadsInt wr .u8 A (16 - k) D) ∧ Hid (Ros wr w.heap.size ⟨(k : Int), s, r, st, cu, go⟩) ∧ Hid (Below w.heap.size w wr)) (fun i _ => 16 - (intOf i).toNat)
  case atStart => exact ⟨0, by omega, rfl, Lib.hid (fun j h => absurd h (by omega)), HR2, K1, HB⟩
  case round =>
    clear HR2 K1 HB
    obtain ⟨q, hq, rfl, HA, HR, K1, HB⟩ := hrel
    have hi0 : (0 : Int) ≤ (q : Int) := by omega
    by_cases hlt : q < 16 - k
    · obtain ⟨ax, rfl, cx⟩ := HR.out.at_ (q : Int) (by omega) (by omega)
      simp only [Int.toNat_natCast] at cx
      by_cases he : rd D q = 0
      · have hb : (rd D q != 0) = false := by simp [he]
        have HE := Lib.hid he
        clear he
        go_wp2
        go_roundw
        case rel =>
          refine ⟨q + 1, by omega, by go_num, Lib.hid (fun j h1 => ?_), HR, K1, HB⟩
          rcases Nat.lt_or_ge j q with h | h
          · exact HA.out j h
          · obtain rfl : j = q := by omega
            exact HE.out
        case measure => simp [intOf]; omega
      · exact absurd (hz.out q hlt) he
    · obtain rfl : q = 16 - k := by omega
      clear HA HR hz
      go_wp2_with (first
        | (refine rosLoad (.tmp 1) rfl K1.out rfl rfl ?_)
        | (go_at_call 133; refine (C2.out _).mono ?_; rintro e w5 ⟨rfl, hb⟩; replace K1 := Lib.hid (K1.out.below hb); replace HB := Lib.hid (below_ext HB.out hb); clear hb C2))
      have qK1 := K1.out.later
      have tq0 : True := trivial
      refine wp_region_cls (fun w9 => ∃ x : Later w5, w9 = x.w) (by kernel_rfl) (by kernel_rfl) (Later.drew _) ?_
      repeat (first
        | go_big_quiet_skip
        | (refine qRosLoad (.tmp 1) rfl HL.out qK1 rfl rfl ?_; simp only [Act.put, List.setIfInBounds_toArray, List.set_cons_zero, List.set_cons_succ])
        | (refine qCell _ (.tmp 53) rfl (fun w hC => (qK1 w hC).cu_) rfl agg_int rfl ?_; simp only [Act.put, List.setIfInBounds_toArray, List.set_cons_zero, List.set_cons_succ])
        | (have _t := tq0; refine qAt 133 rfl ?_; go_big_quiet_want; go_big_quiet_op; apply Exists.intro; refine ⟨fun x => ?_, ?_⟩; (· refine (C0.out _).mono ?_; rintro e x2 ⟨rfl, hb⟩; exact ⟨rfl, x.ext hb⟩); go_big_quiet_on; have tq1 : True := trivial; clear _t tq0)
        | (have _t := tq1; refine qAt 133 rfl ?_; go_big_quiet_want; go_big_quiet_op; apply Exists.intro; refine ⟨fun x => ?_, ?_⟩; (· refine (C1.out _).mono ?_; rintro e x2 ⟨rfl, hb⟩; exact ⟨rfl, x.ext hb⟩); go_big_quiet_on; have tq2 : True := trivial; clear _t tq1)
        | (go_big_quiet_want; go_big_quiet_op; go_big_quiet_on))
      refine wpQuiet_nil ?_
      rintro w9 ⟨⟨x9, h9⟩, rfl⟩
      have hb9 := below_ext HB.out h9
      clear h9
      go_wp2
      go_ret
      exact ⟨rfl, hb9⟩
set_option maxRecDepth 100000 in
set_option maxHeartbeats 2000000 in
theorem May_E2 (k c0 c1 h : Nat) (s r : Int) (st : List Int) (cu : Int) (go : Bool) (HL : Hid (st.length = 16)) (k3 : 3 ≤ k) (k16 : k ≤ 16) (b0 : c0 ≤ 16) (b1 : c1 ≤ 16) (b2 : h ≤ 16) (h1 : 0 ≤ cu) (h2 : cu < s) (hz : Hid (∀ j : Nat, j < 16 - k → rd (st.drop k) (j : Int) = 0)) (h16 : c0 + c1 + h = 16) (hh : h = 1)
    (PG : Hid (∀ w : World, Calls Try.prog 126 #[geo (k : Int) s r] w fun e w' => e = .returned (.bool true) ∧ Below w.heap.size w w'))
    (C2 : Hid (∀ w : World, Calls Try.prog 133 #[ros ⟨(k : Int), s, r, st, cu, go⟩, .int .u8 2] w fun e w' => e = .returned (.int .i64 (h : Int)) ∧ Below w.heap.size w w'))
    (C0 : Hid (∀ w : World, Calls Try.prog 133 #[ros ⟨(k : Int), s, r, st, cu, go⟩, .int .u8 0] w fun e w' => e = .returned (.int .i64 (c0 : Int)) ∧ Below w.heap.size w w'))
    (C1 : Hid (∀ w : World, Calls Try.prog 133 #[ros ⟨(k : Int), s, r, st, cu, go⟩, .int .u8 1] w fun e w' => e = .returned (.int .i64 (c1 : Int)) ∧ Below w.heap.size w w')) (w : World) : Calls Try.prog 89 #[ros ⟨(k : Int), s, r, st, cu, go⟩] w fun e w' => e = .returned (.bool true) ∧ Below w.heap.size w w' := by
  have HB := Lib.hid (Below.refl w.heap.size w)
  have g1 : decide (cu < 0) = false := by simp; omega
  have g2 : decide (s ≤ cu) = false := by simp; omega
  have gs : ((c0 : Int) + (c1 : Int) + (h : Int) == 16) = true := by rw [beq_iff_eq]; omega
  have gh : ((h : Int) == 1) = true := by rw [beq_iff_eq]; omega
  clear hh
  go_enter Try.func89, Try.ntmps89
  go_wp2_with (first
    | (go_skip)
    | (refine rosBox (.tmp 0) rfl rfl HL.out rfl ?_; intro w1 hk hb hz1; have K1 := Lib.hid hk; replace HB := Lib.hid (below_ext HB.out hb); clear hk hb)
    | (refine geoLoad (.tmp 6) rfl K1.out rfl rfl ?_)
    | (go_at_call 126; refine (PG.out _).mono ?_; rintro e w2 ⟨rfl, hb⟩; replace K1 := Lib.hid (K1.out.below hb); replace HB := Lib.hid (below_ext HB.out hb); have hz2 := hb.size; clear hb)
    | (refine F.rowCell _ (.tmp 11) rfl K1.out.cu_ rfl agg_int rfl ?_)
    | (refine F.rowCell _ (.tmp 16) rfl K1.out.cu_ rfl agg_int rfl ?_)
    | (refine F.rowCell _ (.tmp 19) rfl K1.out.s_ rfl agg_int rfl ?_)
    | (refine F.rowCell _ (.tmp 25) rfl K1.out.m_ rfl agg_int rfl ?_)
    | (refine stsSlice (.tmp 23) (.tmp 26) rfl rfl rfl k16 rfl ?_; intro A hA; have HR := Lib.hid (hA _ _ K1.out); clear hA))
  have D0 : ∃ D, D = st.drop k := ⟨_, rfl⟩
  obtain ⟨D, hD⟩ := D0
  have HR2 : Hid (ReadsInt w2 .u8 A (16 - k) D) := Lib.hid (by rw [hD]; exact HR.out)
  replace hz := Lib.hid (show ∀ j : Nat, j < 16 - k → rd D (j : Int) = 0 from by rw [hD]; exact hz.out)
  clear HR hD
  go_loopw [29] (fun i wr => ∃ q : Nat, q ≤ 16 - k ∧ i = .int .i64 (q : Int) ∧ Hid (∀ j : Nat, j < q → rd D (j : Int) = 0) ∧ Hid (ReadsInt wr .u8 A (16 - k) D) ∧ Hid (Ros wr w.heap.size ⟨(k : Int), s, r, st, cu, go⟩) ∧ Hid (Below w.heap.size w wr)) (fun i _ => 16 - (intOf i).toNat)
  case atStart => exact ⟨0, by omega, rfl, Lib.hid (fun j h => absurd h (by omega)), HR2, K1, HB⟩
  case round =>
    clear HR2 K1 HB
    obtain ⟨q, hq, rfl, HA, HR, K1, HB⟩ := hrel
    have hi0 : (0 : Int) ≤ (q : Int) := by omega
    by_cases hlt : q < 16 - k
    · obtain ⟨ax, rfl, cx⟩ := HR.out.at_ (q : Int) (by omega) (by omega)
      simp only [Int.toNat_natCast] at cx
      by_cases he : rd D q = 0
      · have hb : (rd D q != 0) = false := by simp [he]
        have HE := Lib.hid he
        clear he
        go_wp2
        go_roundw
        case rel =>
          refine ⟨q + 1, by omega, by go_num, Lib.hid (fun j h1 => ?_), HR, K1, HB⟩
          rcases Nat.lt_or_ge j q with h | h
          · exact HA.out j h
          · obtain rfl : j = q := by omega
            exact HE.out
        case measure => simp [intOf]; omega
      · exact absurd (hz.out q hlt) he
    · obtain rfl : q = 16 - k := by omega
      clear HA HR hz
      go_wp2_with (first
        | (refine rosLoad (.tmp 1) rfl K1.out rfl rfl ?_)
        | (go_at_call 133; refine (C2.out _).mono ?_; rintro e w5 ⟨rfl, hb⟩; replace K1 := Lib.hid (K1.out.below hb); replace HB := Lib.hid (below_ext HB.out hb); clear hb C2))
      have qK1 := K1.out.later
      have tq0 : True := trivial
      refine wp_region_cls (fun w9 => ∃ x : Later w5, w9 = x.w) (by kernel_rfl) (by kernel_rfl) (Later.drew _) ?_
      repeat (first
        | go_big_quiet_skip
        | (refine qRosLoad (.tmp 1) rfl HL.out qK1 rfl rfl ?_; simp only [Act.put, List.setIfInBounds_toArray, List.set_cons_zero, List.set_cons_succ])
        | (refine qCell _ (.tmp 53) rfl (fun w hC => (qK1 w hC).cu_) rfl agg_int rfl ?_; simp only [Act.put, List.setIfInBounds_toArray, List.set_cons_zero, List.set_cons_succ])
        | (have _t := tq0; refine qAt 133 rfl ?_; go_big_quiet_want; go_big_quiet_op; apply Exists.intro; refine ⟨fun x => ?_, ?_⟩; (· refine (C0.out _).mono ?_; rintro e x2 ⟨rfl, hb⟩; exact ⟨rfl, x.ext hb⟩); go_big_quiet_on; have tq1 : True := trivial; clear _t tq0)
        | (have _t := tq1; refine qAt 133 rfl ?_; go_big_quiet_want; go_big_quiet_op; apply Exists.intro; refine ⟨fun x => ?_, ?_⟩; (· refine (C1.out _).mono ?_; rintro e x2 ⟨rfl, hb⟩; exact ⟨rfl, x.ext hb⟩); go_big_quiet_on; have tq2 : True := trivial; clear _t tq1)
        | (go_big_quiet_want; go_big_quiet_op; go_big_quiet_on))
      refine wpQuiet_nil ?_
      rintro w9 ⟨⟨x9, h9⟩, rfl⟩
      have hb9 := below_ext HB.out h9
      clear h9
      go_wp2
      go_ret
      exact ⟨rfl, hb9⟩
set_option maxRecDepth 100000 in
set_option maxHeartbeats 2000000 in
theorem May_E3 (k c0 c1 h : Nat) (s r : Int) (st : List Int) (cu : Int) (go : Bool) (HL : Hid (st.length = 16)) (k3 : 3 ≤ k) (k16 : k ≤ 16) (b0 : c0 ≤ 16) (b1 : c1 ≤ 16) (b2 : h ≤ 16) (h1 : 0 ≤ cu) (h2 : cu < s) (hz : Hid (∀ j : Nat, j < 16 - k → rd (st.drop k) (j : Int) = 0)) (h16 : c0 + c1 + h = 16) (hh : 1 < h)
    (PG : Hid (∀ w : World, Calls Try.prog 126 #[geo (k : Int) s r] w fun e w' => e = .returned (.bool true) ∧ Below w.heap.size w w'))
    (C2 : Hid (∀ w : World, Calls Try.prog 133 #[ros ⟨(k : Int), s, r, st, cu, go⟩, .int .u8 2] w fun e w' => e = .returned (.int .i64 (h : Int)) ∧ Below w.heap.size w w'))
    (C0 : Hid (∀ w : World, Calls Try.prog 133 #[ros ⟨(k : Int), s, r, st, cu, go⟩, .int .u8 0] w fun e w' => e = .returned (.int .i64 (c0 : Int)) ∧ Below w.heap.size w w'))
    (C1 : Hid (∀ w : World, Calls Try.prog 133 #[ros ⟨(k : Int), s, r, st, cu, go⟩, .int .u8 1] w fun e w' => e = .returned (.int .i64 (c1 : Int)) ∧ Below w.heap.size w w')) (w : World) : Calls Try.prog 89 #[ros ⟨(k : Int), s, r, st, cu, go⟩] w fun e w' => e = .returned (.bool false) ∧ Below w.heap.size w w' := by
  have HB := Lib.hid (Below.refl w.heap.size w)
  have g1 : decide (cu < 0) = false := by simp; omega
  have g2 : decide (s ≤ cu) = false := by simp; omega
  have gs : ((c0 : Int) + (c1 : Int) + (h : Int) == 16) = true := by rw [beq_iff_eq]; omega
  have gh : ((h : Int) == 1) = false := by rw [beq_eq_false_iff_ne]; omega
  have gh0 : ((h : Int) == 0) = false := by rw [beq_eq_false_iff_ne]; omega
  go_enter Try.func89, Try.ntmps89
  go_wp2_with (first
    | (go_skip)
    | (refine rosBox (.tmp 0) rfl rfl HL.out rfl ?_; intro w1 hk hb hz1; have K1 := Lib.hid hk; replace HB := Lib.hid (below_ext HB.out hb); clear hk hb)
    | (refine geoLoad (.tmp 6) rfl K1.out rfl rfl ?_)
    | (go_at_call 126; refine (PG.out _).mono ?_; rintro e w2 ⟨rfl, hb⟩; replace K1 := Lib.hid (K1.out.below hb); replace HB := Lib.hid (below_ext HB.out hb); have hz2 := hb.size; clear hb)
    | (refine F.rowCell _ (.tmp 11) rfl K1.out.cu_ rfl agg_int rfl ?_)
    | (refine F.rowCell _ (.tmp 16) rfl K1.out.cu_ rfl agg_int rfl ?_)
    | (refine F.rowCell _ (.tmp 19) rfl K1.out.s_ rfl agg_int rfl ?_)
    | (refine F.rowCell _ (.tmp 25) rfl K1.out.m_ rfl agg_int rfl ?_)
    | (refine stsSlice (.tmp 23) (.tmp 26) rfl rfl rfl k16 rfl ?_; intro A hA; have HR := Lib.hid (hA _ _ K1.out); clear hA))
  have D0 : ∃ D, D = st.drop k := ⟨_, rfl⟩
  obtain ⟨D, hD⟩ := D0
  have HR2 : Hid (ReadsInt w2 .u8 A (16 - k) D) := Lib.hid (by rw [hD]; exact HR.out)
  replace hz := Lib.hid (show ∀ j : Nat, j < 16 - k → rd D (j : Int) = 0 from by rw [hD]; exact hz.out)
  clear HR hD
  go_loopw [29] (fun i wr => ∃ q : Nat, q ≤ 16 - k ∧ i = .int .i64 (q : Int) ∧ Hid (∀ j : Nat, j < q → rd D (j : Int) = 0) ∧ Hid (ReadsInt wr .u8 A (16 - k) D) ∧ Hid (Ros wr w.heap.size ⟨(k : Int), s, r, st, cu, go⟩) ∧ Hid (Below w.heap.size w wr)) (fun i _ => 16 - (intOf i).toNat)
  case atStart => exact ⟨0, by omega, rfl, Lib.hid (fun j h => absurd h (by omega)), HR2, K1, HB⟩
  case round =>
    clear HR2 K1 HB
    obtain ⟨q, hq, rfl, HA, HR, K1, HB⟩ := hrel
    have hi0 : (0 : Int) ≤ (q : Int) := by omega
    by_cases hlt : q < 16 - k
    · obtain ⟨ax, rfl, cx⟩ := HR.out.at_ (q : Int) (by omega) (by omega)
      simp only [Int.toNat_natCast] at cx
      by_cases he : rd D q = 0
      · have hb : (rd D q != 0) = false := by simp [he]
        have HE := Lib.hid he
        clear he
        go_wp2
        go_roundw
        case rel =>
          refine ⟨q + 1, by omega, by go_num, Lib.hid (fun j h1 => ?_), HR, K1, HB⟩
          rcases Nat.lt_or_ge j q with h | h
          · exact HA.out j h
          · obtain rfl : j = q := by omega
            exact HE.out
        case measure => simp [intOf]; omega
      · exact absurd (hz.out q hlt) he
    · obtain rfl : q = 16 - k := by omega
      clear HA HR hz
      go_wp2_with (first
        | (refine rosLoad (.tmp 1) rfl K1.out rfl rfl ?_)
        | (go_at_call 133; refine (C2.out _).mono ?_; rintro e w5 ⟨rfl, hb⟩; replace K1 := Lib.hid (K1.out.below hb); replace HB := Lib.hid (below_ext HB.out hb); clear hb C2))
      have qK1 := K1.out.later
      have tq0 : True := trivial
      refine wp_region_cls (fun w9 => ∃ x : Later w5, w9 = x.w) (by kernel_rfl) (by kernel_rfl) (Later.drew _) ?_
      repeat (first
        | go_big_quiet_skip
        | (refine qRosLoad (.tmp 1) rfl HL.out qK1 rfl rfl ?_; simp only [Act.put, List.setIfInBounds_toArray, List.set_cons_zero, List.set_cons_succ])
        | (refine qCell _ (.tmp 53) rfl (fun w hC => (qK1 w hC).cu_) rfl agg_int rfl ?_; simp only [Act.put, List.setIfInBounds_toArray, List.set_cons_zero, List.set_cons_succ])
        | (have _t := tq0; refine qAt 133 rfl ?_; go_big_quiet_want; go_big_quiet_op; apply Exists.intro; refine ⟨fun x => ?_, ?_⟩; (· refine (C0.out _).mono ?_; rintro e x2 ⟨rfl, hb⟩; exact ⟨rfl, x.ext hb⟩); go_big_quiet_on; have tq1 : True := trivial; clear _t tq0)
        | (have _t := tq1; refine qAt 133 rfl ?_; go_big_quiet_want; go_big_quiet_op; apply Exists.intro; refine ⟨fun x => ?_, ?_⟩; (· refine (C1.out _).mono ?_; rintro e x2 ⟨rfl, hb⟩; exact ⟨rfl, x.ext hb⟩); go_big_quiet_on; have tq2 : True := trivial; clear _t tq1)
        | (go_big_quiet_want; go_big_quiet_op; go_big_quiet_on))
      refine wpQuiet_nil ?_
      rintro w9 ⟨⟨x9, h9⟩, rfl⟩
      have hb9 := below_ext HB.out h9
      clear h9
      go_wp2
      go_ret
      exact ⟨rfl, hb9⟩
set_option maxRecDepth 100000 in
set_option maxHeartbeats 2000000 in
theorem May_E4 (k c0 c1 h : Nat) (s r : Int) (st : List Int) (cu : Int) (go : Bool) (HL : Hid (st.length = 16)) (k3 : 3 ≤ k) (k16 : k ≤ 16) (b0 : c0 ≤ 16) (b1 : c1 ≤ 16) (b2 : h ≤ 16) (h1 : 0 ≤ cu) (h2 : cu < s) (hz : Hid (∀ j : Nat, j < 16 - k → rd (st.drop k) (j : Int) = 0)) (h16 : c0 + c1 + h = 16) (hh : h = 0) (z : Bool) (hc : (cu == 0) = z)
    (PG : Hid (∀ w : World, Calls Try.prog 126 #[geo (k : Int) s r] w fun e w' => e = .returned (.bool true) ∧ Below w.heap.size w w'))
    (C2 : Hid (∀ w : World, Calls Try.prog 133 #[ros ⟨(k : Int), s, r, st, cu, go⟩, .int .u8 2] w fun e w' => e = .returned (.int .i64 (h : Int)) ∧ Below w.heap.size w w'))
    (C0 : Hid (∀ w : World, Calls Try.prog 133 #[ros ⟨(k : Int), s, r, st, cu, go⟩, .int .u8 0] w fun e w' => e = .returned (.int .i64 (c0 : Int)) ∧ Below w.heap.size w w'))
    (C1 : Hid (∀ w : World, Calls Try.prog 133 #[ros ⟨(k : Int), s, r, st, cu, go⟩, .int .u8 1] w fun e w' => e = .returned (.int .i64 (c1 : Int)) ∧ Below w.heap.size w w')) (w : World) : Calls Try.prog 89 #[ros ⟨(k : Int), s, r, st, cu, go⟩] w fun e w' => e = .returned (.bool z) ∧ Below w.heap.size w w' := by
  have HB := Lib.hid (Below.refl w.heap.size w)
  have g1 : decide (cu < 0) = false := by simp; omega
  have g2 : decide (s ≤ cu) = false := by simp; omega
  have gs : ((c0 : Int) + (c1 : Int) + (h : Int) == 16) = true := by rw [beq_iff_eq]; omega
  have gh : ((h : Int) == 1) = false := by rw [beq_eq_false_iff_ne]; omega
  have gh0 : ((h : Int) == 0) = true := by rw [beq_iff_eq]; omega
  clear hh
  go_enter Try.func89, Try.ntmps89
  go_wp2_with (first
    | (go_skip)
    | (refine rosBox (.tmp 0) rfl rfl HL.out rfl ?_; intro w1 hk hb hz1; have K1 := Lib.hid hk; replace HB := Lib.hid (below_ext HB.out hb); clear hk hb)
    | (refine geoLoad (.tmp 6) rfl K1.out rfl rfl ?_)
    | (go_at_call 126; refine (PG.out _).mono ?_; rintro e w2 ⟨rfl, hb⟩; replace K1 := Lib.hid (K1.out.below hb); replace HB := Lib.hid (below_ext HB.out hb); have hz2 := hb.size; clear hb)
    | (refine F.rowCell _ (.tmp 11) rfl K1.out.cu_ rfl agg_int rfl ?_)
    | (refine F.rowCell _ (.tmp 16) rfl K1.out.cu_ rfl agg_int rfl ?_)
    | (refine F.rowCell _ (.tmp 19) rfl K1.out.s_ rfl agg_int rfl ?_)
    | (refine F.rowCell _ (.tmp 25) rfl K1.out.m_ rfl agg_int rfl ?_)
    | (refine stsSlice (.tmp 23) (.tmp 26) rfl rfl rfl k16 rfl ?_; intro A hA; have HR := Lib.hid (hA _ _ K1.out); clear hA))
  have D0 : ∃ D, D = st.drop k := ⟨_, rfl⟩
  obtain ⟨D, hD⟩ := D0
  have HR2 : Hid (ReadsInt w2 .u8 A (16 - k) D) := Lib.hid (by rw [hD]; exact HR.out)
  replace hz := Lib.hid (show ∀ j : Nat, j < 16 - k → rd D (j : Int) = 0 from by rw [hD]; exact hz.out)
  clear HR hD
  go_loopw [29] (fun i wr => ∃ q : Nat, q ≤ 16 - k ∧ i = .int .i64 (q : Int) ∧ Hid (∀ j : Nat, j < q → rd D (j : Int) = 0) ∧ Hid (ReadsInt wr .u8 A (16 - k) D) ∧ Hid (Ros wr w.heap.size ⟨(k : Int), s, r, st, cu, go⟩) ∧ Hid (Below w.heap.size w wr)) (fun i _ => 16 - (intOf i).toNat)
  case atStart => exact ⟨0, by omega, rfl, Lib.hid (fun j h => absurd h (by omega)), HR2, K1, HB⟩
  case round =>
    clear HR2 K1 HB
    obtain ⟨q, hq, rfl, HA, HR, K1, HB⟩ := hrel
    have hi0 : (0 : Int) ≤ (q : Int) := by omega
    by_cases hlt : q < 16 - k
    · obtain ⟨ax, rfl, cx⟩ := HR.out.at_ (q : Int) (by omega) (by omega)
      simp only [Int.toNat_natCast] at cx
      by_cases he : rd D q = 0
      · have hb : (rd D q != 0) = false := by simp [he]
        have HE := Lib.hid he
        clear he
        go_wp2
        go_roundw
        case rel =>
          refine ⟨q + 1, by omega, by go_num, Lib.hid (fun j h1 => ?_), HR, K1, HB⟩
          rcases Nat.lt_or_ge j q with h | h
          · exact HA.out j h
          · obtain rfl : j = q := by omega
            exact HE.out
        case measure => simp [intOf]; omega
      · exact absurd (hz.out q hlt) he
    · obtain rfl : q = 16 - k := by omega
      clear HA HR hz
      go_wp2_with (first
        | (refine rosLoad (.tmp 1) rfl K1.out rfl rfl ?_)
        | (go_at_call 133; refine (C2.out _).mono ?_; rintro e w5 ⟨rfl, hb⟩; replace K1 := Lib.hid (K1.out.below hb); replace HB := Lib.hid (below_ext HB.out hb); clear hb C2))
      have qK1 := K1.out.later
      have tq0 : True := trivial
      refine wp_region_cls (fun w9 => ∃ x : Later w5, w9 = x.w) (by kernel_rfl) (by kernel_rfl) (Later.drew _) ?_
      repeat (first
        | go_big_quiet_skip
        | (refine qRosLoad (.tmp 1) rfl HL.out qK1 rfl rfl ?_; simp only [Act.put, List.setIfInBounds_toArray, List.set_cons_zero, List.set_cons_succ])
        | (refine qCell _ (.tmp 53) rfl (fun w hC => (qK1 w hC).cu_) rfl agg_int rfl ?_; simp only [Act.put, List.setIfInBounds_toArray, List.set_cons_zero, List.set_cons_succ])
        | (have _t := tq0; refine qAt 133 rfl ?_; go_big_quiet_want; go_big_quiet_op; apply Exists.intro; refine ⟨fun x => ?_, ?_⟩; (· refine (C0.out _).mono ?_; rintro e x2 ⟨rfl, hb⟩; exact ⟨rfl, x.ext hb⟩); go_big_quiet_on; have tq1 : True := trivial; clear _t tq0)
        | (have _t := tq1; refine qAt 133 rfl ?_; go_big_quiet_want; go_big_quiet_op; apply Exists.intro; refine ⟨fun x => ?_, ?_⟩; (· refine (C1.out _).mono ?_; rintro e x2 ⟨rfl, hb⟩; exact ⟨rfl, x.ext hb⟩); go_big_quiet_on; have tq2 : True := trivial; clear _t tq1)
        | (go_big_quiet_want; go_big_quiet_op; go_big_quiet_on))
      refine wpQuiet_nil ?_
      rintro w9 ⟨⟨x9, h9⟩, rfl⟩
      have hb9 := below_ext HB.out h9
      clear h9
      go_wp2
      go_ret
      exact ⟨rfl, hb9⟩
end Go.Proofs.Ytdchcggllcgokaa.Q
