/-
  A superblock's fields are written; (*super.reader).take, ashlarref08.number. super.Get: laws for the walk. super.Get: what its walks end with.
-/
import Derived.Test.YtdchcggllcgokaaSqM
import Derived.Deep.RegionHeld3
import Derived.Deep.MidRow
import Derived.StillTail
import Derived.StillTactics
namespace Go.Proofs.Ytdchcggllcgokaa.Q
open Go.RowKit Go.Proofs.Ytdchcggllcgokaa.L Go.Proofs.Ytdchcggllcgokaa.U Go.Proofs.Ytdchcggllcgokaa.E Go.Proofs.Ytdchcggllcgokaa.R Go.Proofs.YtdchcggllcgokaaW.PrintWords
set_option linter.unusedVariables false
set_option linter.unusedSimpArgs false
theorem size3 : (Try.prog.info? 68).map (·.size) = some 3 := info_geo
theorem supL_self (y : Su) (v : Int) : (supL y).toArray.setIfInBounds 1 (.int .i64 v) = (supL { y with self := v }).toArray := rfl
theorem supL_geo (y : Su) (m s r : Int) : (((supL y).toArray.setIfInBounds 2 (.int .i64 m)).setIfInBounds 3 (.int .i64 s)).setIfInBounds 4 (.int .i64 r) = (supL { y with x := { y.x with m := m, s := s, r := r } }).toArray := by
  simp [supL, rosL, List.setIfInBounds_toArray]
theorem supL_x {y : Su} {j : Nat} {v : Value} {z : Ro} (h : (rosL y.x).toArray.setIfInBounds j v = (rosL z).toArray) : (supL y).toArray.setIfInBounds (2 + j) v = (supL { y with x := z }).toArray := by
  rw [List.setIfInBounds_toArray] at h ⊢
  have h2 : (rosL y.x).set j v = rosL z := by simpa using h
  rw [show 2 + j = j + 1 + 1 by omega]
  simp only [supL, List.set_cons_succ, h2]
section
variable {ops : Array Oper} {rest : List Oper} {op : Oper} {a : Act} {w : World} {Q : Exit → Act → World → Prop}
theorem supSetSelf (x y : Operand) (ho : op.op = .store 3 x y) {g : Nat} {z : Su} (hk : Sup w g z) (hx : a.eval x = .pointer (some ⟨g, 1, none⟩)) (v : Int) (hy : a.eval y = .int .i64 v) (hw : Region.wanted op (yielded ops a.tmps) = true)
    (h : ∀ w1, Sup w1 g { z with self := v } → w.grownBy w1 (some g) → wpList Try.prog ops Q rest (a.put op.dst undef) w1) : wpList Try.prog ops Q (op :: rest) a w :=
  R.rowSet hw _ x y ho hk.2 1 (by rw [List.size_toArray, supL_length hk.1]; decide) hx _ hy rfl rfl info_int fun w1 h1 h2 => h w1 ⟨hk.1, by rwa [supL_self] at h1⟩ h2
theorem supSetCu (x y : Operand) (ho : op.op = .store 3 x y) {g : Nat} {z : Su} (hk : Sup w g z) (hx : a.eval x = .pointer (some ⟨g, 21, none⟩)) (v : Int) (hy : a.eval y = .int .i64 v) (hw : Region.wanted op (yielded ops a.tmps) = true)
    (h : ∀ w1, Sup w1 g { z with x := { z.x with cu := v } } → w.grownBy w1 (some g) → wpList Try.prog ops Q rest (a.put op.dst undef) w1) : wpList Try.prog ops Q (op :: rest) a w :=
  R.rowSet hw _ x y ho hk.2 21 (by rw [List.size_toArray, supL_length hk.1]; decide) hx _ hy rfl rfl info_int fun w1 h1 h2 => h w1 ⟨hk.1, by rwa [show 21 = 2 + 19 from rfl, supL_x (set_cu hk.1 v)] at h1⟩ h2
theorem supSetGo (x y : Operand) (ho : op.op = .store 4 x y) {g : Nat} {z : Su} (hk : Sup w g z) (hx : a.eval x = .pointer (some ⟨g, 22, none⟩)) (v : Bool) (hy : a.eval y = .bool v) (hw : Region.wanted op (yielded ops a.tmps) = true)
    (h : ∀ w1, Sup w1 g { z with x := { z.x with go := v } } → w.grownBy w1 (some g) → wpList Try.prog ops Q rest (a.put op.dst undef) w1) : wpList Try.prog ops Q (op :: rest) a w :=
  R.rowSet hw _ x y ho hk.2 22 (by rw [List.size_toArray, supL_length hk.1]; decide) hx _ hy rfl rfl info_bool fun w1 h1 h2 => h w1 ⟨hk.1, by rwa [show 22 = 2 + 20 from rfl, supL_x (set_go hk.1 v)] at h1⟩ h2
theorem supSetSt (x y : Operand) (ho : op.op = .store 5 x y) {g : Nat} {z : Su} (hk : Sup w g z) (i : Nat) (hi : i < 16) (hx : a.eval x = .pointer (some ⟨g, 5 + i, none⟩)) (v : Int) (hy : a.eval y = .int .u8 v) (hw : Region.wanted op (yielded ops a.tmps) = true)
    (h : ∀ w1, Sup w1 g { z with x := { z.x with st := z.x.st.set i v } } → w.grownBy w1 (some g) → wpList Try.prog ops Q rest (a.put op.dst undef) w1) : wpList Try.prog ops Q (op :: rest) a w :=
  R.rowSet hw _ x y ho hk.2 (5 + i) (by rw [List.size_toArray, supL_length hk.1]; omega) hx _ hy rfl rfl info_u8 fun w1 h1 h2 => h w1 ⟨by show (z.x.st.set i v).length = 16; rw [List.length_set]; exact hk.1, by rwa [show 5 + i = 2 + (3 + i) by omega, supL_x (set_st hk.1 i hi v)] at h1⟩ h2
theorem supSetGeo (x y : Operand) (ho : op.op = .store 68 x y) {g : Nat} {z : Su} (hk : Sup w g z) (hx : a.eval x = .pointer (some ⟨g, 2, none⟩)) (m s r : Int) (hy : a.eval y = .agg #[.int .i64 m, .int .i64 s, .int .i64 r]) (hw : Region.wanted op (yielded ops a.tmps) = true)
    (h : ∀ w1, Sup w1 g { z with x := { z.x with m := m, s := s, r := r } } → w.grownBy w1 (some g) → wpList Try.prog ops Q rest (a.put op.dst undef) w1) : wpList Try.prog ops Q (op :: rest) a w := by
  refine wanted_step hw fun K hK => ?_
  have hs := run_storeCells_cells (P := Try.prog) g 2 [.int .i64 m, .int .i64 s, .int .i64 r] 0 w (fun j hj => by
    have hj : j < 3 := by simpa using hj
    match j, hj with
    | 0, _ => show (w.cell? ⟨g, 2, none⟩).isSome = true; rw [hk.cm]; rfl
    | 1, _ => show (w.cell? ⟨g, 3, none⟩).isSome = true; rw [hk.cs]; rfl
    | 2, _ => show (w.cell? ⟨g, 4, none⟩).isSome = true; rw [hk.cr]; rfl) (fun j hj => hk.2.free) (fun u hu => by
    simp only [List.mem_cons, List.not_mem_nil, or_false] at hu
    rcases hu with rfl | rfl | rfl <;> rfl)
  have hrun : (storeVar 68 ⟨g, 2, none⟩ (.agg #[.int .i64 m, .int .i64 s, .int .i64 r])).run Try.prog w = .ok () (((w.setCell ⟨g, 2, none⟩ (.int .i64 m)).setCell ⟨g, 3, none⟩ (.int .i64 s)).setCell ⟨g, 4, none⟩ (.int .i64 r)) := by
    have hi := size3
    cases hq : Try.prog.info? 68 with
    | none => simp [hq] at hi
    | some i =>
      have hs1 : i.size = 3 := by simpa [hq] using hi
      simp only [Nat.add_zero] at hs
      simpa [storeVar, sizeOf, typeInfo, hq, Value.cells, hs1, World.setCells] using hs
  have r1 := setCell_row (o := 2) (v := .int .i64 m) hk.2
  have r2 := setCell_row (o := 3) (v := .int .i64 s) r1.1
  have r3 := setCell_row (o := 4) (v := .int .i64 r) r2.1
  unfold Oper.wp execOp
  simp only [ho, hx, hy, Instr.storeAt, Instr.sureAddr, Sem.run_bind, Sem.run_pure, Result.andThen_ok, hrun]
  exact hK _ _ (h _ ⟨hk.1, by have h9 := r3.1; rwa [supL_geo] at h9⟩ ((r1.2.trans r2.2).trans r3.2))
theorem supBuildI (t : Operand) (ho : op.op = .build 110 #[(0, t)]) {i : Nat} (ht : a.eval t = .int .u64 (i : Int)) (hw : Region.wanted op (yielded ops a.tmps) = true) (h : wpList Try.prog ops Q rest (a.put op.dst (sup ⟨i, 0, ro0⟩)) w) : wpList Try.prog ops Q (op :: rest) a w := by
  refine wanted_step hw fun K hK => ?_
  unfold Oper.wp execOp
  have hrun : (Instr.build 110 #[(0, .int .u64 (i : Int))]).run Try.prog w = .ok (sup ⟨i, 0, ro0⟩) w := by kernel_rfl
  simp only [ho, List.map_toArray, List.map_cons, List.map_nil, ht, hrun, Sem.run_map, Sem.run_bind, Result.andThen_ok, Sem.run_pure]
  exact hK _ _ h
theorem supBuild0 (ho : op.op = .build 110 #[]) (hw : Region.wanted op (yielded ops a.tmps) = true) (h : wpList Try.prog ops Q rest (a.put op.dst (sup su0)) w) : wpList Try.prog ops Q (op :: rest) a w := by
  refine wanted_step hw fun K hK => ?_
  unfold Oper.wp execOp
  have hrun : (Instr.build 110 #[]).run Try.prog w = .ok (sup su0) w := by kernel_rfl
  simp only [ho, List.map_toArray, List.map_nil, hrun, Array.map_empty, Sem.run_map, Sem.run_bind, Result.andThen_ok, Sem.run_pure]
  exact hK _ _ h
theorem supBuildIS (t u : Operand) (ho : op.op = .build 110 #[(0, t), (1, u)]) {i : Nat} {se : Int} (ht : a.eval t = .int .u64 (i : Int)) (hu : a.eval u = .int .i64 se) (hw : Region.wanted op (yielded ops a.tmps) = true) (h : wpList Try.prog ops Q rest (a.put op.dst (sup ⟨i, se, ro0⟩)) w) : wpList Try.prog ops Q (op :: rest) a w := by
  refine wanted_step hw fun K hK => ?_
  unfold Oper.wp execOp
  have hrun : (Instr.build 110 #[(0, .int .u64 (i : Int)), (1, .int .i64 se)]).run Try.prog w = .ok (sup ⟨i, se, ro0⟩) w := by kernel_rfl
  simp only [ho, List.map_toArray, List.map_cons, List.map_nil, ht, hu, hrun, Sem.run_map, Sem.run_bind, Result.andThen_ok, Sem.run_pure]
  exact hK _ _ h
end
abbrev AtD (f o s : Nat) (D : List Int) (v : Nat) : Prop := ∀ (A : Option Addr) (k : Nat), 44 ≤ k → k ≤ 9223372036854775807 → ∀ w : World, ReadsInt w .u8 A 44 D → Calls Try.prog f #[.slice A 44 k, .int .i64 (o : Int), .int .i64 (s : Int)] w fun e w' => e = .returned (.tuple #[.int .u64 (v : Int), .int .i64 0]) ∧ Below w.heap.size w w'
theorem getD {D : List Int} (hw : Wf8 D) (hl : D.length = 44) (a s : Nat) (h1 : 1 ≤ s) (h2 : s ≤ 8) (h3 : a + s ≤ 44) (v : Nat) (hv : v = vle (bat D a) s) : AtD 44 a s D v := fun A c hc hc2 w hr => by
  have h := Get_b A c D hw a s (by omega) (by omega) (by omega) hc2 w (by rw [hl]; exact hr)
  rw [gets_ok h1 h2 (by omega), hl, ← hv] at h
  exact h
theorem rgetD {D : List Int} (hw : Wf8 D) (hl : D.length = 44) (a s : Nat) (h1 : 1 ≤ s) (h2 : s ≤ 8) (h3 : a + s ≤ 44) (v : Nat) (hv : v = vle (bat D a) s) : AtD 45 a s D v := fun A c hc hc2 w hr => by
  have h := rGet_b A c D hw a s (by omega) (by omega) (by omega) hc2 w (by rw [hl]; exact hr)
  rw [gets_ok h1 h2 (by omega), hl, ← hv] at h
  exact h
abbrev TR : TypeId := 142
abbrev rdr (A : Option Addr) (c at_ : Nat) : Array Value := #[.slice A 44 c, .int .i64 (at_ : Int)]
set_option maxRecDepth 100000 in
set_option maxHeartbeats 2000000 in
/-- a number is taken off -/
theorem take_any (D : List Int) (g size at_ c v : Nat) (A : Option Addr) (hs : size ≤ 8) (ha : at_ ≤ 44) (hc : 44 ≤ c) (hm : c ≤ 9223372036854775807) (PG : Hid (AtD 44 at_ size D v)) (w : World) (K : Hid (Row TR w g (rdr A c at_))) (HR : Hid (ReadsInt w .u8 A 44 D)) :
    Calls Try.prog 135 #[.pointer (some ⟨g, 0, none⟩), .int .i64 (size : Int)] w fun e w' => e = .returned (.int .u64 (v : Int)) ∧ Row TR w' g (rdr A c (at_ + size)) ∧ w.grownBy w' (some g) := by
  have HB := Lib.hid (Below.refl w.heap.size w)
  go_enter Try.func135, Try.ntmps135
  go_wp2
  have qK := K.out.later
  have tq0 : True := trivial
  refine wp_region_cls (fun w9 => ∃ x : Later w, w9 = x.w) (by kernel_rfl) (by kernel_rfl) (Later.drew _) ?_
  repeat (first
    | go_big_quiet_skip
    | (refine qRowCell rfl _ (.tmp 10) rfl (o := 0) qK rfl rfl agg_sl ?_; simp only [Act.put, List.setIfInBounds_toArray, List.set_cons_zero, List.set_cons_succ])
    | (refine qRowCell rfl _ (.tmp 14) rfl (o := 1) qK rfl rfl agg_int ?_; simp only [Act.put, List.setIfInBounds_toArray, List.set_cons_zero, List.set_cons_succ])
    | (have _t := tq0; refine qAt 44 rfl ?_; go_big_quiet_want; go_big_quiet_op; apply Exists.intro; refine ⟨fun x => ?_, ?_⟩; (· refine (PG.out _ _ hc hm x.w (HR.out.below x.b)).mono ?_; rintro e x2 ⟨rfl, hb⟩; exact ⟨rfl, x.ext hb⟩); go_big_quiet_on; have tq1 : True := trivial; clear _t tq0)
    | (go_big_quiet_want; go_big_quiet_op; go_big_quiet_on))
  refine wpQuiet_nil ?_
  rintro w9 ⟨⟨x9, h9⟩, rfl⟩
  have hb9 := below_ext HB.out h9
  replace K := Lib.hid (K.out.below h9)
  have HG := Lib.hid (grown_of_below h9 (some g))
  clear h9 hb9 qK
  clear HB
  go_wp2_with (first
    | (go_skip)
    | (refine F.rowCell _ (.tmp 22) rfl (K.out.cell (o := 1) rfl) rfl agg_int rfl ?_)
    | (refine F.rowSet _ (.tmp 27) (.tmp 25) rfl K.out 1 (show 1 < 2 by decide) rfl _ rfl rfl rfl info_int rfl ?_; intro w7 hk hg; replace K := Lib.hid hk; replace HG := Lib.hid (HG.out.trans hg); clear hk hg))
  go_ret
  exact ⟨rfl, K.out, HG.out⟩
theorem number_any (D : List Int) (size at_ c v : Nat) (A : Option Addr) (hs : size ≤ 8) (ha : at_ ≤ 44) (hv : v < 65536) (hc : 44 ≤ c) (hm : c ≤ 9223372036854775807) (PG : Hid (AtD 45 at_ size D v)) (w : World) (HR : Hid (ReadsInt w .u8 A 44 D)) :
    Calls Try.prog 139 #[.slice A 44 c, .int .i64 (at_ : Int), .int .i64 (size : Int)] w fun e w' => e = .returned (.int .i64 (v : Int)) ∧ Below w.heap.size w w' := by
  have HB := Lib.hid (Below.refl w.heap.size w)
  go_enter Try.func139, Try.ntmps139
  go_wp2_with (first
    | (go_skip)
    | (go_at_call 45; refine (PG.out _ _ hc hm _ HR.out).mono ?_; rintro e w1 ⟨rfl, hb⟩; replace HB := Lib.hid hb; clear hb))
  go_ret
  exact ⟨ret_i (by omega), HB.out⟩
end Go.Proofs.Ytdchcggllcgokaa.Q

namespace Go.Proofs.Ytdchcggllcgokaa.Q
open Go.RowKit Go.Proofs.Ytdchcggllcgokaa.L Go.Proofs.Ytdchcggllcgokaa.U Go.Proofs.Ytdchcggllcgokaa.E Go.Proofs.Ytdchcggllcgokaa.R Go.Proofs.YtdchcggllcgokaaW.PrintWords
set_option linter.unusedVariables false
set_option linter.unusedSimpArgs false
theorem rd44 {D : List Int} {b : Nat} {W : World} {A : Option Addr} {c : Nat} (hl : D.length = 44) (h : Byts b W A c D) : ReadsInt W .u8 A 44 D := by
  have h2 := h.reads
  rw [hl] at h2
  exact h2
theorem rd16 {D : List Int} {b : Nat} {W : World} {A : Option Addr} {c : Nat} (hl : D.length = 16) (h : Byts b W A c D) : ReadsInt W .u8 A 16 D := by
  have h2 := h.reads
  rw [hl] at h2
  exact h2
theorem Byts.apart {T : TypeId} {b g : Nat} {W W1 : World} {A : Option Addr} {c : Nat} {ys : List Int} {cs : Array Value} (h : Byts b W A c ys) (hk : Row T W g cs) (hg : W.grownBy W1 (some g)) (hne : 5 ≠ T) : Byts b W1 A c ys :=
  own_other h hg (.inr (Ne.symm (own_ne h hk hne)))
theorem S8_end {W W1 : World} {g c : Nat} {A : Option Addr} {D : List Int} (hk : Row TR W g (rdr A c (13 + 1))) (ho : ReadsInt W .u8 A 44 D) (hb : Below W.drew.heap.size W.drew W1) :
    W1.cell? ⟨g, 0, none⟩ = some (.slice A 44 c) ∧ W1.cell? ⟨g, 1, none⟩ = some (.int .i64 14) ∧ Hid (ReadsInt W1 .u8 A 44 D) ∧ W.heap.size ≤ W1.heap.size := by
  have hb2 : Below W.heap.size W W1 := below_ext (below_drewN (Below.refl _ _) 1) hb
  have h := hk.below hb2
  exact ⟨h.cell (o := 0) rfl, h.cell (o := 1) rfl, Lib.hid (ho.below hb2), hb2.size⟩
theorem rd_drop14 {W : World} {A : Option Addr} {c n g : Nat} {D : List Int} {v u : Value} (h : W.cell? ⟨g, 0, none⟩ = some v ∧ W.cell? ⟨g, 1, none⟩ = some u ∧ Hid (ReadsInt W .u8 A 44 D) ∧ n ≤ W.heap.size) (hc : 44 ≤ c) : ReadsInt W .u8 (if c = 14 then A else A.map (·.add 14)) 30 (D.drop 14) :=
  h.2.2.1.out.drop_ 14 (by decide) hc
theorem splice_st (y : Su) {ys : List Int} (hl : y.x.st.length = 16) (hy : ys.length = 16) : splice (supL y) 5 (nums .u8 ys) = supL { y with x := { y.x with st := ys } } := by
  have h := splice_mid [.int .u64 (y.id : Int), .int .i64 y.self, .int .i64 y.x.m, .int .i64 y.x.s, .int .i64 y.x.r] (nums .u8 y.x.st) [.int .i64 y.x.cu, .bool y.x.go] (nums .u8 ys) (by rw [nums_length, nums_length, hl, hy])
  exact h
section
variable {ops : Array Oper} {rest : List Oper} {op : Oper} {a : Act} {w : World} {Q : Exit → Act → World → Prop}
theorem supCopy (d s : Operand) (ho : op.op = .call { callee := .builtin .copy, args := #[d, s], argTypes := #[22, 22] }) {g : Nat} {z : Su} (hk : Sup w g z) (hd : a.eval d = .slice (some ⟨g, 5, none⟩) 16 16) {A : Option Addr} {c : Nat} {ys : List Int} (hr : ReadsInt w .u8 A 16 ys) (hs : a.eval s = .slice A 16 c) (hw : Region.wanted op (yielded ops a.tmps) = true)
    (h : ∀ w1, Sup w1 g { z with x := { z.x with st := ys } } → w.grownBy w1 (some g) → wpList Try.prog ops Q rest (a.put op.dst (goInt (16 : Nat))) w1) : wpList Try.prog ops Q (op :: rest) a w := by
  have hl : ys.length = 16 := hr.1
  refine wanted_step hw fun K hK => ?_
  obtain ⟨ad, rfl, hc⟩ := hr.2.2 (by decide)
  have hrun := run_copy_row (P := Try.prog) w 22 22 op.type 5 g 5 16 16 ad 16 c (supL z).toArray 110 (nums .u8 ys) Try.underlying22 (by kernel_rfl) hk.2 (by rw [nums_length, hl]; decide) (fun j v hv => by
    have hj : j < 16 := by have h9 := (List.getElem?_eq_some_iff.1 hv).1; rwa [nums_length, hl] at h9
    rw [hc j hj]
    simp only [nums, List.getElem?_map] at hv
    rw [List.getElem?_eq_getElem (by omega)] at hv
    rw [List.getD_eq_getElem?_getD, List.getElem?_eq_getElem (by omega)]
    simpa using hv) (by rw [nums_length, hl, List.size_toArray, supL_length hk.1]; decide) (fun v hv => by
      simp only [nums, List.mem_map] at hv
      obtain ⟨x, _, rfl⟩ := hv
      rfl)
  have h2 := h _ ⟨hl, by
    have h3 := setRow_heap w g (supL z).toArray (splice (supL z) 5 (nums .u8 ys)).toArray 110 _ hk.2
    rw [splice_st z hk.1 hl] at h3
    exact h3⟩ (grown_setRow w g _)
  rw [← splice_st z hk.1 hl] at h2
  unfold Oper.wp
  have hn : (nums .u8 ys).length = 16 := by rw [nums_length, hl]
  simp only [splice, hn, List.append_assoc] at h2
  simp [execOp, ho, resolve, invoke, builtin, hd, hs, hrun, Result.andThen, hn]
  exact hK _ _ h2
end
end Go.Proofs.Ytdchcggllcgokaa.Q

namespace Go.Proofs.Ytdchcggllcgokaa.Q
open Go.RowKit Go.Proofs.Ytdchcggllcgokaa.L Go.Proofs.Ytdchcggllcgokaa.U Go.Proofs.Ytdchcggllcgokaa.E Go.Proofs.Ytdchcggllcgokaa.R Go.Proofs.YtdchcggllcgokaaW.PrintWords
set_option linter.unusedVariables false
set_option linter.unusedSimpArgs false
theorem ret_sup {fn : Func} {u p e : Tmp} (h : fn.results = #[.tmp u, .cell p 110, .tmp e]) (tmps : Array Value) (w : World) {g : Nat} {y : Su} (hk : Sup w g y) (hp : tmps.getD p undef = .pointer (some ⟨g, 0, none⟩)) {x v : Value} (hx : tmps.getD u undef = x) (hv : tmps.getD e undef = v) :
    (results fn tmps).run Try.prog w = .ok (.tuple #[x, sup y, v]) w := by
  subst hx hv
  have hp' : tmps[p]?.getD undef = .pointer (some ⟨g, 0, none⟩) := by simpa using hp
  have hr := run_loadVar_row (P := Try.prog) w g 110 110 (supL y).toArray (0, 0) _ hk.2 Try.underlying110 rfl (info_of_sup hk.1)
  simp [results, h, hp', asAddr, hr, sup]
section
variable {ops : Array Oper} {w : World} {Q : Act → Prop} {a : Act} {op : Oper} {rest : List Oper}
theorem still_val {P : Program} {v : Value} (hr : (execOp a.eval op).run P w = .ok (.value v) w) (hw : Region.wanted op (yielded ops a.tmps) = true) (h : wpStill P ops w Q rest (a.put op.dst v)) : wpStill P ops w Q (op :: rest) a := by
  refine wpStill_step fun K hK => ?_
  rw [if_pos hw]
  unfold Oper.still
  rw [hr, Oper.stillUpon_value]
  exact hK _ h
theorem sSupLoad (x : Operand) (ho : op.op = .load 110 x) {g : Nat} {y : Su} (hk : Sup w g y) (hx : a.eval x = .pointer (some ⟨g, 0, none⟩)) (hw : Region.wanted op (yielded ops a.tmps) = true)
    (h : wpStill Try.prog ops w Q rest (a.put op.dst (sup y))) : wpStill Try.prog ops w Q (op :: rest) a :=
  still_val (by
    unfold execOp
    simp only [ho, hx, Instr.loadAt, Instr.sureAddr, Sem.run_bind, Sem.run_map, Sem.run_pure, Result.andThen_ok, run_loadVar_row w g _ 110 _ (0, 0) _ hk.2 Try.underlying110 rfl (info_of_sup hk.1)]
    rfl) hw h
end
end Go.Proofs.Ytdchcggllcgokaa.Q
