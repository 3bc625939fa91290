/-
  ashlarlaw11.CellsSum: true.
-/
import Derived.Test.YtdchcggllcgokaaCeE
import Derived.Test.YtdchcggllcgokaaSealLaw2
import Derived.Laws.OwnMore
import Derived.StillTailTactics
namespace Go.Proofs.Ytdchcggllcgokaa.Y
open Go.RowKit Go.Proofs.Ytdchcggllcgokaa.L Go.Proofs.Ytdchcggllcgokaa.U Go.Proofs.Ytdchcggllcgokaa.R Go.Proofs.Ytdchcggllcgokaa.E Go.Proofs.YtdchcggllcgokaaW.PrintWords
set_option linter.unusedVariables false
set_option linter.unusedSimpArgs false
theorem flat_set {α : Type} (k : Nat) : ∀ (l : List (List α)), (∀ v ∈ l, v.length = k) → ∀ (q r : Nat) (v : α) (hq : q < l.length), r < k → l.flatten.set (q * k + r) v = (l.set q (l[q].set r v)).flatten
  | [], _, q, r, v, hq, _ => by simp at hq
  | a :: l, h, 0, r, v, hq, hr => by
    have ha : a.length = k := h a List.mem_cons_self
    rw [List.flatten_cons, Nat.zero_mul, Nat.zero_add, List.set_append_left _ _ (by omega)]
    rfl
  | a :: l, h, q + 1, r, v, hq, hr => by
    have ha : a.length = k := h a List.mem_cons_self
    have hq2 : q < l.length := by simpa using hq
    rw [List.flatten_cons, show (q + 1) * k + r = k + (q * k + r) by rw [Nat.add_mul]; omega, List.set_append_right _ _ (by omega), show k + (q * k + r) - a.length = q * k + r by omega, flat_set k l (fun x hx => h x (List.mem_cons_of_mem _ hx)) q r v hq2 hr]
    rfl
theorem blks_set {L : List (List Int)} (h64 : ∀ b ∈ L, b.length = 64) {i r : Nat} (hi : i < L.length) (hr : r < 64) (v : Int) : (L.map (nums .u8)).flatten.set (i * 64 + r) (.int .u8 v) = ((L.set i (L[i].set r v)).map (nums .u8)).flatten := by
  rw [flat_set 64 _ (all64 h64) i r _ (by simpa using hi) hr]
  congr 1
  rw [List.map_set]
  congr 1
  simp [nums, List.map_set]
theorem run_rem8 {op : Oper} {a : Act} (x : Operand) (ho : op.op = .binOp .rem 5 x (.const (.int .u8 64)) 5) {u r : Nat} (hx : a.eval x = .int .u8 (u : Int)) (hr : r = u % 64) (hb : u < 256) (w : World) : (execOp a.eval op).run Try.prog w = .ok (.value (.int .u8 (r : Int))) w := by
  have e : (u : Int).tmod 64 = (r : Int) := by rw [Int.tmod_eq_emod_of_nonneg (by omega)]; omega
  have hr2 : r < 64 := by omega
  clear hr
  have e2 : (u : Int) % 64 = (r : Int) := by rw [Int.tmod_eq_emod_of_nonneg (by omega)] at e; exact e
  have ev : a.eval (.const (.int .u8 64)) = .int .u8 64 := rfl
  have h8 := IntWalk.u8_in (r : Int) (by omega)
  unfold execOp
  simp only [ho, hx, ev]
  go_simp
theorem run_idxA {op : Oper} {a : Act} (x y : Operand) (ho : op.op = .indexAddr 50 x y) {g o r : Nat} (hx : a.eval x = .pointer (some ⟨g, o, none⟩)) (hy : a.eval y = .int .u8 (r : Int)) (hr : r < 64) (w : World) : (execOp a.eval op).run Try.prog w = .ok (.value (.pointer (some ⟨g, o + r, none⟩))) w := by
  have h0 : (0 : Int) ≤ (r : Int) := by omega
  have h1 : (r : Int) < 64 := by omega
  unfold execOp
  simp only [ho, hx, hy]
  go_simp
theorem run_xorU {op : Oper} {a : Act} (x y : Operand) (ho : op.op = .binOp .xor 5 x y 5) {u v r : Nat} (hx : a.eval x = .int .u8 (u : Int)) (hy : a.eval y = .int .u8 (v : Int)) (hu : u < 256) (hv : v < 256) (hr : r = u ^^^ v) (w : World) : (execOp a.eval op).run Try.prog w = .ok (.value (.int .u8 (r : Int))) w := by
  have e := Go.Proofs.Ytdchcggllcgokaa.E.u8_xor u v hu hv
  rw [← hr] at e
  clear hr
  unfold execOp
  simp only [ho, hx, hy]
  go_simp
theorem wp_setU {op : Oper} {a : Act} {w : World} {K : Act → World → Prop} {Q : Exit → Act → World → Prop} (x y : Operand) (ho : op.op = .store 5 x y) {g o : Nat} {v : Int} (ht : w.there g o 1) (hx : a.eval x = .pointer (some ⟨g, o, none⟩)) (hy : a.eval y = .int .u8 v) (d : Option Tmp) (hd : op.dst = d)
    (h : K (a.put d undef) (w.setCell ⟨g, o, none⟩ (.int .u8 v))) : Oper.wp Try.prog op a w K Q := by
  subst hd
  have hs := run_storeCells_cells (P := Try.prog) g o [Value.int .u8 v] 0 w (fun j hj => by
    obtain rfl : j = 0 := by simpa using hj
    exact (ht 0 (by decide)).1) (fun j hj => by
    obtain rfl : j = 0 := by simpa using hj
    exact (ht 0 (by decide)).2) (fun u hu => by
    obtain rfl : u = Value.int .u8 v := by simpa using hu
    rfl)
  have hi := R.info_u8s
  have hv : Value.cells (.int .u8 v) = #[.int .u8 v] := rfl
  have hrun : (storeVar 5 ⟨g, o, none⟩ (.int .u8 v)).run Try.prog w = .ok () (w.setCell ⟨g, o, none⟩ (.int .u8 v)) := by
    cases hq : Try.prog.info? 5 with
    | none => simp [hq] at hi
    | some i =>
      have hs1 : i.size = 1 := by simpa [hq] using hi
      simp only [Nat.add_zero] at hs
      simpa [storeVar, sizeOf, typeInfo, hq, hv, hs1, World.setCells] using hs
  unfold Oper.wp execOp
  simp only [ho, hx, hy, Instr.storeAt, Instr.sureAddr, Sem.run_bind, Sem.run_pure, Result.andThen_ok, hrun]
  exact h
section
variable {ops : Array Oper} {rest : List Oper} {op : Oper} {a : Act} {w : World}
theorem still_valY {P : Program} {Q : Act → Prop} (v : Value) (d : Option Tmp) (hd : op.dst = d) (hr : (execOp a.eval op).run P w = .ok (.value v) w) (hw : Region.wanted op (yielded ops a.tmps) = true) (h : wpStill P ops w Q rest (a.put d v)) : wpStill P ops w Q (op :: rest) a := by
  subst hd
  refine wpStill_step fun K hK => ?_
  rw [if_pos hw]
  unfold Oper.still
  rw [hr, Oper.stillUpon_value]
  exact hK _ h
theorem stepSetU {Q : Exit → Act → World → Prop} (x y : Operand) (ho : op.op = .store 5 x y) {g o : Nat} {v : Int} (ht : w.there g o 1) (hx : a.eval x = .pointer (some ⟨g, o, none⟩)) (hy : a.eval y = .int .u8 v) (hw : Region.wanted op (yielded ops a.tmps) = true)
    (h : wpList Try.prog ops Q rest (a.put op.dst undef) (w.setCell ⟨g, o, none⟩ (.int .u8 v))) : wpList Try.prog ops Q (op :: rest) a w :=
  wanted_step hw fun K hK => wp_setU x y ho ht hx hy op.dst rfl (hK _ _ h)
end
theorem sum_empty (A : Option Addr) (cap : Nat) (at_ kn cn : Int) (ha : 0 ≤ at_ ∧ at_ ≤ 65535)
    (PL : Hid (∀ w : World, Calls Try.prog 53 #[] w fun e w' => e = .returned (.bool true) ∧ Below w.heap.size w w'))
    (w : World) : Calls Try.prog 19 #[.slice A 0 cap, .int .u16 at_, .int .u8 kn, .int .u8 cn] w fun e w' => e = .returned (.bool true) ∧ Below w.heap.size w w' := by
  have HB := Lib.hid (Below.refl w.heap.size w)
  go_enter Try.func19, Try.ntmps19
  go_wp2_with (first
    | (go_skip)
    | (go_at_call 53; refine (PL.out _).mono ?_; rintro e w9 ⟨rfl, hb⟩; replace HB := Lib.hid (below_ext HB.out hb); clear hb))
  go_ret
  exact ⟨rfl, HB.out⟩
set_option maxRecDepth 100000 in
set_option maxHeartbeats 2000000 in
theorem sum_walk (A : Option Addr) (cap : Nat) (L L2 : List (List Int)) (an kn cn i kk v0 v : Nat) (s1 s2 : Int) (z : Bool) (han : an < 65536) (hkn : kn < 256) (hcn : cn < 256) (hv0 : v0 < 256) (hi : i < L.length) (hkk : kk < 64) (HKK : Hid (kk = kn % 64)) (HV : Hid (v = v0 ^^^ cn))
    (he : (an : Int).tmod (L.length : Int) = (i : Int)) (hL : L.length ≤ 140737488355328)
    (HV0 : Hid ((L.map (nums .u8)).flatten[i * 64 + kk]? = some (.int .u8 (v0 : Int))))
    (HST : Hid ((L.map (nums .u8)).flatten.set (i * 64 + kk) (.int .u8 (v : Int)) = (L2.map (nums .u8)).flatten)) (HL2 : Hid (L2.length = L.length)) (H64 : Hid (∀ b ∈ L2, b.length = 64))
    (PK : Hid (∀ (A : Option Addr) (c : Nat) (w : World), Bks w A L → Calls Try.prog 55 #[.slice A L.length c] w fun e w' => (∃ g c', e = .returned (.slice (some ⟨g, 0, none⟩) L.length c') ∧ w'.ownsRow w.heap.size TB 64 (.slice (some ⟨g, 0, none⟩) L.length c') L.length (L.map (nums .u8)).flatten) ∧ Below w.heap.size w w'))
    (M1 : Hid (∀ (A : Option Addr) (c : Nat) (w : World), Bks w A L2 → Calls Try.prog 74 #[.slice A L.length c] w fun e w' => e = .returned (.int .u32 s1) ∧ Below w.heap.size w w'))
    (M2 : Hid (∀ (A : Option Addr) (c : Nat) (w : World), Bks w A L → Calls Try.prog 74 #[.slice A L.length c] w fun e w' => e = .returned (.int .u32 s2) ∧ Below w.heap.size w w'))
    (f1 : (s1 == s2) = z) (f2 : ((cn : Int) == 0) = z)
    (PL : Hid (∀ w : World, Calls Try.prog 53 #[] w fun e w' => e = .returned (.bool true) ∧ Below w.heap.size w w'))
    (w : World) (HL : Hid (Bks w A L)) : Calls Try.prog 19 #[.slice A L.length cap, .int .u16 (an : Int), .int .u8 (kn : Int), .int .u8 (cn : Int)] w fun e w' => e = .returned (.bool true) ∧ Below w.heap.size w w' := by
  have HB := Lib.hid (Below.refl w.heap.size w)
  have h0 : ((L.length : Int) == 0) = false := by rw [beq_eq_false_iff_ne]; omega
  have h0b : (L.length == 0) = false := by rw [beq_eq_false_iff_ne]; omega
  have h0c : (L.length : Int) ≠ 0 := by omega
  have h0d : L.length ≠ 0 := by omega
  have tk1 : True := trivial
  go_enter Try.func19, Try.ntmps19
  go_wp2_with (first
    | (go_skip)
    | (go_at_call 55; refine (PK.out _ _ _ HL.out).mono ?_; rintro e w9 ⟨⟨g, c9, rfl, ho⟩, hb⟩; replace HB := Lib.hid (below_ext HB.out hb); have HO := Lib.hid ho; clear ho; clear hb))
  have hgw := HO.out.lt g rfl
  have HS := Lib.hid (show w9.drew.cell? ⟨g, 0 + i * 64 + kk, none⟩ = some (.int .u8 (v0 : Int)) ∧ w9.drew.there g (0 + i * 64 + kk) 1 by
    have h5 := HO.out.cells (g := g) rfl (i * 64 + kk) _ HV0.out
    rw [Addr.add_mid] at h5
    have h6 : w9.cell? ⟨g, 0 + i * 64 + kk, none⟩ = some (.int .u8 (v0 : Int)) := by rw [show 0 + i * 64 + kk = 0 + (i * 64 + kk) by omega]; exact h5
    refine ⟨h6, fun j hj => ?_⟩
    obtain rfl : j = 0 := by omega
    exact ⟨by show (w9.cell? ⟨g, 0 + i * 64 + kk, none⟩).isSome = true; rw [h6]; rfl, HO.out.frozenAt _⟩)
  refine wp_region_still_tail 15 (by kernel_rfl) (by kernel_rfl) ?_
  simp only [List.take_succ_cons, List.take_zero, List.drop_succ_cons, List.drop_zero]
  refine still_valY (.slice (some ⟨g, 0, none⟩) L.length c9) (some 22) rfl (rfl) rfl ?_
  simp only [Act.put, List.setIfInBounds_toArray, List.set_cons_zero, List.set_cons_succ]
  refine still_valY (.int .i64 (i : Int)) (some 23) rfl (rfl) rfl ?_
  simp only [Act.put, List.setIfInBounds_toArray, List.set_cons_zero, List.set_cons_succ]
  refine still_valY (.int .u8 (kn : Int)) (some 24) rfl (rfl) rfl ?_
  simp only [Act.put, List.setIfInBounds_toArray, List.set_cons_zero, List.set_cons_succ]
  refine still_valY (.int .u8 (kk : Int)) (some 25) rfl (run_rem8 (.tmp 24) rfl rfl HKK.out hkn _) rfl ?_
  simp only [Act.put, List.setIfInBounds_toArray, List.set_cons_zero, List.set_cons_succ]
  refine still_valY (.slice (some ⟨g, 0, none⟩) L.length c9) (some 26) rfl (rfl) rfl ?_
  simp only [Act.put, List.setIfInBounds_toArray, List.set_cons_zero, List.set_cons_succ]
  refine still_valY (.int .i64 (i : Int)) (some 27) rfl (rfl) rfl ?_
  simp only [Act.put, List.setIfInBounds_toArray, List.set_cons_zero, List.set_cons_succ]
  refine still_valY (.int .u8 (kn : Int)) (some 28) rfl (rfl) rfl ?_
  simp only [Act.put, List.setIfInBounds_toArray, List.set_cons_zero, List.set_cons_succ]
  refine still_valY (.int .u8 (kk : Int)) (some 29) rfl (run_rem8 (.tmp 28) rfl rfl HKK.out hkn _) rfl ?_
  simp only [Act.put, List.setIfInBounds_toArray, List.set_cons_zero, List.set_cons_succ]
  refine still_valY (.pointer (some ⟨g, 0 + i * 64, none⟩)) (some 30) rfl (run_idxB (.tmp 26) (.tmp 27) rfl rfl rfl hi _) rfl ?_
  simp only [Act.put, List.setIfInBounds_toArray, List.set_cons_zero, List.set_cons_succ]
  refine still_valY (.pointer (some ⟨g, 0 + i * 64 + kk, none⟩)) (some 31) rfl (run_idxA (.tmp 30) (.tmp 29) rfl rfl rfl hkk _) rfl ?_
  simp only [Act.put, List.setIfInBounds_toArray, List.set_cons_zero, List.set_cons_succ]
  refine still_valY (.int .u8 (v0 : Int)) (some 32) rfl (run_ldU (.tmp 31) rfl HS.out.1 rfl) rfl ?_
  simp only [Act.put, List.setIfInBounds_toArray, List.set_cons_zero, List.set_cons_succ]
  refine still_valY (.int .u8 (cn : Int)) (some 33) rfl (rfl) rfl ?_
  simp only [Act.put, List.setIfInBounds_toArray, List.set_cons_zero, List.set_cons_succ]
  refine still_valY (.int .u8 (v : Int)) (some 34) rfl (run_xorU (.tmp 32) (.tmp 33) rfl rfl rfl hv0 hcn HV.out _) rfl ?_
  simp only [Act.put, List.setIfInBounds_toArray, List.set_cons_zero, List.set_cons_succ]
  refine still_valY (.pointer (some ⟨g, 0 + i * 64, none⟩)) (some 35) rfl (run_idxB (.tmp 22) (.tmp 23) rfl rfl rfl hi _) rfl ?_
  simp only [Act.put, List.setIfInBounds_toArray, List.set_cons_zero, List.set_cons_succ]
  refine still_valY (.pointer (some ⟨g, 0 + i * 64 + kk, none⟩)) (some 36) rfl (run_idxA (.tmp 35) (.tmp 25) rfl rfl rfl hkk _) rfl ?_
  simp only [Act.put, List.setIfInBounds_toArray, List.set_cons_zero, List.set_cons_succ]
  refine wpStill_nil ?_
  change wpList _ _ _ _ _ w9.drew
  refine stepSetU (.tmp 36) (.tmp 34) rfl (v := (v : Int)) HS.out.2 rfl rfl rfl ?_
  simp only [Act.put, List.setIfInBounds_toArray, List.set_cons_zero, List.set_cons_succ]
  have hst := World.ownsRow.stored (show w9.drew.ownsRow w.heap.size TB 64 (.slice (some ⟨g, 0, none⟩) L.length c9) L.length (L.map (nums .u8)).flatten from HO.out) (0 + i * 64 + kk) (.int .u8 (v : Int))
  obtain ⟨ho2, hg2⟩ := hst
  rw [show (L.map (nums .u8)).flatten.set (0 + i * 64 + kk) (.int .u8 (v : Int)) = (L2.map (nums .u8)).flatten by rw [Nat.zero_add]; exact HST.out] at ho2
  generalize w9.drew.setCell ⟨g, 0 + i * 64 + kk, none⟩ (.int .u8 (v : Int)) = w6 at ho2 hg2 ⊢
  have hbg := below_drewN HB.out 1
  have hOB : OBk w.heap.size w6 (some ⟨g, 0, none⟩) c9 L2 := ⟨H64.out, by rw [HL2.out]; exact own_lower ho2 (Nat.le_refl _)⟩
  have B2 := Lib.hid hOB.bks
  replace HB := Lib.hid (below_at hbg hg2 hgw.1 hgw.2)
  replace HL := Lib.hid (HL.out.below HB.out)
  clear hbg hOB ho2 hg2 HS HST HV0 hgw HO
  have tk4 : True := trivial
  go_wp2_with (first
    | (go_skip)
    | (have _t := tk4; go_at_call 74; refine (M1.out _ _ _ B2.out).mono ?_; rintro e w9 ⟨rfl, hb⟩; replace HL := Lib.hid (HL.out.below hb); replace HB := Lib.hid (below_ext HB.out hb); clear _t tk4; have tk5 : True := trivial; clear hb)
    | (have _t := tk5; go_at_call 74; refine (M2.out _ _ _ HL.out).mono ?_; rintro e w9 ⟨rfl, hb⟩; replace HB := Lib.hid (below_ext HB.out hb); clear _t tk5; clear hb)
    | (go_at_call 53; refine (PL.out _).mono ?_; rintro e w9 ⟨rfl, hb⟩; replace HB := Lib.hid (below_ext HB.out hb); clear hb))
  go_ret
  exact ⟨rfl, HB.out⟩
theorem sum_row (A : Option Addr) (cap : Nat) (L : List (List Int)) {w : World} (HA : Bks w A L ∧ ∀ b ∈ L, Wf8 b) (y : L.length * 64 ≤ 140737488351232) (at_ : Int) (wa : (Lit.int .u16 at_).wf = true) (k : Int) (wk : (Lit.int .u8 k).wf = true) (c : Int) (wc : (Lit.int .u8 c).wf = true) :
    Calls Try.prog 19 #[.slice A L.length cap, .int .u16 at_, .int .u8 k, .int .u8 c] w fun e w' => e = .returned (.bool true) ∧ Below w.heap.size w w' := by
  obtain ⟨a0, a1⟩ := bounds_u16 wa
  obtain ⟨k0, k1⟩ := bounds_u8 wk
  obtain ⟨c0, c1⟩ := bounds_u8 wc
  obtain ⟨an, rfl⟩ : ∃ an : Nat, at_ = (an : Int) := ⟨at_.toNat, by omega⟩
  obtain ⟨kn, rfl⟩ : ∃ kn : Nat, k = (kn : Int) := ⟨k.toNat, by omega⟩
  obtain ⟨cn, rfl⟩ : ∃ cn : Nat, c = (cn : Int) := ⟨c.toNat, by omega⟩
  by_cases h0 : L.length = 0
  · rw [h0]
    exact sum_empty A cap _ _ _ ⟨a0, a1⟩ (Lib.hid lives_any) w
  · have h64 := HA.1.1
    have h8 := HA.2
    obtain ⟨i, hi⟩ : ∃ i, i = an % L.length := ⟨_, rfl⟩
    have hil : i < L.length := by rw [hi]; exact Nat.mod_lt _ (by omega)
    have he : (an : Int).tmod (L.length : Int) = (i : Int) := by rw [Int.tmod_eq_emod_of_nonneg (by omega), hi]; rfl
    obtain ⟨kk, hkd⟩ : ∃ kk, kk = kn % 64 := ⟨_, rfl⟩
    have hkk : kk < 64 := by omega
    have hbl : L[i].length = 64 := h64 _ (List.getElem_mem hil)
    have hkb : kk < L[i].length := by omega
    have hwf := h8 _ (List.getElem_mem hil) _ (List.getElem_mem hkb)
    obtain ⟨b0, b1⟩ := bounds_u8 hwf
    obtain ⟨v0, hv0⟩ : ∃ v0 : Nat, L[i][kk] = (v0 : Int) := ⟨L[i][kk].toNat, by omega⟩
    obtain ⟨v, hv⟩ : ∃ v, v = v0 ^^^ cn := ⟨_, rfl⟩
    have hv8 : v < 256 := by rw [hv]; exact Nat.xor_lt_two_pow (n := 8) (by omega) (by omega)
    have hvw : (Lit.int .u8 (v : Int)).wf = true := WalkArith.wf_u8 (by omega)
    have g8 : ∀ b ∈ L.set i (L[i].set kk (v : Int)), Wf8 b := fun b hb => by
      rcases List.mem_or_eq_of_mem_set hb with h | rfl
      · exact h8 b h
      · exact set_wf (h8 _ (List.getElem_mem hil)) hvw
    have g64 : ∀ b ∈ L.set i (L[i].set kk (v : Int)), b.length = 64 := fun b hb => by
      rcases List.mem_or_eq_of_mem_set hb with h | rfl
      · exact h64 b h
      · rw [List.length_set]; exact hbl
    have hlen : (L.set i (L[i].set kk (v : Int))).length = L.length := List.length_set ..
    have hz : (((sumB (L.set i (L[i].set kk (v : Int)))).toNat : Int) == ((sumB L).toNat : Int)) = ((cn : Int) == 0) := by
      by_cases hc : cn = 0
      · have e1 : (v : Int) = L[i][kk] := by rw [hv0, hv, hc, Nat.xor_zero]
        have e2 : L.set i (L[i].set kk (v : Int)) = L := by rw [e1, List.set_getElem_self, List.set_getElem_self]
        rw [e2, hc]; simp
      · have hne : (v : Int) ≠ L[i][kk] := by rw [hv0, hv]; intro h; exact hc ((E.xor_same (a := v0) (b := cn)).1 (Int.ofNat_inj.1 h))
        have h1 := sumB_set h8 hil hkb hvw hne
        have h2 : ¬ ((sumB (L.set i (L[i].set kk (v : Int)))).toNat : Int) = ((sumB L).toNat : Int) := fun h => h1 (BitVec.eq_of_toNat_eq (by omega))
        rw [beq_eq_false_iff_ne.2 h2, beq_eq_false_iff_ne.2 (show (cn : Int) ≠ 0 by omega)]
    refine sum_walk A cap L (L.set i (L[i].set kk (v : Int))) an kn cn i kk v0 v _ _ _ (by omega) (by omega) (by omega) (by omega) hil hkk (Lib.hid hkd) (Lib.hid hv) he (by omega) (Lib.hid ?_) (Lib.hid (blks_set h64 hil hkk _)) (Lib.hid hlen) (Lib.hid g64) (Lib.hid fun A c w hx => ?_) (Lib.hid fun A c w hx => ?_) (Lib.hid fun A c w hx => Sum_any A c L h8 w (Lib.hid hx)) hz rfl (Lib.hid lives_any) w (Lib.hid HA.1)
    · have h := flat_get 64 (L.map (nums .u8)) (all64 h64) i kk (nums .u8 L[i]) (by rw [List.getElem?_map, List.getElem?_eq_getElem hil]; rfl) hkk
      rw [h]
      simp [nums, List.getElem?_eq_getElem hkb, hv0]
    · refine (CopyBlocks_any A c L (by omega) w (Lib.hid hx)).mono ?_
      rintro e w' ⟨⟨A1, c1, rfl, h⟩, hb⟩
      rcases h.2.2 with ⟨he, h9⟩ | ⟨g, cap, cur, he, _⟩
      · exact absurd h9 h0
      · injection he with e1 e2 e3
        subst e1
        exact ⟨⟨g, c1, rfl, h.2⟩, hb⟩
    · have h := Sum_any A c (L.set i (L[i].set kk (v : Int))) g8 w (Lib.hid hx)
      rw [hlen] at h
      exact h
end Go.Proofs.Ytdchcggllcgokaa.Y
