/-
  ashlarlaw08.one, lives: the walks, and whole.
-/
import Derived.Test.YtdchcggllcgokaaSqO
import Derived.Test.YtdchcggllcgokaaSqS
import Derived.Deep.RegionHeld3
import Derived.Deep.MidRow
namespace Go.Proofs.Ytdchcggllcgokaa.Q
open Go.RowKit Go.Proofs.Ytdchcggllcgokaa.L Go.Proofs.Ytdchcggllcgokaa.U Go.Proofs.Ytdchcggllcgokaa.E Go.Proofs.Ytdchcggllcgokaa.R Go.Proofs.YtdchcggllcgokaaW.PrintWords
set_option linter.unusedVariables false
set_option linter.unusedSimpArgs false
abbrev oneX : Ro := ⟨3, 4, 40, zero16, 0, false⟩
abbrev oneS : Su := ⟨9, 1, oneX⟩
set_option maxRecDepth 100000 in
theorem supBuildOne {ops : Array Oper} {rest : List Oper} {op : Oper} {a : Act} {w : World} {Q : Exit → Act → World → Prop} (t : Operand) (ho : op.op = .build 110 #[(0, .const (.int .u64 9)), (1, .const (.int .i64 1)), (2, t)]) (ht : a.eval t = ros oneX) (hw : Region.wanted op (yielded ops a.tmps) = true) (h : wpList Try.prog ops Q rest (a.put op.dst (sup oneS)) w) : wpList Try.prog ops Q (op :: rest) a w := by
  refine wanted_step hw fun K hK => ?_
  unfold Oper.wp execOp
  have hrun : (Instr.build 110 #[(0, .int .u64 9), (1, .int .i64 1), (2, ros oneX)]).run Try.prog w = .ok (sup oneS) w := by kernel_rfl
  have e0 : a.eval (.const (.int .u64 9)) = .int .u64 9 := rfl
  have e1 : a.eval (.const (.int .i64 1)) = .int .i64 1 := rfl
  simp only [ho, List.map_toArray, List.map_cons, List.map_nil, ht, e0, e1, hrun, Sem.run_map, Sem.run_bind, Result.andThen_ok, Sem.run_pure]
  exact hK _ _ h
set_option maxRecDepth 100000 in
set_option maxHeartbeats 4000000 in
theorem one_any (w : World) : Calls Try.prog 142 #[] w fun e w' => e = .returned (sup oneS) ∧ Below w.heap.size w w' := by
  have HB := Lib.hid (Below.refl w.heap.size w)
  have tok0 : True := trivial
  have tp0 : True := trivial
  go_enter Try.func142, Try.ntmps142
  go_wp2_with (first
    | (go_skip)
    | (have _t := tok0; refine supAlloc rfl rfl ?_; intro w1 hk hb1 hz1; replace HB := Lib.hid (below_ext HB.out hb1); have K0 := Lib.hid hk; clear hk hb1; have tok1 : True := trivial; clear _t tok0)
    | (refine rosBuildG (.tmp 1) rfl rfl rfl ?_)
    | (refine supBuildOne (.tmp 2) rfl rfl rfl ?_)
    | (refine supStore (.tmp 0) (.tmp 3) rfl K0.out rfl rfl zero16_length rfl ?_; intro w2 hk hg; replace HB := Lib.hid (below_at HB.out hg (by omega) K0.out.lt); replace K0 := Lib.hid hk; have hz2 := hg.size; clear hk hg))
  exact bodyPost_ret (v := sup oneS) (results_cell_row rfl _ _ _ _ _ (0, 0) _ rfl K0.out.2 Try.underlying110 rfl (info_of_sup K0.out.1)) rfl ⟨rfl, HB.out⟩
set_option maxRecDepth 100000 in
set_option maxHeartbeats 4000000 in
theorem sLives_walk (G : List Int) (HG : Hid (G.length = 64))
    (P1 : Hid (∀ w : World, Calls Try.prog 106 #[.int .u64 3, sup oneS] w fun e w' => e = .returned (.tuple #[blk G, .int .i64 0]) ∧ Below w.heap.size w w'))
    (P2 : Hid (∀ w : World, Calls Try.prog 106 #[.int .u64 0, sup oneS] w fun e w' => e = .returned (.tuple #[blk zeros, .int .i64 2]) ∧ Below w.heap.size w w'))
    (P3 : Hid (∀ w : World, Calls Try.prog 106 #[.int .u64 1, sup su0] w fun e w' => e = .returned (.tuple #[blk zeros, .int .i64 2]) ∧ Below w.heap.size w w'))
    (P4 : Hid (∀ w : World, Calls Try.prog 103 #[blk G] w fun e w' => e = .returned (.tuple #[.int .u64 3, sup oneS, .int .i64 0]) ∧ Below w.heap.size w w'))
    (P5 : Hid (∀ w : World, Calls Try.prog 103 #[blk zeros] w fun e w' => e = .returned (.tuple #[.int .u64 0, sup su0, .int .i64 5]) ∧ Below w.heap.size w w'))
    (P6 : Hid (∀ w : World, Calls Try.prog 114 #[blk G, blk zeros] w fun e w' => e = .returned (.int .i64 1) ∧ Below w.heap.size w w'))
    (P7 : Hid (∀ w : World, Calls Try.prog 114 #[blk zeros, blk G] w fun e w' => e = .returned (.int .i64 0) ∧ Below w.heap.size w w')) (w : World) : Calls Try.prog 105 #[] w fun e w' => e = .returned (.bool true) ∧ Below w.heap.size w w' := by
  have HB := Lib.hid (Below.refl w.heap.size w)
  have tok0 : True := trivial
  have tp0 : True := trivial
  go_enter Try.func105, Try.ntmps105
  go_wp2_with (first
    | (go_skip)
    | (have _t := tp0; go_at_call 142; refine (one_any _).mono ?_; rintro e w1 ⟨rfl, hb1⟩; replace HB := Lib.hid (below_ext HB.out hb1); have hz1 := hb1.size; clear hb1; have tp1 : True := trivial; clear _t tp0)
    | (have _t := tp1; go_at_call 106; refine (P1.out _).mono ?_; rintro e w2 ⟨rfl, hb2⟩; replace HB := Lib.hid (below_ext HB.out hb2); have hz2 := hb2.size; clear hb2; have tp2 : True := trivial; clear _t tp1)
    | (have _t := tok0; refine F.blkAlloc rfl rfl ?_; intro w3 hk hb3 hz3; replace HB := Lib.hid (below_ext HB.out hb3); have K1 := Lib.hid hk; have tok1 : True := trivial; clear hk hb3 _t tok0)
    | (refine F.blkStore (.tmp 1) (.tmp 16) rfl K1.out rfl rfl HG.out rfl ?_; intro w4 hk hg; replace HB := Lib.hid (below_at HB.out hg (by omega) K1.out.lt); replace K1 := Lib.hid hk; have hz4 := hg.size; clear hk hg)
    | (have _t := tp2; go_at_call 142; refine (one_any _).mono ?_; rintro e w5 ⟨rfl, hb5⟩; replace K1 := Lib.hid (K1.out.below hb5); replace HB := Lib.hid (below_ext HB.out hb5); have hz5 := hb5.size; clear hb5; have tp3 : True := trivial; clear _t tp2)
    | (have _t := tp3; go_at_call 106; refine (P2.out _).mono ?_; rintro e w6 ⟨rfl, hb6⟩; replace K1 := Lib.hid (K1.out.below hb6); replace HB := Lib.hid (below_ext HB.out hb6); have hz6 := hb6.size; clear hb6; have tp4 : True := trivial; clear _t tp3)
    | (have _t := tok1; refine F.blkAlloc rfl rfl ?_; intro w7 hk hb7 hz7; replace K1 := Lib.hid (K1.out.below hb7); replace HB := Lib.hid (below_ext HB.out hb7); have K3 := Lib.hid hk; have tok2 : True := trivial; clear hk hb7 _t tok1)
    | (refine F.blkStore (.tmp 3) (.tmp 21) rfl K3.out rfl rfl zeros_length rfl ?_; intro w8 hk hg; replace HB := Lib.hid (below_at HB.out hg (by omega) K3.out.lt); replace K1 := Lib.hid (K1.out.grown hg (by omega)); replace K3 := Lib.hid hk; have hz8 := hg.size; clear hk hg)
    | (refine supBuild0 rfl rfl ?_)
    | (have _t := tp4; go_at_call 106; refine (P3.out _).mono ?_; rintro e w9 ⟨rfl, hb9⟩; replace K1 := Lib.hid (K1.out.below hb9); replace K3 := Lib.hid (K3.out.below hb9); replace HB := Lib.hid (below_ext HB.out hb9); have hz9 := hb9.size; clear hb9; have tp5 : True := trivial; clear _t tp4)
    | (have _t := tok2; refine F.blkAlloc rfl rfl ?_; intro w10 hk hb10 hz10; replace K1 := Lib.hid (K1.out.below hb10); replace K3 := Lib.hid (K3.out.below hb10); replace HB := Lib.hid (below_ext HB.out hb10); have K5 := Lib.hid hk; have tok3 : True := trivial; clear hk hb10 _t tok2)
    | (refine F.blkStore (.tmp 5) (.tmp 26) rfl K5.out rfl rfl zeros_length rfl ?_; intro w11 hk hg; replace HB := Lib.hid (below_at HB.out hg (by omega) K5.out.lt); replace K1 := Lib.hid (K1.out.grown hg (by omega)); replace K3 := Lib.hid (K3.out.grown hg (by omega)); replace K5 := Lib.hid hk; have hz11 := hg.size; clear hk hg)
    | (refine F.blkLoad (.tmp 1) rfl K1.out rfl rfl ?_)
    | (have _t := tp5; go_at_call 103; refine (P4.out _).mono ?_; rintro e w12 ⟨rfl, hb12⟩; replace K1 := Lib.hid (K1.out.below hb12); replace K3 := Lib.hid (K3.out.below hb12); replace K5 := Lib.hid (K5.out.below hb12); replace HB := Lib.hid (below_ext HB.out hb12); have hz12 := hb12.size; clear hb12; have tp6 : True := trivial; clear _t tp5)
    | (have _t := tok3; refine supAlloc rfl rfl ?_; intro w13 hk hb13 hz13; replace K1 := Lib.hid (K1.out.below hb13); replace K3 := Lib.hid (K3.out.below hb13); replace K5 := Lib.hid (K5.out.below hb13); replace HB := Lib.hid (below_ext HB.out hb13); have K8 := Lib.hid hk; clear hk hb13; have tok4 : True := trivial; clear _t tok3)
    | (refine supStore (.tmp 8) (.tmp 32) rfl K8.out rfl rfl zero16_length rfl ?_; intro w14 hk hg; replace HB := Lib.hid (below_at HB.out hg (by omega) K8.out.lt); replace K1 := Lib.hid (K1.out.grown hg (by omega)); replace K3 := Lib.hid (K3.out.grown hg (by omega)); replace K5 := Lib.hid (K5.out.grown hg (by omega)); replace K8 := Lib.hid hk; have hz14 := hg.size; clear hk hg)
    | (refine F.blkBuild rfl rfl ?_)
    | (have _t := tp6; go_at_call 103; refine (P5.out _).mono ?_; rintro e w15 ⟨rfl, hb15⟩; replace K1 := Lib.hid (K1.out.below hb15); replace K3 := Lib.hid (K3.out.below hb15); replace K5 := Lib.hid (K5.out.below hb15); replace K8 := Lib.hid (K8.out.below hb15); replace HB := Lib.hid (below_ext HB.out hb15); have hz15 := hb15.size; clear hb15; have tp7 : True := trivial; clear _t tp6)
    | (have _t := tok4; refine supAlloc rfl rfl ?_; intro w16 hk hb16 hz16; replace K1 := Lib.hid (K1.out.below hb16); replace K3 := Lib.hid (K3.out.below hb16); replace K5 := Lib.hid (K5.out.below hb16); replace K8 := Lib.hid (K8.out.below hb16); replace HB := Lib.hid (below_ext HB.out hb16); have K11 := Lib.hid hk; clear hk hb16; have tok5 : True := trivial; clear _t tok4)
    | (refine supStore (.tmp 11) (.tmp 38) rfl K11.out rfl rfl zero16_length rfl ?_; intro w17 hk hg; replace HB := Lib.hid (below_at HB.out hg (by omega) K11.out.lt); replace K1 := Lib.hid (K1.out.grown hg (by omega)); replace K3 := Lib.hid (K3.out.grown hg (by omega)); replace K5 := Lib.hid (K5.out.grown hg (by omega)); replace K8 := Lib.hid (K8.out.grown hg (by omega)); replace K11 := Lib.hid hk; have hz17 := hg.size; clear hk hg))
  have qK8 := K8.out.later
  have qK1 := K1.out.later
  have tq0 : True := trivial
  refine wp_region_cls (fun w9 => ∃ x : Later w17, w9 = x.w) (by kernel_rfl) (by kernel_rfl) (Later.drew _) ?_
  repeat (first
    | go_big_quiet_skip
    | (refine qSupLoad (.tmp 8) rfl zero16_length qK8 rfl rfl ?_; simp only [Act.put, List.setIfInBounds_toArray, List.set_cons_zero, List.set_cons_succ])
    | (refine qBlkLoad rfl (.tmp 1) rfl HG.out qK1 rfl ?_; simp only [Act.put, List.setIfInBounds_toArray, List.set_cons_zero, List.set_cons_succ])
    | (refine qSupEql (.tmp 55) (.tmp 56) _ rfl rfl rfl zero16_length zero16_length true (eqS_self _) rfl ?_; simp only [Act.put, List.setIfInBounds_toArray, List.set_cons_zero, List.set_cons_succ])
    | (refine qBlkBuild rfl rfl ?_; simp only [Act.put, List.setIfInBounds_toArray, List.set_cons_zero, List.set_cons_succ])
    | (have _t := tq0; refine qAt 142 rfl ?_; go_big_quiet_want; go_big_quiet_op; apply Exists.intro; refine ⟨fun x => ?_, ?_⟩; (· refine (one_any _).mono ?_; rintro e x2 ⟨rfl, hb⟩; exact ⟨rfl, x.ext hb⟩); go_big_quiet_on; have tq1 : True := trivial; clear _t tq0)
    | (have _t := tq1; refine qAt 114 rfl ?_; go_big_quiet_want; go_big_quiet_op; apply Exists.intro; refine ⟨fun x => ?_, ?_⟩; (· refine (P6.out _).mono ?_; rintro e x2 ⟨rfl, hb⟩; exact ⟨rfl, x.ext hb⟩); go_big_quiet_on; have tq2 : True := trivial; clear _t tq1)
    | (have _t := tq2; refine qAt 114 rfl ?_; go_big_quiet_want; go_big_quiet_op; apply Exists.intro; refine ⟨fun x => ?_, ?_⟩; (· refine (P7.out _).mono ?_; rintro e x2 ⟨rfl, hb⟩; exact ⟨rfl, x.ext hb⟩); go_big_quiet_on; have tq3 : True := trivial; clear _t tq2)
    | (go_big_quiet_want; go_big_quiet_op; go_big_quiet_on))
  refine wpQuiet_nil ?_
  rintro w9 ⟨⟨x9, h9⟩, rfl⟩
  have hb9 := below_ext HB.out h9
  clear h9
  go_wp2
  go_ret
  exact ⟨rfl, hb9⟩
theorem ok_one : okS 3 oneS = true := by
  have h : mayR oneX = true := (mayR_new 3 4 40).trans (by decide)
  simp [okS, mayS, h]
theorem sLives_any (w : World) : Calls Try.prog 105 #[] w fun e w' => e = .returned (.bool true) ∧ Below w.heap.size w w' := by
  have h0 : oneS.id < 18446744073709551616 := by decide
  have hx : Wf oneS.x := Wf_rog 3 4 40
  have hi : su0.id < 18446744073709551616 := by decide
  have hl : (sealed 3 (sbody oneS)).length = 64 := sealed_length (by rw [sbody_length]; decide)
  have hw : Wf8 (sealed 3 (sbody oneS)) := sealed_wf _ (sbody_wf _)
  have P1 := fun w => Put_S 3 (by decide) oneS hx h0 w
  have P2 := fun w => Put_S 0 (by decide) oneS hx h0 w
  have P3 := fun w => Put_S 1 (by decide) su0 Wf_ro0 hi w
  rw [show supers 3 oneS = (sealed 3 (sbody oneS), 0) from if_pos ok_one] at P1
  rw [show supers 0 oneS = (zeros, 2) from if_neg (fun h => by have := (okS_n h).1; omega)] at P2
  rw [show supers 1 su0 = (zeros, 2) from if_neg (fun h => by
    have h2 := (okS_n h).2.2
    simp [mayS, su0] at h2)] at P3
  have P4 := fun w => Get_S (sealed 3 (sbody oneS)) hl hw w
  have P5 := fun w => Get_S zeros zeros_length (zeros_wf 64) w
  have P6 := fun w => Slot_S (sealed 3 (sbody oneS)) zeros hl zeros_length hw (zeros_wf 64) w
  have P7 := fun w => Slot_S zeros (sealed 3 (sbody oneS)) zeros_length hl (zeros_wf 64) hw w
  unfold GotE at P4 P5
  rw [gotS_put ok_one hx h0] at P4 P6 P7
  rw [gotS_zeros] at P5 P6 P7
  exact sLives_walk _ (Lib.hid hl) (Lib.hid P1) (Lib.hid P2) (Lib.hid P3) (Lib.hid P4) (Lib.hid P5) (Lib.hid P6) (Lib.hid P7) w
end Go.Proofs.Ytdchcggllcgokaa.Q
