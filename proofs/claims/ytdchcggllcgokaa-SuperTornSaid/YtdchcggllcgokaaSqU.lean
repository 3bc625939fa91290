/-
  ashlarlaw08.SuperPuts, SuperGets: the walks, and whole. ashlarlaw08.SuperPuts, SuperGets: the contracts for the rows.
-/
import Derived.Test.YtdchcggllcgokaaSqT
import Derived.Test.YtdchcggllcgokaaSqQ
import Derived.Test.YtdchcggllcgokaaSqS
import Derived.Deep.RegionHeld3
import Derived.Deep.MidRow
namespace Go.Proofs.Ytdchcggllcgokaa.Q
open Go.RowKit Go.Proofs.Ytdchcggllcgokaa.L Go.Proofs.Ytdchcggllcgokaa.U Go.Proofs.Ytdchcggllcgokaa.E Go.Proofs.Ytdchcggllcgokaa.R Go.Proofs.YtdchcggllcgokaaW.PrintWords
set_option linter.unusedVariables false
set_option linter.unusedSimpArgs false
section
variable {ops : Array Oper} {rest : List Oper} {op : Oper} {a : Act} {C : World → Prop} {Q : Act → Prop}
theorem qSupRos (x : Operand) (ho : op.op = .load 72 x) {g : Nat} {y : Su} (hl : y.x.st.length = 16) (hk : ∀ w, C w → Sup w g y) (hx : a.eval x = .pointer (some ⟨g, 2, none⟩)) (hw : Region.wanted op (yielded ops a.tmps) = true)
    (h : wpQuiet Try.prog ops C Q rest (a.put op.dst (ros y.x))) : wpQuiet Try.prog ops C Q (op :: rest) a :=
  quiet_val hw _ (fun w hC => by
    unfold execOp
    simp only [ho, hx, Instr.loadAt, Instr.sureAddr, Sem.run_bind, Sem.run_map, Sem.run_pure, Result.andThen_ok, run_loadVar_mid w g 2 72 _ _ (hk w hC).ros Try.underlying72 rfl (by rw [info_ros, rosL_length hl])]
    rfl) h
end
set_option maxRecDepth 100000 in
set_option maxHeartbeats 4000000 in
theorem sPuts_walk (n : Nat) (s t : Su) (HS : Hid (s.x.st.length = 16)) (HT : Hid (t.x.st.length = 16)) (X : List Int) (HX : Hid (X.length = 64)) (k : Int) (z b : Bool)
    (P1 : Hid (∀ w : World, Calls Try.prog 106 #[.int .u64 (n : Int), sup s] w fun e w' => e = .returned (.tuple #[blk X, .int .i64 k]) ∧ Below w.heap.size w w'))
    (P2 : Hid (∀ w : World, Calls Try.prog 108 #[.int .u64 (n : Int), sup s] w fun e w' => e = .returned (.tuple #[blk X, .int .i64 k]) ∧ Below w.heap.size w w'))
    (M1 : Hid (∀ w : World, Calls Try.prog 107 #[sup s] w fun e w' => e = .returned (.bool z) ∧ Below w.heap.size w w'))
    (M2 : Hid (∀ w : World, Calls Try.prog 109 #[sup s] w fun e w' => e = .returned (.bool z) ∧ Below w.heap.size w w'))
    (R1 : Hid (∀ w : World, Calls Try.prog 110 #[ros s.x, ros t.x] w fun e w' => e = .returned (.bool b) ∧ Below w.heap.size w w'))
    (R2 : Hid (∀ w : World, Calls Try.prog 111 #[ros s.x, ros t.x] w fun e w' => e = .returned (.bool b) ∧ Below w.heap.size w w'))
    (R3 : Hid (∀ w : World, Calls Try.prog 110 #[ros s.x, ros s.x] w fun e w' => e = .returned (.bool true) ∧ Below w.heap.size w w')) (w : World) : Calls Try.prog 29 #[.int .u64 (n : Int), sup s, sup t] w fun e w' => e = .returned (.bool true) ∧ Below w.heap.size w w' := by
  have HB := Lib.hid (Below.refl w.heap.size w)
  have tok0 : True := trivial
  have tp0 : True := trivial
  go_enter Try.func29, Try.ntmps29
  go_wp2_with (first
    | (go_skip)
    | (refine supBox (.tmp 1) rfl rfl HS.out rfl ?_; intro w1 hk hb1 hz1; replace HB := Lib.hid (below_ext HB.out hb1); have K4 := Lib.hid hk; clear hk hb1)
    | (refine supBox (.tmp 2) rfl rfl HT.out rfl ?_; intro w2 hk hb2 hz2; replace K4 := Lib.hid (K4.out.below hb2); replace HB := Lib.hid (below_ext HB.out hb2); have K5 := Lib.hid hk; clear hk hb2)
    | (refine supLoad (.tmp 4) rfl K4.out rfl rfl ?_)
    | (have _t := tp0; go_at_call 106; refine (P1.out _).mono ?_; rintro e w3 ⟨rfl, hb3⟩; replace K4 := Lib.hid (K4.out.below hb3); replace K5 := Lib.hid (K5.out.below hb3); replace HB := Lib.hid (below_ext HB.out hb3); have hz3 := hb3.size; clear hb3; have tp1 : True := trivial; clear _t tp0)
    | (have _t := tok0; refine F.blkAlloc rfl rfl ?_; intro w4 hk hb4 hz4; replace K4 := Lib.hid (K4.out.below hb4); replace K5 := Lib.hid (K5.out.below hb4); replace HB := Lib.hid (below_ext HB.out hb4); have K7 := Lib.hid hk; have tok1 : True := trivial; clear hk hb4 _t tok0)
    | (refine F.blkStore (.tmp 7) (.tmp 15) rfl K7.out rfl rfl HX.out rfl ?_; intro w5 hk hg; replace HB := Lib.hid (below_at HB.out hg (by omega) K7.out.lt); replace K4 := Lib.hid (K4.out.grown hg (by omega)); replace K5 := Lib.hid (K5.out.grown hg (by omega)); replace K7 := Lib.hid hk; have hz5 := hg.size; clear hk hg)
    | (have _t := tp1; go_at_call 108; refine (P2.out _).mono ?_; rintro e w6 ⟨rfl, hb6⟩; replace K4 := Lib.hid (K4.out.below hb6); replace K5 := Lib.hid (K5.out.below hb6); replace K7 := Lib.hid (K7.out.below hb6); replace HB := Lib.hid (below_ext HB.out hb6); have hz6 := hb6.size; clear hb6; have tp2 : True := trivial; clear _t tp1)
    | (have _t := tok1; refine F.blkAlloc rfl rfl ?_; intro w7 hk hb7 hz7; replace K4 := Lib.hid (K4.out.below hb7); replace K5 := Lib.hid (K5.out.below hb7); replace K7 := Lib.hid (K7.out.below hb7); replace HB := Lib.hid (below_ext HB.out hb7); have K9 := Lib.hid hk; have tok2 : True := trivial; clear hk hb7 _t tok1)
    | (refine F.blkStore (.tmp 9) (.tmp 21) rfl K9.out rfl rfl HX.out rfl ?_; intro w8 hk hg; replace HB := Lib.hid (below_at HB.out hg (by omega) K9.out.lt); replace K4 := Lib.hid (K4.out.grown hg (by omega)); replace K5 := Lib.hid (K5.out.grown hg (by omega)); replace K7 := Lib.hid (K7.out.grown hg (by omega)); replace K9 := Lib.hid hk; have hz8 := hg.size; clear hk hg))
  have qK5 := K5.out.later
  have qK4 := K4.out.later
  have qK7 := K7.out.later
  have qK9 := K9.out.later
  have tq0 : True := trivial
  refine wp_region_cls (fun w9 => ∃ x : Later w8, w9 = x.w) (by kernel_rfl) (by kernel_rfl) (Later.drew _) ?_
  repeat (first
    | go_big_quiet_skip
    | (refine qSupLoad (.tmp 4) rfl HS.out qK4 rfl rfl ?_; simp only [Act.put, List.setIfInBounds_toArray, List.set_cons_zero, List.set_cons_succ])
    | (refine qBlkLoad rfl (.tmp 7) rfl HX.out qK7 rfl ?_; simp only [Act.put, List.setIfInBounds_toArray, List.set_cons_zero, List.set_cons_succ])
    | (refine qBlkLoad rfl (.tmp 9) rfl HX.out qK9 rfl ?_; simp only [Act.put, List.setIfInBounds_toArray, List.set_cons_zero, List.set_cons_succ])
    | (refine qBlkEql rfl (.tmp 29) (.tmp 30) _ rfl rfl rfl HX.out HX.out true (by simp) ?_; simp only [Act.put, List.setIfInBounds_toArray, List.set_cons_zero, List.set_cons_succ])
    | (refine qSupRos (.tmp 39) rfl HS.out qK4 rfl rfl ?_; simp only [Act.put, List.setIfInBounds_toArray, List.set_cons_zero, List.set_cons_succ])
    | (refine qSupRos (.tmp 41) rfl HT.out qK5 rfl rfl ?_; simp only [Act.put, List.setIfInBounds_toArray, List.set_cons_zero, List.set_cons_succ])
    | (refine qSupRos (.tmp 44) rfl HS.out qK4 rfl rfl ?_; simp only [Act.put, List.setIfInBounds_toArray, List.set_cons_zero, List.set_cons_succ])
    | (refine qSupRos (.tmp 46) rfl HT.out qK5 rfl rfl ?_; simp only [Act.put, List.setIfInBounds_toArray, List.set_cons_zero, List.set_cons_succ])
    | (refine qSupRos (.tmp 52) rfl HS.out qK4 rfl rfl ?_; simp only [Act.put, List.setIfInBounds_toArray, List.set_cons_zero, List.set_cons_succ])
    | (refine qSupRos (.tmp 54) rfl HS.out qK4 rfl rfl ?_; simp only [Act.put, List.setIfInBounds_toArray, List.set_cons_zero, List.set_cons_succ])
    | (have _t := tq0; refine qAt 107 rfl ?_; go_big_quiet_want; go_big_quiet_op; apply Exists.intro; refine ⟨fun x => ?_, ?_⟩; (· refine (M1.out _).mono ?_; rintro e x2 ⟨rfl, hb⟩; exact ⟨rfl, x.ext hb⟩); go_big_quiet_on; have tq1 : True := trivial; clear _t tq0)
    | (have _t := tq1; refine qAt 109 rfl ?_; go_big_quiet_want; go_big_quiet_op; apply Exists.intro; refine ⟨fun x => ?_, ?_⟩; (· refine (M2.out _).mono ?_; rintro e x2 ⟨rfl, hb⟩; exact ⟨rfl, x.ext hb⟩); go_big_quiet_on; have tq2 : True := trivial; clear _t tq1)
    | (have _t := tq2; refine qAt 110 rfl ?_; go_big_quiet_want; go_big_quiet_op; apply Exists.intro; refine ⟨fun x => ?_, ?_⟩; (· refine (R1.out _).mono ?_; rintro e x2 ⟨rfl, hb⟩; exact ⟨rfl, x.ext hb⟩); go_big_quiet_on; have tq3 : True := trivial; clear _t tq2)
    | (have _t := tq3; refine qAt 111 rfl ?_; go_big_quiet_want; go_big_quiet_op; apply Exists.intro; refine ⟨fun x => ?_, ?_⟩; (· refine (R2.out _).mono ?_; rintro e x2 ⟨rfl, hb⟩; exact ⟨rfl, x.ext hb⟩); go_big_quiet_on; have tq4 : True := trivial; clear _t tq3)
    | (have _t := tq4; refine qAt 110 rfl ?_; go_big_quiet_want; go_big_quiet_op; apply Exists.intro; refine ⟨fun x => ?_, ?_⟩; (· refine (R3.out _).mono ?_; rintro e x2 ⟨rfl, hb⟩; exact ⟨rfl, x.ext hb⟩); go_big_quiet_on; have tq5 : True := trivial; clear _t tq4)
    | (have _t := tq5; refine qAt 105 rfl ?_; go_big_quiet_want; go_big_quiet_op; apply Exists.intro; refine ⟨fun x => ?_, ?_⟩; (· refine (sLives_any _).mono ?_; rintro e x2 ⟨rfl, hb⟩; exact ⟨rfl, x.ext hb⟩); go_big_quiet_on; have tq6 : True := trivial; clear _t tq5)
    | (go_big_quiet_want; go_big_quiet_op; go_big_quiet_on))
  refine wpQuiet_nil ?_
  rintro w9 ⟨⟨x9, h9⟩, rfl⟩
  have hb9 := below_ext HB.out h9
  clear h9
  go_wp2
  go_ret
  exact ⟨rfl, hb9⟩
theorem supers_length (n : Nat) (y : Su) : (supers n y).1.length = 64 := by
  rw [supers]; split
  · exact sealed_length (by rw [sbody_length]; decide)
  · exact zeros_length
theorem supers_wf (n : Nat) (y : Su) : Wf8 (supers n y).1 := by
  rw [supers]; split
  · exact sealed_wf _ (sbody_wf y)
  · exact zeros_wf 64
theorem sPuts_any (n : Nat) (hn : n < 18446744073709551616) (s t : Su) (hs : Wf s.x) (ht : Wf t.x) (is : s.id < 18446744073709551616) (w : World) : Calls Try.prog 29 #[.int .u64 (n : Int), sup s, sup t] w fun e w' => e = .returned (.bool true) ∧ Below w.heap.size w w' := by
  have P1 := fun w => Put_S n hn s hs is w
  have P2 := fun w => rPut_S n hn s hs is w
  have R3 := fun w => Rosters_any s.x s.x hs.1 hs.1 w
  rw [eqR_self] at R3
  exact sPuts_walk n s t (Lib.hid hs.1) (Lib.hid ht.1) (supers n s).1 (Lib.hid (supers_length n s)) (supers n s).2 (mayS s) (eqR s.x t.x) (Lib.hid P1) (Lib.hid P2) (Lib.hid fun w => sMay_any s hs w) (Lib.hid fun w => rsMay_any s hs w) (Lib.hid fun w => Rosters_any s.x t.x hs.1 ht.1 w) (Lib.hid fun w => rRosters_any s.x t.x hs.1 ht.1 w) (Lib.hid R3) w
set_option maxRecDepth 100000 in
set_option maxHeartbeats 4000000 in
theorem sGets_E (xs : List Int) (HX : Hid (xs.length = 64)) (n : Nat) (y : Su) (HY : Hid (y.x.st.length = 16)) (k : Int) (ev : Nat) (B : Option Addr) (cap : Nat) (ys : List Int) (S : List Int) (HS : Hid (S.length = 64)) (e2 : Int) (he : (e2 != 0) = true)
    (P1 : Hid (∀ w : World, Calls Try.prog 103 #[blk xs] w fun e w' => e = .returned (.tuple #[.int .u64 (n : Int), sup y, .int .i64 k]) ∧ Below w.heap.size w w'))
    (P2 : Hid (∀ w : World, Calls Try.prog 104 #[blk xs] w fun e w' => e = .returned (.tuple #[.int .u64 (n : Int), sup y, .int .i64 k]) ∧ Below w.heap.size w w'))
    (P3 : Hid (rPutB ev ys S e2)) (w : World) (HR : Hid (ReadsInt w .u8 B ys.length ys)) : Calls Try.prog 27 #[blk xs, .int .u64 (ev : Int), .slice B ys.length cap] w fun e w' => e = .returned (.bool true) ∧ Below w.heap.size w w' := by
  have HB := Lib.hid (Below.refl w.heap.size w)
  have tok0 : True := trivial
  have tp0 : True := trivial
  go_enter Try.func27, Try.ntmps27
  go_wp2_with (first
    | (go_skip)
    | (refine F.blkBox (.tmp 0) rfl rfl HX.out rfl ?_; intro w1 hk hb1 hz1; replace HB := Lib.hid (below_ext HB.out hb1); have K3 := Lib.hid hk; clear hk hb1)
    | (refine F.blkLoad (.tmp 3) rfl K3.out rfl rfl ?_)
    | (have _t := tp0; go_at_call 103; refine (P1.out _).mono ?_; rintro e w2 ⟨rfl, hb2⟩; replace K3 := Lib.hid (K3.out.below hb2); replace HB := Lib.hid (below_ext HB.out hb2); have hz2 := hb2.size; clear hb2; have tp1 : True := trivial; clear _t tp0)
    | (have _t := tok0; refine supAlloc rfl rfl ?_; intro w3 hk hb3 hz3; replace K3 := Lib.hid (K3.out.below hb3); replace HB := Lib.hid (below_ext HB.out hb3); have K8 := Lib.hid hk; clear hk hb3; have tok1 : True := trivial; clear _t tok0)
    | (refine supStore (.tmp 8) (.tmp 19) rfl K8.out rfl rfl HY.out rfl ?_; intro w4 hk hg; replace HB := Lib.hid (below_at HB.out hg (by omega) K8.out.lt); replace K3 := Lib.hid (K3.out.grown hg (by omega)); replace K8 := Lib.hid hk; have hz4 := hg.size; clear hk hg)
    | (have _t := tp1; go_at_call 104; refine (P2.out _).mono ?_; rintro e w5 ⟨rfl, hb5⟩; replace K3 := Lib.hid (K3.out.below hb5); replace K8 := Lib.hid (K8.out.below hb5); replace HB := Lib.hid (below_ext HB.out hb5); have hz5 := hb5.size; clear hb5; have tp2 : True := trivial; clear _t tp1)
    | (have _t := tok1; refine supAlloc rfl rfl ?_; intro w6 hk hb6 hz6; replace K3 := Lib.hid (K3.out.below hb6); replace K8 := Lib.hid (K8.out.below hb6); replace HB := Lib.hid (below_ext HB.out hb6); have K11 := Lib.hid hk; clear hk hb6; have tok2 : True := trivial; clear _t tok1)
    | (refine supStore (.tmp 11) (.tmp 25) rfl K11.out rfl rfl HY.out rfl ?_; intro w7 hk hg; replace HB := Lib.hid (below_at HB.out hg (by omega) K11.out.lt); replace K3 := Lib.hid (K3.out.grown hg (by omega)); replace K8 := Lib.hid (K8.out.grown hg (by omega)); replace K11 := Lib.hid hk; have hz7 := hg.size; clear hk hg)
    | (refine supLoad (.tmp 8) rfl K8.out rfl rfl ?_)
    | (refine supLoad (.tmp 11) rfl K11.out rfl rfl ?_)
    | (refine supNeqS (.tmp 31) (.tmp 32) _ rfl rfl rfl HY.out HY.out false (neS_self _) rfl ?_)
    | (have _t := tp2; go_at_call 57; refine (P3.out _ _ _ (HR.out.below HB.out)).mono ?_; rintro e w8 ⟨rfl, hb8⟩; replace K3 := Lib.hid (K3.out.below hb8); replace K8 := Lib.hid (K8.out.below hb8); replace K11 := Lib.hid (K11.out.below hb8); replace HB := Lib.hid (below_ext HB.out hb8); have hz8 := hb8.size; clear hb8; have tp3 : True := trivial; clear _t tp2)
    | (have _t := tok2; refine F.blkAlloc rfl rfl ?_; intro w9 hk hb9 hz9; replace K3 := Lib.hid (K3.out.below hb9); replace K8 := Lib.hid (K8.out.below hb9); replace K11 := Lib.hid (K11.out.below hb9); replace HB := Lib.hid (below_ext HB.out hb9); have K13 := Lib.hid hk; have tok3 : True := trivial; clear hk hb9 _t tok2)
    | (refine F.blkStore (.tmp 13) (.tmp 44) rfl K13.out rfl rfl HS.out rfl ?_; intro w10 hk hg; replace HB := Lib.hid (below_at HB.out hg (by omega) K13.out.lt); replace K3 := Lib.hid (K3.out.grown hg (by omega)); replace K8 := Lib.hid (K8.out.grown hg (by omega)); replace K11 := Lib.hid (K11.out.grown hg (by omega)); replace K13 := Lib.hid hk; have hz10 := hg.size; clear hk hg)
    | (have _t := tp3; go_at_call 105; refine (sLives_any _).mono ?_; rintro e w11 ⟨rfl, hb11⟩; replace K3 := Lib.hid (K3.out.below hb11); replace K8 := Lib.hid (K8.out.below hb11); replace K11 := Lib.hid (K11.out.below hb11); replace K13 := Lib.hid (K13.out.below hb11); replace HB := Lib.hid (below_ext HB.out hb11); have hz11 := hb11.size; clear hb11; have tp4 : True := trivial; clear _t tp3))
  go_ret
  exact ⟨rfl, HB.out⟩
set_option maxRecDepth 100000 in
set_option maxHeartbeats 4000000 in
theorem sGets_O (xs : List Int) (HX : Hid (xs.length = 64)) (n : Nat) (y : Su) (HY : Hid (y.x.st.length = 16)) (k : Int) (ev : Nat) (B : Option Addr) (cap : Nat) (ys : List Int) (S : List Int) (HS : Hid (S.length = 64)) (e2 : Int) (m : Nat) (y2 : Su) (HY2 : Hid (y2.x.st.length = 16)) (k2 : Int)
    (P1 : Hid (∀ w : World, Calls Try.prog 103 #[blk xs] w fun e w' => e = .returned (.tuple #[.int .u64 (n : Int), sup y, .int .i64 k]) ∧ Below w.heap.size w w'))
    (P2 : Hid (∀ w : World, Calls Try.prog 104 #[blk xs] w fun e w' => e = .returned (.tuple #[.int .u64 (n : Int), sup y, .int .i64 k]) ∧ Below w.heap.size w w'))
    (P3 : Hid (rPutB ev ys S 0))
    (P4 : Hid (∀ w : World, Calls Try.prog 103 #[blk S] w fun e w' => e = .returned (.tuple #[.int .u64 (m : Int), sup y2, .int .i64 k2]) ∧ Below w.heap.size w w'))
    (P5 : Hid (∀ w : World, Calls Try.prog 104 #[blk S] w fun e w' => e = .returned (.tuple #[.int .u64 (m : Int), sup y2, .int .i64 k2]) ∧ Below w.heap.size w w')) (w : World) (HR : Hid (ReadsInt w .u8 B ys.length ys)) : Calls Try.prog 27 #[blk xs, .int .u64 (ev : Int), .slice B ys.length cap] w fun e w' => e = .returned (.bool true) ∧ Below w.heap.size w w' := by
  have HB := Lib.hid (Below.refl w.heap.size w)
  have tok0 : True := trivial
  have tp0 : True := trivial
  go_enter Try.func27, Try.ntmps27
  go_wp2_with (first
    | (go_skip)
    | (refine F.blkBox (.tmp 0) rfl rfl HX.out rfl ?_; intro w1 hk hb1 hz1; replace HB := Lib.hid (below_ext HB.out hb1); have K3 := Lib.hid hk; clear hk hb1)
    | (refine F.blkLoad (.tmp 3) rfl K3.out rfl rfl ?_)
    | (have _t := tp0; go_at_call 103; refine (P1.out _).mono ?_; rintro e w2 ⟨rfl, hb2⟩; replace K3 := Lib.hid (K3.out.below hb2); replace HB := Lib.hid (below_ext HB.out hb2); have hz2 := hb2.size; clear hb2; have tp1 : True := trivial; clear _t tp0)
    | (have _t := tok0; refine supAlloc rfl rfl ?_; intro w3 hk hb3 hz3; replace K3 := Lib.hid (K3.out.below hb3); replace HB := Lib.hid (below_ext HB.out hb3); have K8 := Lib.hid hk; clear hk hb3; have tok1 : True := trivial; clear _t tok0)
    | (refine supStore (.tmp 8) (.tmp 19) rfl K8.out rfl rfl HY.out rfl ?_; intro w4 hk hg; replace HB := Lib.hid (below_at HB.out hg (by omega) K8.out.lt); replace K3 := Lib.hid (K3.out.grown hg (by omega)); replace K8 := Lib.hid hk; have hz4 := hg.size; clear hk hg)
    | (have _t := tp1; go_at_call 104; refine (P2.out _).mono ?_; rintro e w5 ⟨rfl, hb5⟩; replace K3 := Lib.hid (K3.out.below hb5); replace K8 := Lib.hid (K8.out.below hb5); replace HB := Lib.hid (below_ext HB.out hb5); have hz5 := hb5.size; clear hb5; have tp2 : True := trivial; clear _t tp1)
    | (have _t := tok1; refine supAlloc rfl rfl ?_; intro w6 hk hb6 hz6; replace K3 := Lib.hid (K3.out.below hb6); replace K8 := Lib.hid (K8.out.below hb6); replace HB := Lib.hid (below_ext HB.out hb6); have K11 := Lib.hid hk; clear hk hb6; have tok2 : True := trivial; clear _t tok1)
    | (refine supStore (.tmp 11) (.tmp 25) rfl K11.out rfl rfl HY.out rfl ?_; intro w7 hk hg; replace HB := Lib.hid (below_at HB.out hg (by omega) K11.out.lt); replace K3 := Lib.hid (K3.out.grown hg (by omega)); replace K8 := Lib.hid (K8.out.grown hg (by omega)); replace K11 := Lib.hid hk; have hz7 := hg.size; clear hk hg)
    | (refine supLoad (.tmp 8) rfl K8.out rfl rfl ?_)
    | (refine supLoad (.tmp 11) rfl K11.out rfl rfl ?_)
    | (refine supNeqS (.tmp 31) (.tmp 32) _ rfl rfl rfl HY.out HY.out false (neS_self _) rfl ?_)
    | (have _t := tp2; go_at_call 57; refine (P3.out _ _ _ (HR.out.below HB.out)).mono ?_; rintro e w8 ⟨rfl, hb8⟩; replace K3 := Lib.hid (K3.out.below hb8); replace K8 := Lib.hid (K8.out.below hb8); replace K11 := Lib.hid (K11.out.below hb8); replace HB := Lib.hid (below_ext HB.out hb8); have hz8 := hb8.size; clear hb8; have tp3 : True := trivial; clear _t tp2)
    | (have _t := tok2; refine F.blkAlloc rfl rfl ?_; intro w9 hk hb9 hz9; replace K3 := Lib.hid (K3.out.below hb9); replace K8 := Lib.hid (K8.out.below hb9); replace K11 := Lib.hid (K11.out.below hb9); replace HB := Lib.hid (below_ext HB.out hb9); have K13 := Lib.hid hk; have tok3 : True := trivial; clear hk hb9 _t tok2)
    | (refine F.blkStore (.tmp 13) (.tmp 44) rfl K13.out rfl rfl HS.out rfl ?_; intro w10 hk hg; replace HB := Lib.hid (below_at HB.out hg (by omega) K13.out.lt); replace K3 := Lib.hid (K3.out.grown hg (by omega)); replace K8 := Lib.hid (K8.out.grown hg (by omega)); replace K11 := Lib.hid (K11.out.grown hg (by omega)); replace K13 := Lib.hid hk; have hz10 := hg.size; clear hk hg)
    | (refine F.blkLoad (.tmp 13) rfl K13.out rfl rfl ?_)
    | (have _t := tp3; go_at_call 103; refine (P4.out _).mono ?_; rintro e w11 ⟨rfl, hb11⟩; replace K3 := Lib.hid (K3.out.below hb11); replace K8 := Lib.hid (K8.out.below hb11); replace K11 := Lib.hid (K11.out.below hb11); replace K13 := Lib.hid (K13.out.below hb11); replace HB := Lib.hid (below_ext HB.out hb11); have hz11 := hb11.size; clear hb11; have tp4 : True := trivial; clear _t tp3)
    | (refine supStore (.tmp 8) (.tmp 53) rfl K8.out rfl rfl HY2.out rfl ?_; intro w12 hk hg; replace HB := Lib.hid (below_at HB.out hg (by omega) K8.out.lt); replace K3 := Lib.hid (K3.out.grown hg (by omega)); replace K11 := Lib.hid (K11.out.grown hg (by omega)); replace K13 := Lib.hid (K13.out.grown hg (by omega)); replace K8 := Lib.hid hk; have hz12 := hg.size; clear hk hg)
    | (have _t := tp4; go_at_call 104; refine (P5.out _).mono ?_; rintro e w13 ⟨rfl, hb13⟩; replace K3 := Lib.hid (K3.out.below hb13); replace K8 := Lib.hid (K8.out.below hb13); replace K11 := Lib.hid (K11.out.below hb13); replace K13 := Lib.hid (K13.out.below hb13); replace HB := Lib.hid (below_ext HB.out hb13); have hz13 := hb13.size; clear hb13; have tp5 : True := trivial; clear _t tp4)
    | (refine supStore (.tmp 11) (.tmp 59) rfl K11.out rfl rfl HY2.out rfl ?_; intro w14 hk hg; replace HB := Lib.hid (below_at HB.out hg (by omega) K11.out.lt); replace K3 := Lib.hid (K3.out.grown hg (by omega)); replace K8 := Lib.hid (K8.out.grown hg (by omega)); replace K13 := Lib.hid (K13.out.grown hg (by omega)); replace K11 := Lib.hid hk; have hz14 := hg.size; clear hk hg)
    | (refine supEqlS (.tmp 65) (.tmp 66) _ rfl rfl rfl HY2.out HY2.out true (eqS_self _) rfl ?_)
    | (have _t := tp5; go_at_call 105; refine (sLives_any _).mono ?_; rintro e w15 ⟨rfl, hb15⟩; replace K3 := Lib.hid (K3.out.below hb15); replace K8 := Lib.hid (K8.out.below hb15); replace K11 := Lib.hid (K11.out.below hb15); replace K13 := Lib.hid (K13.out.below hb15); replace HB := Lib.hid (below_ext HB.out hb15); have hz15 := hb15.size; clear hb15; have tp6 : True := trivial; clear _t tp5))
  go_ret
  exact ⟨rfl, HB.out⟩
theorem sGets_any (xs : List Int) (hl : xs.length = 64) (hw : Wf8 xs) (n : Nat) (hn : n < 18446744073709551616) (B : Option Addr) (cap : Nat) (ys : List Int) (hy : Wf8 ys) (w : World) (hr : ReadsInt w .u8 B ys.length ys) :
    Calls Try.prog 27 #[blk xs, .int .u64 (n : Int), .slice B ys.length cap] w fun e w' => e = .returned (.bool true) ∧ Below w.heap.size w w' := by
  obtain ⟨⟨S, k⟩, hS⟩ : ∃ q, q = seals n ys := ⟨_, rfl⟩
  have hSl : S.length = 64 := by have h := seals_length n ys; rwa [← hS] at h
  have hSw : Wf8 S := by have h := seals_wf n hy; rwa [← hS] at h
  have P1 := fun w => Get_S xs hl hw w
  have P2 := fun w => rGet_S xs hl hw w
  have P3 := rput_b hn hy hS.symm
  have P4 := fun w => Get_S S hSl hSw w
  have P5 := fun w => rGet_S S hSl hSw w
  have l1 := Lib.hid (gotS_len xs)
  have l2 := Lib.hid (gotS_len S)
  unfold GotE at P1 P2 P4 P5
  clear hS
  by_cases h0 : k = 0
  · subst h0
    exact sGets_O xs (Lib.hid hl) _ _ l1 _ n B cap ys S (Lib.hid hSl) 0 _ _ l2 _ (Lib.hid P1) (Lib.hid P2) (Lib.hid P3) (Lib.hid P4) (Lib.hid P5) w (Lib.hid hr)
  · exact sGets_E xs (Lib.hid hl) _ _ l1 _ n B cap ys S (Lib.hid hSl) k (bne_iff_ne.2 h0) (Lib.hid P1) (Lib.hid P2) (Lib.hid P3) w (Lib.hid hr)
end Go.Proofs.Ytdchcggllcgokaa.Q

namespace Go.Proofs.Ytdchcggllcgokaa.Q
open Go.RowKit Go.Proofs.Ytdchcggllcgokaa.L Go.Proofs.Ytdchcggllcgokaa.U Go.Proofs.Ytdchcggllcgokaa.E Go.Proofs.Ytdchcggllcgokaa.R Go.Proofs.YtdchcggllcgokaaW.PrintWords
set_option linter.unusedVariables false
set_option linter.unusedSimpArgs false
theorem swf16 {m s r cu : Int} {go : Bool} {b0 : Int} {b1 : Int} {b2 : Int} {b3 : Int} {b4 : Int} {b5 : Int} {b6 : Int} {b7 : Int} {b8 : Int} {b9 : Int} {b10 : Int} {b11 : Int} {b12 : Int} {b13 : Int} {b14 : Int} {b15 : Int} (wb0 : (Lit.int .u8 b0).wf = true) (wb1 : (Lit.int .u8 b1).wf = true) (wb2 : (Lit.int .u8 b2).wf = true) (wb3 : (Lit.int .u8 b3).wf = true) (wb4 : (Lit.int .u8 b4).wf = true) (wb5 : (Lit.int .u8 b5).wf = true) (wb6 : (Lit.int .u8 b6).wf = true) (wb7 : (Lit.int .u8 b7).wf = true) (wb8 : (Lit.int .u8 b8).wf = true) (wb9 : (Lit.int .u8 b9).wf = true) (wb10 : (Lit.int .u8 b10).wf = true) (wb11 : (Lit.int .u8 b11).wf = true) (wb12 : (Lit.int .u8 b12).wf = true) (wb13 : (Lit.int .u8 b13).wf = true) (wb14 : (Lit.int .u8 b14).wf = true) (wb15 : (Lit.int .u8 b15).wf = true) : Wf ⟨m, s, r, [b0, b1, b2, b3, b4, b5, b6, b7, b8, b9, b10, b11, b12, b13, b14, b15], cu, go⟩ := by
  refine ⟨rfl, fun v hv => ?_⟩
  simp only [List.mem_cons, List.not_mem_nil, or_false] at hv
  rcases hv with rfl | rfl | rfl | rfl | rfl | rfl | rfl | rfl | rfl | rfl | rfl | rfl | rfl | rfl | rfl | rfl <;> assumption
theorem sPuts_row (n : Int) (wn : (Lit.int .u64 n).wf = true) (pi : Int) (wpi : (Lit.int .u64 pi).wf = true) (pe : Int) (wpe : (Lit.int .i64 pe).wf = true) (pm : Int) (wpm : (Lit.int .i64 pm).wf = true) (ps : Int) (wps : (Lit.int .i64 ps).wf = true) (pr : Int) (wpr : (Lit.int .i64 pr).wf = true) (pb0 : Int) (wpb0 : (Lit.int .u8 pb0).wf = true) (pb1 : Int) (wpb1 : (Lit.int .u8 pb1).wf = true) (pb2 : Int) (wpb2 : (Lit.int .u8 pb2).wf = true) (pb3 : Int) (wpb3 : (Lit.int .u8 pb3).wf = true) (pb4 : Int) (wpb4 : (Lit.int .u8 pb4).wf = true) (pb5 : Int) (wpb5 : (Lit.int .u8 pb5).wf = true) (pb6 : Int) (wpb6 : (Lit.int .u8 pb6).wf = true) (pb7 : Int) (wpb7 : (Lit.int .u8 pb7).wf = true) (pb8 : Int) (wpb8 : (Lit.int .u8 pb8).wf = true) (pb9 : Int) (wpb9 : (Lit.int .u8 pb9).wf = true) (pb10 : Int) (wpb10 : (Lit.int .u8 pb10).wf = true) (pb11 : Int) (wpb11 : (Lit.int .u8 pb11).wf = true) (pb12 : Int) (wpb12 : (Lit.int .u8 pb12).wf = true) (pb13 : Int) (wpb13 : (Lit.int .u8 pb13).wf = true) (pb14 : Int) (wpb14 : (Lit.int .u8 pb14).wf = true) (pb15 : Int) (wpb15 : (Lit.int .u8 pb15).wf = true) (pc : Int) (wpc : (Lit.int .i64 pc).wf = true) (pg : Bool) (qi : Int) (wqi : (Lit.int .u64 qi).wf = true) (qe : Int) (wqe : (Lit.int .i64 qe).wf = true) (qm : Int) (wqm : (Lit.int .i64 qm).wf = true) (qs : Int) (wqs : (Lit.int .i64 qs).wf = true) (qr : Int) (wqr : (Lit.int .i64 qr).wf = true) (qb0 : Int) (wqb0 : (Lit.int .u8 qb0).wf = true) (qb1 : Int) (wqb1 : (Lit.int .u8 qb1).wf = true) (qb2 : Int) (wqb2 : (Lit.int .u8 qb2).wf = true) (qb3 : Int) (wqb3 : (Lit.int .u8 qb3).wf = true) (qb4 : Int) (wqb4 : (Lit.int .u8 qb4).wf = true) (qb5 : Int) (wqb5 : (Lit.int .u8 qb5).wf = true) (qb6 : Int) (wqb6 : (Lit.int .u8 qb6).wf = true) (qb7 : Int) (wqb7 : (Lit.int .u8 qb7).wf = true) (qb8 : Int) (wqb8 : (Lit.int .u8 qb8).wf = true) (qb9 : Int) (wqb9 : (Lit.int .u8 qb9).wf = true) (qb10 : Int) (wqb10 : (Lit.int .u8 qb10).wf = true) (qb11 : Int) (wqb11 : (Lit.int .u8 qb11).wf = true) (qb12 : Int) (wqb12 : (Lit.int .u8 qb12).wf = true) (qb13 : Int) (wqb13 : (Lit.int .u8 qb13).wf = true) (qb14 : Int) (wqb14 : (Lit.int .u8 qb14).wf = true) (qb15 : Int) (wqb15 : (Lit.int .u8 qb15).wf = true) (qc : Int) (wqc : (Lit.int .i64 qc).wf = true) (qg : Bool) (w : World) :
    Calls Try.prog 29 #[.int .u64 n, .agg #[.int .u64 pi, .int .i64 pe, .int .i64 pm, .int .i64 ps, .int .i64 pr, .int .u8 pb0, .int .u8 pb1, .int .u8 pb2, .int .u8 pb3, .int .u8 pb4, .int .u8 pb5, .int .u8 pb6, .int .u8 pb7, .int .u8 pb8, .int .u8 pb9, .int .u8 pb10, .int .u8 pb11, .int .u8 pb12, .int .u8 pb13, .int .u8 pb14, .int .u8 pb15, .int .i64 pc, .bool pg], .agg #[.int .u64 qi, .int .i64 qe, .int .i64 qm, .int .i64 qs, .int .i64 qr, .int .u8 qb0, .int .u8 qb1, .int .u8 qb2, .int .u8 qb3, .int .u8 qb4, .int .u8 qb5, .int .u8 qb6, .int .u8 qb7, .int .u8 qb8, .int .u8 qb9, .int .u8 qb10, .int .u8 qb11, .int .u8 qb12, .int .u8 qb13, .int .u8 qb14, .int .u8 qb15, .int .i64 qc, .bool qg]] w fun e w' => e = .returned (.bool true) ∧ Below w.heap.size w w' := by
  obtain ⟨n, rfl, hn⟩ := u64_nat wn
  obtain ⟨pi, rfl, hpi⟩ := u64_nat wpi
  obtain ⟨qi, rfl, hqi⟩ := u64_nat wqi
  exact sPuts_any n hn ⟨pi, pe, ⟨pm, ps, pr, [pb0, pb1, pb2, pb3, pb4, pb5, pb6, pb7, pb8, pb9, pb10, pb11, pb12, pb13, pb14, pb15], pc, pg⟩⟩ ⟨qi, qe, ⟨qm, qs, qr, [qb0, qb1, qb2, qb3, qb4, qb5, qb6, qb7, qb8, qb9, qb10, qb11, qb12, qb13, qb14, qb15], qc, qg⟩⟩ (swf16 wpb0 wpb1 wpb2 wpb3 wpb4 wpb5 wpb6 wpb7 wpb8 wpb9 wpb10 wpb11 wpb12 wpb13 wpb14 wpb15) (swf16 wqb0 wqb1 wqb2 wqb3 wqb4 wqb5 wqb6 wqb7 wqb8 wqb9 wqb10 wqb11 wqb12 wqb13 wqb14 wqb15) hpi w
theorem sGets_row (l : List Int) (hl : l.length = 64) (hw : ∀ x ∈ l, (Lit.int .u8 x).wf = true) (n : Int) (wn : (Lit.int .u64 n).wf = true) (B : Option Addr) (cap : Nat) (ys : List Int) {w : World} (hr : ReadsInt w .u8 B ys.length ys) (y : ys.length * 1 ≤ 140737488351232) (hy : ∀ x ∈ ys, (Lit.int .u8 x).wf = true) (hc : ys.length ≤ cap) :
    Calls Try.prog 27 #[blk l, .int .u64 n, .slice B ys.length cap] w fun e w' => e = .returned (.bool true) ∧ Below w.heap.size w w' := by
  obtain ⟨n, rfl, hn⟩ := u64_nat wn
  exact sGets_any l hl hw n hn B cap ys hy w hr
end Go.Proofs.Ytdchcggllcgokaa.Q
