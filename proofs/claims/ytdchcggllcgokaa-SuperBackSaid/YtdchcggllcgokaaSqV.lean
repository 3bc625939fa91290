/-
  ashlarlaw08.SuperBack: the walks, and whole. ashlarlaw08.SuperBack: the contract for the row.
-/
import Derived.Test.YtdchcggllcgokaaSqU
import Derived.Deep.RegionHeld3
import Derived.Deep.MidRow
namespace Go.Proofs.Ytdchcggllcgokaa.Q
open Go.RowKit Go.Proofs.Ytdchcggllcgokaa.L Go.Proofs.Ytdchcggllcgokaa.U Go.Proofs.Ytdchcggllcgokaa.E Go.Proofs.Ytdchcggllcgokaa.R Go.Proofs.YtdchcggllcgokaaW.PrintWords
set_option linter.unusedVariables false
set_option linter.unusedSimpArgs false
set_option maxRecDepth 100000 in
set_option maxHeartbeats 4000000 in
theorem sBack_AE (n : Nat) (nl : n < 18446744073709551616) (s : Su) (HS : Hid (s.x.st.length = 16)) (X : List Int) (HX : Hid (X.length = 64)) (ys : List Int) (HY : Hid (ys.length = 64)) (k : Int) (hk : (k == 0) = false)
    (P1 : Hid (∀ w : World, Calls Try.prog 106 #[.int .u64 (n : Int), sup s] w fun e w' => e = .returned (.tuple #[blk X, .int .i64 2]) ∧ Below w.heap.size w w'))
    (M1 : Hid (∀ w : World, Calls Try.prog 107 #[sup s] w fun e w' => e = .returned (.bool false) ∧ Below w.heap.size w w'))
    (P4 : Hid (∀ w : World, Calls Try.prog 103 #[blk ys] w fun e w' => e = .returned (.tuple #[.int .u64 0, sup su0, .int .i64 k]) ∧ Below w.heap.size w w')) (w : World) : Calls Try.prog 28 #[.int .u64 (n : Int), sup s, blk ys] w fun e w' => e = .returned (.bool true) ∧ Below w.heap.size w w' := by
  have HB := Lib.hid (Below.refl w.heap.size w)
  have tok0 : True := trivial
  have tp0 : True := trivial
  go_enter Try.func28, Try.ntmps28
  go_wp2_with (first
    | (go_skip)
    | (refine supBox (.tmp 1) rfl rfl HS.out rfl ?_; intro w1 hk hb1 hz1; replace HB := Lib.hid (below_ext HB.out hb1); have K4 := Lib.hid hk; clear hk hb1)
    | (refine F.blkBox (.tmp 2) rfl rfl HY.out rfl ?_; intro w2 hk hb2 hz2; replace K4 := Lib.hid (K4.out.below hb2); replace HB := Lib.hid (below_ext HB.out hb2); have K5 := Lib.hid hk; clear hk hb2)
    | (refine supLoad (.tmp 4) rfl K4.out rfl rfl ?_)
    | (have _t := tp0; go_at_call 106; refine (P1.out _).mono ?_; rintro e w3 ⟨rfl, hb3⟩; replace K4 := Lib.hid (K4.out.below hb3); replace K5 := Lib.hid (K5.out.below hb3); replace HB := Lib.hid (below_ext HB.out hb3); have hz3 := hb3.size; clear hb3; have tp1 : True := trivial; clear _t tp0)
    | (have _t := tok0; refine F.blkAlloc rfl rfl ?_; intro w4 hk hb4 hz4; replace K4 := Lib.hid (K4.out.below hb4); replace K5 := Lib.hid (K5.out.below hb4); replace HB := Lib.hid (below_ext HB.out hb4); have K7 := Lib.hid hk; have tok1 : True := trivial; clear hk hb4 _t tok0)
    | (refine F.blkStore (.tmp 7) (.tmp 21) rfl K7.out rfl rfl HX.out rfl ?_; intro w5 hk hg; replace HB := Lib.hid (below_at HB.out hg (by omega) K7.out.lt); replace K4 := Lib.hid (K4.out.grown hg (by omega)); replace K5 := Lib.hid (K5.out.grown hg (by omega)); replace K7 := Lib.hid hk; have hz5 := hg.size; clear hk hg)
    | (have _t := tp1; go_at_call 107; refine (M1.out _).mono ?_; rintro e w6 ⟨rfl, hb6⟩; replace K4 := Lib.hid (K4.out.below hb6); replace K5 := Lib.hid (K5.out.below hb6); replace K7 := Lib.hid (K7.out.below hb6); replace HB := Lib.hid (below_ext HB.out hb6); have hz6 := hb6.size; clear hb6; have tp2 : True := trivial; clear _t tp1)
    | (refine F.blkLoad (.tmp 5) rfl K5.out rfl rfl ?_)
    | (have _t := tp2; go_at_call 103; refine (P4.out _).mono ?_; rintro e w7 ⟨rfl, hb7⟩; replace K4 := Lib.hid (K4.out.below hb7); replace K5 := Lib.hid (K5.out.below hb7); replace K7 := Lib.hid (K7.out.below hb7); replace HB := Lib.hid (below_ext HB.out hb7); have hz7 := hb7.size; clear hb7; have tp3 : True := trivial; clear _t tp2)
    | (have _t := tok1; refine supAlloc rfl rfl ?_; intro w8 hk hb8 hz8; replace K4 := Lib.hid (K4.out.below hb8); replace K5 := Lib.hid (K5.out.below hb8); replace K7 := Lib.hid (K7.out.below hb8); replace HB := Lib.hid (below_ext HB.out hb8); have K13 := Lib.hid hk; clear hk hb8; have tok2 : True := trivial; clear _t tok1)
    | (refine supStore (.tmp 13) (.tmp 62) rfl K13.out rfl rfl zero16_length rfl ?_; intro w9 hk hg; replace HB := Lib.hid (below_at HB.out hg (by omega) K13.out.lt); replace K4 := Lib.hid (K4.out.grown hg (by omega)); replace K5 := Lib.hid (K5.out.grown hg (by omega)); replace K7 := Lib.hid (K7.out.grown hg (by omega)); replace K13 := Lib.hid hk; have hz9 := hg.size; clear hk hg)
    | (refine supLoad (.tmp 13) rfl K13.out rfl rfl ?_)
    | (refine supBuild0 rfl rfl ?_)
    | (refine supEqlS (.tmp 85) (.tmp 86) _ rfl rfl rfl zero16_length zero16_length true (eqS_self _) rfl ?_)
    | (have _t := tp3; go_at_call 105; refine (sLives_any _).mono ?_; rintro e w10 ⟨rfl, hb10⟩; replace K4 := Lib.hid (K4.out.below hb10); replace K5 := Lib.hid (K5.out.below hb10); replace K7 := Lib.hid (K7.out.below hb10); replace K13 := Lib.hid (K13.out.below hb10); replace HB := Lib.hid (below_ext HB.out hb10); have hz10 := hb10.size; clear hb10; have tp4 : True := trivial; clear _t tp3))
  go_ret
  exact ⟨rfl, HB.out⟩
set_option maxRecDepth 100000 in
set_option maxHeartbeats 4000000 in
theorem sBack_AO (n : Nat) (nl : n < 18446744073709551616) (s : Su) (HS : Hid (s.x.st.length = 16)) (X : List Int) (HX : Hid (X.length = 64)) (ys : List Int) (HY : Hid (ys.length = 64)) (m : Nat) (y2 : Su) (HY2 : Hid (y2.x.st.length = 16))
    (P1 : Hid (∀ w : World, Calls Try.prog 106 #[.int .u64 (n : Int), sup s] w fun e w' => e = .returned (.tuple #[blk X, .int .i64 2]) ∧ Below w.heap.size w w'))
    (M1 : Hid (∀ w : World, Calls Try.prog 107 #[sup s] w fun e w' => e = .returned (.bool false) ∧ Below w.heap.size w w'))
    (P4 : Hid (∀ w : World, Calls Try.prog 103 #[blk ys] w fun e w' => e = .returned (.tuple #[.int .u64 (m : Int), sup y2, .int .i64 0]) ∧ Below w.heap.size w w'))
    (P5 : Hid (∀ w : World, Calls Try.prog 106 #[.int .u64 (m : Int), sup y2] w fun e w' => e = .returned (.tuple #[blk ys, .int .i64 0]) ∧ Below w.heap.size w w')) (w : World) : Calls Try.prog 28 #[.int .u64 (n : Int), sup s, blk ys] w fun e w' => e = .returned (.bool true) ∧ Below w.heap.size w w' := by
  have HB := Lib.hid (Below.refl w.heap.size w)
  have tok0 : True := trivial
  have tp0 : True := trivial
  go_enter Try.func28, Try.ntmps28
  go_wp2_with (first
    | (go_skip)
    | (refine supBox (.tmp 1) rfl rfl HS.out rfl ?_; intro w1 hk hb1 hz1; replace HB := Lib.hid (below_ext HB.out hb1); have K4 := Lib.hid hk; clear hk hb1)
    | (refine F.blkBox (.tmp 2) rfl rfl HY.out rfl ?_; intro w2 hk hb2 hz2; replace K4 := Lib.hid (K4.out.below hb2); replace HB := Lib.hid (below_ext HB.out hb2); have K5 := Lib.hid hk; clear hk hb2)
    | (refine supLoad (.tmp 4) rfl K4.out rfl rfl ?_)
    | (have _t := tp0; go_at_call 106; refine (P1.out _).mono ?_; rintro e w3 ⟨rfl, hb3⟩; replace K4 := Lib.hid (K4.out.below hb3); replace K5 := Lib.hid (K5.out.below hb3); replace HB := Lib.hid (below_ext HB.out hb3); have hz3 := hb3.size; clear hb3; have tp1 : True := trivial; clear _t tp0)
    | (have _t := tok0; refine F.blkAlloc rfl rfl ?_; intro w4 hk hb4 hz4; replace K4 := Lib.hid (K4.out.below hb4); replace K5 := Lib.hid (K5.out.below hb4); replace HB := Lib.hid (below_ext HB.out hb4); have K7 := Lib.hid hk; have tok1 : True := trivial; clear hk hb4 _t tok0)
    | (refine F.blkStore (.tmp 7) (.tmp 21) rfl K7.out rfl rfl HX.out rfl ?_; intro w5 hk hg; replace HB := Lib.hid (below_at HB.out hg (by omega) K7.out.lt); replace K4 := Lib.hid (K4.out.grown hg (by omega)); replace K5 := Lib.hid (K5.out.grown hg (by omega)); replace K7 := Lib.hid hk; have hz5 := hg.size; clear hk hg)
    | (have _t := tp1; go_at_call 107; refine (M1.out _).mono ?_; rintro e w6 ⟨rfl, hb6⟩; replace K4 := Lib.hid (K4.out.below hb6); replace K5 := Lib.hid (K5.out.below hb6); replace K7 := Lib.hid (K7.out.below hb6); replace HB := Lib.hid (below_ext HB.out hb6); have hz6 := hb6.size; clear hb6; have tp2 : True := trivial; clear _t tp1)
    | (refine F.blkLoad (.tmp 5) rfl K5.out rfl rfl ?_)
    | (have _t := tp2; go_at_call 103; refine (P4.out _).mono ?_; rintro e w7 ⟨rfl, hb7⟩; replace K4 := Lib.hid (K4.out.below hb7); replace K5 := Lib.hid (K5.out.below hb7); replace K7 := Lib.hid (K7.out.below hb7); replace HB := Lib.hid (below_ext HB.out hb7); have hz7 := hb7.size; clear hb7; have tp3 : True := trivial; clear _t tp2)
    | (have _t := tok1; refine supAlloc rfl rfl ?_; intro w8 hk hb8 hz8; replace K4 := Lib.hid (K4.out.below hb8); replace K5 := Lib.hid (K5.out.below hb8); replace K7 := Lib.hid (K7.out.below hb8); replace HB := Lib.hid (below_ext HB.out hb8); have K13 := Lib.hid hk; clear hk hb8; have tok2 : True := trivial; clear _t tok1)
    | (refine supStore (.tmp 13) (.tmp 62) rfl K13.out rfl rfl HY2.out rfl ?_; intro w9 hk hg; replace HB := Lib.hid (below_at HB.out hg (by omega) K13.out.lt); replace K4 := Lib.hid (K4.out.grown hg (by omega)); replace K5 := Lib.hid (K5.out.grown hg (by omega)); replace K7 := Lib.hid (K7.out.grown hg (by omega)); replace K13 := Lib.hid hk; have hz9 := hg.size; clear hk hg)
    | (refine supLoad (.tmp 13) rfl K13.out rfl rfl ?_)
    | (have _t := tp3; go_at_call 106; refine (P5.out _).mono ?_; rintro e w10 ⟨rfl, hb10⟩; replace K4 := Lib.hid (K4.out.below hb10); replace K5 := Lib.hid (K5.out.below hb10); replace K7 := Lib.hid (K7.out.below hb10); replace K13 := Lib.hid (K13.out.below hb10); replace HB := Lib.hid (below_ext HB.out hb10); have hz10 := hb10.size; clear hb10; have tp4 : True := trivial; clear _t tp3)
    | (have _t := tok2; refine F.blkAlloc rfl rfl ?_; intro w11 hk hb11 hz11; replace K4 := Lib.hid (K4.out.below hb11); replace K5 := Lib.hid (K5.out.below hb11); replace K7 := Lib.hid (K7.out.below hb11); replace K13 := Lib.hid (K13.out.below hb11); replace HB := Lib.hid (below_ext HB.out hb11); have K15 := Lib.hid hk; have tok3 : True := trivial; clear hk hb11 _t tok2)
    | (refine F.blkStore (.tmp 15) (.tmp 70) rfl K15.out rfl rfl HY.out rfl ?_; intro w12 hk hg; replace HB := Lib.hid (below_at HB.out hg (by omega) K15.out.lt); replace K4 := Lib.hid (K4.out.grown hg (by omega)); replace K5 := Lib.hid (K5.out.grown hg (by omega)); replace K7 := Lib.hid (K7.out.grown hg (by omega)); replace K13 := Lib.hid (K13.out.grown hg (by omega)); replace K15 := Lib.hid hk; have hz12 := hg.size; clear hk hg)
    | (refine F.blkLoad (.tmp 15) rfl K15.out rfl rfl ?_)
    | (refine F.blkEql (.tmp 75) (.tmp 76) _ rfl rfl rfl HY.out HY.out true (by simp) rfl ?_)
    | (have _t := tp4; go_at_call 105; refine (sLives_any _).mono ?_; rintro e w13 ⟨rfl, hb13⟩; replace K4 := Lib.hid (K4.out.below hb13); replace K5 := Lib.hid (K5.out.below hb13); replace K7 := Lib.hid (K7.out.below hb13); replace K13 := Lib.hid (K13.out.below hb13); replace K15 := Lib.hid (K15.out.below hb13); replace HB := Lib.hid (below_ext HB.out hb13); have hz13 := hb13.size; clear hb13; have tp5 : True := trivial; clear _t tp4))
  go_ret
  exact ⟨rfl, HB.out⟩
set_option maxRecDepth 100000 in
set_option maxHeartbeats 4000000 in
theorem sBack_BE (n : Nat) (nl : n < 18446744073709551616) (s : Su) (HS : Hid (s.x.st.length = 16)) (X : List Int) (HX : Hid (X.length = 64)) (ys : List Int) (HY : Hid (ys.length = 64)) (hb : n < 1) (k : Int) (hk : (k == 0) = false)
    (P1 : Hid (∀ w : World, Calls Try.prog 106 #[.int .u64 (n : Int), sup s] w fun e w' => e = .returned (.tuple #[blk X, .int .i64 2]) ∧ Below w.heap.size w w'))
    (M1 : Hid (∀ w : World, Calls Try.prog 107 #[sup s] w fun e w' => e = .returned (.bool true) ∧ Below w.heap.size w w'))
    (P4 : Hid (∀ w : World, Calls Try.prog 103 #[blk ys] w fun e w' => e = .returned (.tuple #[.int .u64 0, sup su0, .int .i64 k]) ∧ Below w.heap.size w w')) (w : World) : Calls Try.prog 28 #[.int .u64 (n : Int), sup s, blk ys] w fun e w' => e = .returned (.bool true) ∧ Below w.heap.size w w' := by
  have HB := Lib.hid (Below.refl w.heap.size w)
  have d1 : decide (1 ≤ n) = false := by simp; omega
  have d2 : decide ((1 : Int) ≤ (n : Int)) = false := by simp; omega
  have tok0 : True := trivial
  have tp0 : True := trivial
  go_enter Try.func28, Try.ntmps28
  go_wp2_with (first
    | (go_skip)
    | (refine supBox (.tmp 1) rfl rfl HS.out rfl ?_; intro w1 hk hb1 hz1; replace HB := Lib.hid (below_ext HB.out hb1); have K4 := Lib.hid hk; clear hk hb1)
    | (refine F.blkBox (.tmp 2) rfl rfl HY.out rfl ?_; intro w2 hk hb2 hz2; replace K4 := Lib.hid (K4.out.below hb2); replace HB := Lib.hid (below_ext HB.out hb2); have K5 := Lib.hid hk; clear hk hb2)
    | (refine supLoad (.tmp 4) rfl K4.out rfl rfl ?_)
    | (have _t := tp0; go_at_call 106; refine (P1.out _).mono ?_; rintro e w3 ⟨rfl, hb3⟩; replace K4 := Lib.hid (K4.out.below hb3); replace K5 := Lib.hid (K5.out.below hb3); replace HB := Lib.hid (below_ext HB.out hb3); have hz3 := hb3.size; clear hb3; have tp1 : True := trivial; clear _t tp0)
    | (have _t := tok0; refine F.blkAlloc rfl rfl ?_; intro w4 hk hb4 hz4; replace K4 := Lib.hid (K4.out.below hb4); replace K5 := Lib.hid (K5.out.below hb4); replace HB := Lib.hid (below_ext HB.out hb4); have K7 := Lib.hid hk; have tok1 : True := trivial; clear hk hb4 _t tok0)
    | (refine F.blkStore (.tmp 7) (.tmp 21) rfl K7.out rfl rfl HX.out rfl ?_; intro w5 hk hg; replace HB := Lib.hid (below_at HB.out hg (by omega) K7.out.lt); replace K4 := Lib.hid (K4.out.grown hg (by omega)); replace K5 := Lib.hid (K5.out.grown hg (by omega)); replace K7 := Lib.hid hk; have hz5 := hg.size; clear hk hg)
    | (have _t := tp1; go_at_call 107; refine (M1.out _).mono ?_; rintro e w6 ⟨rfl, hb6⟩; replace K4 := Lib.hid (K4.out.below hb6); replace K5 := Lib.hid (K5.out.below hb6); replace K7 := Lib.hid (K7.out.below hb6); replace HB := Lib.hid (below_ext HB.out hb6); have hz6 := hb6.size; clear hb6; have tp2 : True := trivial; clear _t tp1)
    | (refine F.blkLoad (.tmp 5) rfl K5.out rfl rfl ?_)
    | (have _t := tp2; go_at_call 103; refine (P4.out _).mono ?_; rintro e w7 ⟨rfl, hb7⟩; replace K4 := Lib.hid (K4.out.below hb7); replace K5 := Lib.hid (K5.out.below hb7); replace K7 := Lib.hid (K7.out.below hb7); replace HB := Lib.hid (below_ext HB.out hb7); have hz7 := hb7.size; clear hb7; have tp3 : True := trivial; clear _t tp2)
    | (have _t := tok1; refine supAlloc rfl rfl ?_; intro w8 hk hb8 hz8; replace K4 := Lib.hid (K4.out.below hb8); replace K5 := Lib.hid (K5.out.below hb8); replace K7 := Lib.hid (K7.out.below hb8); replace HB := Lib.hid (below_ext HB.out hb8); have K13 := Lib.hid hk; clear hk hb8; have tok2 : True := trivial; clear _t tok1)
    | (refine supStore (.tmp 13) (.tmp 62) rfl K13.out rfl rfl zero16_length rfl ?_; intro w9 hk hg; replace HB := Lib.hid (below_at HB.out hg (by omega) K13.out.lt); replace K4 := Lib.hid (K4.out.grown hg (by omega)); replace K5 := Lib.hid (K5.out.grown hg (by omega)); replace K7 := Lib.hid (K7.out.grown hg (by omega)); replace K13 := Lib.hid hk; have hz9 := hg.size; clear hk hg)
    | (refine supLoad (.tmp 13) rfl K13.out rfl rfl ?_)
    | (refine supBuild0 rfl rfl ?_)
    | (refine supEqlS (.tmp 85) (.tmp 86) _ rfl rfl rfl zero16_length zero16_length true (eqS_self _) rfl ?_)
    | (have _t := tp3; go_at_call 105; refine (sLives_any _).mono ?_; rintro e w10 ⟨rfl, hb10⟩; replace K4 := Lib.hid (K4.out.below hb10); replace K5 := Lib.hid (K5.out.below hb10); replace K7 := Lib.hid (K7.out.below hb10); replace K13 := Lib.hid (K13.out.below hb10); replace HB := Lib.hid (below_ext HB.out hb10); have hz10 := hb10.size; clear hb10; have tp4 : True := trivial; clear _t tp3))
  go_ret
  exact ⟨rfl, HB.out⟩
set_option maxRecDepth 100000 in
set_option maxHeartbeats 4000000 in
theorem sBack_BO (n : Nat) (nl : n < 18446744073709551616) (s : Su) (HS : Hid (s.x.st.length = 16)) (X : List Int) (HX : Hid (X.length = 64)) (ys : List Int) (HY : Hid (ys.length = 64)) (hb : n < 1) (m : Nat) (y2 : Su) (HY2 : Hid (y2.x.st.length = 16))
    (P1 : Hid (∀ w : World, Calls Try.prog 106 #[.int .u64 (n : Int), sup s] w fun e w' => e = .returned (.tuple #[blk X, .int .i64 2]) ∧ Below w.heap.size w w'))
    (M1 : Hid (∀ w : World, Calls Try.prog 107 #[sup s] w fun e w' => e = .returned (.bool true) ∧ Below w.heap.size w w'))
    (P4 : Hid (∀ w : World, Calls Try.prog 103 #[blk ys] w fun e w' => e = .returned (.tuple #[.int .u64 (m : Int), sup y2, .int .i64 0]) ∧ Below w.heap.size w w'))
    (P5 : Hid (∀ w : World, Calls Try.prog 106 #[.int .u64 (m : Int), sup y2] w fun e w' => e = .returned (.tuple #[blk ys, .int .i64 0]) ∧ Below w.heap.size w w')) (w : World) : Calls Try.prog 28 #[.int .u64 (n : Int), sup s, blk ys] w fun e w' => e = .returned (.bool true) ∧ Below w.heap.size w w' := by
  have HB := Lib.hid (Below.refl w.heap.size w)
  have d1 : decide (1 ≤ n) = false := by simp; omega
  have d2 : decide ((1 : Int) ≤ (n : Int)) = false := by simp; omega
  have tok0 : True := trivial
  have tp0 : True := trivial
  go_enter Try.func28, Try.ntmps28
  go_wp2_with (first
    | (go_skip)
    | (refine supBox (.tmp 1) rfl rfl HS.out rfl ?_; intro w1 hk hb1 hz1; replace HB := Lib.hid (below_ext HB.out hb1); have K4 := Lib.hid hk; clear hk hb1)
    | (refine F.blkBox (.tmp 2) rfl rfl HY.out rfl ?_; intro w2 hk hb2 hz2; replace K4 := Lib.hid (K4.out.below hb2); replace HB := Lib.hid (below_ext HB.out hb2); have K5 := Lib.hid hk; clear hk hb2)
    | (refine supLoad (.tmp 4) rfl K4.out rfl rfl ?_)
    | (have _t := tp0; go_at_call 106; refine (P1.out _).mono ?_; rintro e w3 ⟨rfl, hb3⟩; replace K4 := Lib.hid (K4.out.below hb3); replace K5 := Lib.hid (K5.out.below hb3); replace HB := Lib.hid (below_ext HB.out hb3); have hz3 := hb3.size; clear hb3; have tp1 : True := trivial; clear _t tp0)
    | (have _t := tok0; refine F.blkAlloc rfl rfl ?_; intro w4 hk hb4 hz4; replace K4 := Lib.hid (K4.out.below hb4); replace K5 := Lib.hid (K5.out.below hb4); replace HB := Lib.hid (below_ext HB.out hb4); have K7 := Lib.hid hk; have tok1 : True := trivial; clear hk hb4 _t tok0)
    | (refine F.blkStore (.tmp 7) (.tmp 21) rfl K7.out rfl rfl HX.out rfl ?_; intro w5 hk hg; replace HB := Lib.hid (below_at HB.out hg (by omega) K7.out.lt); replace K4 := Lib.hid (K4.out.grown hg (by omega)); replace K5 := Lib.hid (K5.out.grown hg (by omega)); replace K7 := Lib.hid hk; have hz5 := hg.size; clear hk hg)
    | (have _t := tp1; go_at_call 107; refine (M1.out _).mono ?_; rintro e w6 ⟨rfl, hb6⟩; replace K4 := Lib.hid (K4.out.below hb6); replace K5 := Lib.hid (K5.out.below hb6); replace K7 := Lib.hid (K7.out.below hb6); replace HB := Lib.hid (below_ext HB.out hb6); have hz6 := hb6.size; clear hb6; have tp2 : True := trivial; clear _t tp1)
    | (refine F.blkLoad (.tmp 5) rfl K5.out rfl rfl ?_)
    | (have _t := tp2; go_at_call 103; refine (P4.out _).mono ?_; rintro e w7 ⟨rfl, hb7⟩; replace K4 := Lib.hid (K4.out.below hb7); replace K5 := Lib.hid (K5.out.below hb7); replace K7 := Lib.hid (K7.out.below hb7); replace HB := Lib.hid (below_ext HB.out hb7); have hz7 := hb7.size; clear hb7; have tp3 : True := trivial; clear _t tp2)
    | (have _t := tok1; refine supAlloc rfl rfl ?_; intro w8 hk hb8 hz8; replace K4 := Lib.hid (K4.out.below hb8); replace K5 := Lib.hid (K5.out.below hb8); replace K7 := Lib.hid (K7.out.below hb8); replace HB := Lib.hid (below_ext HB.out hb8); have K13 := Lib.hid hk; clear hk hb8; have tok2 : True := trivial; clear _t tok1)
    | (refine supStore (.tmp 13) (.tmp 62) rfl K13.out rfl rfl HY2.out rfl ?_; intro w9 hk hg; replace HB := Lib.hid (below_at HB.out hg (by omega) K13.out.lt); replace K4 := Lib.hid (K4.out.grown hg (by omega)); replace K5 := Lib.hid (K5.out.grown hg (by omega)); replace K7 := Lib.hid (K7.out.grown hg (by omega)); replace K13 := Lib.hid hk; have hz9 := hg.size; clear hk hg)
    | (refine supLoad (.tmp 13) rfl K13.out rfl rfl ?_)
    | (have _t := tp3; go_at_call 106; refine (P5.out _).mono ?_; rintro e w10 ⟨rfl, hb10⟩; replace K4 := Lib.hid (K4.out.below hb10); replace K5 := Lib.hid (K5.out.below hb10); replace K7 := Lib.hid (K7.out.below hb10); replace K13 := Lib.hid (K13.out.below hb10); replace HB := Lib.hid (below_ext HB.out hb10); have hz10 := hb10.size; clear hb10; have tp4 : True := trivial; clear _t tp3)
    | (have _t := tok2; refine F.blkAlloc rfl rfl ?_; intro w11 hk hb11 hz11; replace K4 := Lib.hid (K4.out.below hb11); replace K5 := Lib.hid (K5.out.below hb11); replace K7 := Lib.hid (K7.out.below hb11); replace K13 := Lib.hid (K13.out.below hb11); replace HB := Lib.hid (below_ext HB.out hb11); have K15 := Lib.hid hk; have tok3 : True := trivial; clear hk hb11 _t tok2)
    | (refine F.blkStore (.tmp 15) (.tmp 70) rfl K15.out rfl rfl HY.out rfl ?_; intro w12 hk hg; replace HB := Lib.hid (below_at HB.out hg (by omega) K15.out.lt); replace K4 := Lib.hid (K4.out.grown hg (by omega)); replace K5 := Lib.hid (K5.out.grown hg (by omega)); replace K7 := Lib.hid (K7.out.grown hg (by omega)); replace K13 := Lib.hid (K13.out.grown hg (by omega)); replace K15 := Lib.hid hk; have hz12 := hg.size; clear hk hg)
    | (refine F.blkLoad (.tmp 15) rfl K15.out rfl rfl ?_)
    | (refine F.blkEql (.tmp 75) (.tmp 76) _ rfl rfl rfl HY.out HY.out true (by simp) rfl ?_)
    | (have _t := tp4; go_at_call 105; refine (sLives_any _).mono ?_; rintro e w13 ⟨rfl, hb13⟩; replace K4 := Lib.hid (K4.out.below hb13); replace K5 := Lib.hid (K5.out.below hb13); replace K7 := Lib.hid (K7.out.below hb13); replace K13 := Lib.hid (K13.out.below hb13); replace K15 := Lib.hid (K15.out.below hb13); replace HB := Lib.hid (below_ext HB.out hb13); have hz13 := hb13.size; clear hb13; have tp5 : True := trivial; clear _t tp4))
  go_ret
  exact ⟨rfl, HB.out⟩
set_option maxRecDepth 100000 in
set_option maxHeartbeats 4000000 in
theorem sBack_CE (n : Nat) (nl : n < 18446744073709551616) (s : Su) (HS : Hid (s.x.st.length = 16)) (X : List Int) (HX : Hid (X.length = 64)) (ys : List Int) (HY : Hid (ys.length = 64)) (hb : 1 ≤ n ∧ 4611686018427387904 < n) (k : Int) (hk : (k == 0) = false)
    (P1 : Hid (∀ w : World, Calls Try.prog 106 #[.int .u64 (n : Int), sup s] w fun e w' => e = .returned (.tuple #[blk X, .int .i64 2]) ∧ Below w.heap.size w w'))
    (M1 : Hid (∀ w : World, Calls Try.prog 107 #[sup s] w fun e w' => e = .returned (.bool true) ∧ Below w.heap.size w w'))
    (P4 : Hid (∀ w : World, Calls Try.prog 103 #[blk ys] w fun e w' => e = .returned (.tuple #[.int .u64 0, sup su0, .int .i64 k]) ∧ Below w.heap.size w w')) (w : World) : Calls Try.prog 28 #[.int .u64 (n : Int), sup s, blk ys] w fun e w' => e = .returned (.bool true) ∧ Below w.heap.size w w' := by
  have HB := Lib.hid (Below.refl w.heap.size w)
  obtain ⟨hb1, hb2⟩ := hb
  have d1 : decide (1 ≤ n) = true := by simp; omega
  have d2 : decide ((1 : Int) ≤ (n : Int)) = true := by simp; omega
  have d3 : decide (n ≤ 4611686018427387904) = false := by simp; omega
  have d4 : decide ((n : Int) ≤ 4611686018427387904) = false := by simp; omega
  have tok0 : True := trivial
  have tp0 : True := trivial
  go_enter Try.func28, Try.ntmps28
  go_wp2_with (first
    | (go_skip)
    | (refine supBox (.tmp 1) rfl rfl HS.out rfl ?_; intro w1 hk hb1 hz1; replace HB := Lib.hid (below_ext HB.out hb1); have K4 := Lib.hid hk; clear hk hb1)
    | (refine F.blkBox (.tmp 2) rfl rfl HY.out rfl ?_; intro w2 hk hb2 hz2; replace K4 := Lib.hid (K4.out.below hb2); replace HB := Lib.hid (below_ext HB.out hb2); have K5 := Lib.hid hk; clear hk hb2)
    | (refine supLoad (.tmp 4) rfl K4.out rfl rfl ?_)
    | (have _t := tp0; go_at_call 106; refine (P1.out _).mono ?_; rintro e w3 ⟨rfl, hb3⟩; replace K4 := Lib.hid (K4.out.below hb3); replace K5 := Lib.hid (K5.out.below hb3); replace HB := Lib.hid (below_ext HB.out hb3); have hz3 := hb3.size; clear hb3; have tp1 : True := trivial; clear _t tp0)
    | (have _t := tok0; refine F.blkAlloc rfl rfl ?_; intro w4 hk hb4 hz4; replace K4 := Lib.hid (K4.out.below hb4); replace K5 := Lib.hid (K5.out.below hb4); replace HB := Lib.hid (below_ext HB.out hb4); have K7 := Lib.hid hk; have tok1 : True := trivial; clear hk hb4 _t tok0)
    | (refine F.blkStore (.tmp 7) (.tmp 21) rfl K7.out rfl rfl HX.out rfl ?_; intro w5 hk hg; replace HB := Lib.hid (below_at HB.out hg (by omega) K7.out.lt); replace K4 := Lib.hid (K4.out.grown hg (by omega)); replace K5 := Lib.hid (K5.out.grown hg (by omega)); replace K7 := Lib.hid hk; have hz5 := hg.size; clear hk hg)
    | (have _t := tp1; go_at_call 107; refine (M1.out _).mono ?_; rintro e w6 ⟨rfl, hb6⟩; replace K4 := Lib.hid (K4.out.below hb6); replace K5 := Lib.hid (K5.out.below hb6); replace K7 := Lib.hid (K7.out.below hb6); replace HB := Lib.hid (below_ext HB.out hb6); have hz6 := hb6.size; clear hb6; have tp2 : True := trivial; clear _t tp1)
    | (refine F.blkLoad (.tmp 5) rfl K5.out rfl rfl ?_)
    | (have _t := tp2; go_at_call 103; refine (P4.out _).mono ?_; rintro e w7 ⟨rfl, hb7⟩; replace K4 := Lib.hid (K4.out.below hb7); replace K5 := Lib.hid (K5.out.below hb7); replace K7 := Lib.hid (K7.out.below hb7); replace HB := Lib.hid (below_ext HB.out hb7); have hz7 := hb7.size; clear hb7; have tp3 : True := trivial; clear _t tp2)
    | (have _t := tok1; refine supAlloc rfl rfl ?_; intro w8 hk hb8 hz8; replace K4 := Lib.hid (K4.out.below hb8); replace K5 := Lib.hid (K5.out.below hb8); replace K7 := Lib.hid (K7.out.below hb8); replace HB := Lib.hid (below_ext HB.out hb8); have K13 := Lib.hid hk; clear hk hb8; have tok2 : True := trivial; clear _t tok1)
    | (refine supStore (.tmp 13) (.tmp 62) rfl K13.out rfl rfl zero16_length rfl ?_; intro w9 hk hg; replace HB := Lib.hid (below_at HB.out hg (by omega) K13.out.lt); replace K4 := Lib.hid (K4.out.grown hg (by omega)); replace K5 := Lib.hid (K5.out.grown hg (by omega)); replace K7 := Lib.hid (K7.out.grown hg (by omega)); replace K13 := Lib.hid hk; have hz9 := hg.size; clear hk hg)
    | (refine supLoad (.tmp 13) rfl K13.out rfl rfl ?_)
    | (refine supBuild0 rfl rfl ?_)
    | (refine supEqlS (.tmp 85) (.tmp 86) _ rfl rfl rfl zero16_length zero16_length true (eqS_self _) rfl ?_)
    | (have _t := tp3; go_at_call 105; refine (sLives_any _).mono ?_; rintro e w10 ⟨rfl, hb10⟩; replace K4 := Lib.hid (K4.out.below hb10); replace K5 := Lib.hid (K5.out.below hb10); replace K7 := Lib.hid (K7.out.below hb10); replace K13 := Lib.hid (K13.out.below hb10); replace HB := Lib.hid (below_ext HB.out hb10); have hz10 := hb10.size; clear hb10; have tp4 : True := trivial; clear _t tp3))
  go_ret
  exact ⟨rfl, HB.out⟩
set_option maxRecDepth 100000 in
set_option maxHeartbeats 4000000 in
theorem sBack_CO (n : Nat) (nl : n < 18446744073709551616) (s : Su) (HS : Hid (s.x.st.length = 16)) (X : List Int) (HX : Hid (X.length = 64)) (ys : List Int) (HY : Hid (ys.length = 64)) (hb : 1 ≤ n ∧ 4611686018427387904 < n) (m : Nat) (y2 : Su) (HY2 : Hid (y2.x.st.length = 16))
    (P1 : Hid (∀ w : World, Calls Try.prog 106 #[.int .u64 (n : Int), sup s] w fun e w' => e = .returned (.tuple #[blk X, .int .i64 2]) ∧ Below w.heap.size w w'))
    (M1 : Hid (∀ w : World, Calls Try.prog 107 #[sup s] w fun e w' => e = .returned (.bool true) ∧ Below w.heap.size w w'))
    (P4 : Hid (∀ w : World, Calls Try.prog 103 #[blk ys] w fun e w' => e = .returned (.tuple #[.int .u64 (m : Int), sup y2, .int .i64 0]) ∧ Below w.heap.size w w'))
    (P5 : Hid (∀ w : World, Calls Try.prog 106 #[.int .u64 (m : Int), sup y2] w fun e w' => e = .returned (.tuple #[blk ys, .int .i64 0]) ∧ Below w.heap.size w w')) (w : World) : Calls Try.prog 28 #[.int .u64 (n : Int), sup s, blk ys] w fun e w' => e = .returned (.bool true) ∧ Below w.heap.size w w' := by
  have HB := Lib.hid (Below.refl w.heap.size w)
  obtain ⟨hb1, hb2⟩ := hb
  have d1 : decide (1 ≤ n) = true := by simp; omega
  have d2 : decide ((1 : Int) ≤ (n : Int)) = true := by simp; omega
  have d3 : decide (n ≤ 4611686018427387904) = false := by simp; omega
  have d4 : decide ((n : Int) ≤ 4611686018427387904) = false := by simp; omega
  have tok0 : True := trivial
  have tp0 : True := trivial
  go_enter Try.func28, Try.ntmps28
  go_wp2_with (first
    | (go_skip)
    | (refine supBox (.tmp 1) rfl rfl HS.out rfl ?_; intro w1 hk hb1 hz1; replace HB := Lib.hid (below_ext HB.out hb1); have K4 := Lib.hid hk; clear hk hb1)
    | (refine F.blkBox (.tmp 2) rfl rfl HY.out rfl ?_; intro w2 hk hb2 hz2; replace K4 := Lib.hid (K4.out.below hb2); replace HB := Lib.hid (below_ext HB.out hb2); have K5 := Lib.hid hk; clear hk hb2)
    | (refine supLoad (.tmp 4) rfl K4.out rfl rfl ?_)
    | (have _t := tp0; go_at_call 106; refine (P1.out _).mono ?_; rintro e w3 ⟨rfl, hb3⟩; replace K4 := Lib.hid (K4.out.below hb3); replace K5 := Lib.hid (K5.out.below hb3); replace HB := Lib.hid (below_ext HB.out hb3); have hz3 := hb3.size; clear hb3; have tp1 : True := trivial; clear _t tp0)
    | (have _t := tok0; refine F.blkAlloc rfl rfl ?_; intro w4 hk hb4 hz4; replace K4 := Lib.hid (K4.out.below hb4); replace K5 := Lib.hid (K5.out.below hb4); replace HB := Lib.hid (below_ext HB.out hb4); have K7 := Lib.hid hk; have tok1 : True := trivial; clear hk hb4 _t tok0)
    | (refine F.blkStore (.tmp 7) (.tmp 21) rfl K7.out rfl rfl HX.out rfl ?_; intro w5 hk hg; replace HB := Lib.hid (below_at HB.out hg (by omega) K7.out.lt); replace K4 := Lib.hid (K4.out.grown hg (by omega)); replace K5 := Lib.hid (K5.out.grown hg (by omega)); replace K7 := Lib.hid hk; have hz5 := hg.size; clear hk hg)
    | (have _t := tp1; go_at_call 107; refine (M1.out _).mono ?_; rintro e w6 ⟨rfl, hb6⟩; replace K4 := Lib.hid (K4.out.below hb6); replace K5 := Lib.hid (K5.out.below hb6); replace K7 := Lib.hid (K7.out.below hb6); replace HB := Lib.hid (below_ext HB.out hb6); have hz6 := hb6.size; clear hb6; have tp2 : True := trivial; clear _t tp1)
    | (refine F.blkLoad (.tmp 5) rfl K5.out rfl rfl ?_)
    | (have _t := tp2; go_at_call 103; refine (P4.out _).mono ?_; rintro e w7 ⟨rfl, hb7⟩; replace K4 := Lib.hid (K4.out.below hb7); replace K5 := Lib.hid (K5.out.below hb7); replace K7 := Lib.hid (K7.out.below hb7); replace HB := Lib.hid (below_ext HB.out hb7); have hz7 := hb7.size; clear hb7; have tp3 : True := trivial; clear _t tp2)
    | (have _t := tok1; refine supAlloc rfl rfl ?_; intro w8 hk hb8 hz8; replace K4 := Lib.hid (K4.out.below hb8); replace K5 := Lib.hid (K5.out.below hb8); replace K7 := Lib.hid (K7.out.below hb8); replace HB := Lib.hid (below_ext HB.out hb8); have K13 := Lib.hid hk; clear hk hb8; have tok2 : True := trivial; clear _t tok1)
    | (refine supStore (.tmp 13) (.tmp 62) rfl K13.out rfl rfl HY2.out rfl ?_; intro w9 hk hg; replace HB := Lib.hid (below_at HB.out hg (by omega) K13.out.lt); replace K4 := Lib.hid (K4.out.grown hg (by omega)); replace K5 := Lib.hid (K5.out.grown hg (by omega)); replace K7 := Lib.hid (K7.out.grown hg (by omega)); replace K13 := Lib.hid hk; have hz9 := hg.size; clear hk hg)
    | (refine supLoad (.tmp 13) rfl K13.out rfl rfl ?_)
    | (have _t := tp3; go_at_call 106; refine (P5.out _).mono ?_; rintro e w10 ⟨rfl, hb10⟩; replace K4 := Lib.hid (K4.out.below hb10); replace K5 := Lib.hid (K5.out.below hb10); replace K7 := Lib.hid (K7.out.below hb10); replace K13 := Lib.hid (K13.out.below hb10); replace HB := Lib.hid (below_ext HB.out hb10); have hz10 := hb10.size; clear hb10; have tp4 : True := trivial; clear _t tp3)
    | (have _t := tok2; refine F.blkAlloc rfl rfl ?_; intro w11 hk hb11 hz11; replace K4 := Lib.hid (K4.out.below hb11); replace K5 := Lib.hid (K5.out.below hb11); replace K7 := Lib.hid (K7.out.below hb11); replace K13 := Lib.hid (K13.out.below hb11); replace HB := Lib.hid (below_ext HB.out hb11); have K15 := Lib.hid hk; have tok3 : True := trivial; clear hk hb11 _t tok2)
    | (refine F.blkStore (.tmp 15) (.tmp 70) rfl K15.out rfl rfl HY.out rfl ?_; intro w12 hk hg; replace HB := Lib.hid (below_at HB.out hg (by omega) K15.out.lt); replace K4 := Lib.hid (K4.out.grown hg (by omega)); replace K5 := Lib.hid (K5.out.grown hg (by omega)); replace K7 := Lib.hid (K7.out.grown hg (by omega)); replace K13 := Lib.hid (K13.out.grown hg (by omega)); replace K15 := Lib.hid hk; have hz12 := hg.size; clear hk hg)
    | (refine F.blkLoad (.tmp 15) rfl K15.out rfl rfl ?_)
    | (refine F.blkEql (.tmp 75) (.tmp 76) _ rfl rfl rfl HY.out HY.out true (by simp) rfl ?_)
    | (have _t := tp4; go_at_call 105; refine (sLives_any _).mono ?_; rintro e w13 ⟨rfl, hb13⟩; replace K4 := Lib.hid (K4.out.below hb13); replace K5 := Lib.hid (K5.out.below hb13); replace K7 := Lib.hid (K7.out.below hb13); replace K13 := Lib.hid (K13.out.below hb13); replace K15 := Lib.hid (K15.out.below hb13); replace HB := Lib.hid (below_ext HB.out hb13); have hz13 := hb13.size; clear hb13; have tp5 : True := trivial; clear _t tp4))
  go_ret
  exact ⟨rfl, HB.out⟩
set_option maxRecDepth 100000 in
set_option maxHeartbeats 4000000 in
theorem sBack_OE (n : Nat) (nl : n < 18446744073709551616) (s : Su) (HS : Hid (s.x.st.length = 16)) (X : List Int) (HX : Hid (X.length = 64)) (ys : List Int) (HY : Hid (ys.length = 64)) (k : Int) (hk : (k == 0) = false)
    (P1 : Hid (∀ w : World, Calls Try.prog 106 #[.int .u64 (n : Int), sup s] w fun e w' => e = .returned (.tuple #[blk X, .int .i64 0]) ∧ Below w.heap.size w w'))
    (P2 : Hid (∀ w : World, Calls Try.prog 103 #[blk X] w fun e w' => e = .returned (.tuple #[.int .u64 (n : Int), sup s, .int .i64 0]) ∧ Below w.heap.size w w'))
    (M1 : Hid (∀ w : World, Calls Try.prog 107 #[sup s] w fun e w' => e = .returned (.bool true) ∧ Below w.heap.size w w'))
    (P4 : Hid (∀ w : World, Calls Try.prog 103 #[blk ys] w fun e w' => e = .returned (.tuple #[.int .u64 0, sup su0, .int .i64 k]) ∧ Below w.heap.size w w')) (w : World) : Calls Try.prog 28 #[.int .u64 (n : Int), sup s, blk ys] w fun e w' => e = .returned (.bool true) ∧ Below w.heap.size w w' := by
  have HB := Lib.hid (Below.refl w.heap.size w)
  have tok0 : True := trivial
  have tp0 : True := trivial
  go_enter Try.func28, Try.ntmps28
  go_wp2_with (first
    | (go_skip)
    | (refine supBox (.tmp 1) rfl rfl HS.out rfl ?_; intro w1 hk hb1 hz1; replace HB := Lib.hid (below_ext HB.out hb1); have K4 := Lib.hid hk; clear hk hb1)
    | (refine F.blkBox (.tmp 2) rfl rfl HY.out rfl ?_; intro w2 hk hb2 hz2; replace K4 := Lib.hid (K4.out.below hb2); replace HB := Lib.hid (below_ext HB.out hb2); have K5 := Lib.hid hk; clear hk hb2)
    | (refine supLoad (.tmp 4) rfl K4.out rfl rfl ?_)
    | (have _t := tp0; go_at_call 106; refine (P1.out _).mono ?_; rintro e w3 ⟨rfl, hb3⟩; replace K4 := Lib.hid (K4.out.below hb3); replace K5 := Lib.hid (K5.out.below hb3); replace HB := Lib.hid (below_ext HB.out hb3); have hz3 := hb3.size; clear hb3; have tp1 : True := trivial; clear _t tp0)
    | (have _t := tok0; refine F.blkAlloc rfl rfl ?_; intro w4 hk hb4 hz4; replace K4 := Lib.hid (K4.out.below hb4); replace K5 := Lib.hid (K5.out.below hb4); replace HB := Lib.hid (below_ext HB.out hb4); have K7 := Lib.hid hk; have tok1 : True := trivial; clear hk hb4 _t tok0)
    | (refine F.blkStore (.tmp 7) (.tmp 21) rfl K7.out rfl rfl HX.out rfl ?_; intro w5 hk hg; replace HB := Lib.hid (below_at HB.out hg (by omega) K7.out.lt); replace K4 := Lib.hid (K4.out.grown hg (by omega)); replace K5 := Lib.hid (K5.out.grown hg (by omega)); replace K7 := Lib.hid hk; have hz5 := hg.size; clear hk hg)
    | (refine F.blkLoad (.tmp 7) rfl K7.out rfl rfl ?_)
    | (have _t := tp1; go_at_call 103; refine (P2.out _).mono ?_; rintro e w6 ⟨rfl, hb6⟩; replace K4 := Lib.hid (K4.out.below hb6); replace K5 := Lib.hid (K5.out.below hb6); replace K7 := Lib.hid (K7.out.below hb6); replace HB := Lib.hid (below_ext HB.out hb6); have hz6 := hb6.size; clear hb6; have tp2 : True := trivial; clear _t tp1)
    | (have _t := tok1; refine supAlloc rfl rfl ?_; intro w7 hk hb7 hz7; replace K4 := Lib.hid (K4.out.below hb7); replace K5 := Lib.hid (K5.out.below hb7); replace K7 := Lib.hid (K7.out.below hb7); replace HB := Lib.hid (below_ext HB.out hb7); have K10 := Lib.hid hk; clear hk hb7; have tok2 : True := trivial; clear _t tok1)
    | (refine supStore (.tmp 10) (.tmp 29) rfl K10.out rfl rfl HS.out rfl ?_; intro w8 hk hg; replace HB := Lib.hid (below_at HB.out hg (by omega) K10.out.lt); replace K4 := Lib.hid (K4.out.grown hg (by omega)); replace K5 := Lib.hid (K5.out.grown hg (by omega)); replace K7 := Lib.hid (K7.out.grown hg (by omega)); replace K10 := Lib.hid hk; have hz8 := hg.size; clear hk hg)
    | (refine supLoad (.tmp 10) rfl K10.out rfl rfl ?_)
    | (refine supNeqS (.tmp 35) (.tmp 36) _ rfl rfl rfl HS.out HS.out false (neS_self _) rfl ?_)
    | (have _t := tp2; go_at_call 107; refine (M1.out _).mono ?_; rintro e w9 ⟨rfl, hb9⟩; replace K4 := Lib.hid (K4.out.below hb9); replace K5 := Lib.hid (K5.out.below hb9); replace K7 := Lib.hid (K7.out.below hb9); replace K10 := Lib.hid (K10.out.below hb9); replace HB := Lib.hid (below_ext HB.out hb9); have hz9 := hb9.size; clear hb9; have tp3 : True := trivial; clear _t tp2)
    | (refine F.blkLoad (.tmp 5) rfl K5.out rfl rfl ?_)
    | (have _t := tp3; go_at_call 103; refine (P4.out _).mono ?_; rintro e w10 ⟨rfl, hb10⟩; replace K4 := Lib.hid (K4.out.below hb10); replace K5 := Lib.hid (K5.out.below hb10); replace K7 := Lib.hid (K7.out.below hb10); replace K10 := Lib.hid (K10.out.below hb10); replace HB := Lib.hid (below_ext HB.out hb10); have hz10 := hb10.size; clear hb10; have tp4 : True := trivial; clear _t tp3)
    | (have _t := tok2; refine supAlloc rfl rfl ?_; intro w11 hk hb11 hz11; replace K4 := Lib.hid (K4.out.below hb11); replace K5 := Lib.hid (K5.out.below hb11); replace K7 := Lib.hid (K7.out.below hb11); replace K10 := Lib.hid (K10.out.below hb11); replace HB := Lib.hid (below_ext HB.out hb11); have K13 := Lib.hid hk; clear hk hb11; have tok3 : True := trivial; clear _t tok2)
    | (refine supStore (.tmp 13) (.tmp 62) rfl K13.out rfl rfl zero16_length rfl ?_; intro w12 hk hg; replace HB := Lib.hid (below_at HB.out hg (by omega) K13.out.lt); replace K4 := Lib.hid (K4.out.grown hg (by omega)); replace K5 := Lib.hid (K5.out.grown hg (by omega)); replace K7 := Lib.hid (K7.out.grown hg (by omega)); replace K10 := Lib.hid (K10.out.grown hg (by omega)); replace K13 := Lib.hid hk; have hz12 := hg.size; clear hk hg)
    | (refine supLoad (.tmp 13) rfl K13.out rfl rfl ?_)
    | (refine supBuild0 rfl rfl ?_)
    | (refine supEqlS (.tmp 85) (.tmp 86) _ rfl rfl rfl zero16_length zero16_length true (eqS_self _) rfl ?_)
    | (have _t := tp4; go_at_call 105; refine (sLives_any _).mono ?_; rintro e w13 ⟨rfl, hb13⟩; replace K4 := Lib.hid (K4.out.below hb13); replace K5 := Lib.hid (K5.out.below hb13); replace K7 := Lib.hid (K7.out.below hb13); replace K10 := Lib.hid (K10.out.below hb13); replace K13 := Lib.hid (K13.out.below hb13); replace HB := Lib.hid (below_ext HB.out hb13); have hz13 := hb13.size; clear hb13; have tp5 : True := trivial; clear _t tp4))
  go_ret
  exact ⟨rfl, HB.out⟩
set_option maxRecDepth 100000 in
set_option maxHeartbeats 4000000 in
theorem sBack_OO (n : Nat) (nl : n < 18446744073709551616) (s : Su) (HS : Hid (s.x.st.length = 16)) (X : List Int) (HX : Hid (X.length = 64)) (ys : List Int) (HY : Hid (ys.length = 64)) (m : Nat) (y2 : Su) (HY2 : Hid (y2.x.st.length = 16))
    (P1 : Hid (∀ w : World, Calls Try.prog 106 #[.int .u64 (n : Int), sup s] w fun e w' => e = .returned (.tuple #[blk X, .int .i64 0]) ∧ Below w.heap.size w w'))
    (P2 : Hid (∀ w : World, Calls Try.prog 103 #[blk X] w fun e w' => e = .returned (.tuple #[.int .u64 (n : Int), sup s, .int .i64 0]) ∧ Below w.heap.size w w'))
    (M1 : Hid (∀ w : World, Calls Try.prog 107 #[sup s] w fun e w' => e = .returned (.bool true) ∧ Below w.heap.size w w'))
    (P4 : Hid (∀ w : World, Calls Try.prog 103 #[blk ys] w fun e w' => e = .returned (.tuple #[.int .u64 (m : Int), sup y2, .int .i64 0]) ∧ Below w.heap.size w w'))
    (P5 : Hid (∀ w : World, Calls Try.prog 106 #[.int .u64 (m : Int), sup y2] w fun e w' => e = .returned (.tuple #[blk ys, .int .i64 0]) ∧ Below w.heap.size w w')) (w : World) : Calls Try.prog 28 #[.int .u64 (n : Int), sup s, blk ys] w fun e w' => e = .returned (.bool true) ∧ Below w.heap.size w w' := by
  have HB := Lib.hid (Below.refl w.heap.size w)
  have tok0 : True := trivial
  have tp0 : True := trivial
  go_enter Try.func28, Try.ntmps28
  go_wp2_with (first
    | (go_skip)
    | (refine supBox (.tmp 1) rfl rfl HS.out rfl ?_; intro w1 hk hb1 hz1; replace HB := Lib.hid (below_ext HB.out hb1); have K4 := Lib.hid hk; clear hk hb1)
    | (refine F.blkBox (.tmp 2) rfl rfl HY.out rfl ?_; intro w2 hk hb2 hz2; replace K4 := Lib.hid (K4.out.below hb2); replace HB := Lib.hid (below_ext HB.out hb2); have K5 := Lib.hid hk; clear hk hb2)
    | (refine supLoad (.tmp 4) rfl K4.out rfl rfl ?_)
    | (have _t := tp0; go_at_call 106; refine (P1.out _).mono ?_; rintro e w3 ⟨rfl, hb3⟩; replace K4 := Lib.hid (K4.out.below hb3); replace K5 := Lib.hid (K5.out.below hb3); replace HB := Lib.hid (below_ext HB.out hb3); have hz3 := hb3.size; clear hb3; have tp1 : True := trivial; clear _t tp0)
    | (have _t := tok0; refine F.blkAlloc rfl rfl ?_; intro w4 hk hb4 hz4; replace K4 := Lib.hid (K4.out.below hb4); replace K5 := Lib.hid (K5.out.below hb4); replace HB := Lib.hid (below_ext HB.out hb4); have K7 := Lib.hid hk; have tok1 : True := trivial; clear hk hb4 _t tok0)
    | (refine F.blkStore (.tmp 7) (.tmp 21) rfl K7.out rfl rfl HX.out rfl ?_; intro w5 hk hg; replace HB := Lib.hid (below_at HB.out hg (by omega) K7.out.lt); replace K4 := Lib.hid (K4.out.grown hg (by omega)); replace K5 := Lib.hid (K5.out.grown hg (by omega)); replace K7 := Lib.hid hk; have hz5 := hg.size; clear hk hg)
    | (refine F.blkLoad (.tmp 7) rfl K7.out rfl rfl ?_)
    | (have _t := tp1; go_at_call 103; refine (P2.out _).mono ?_; rintro e w6 ⟨rfl, hb6⟩; replace K4 := Lib.hid (K4.out.below hb6); replace K5 := Lib.hid (K5.out.below hb6); replace K7 := Lib.hid (K7.out.below hb6); replace HB := Lib.hid (below_ext HB.out hb6); have hz6 := hb6.size; clear hb6; have tp2 : True := trivial; clear _t tp1)
    | (have _t := tok1; refine supAlloc rfl rfl ?_; intro w7 hk hb7 hz7; replace K4 := Lib.hid (K4.out.below hb7); replace K5 := Lib.hid (K5.out.below hb7); replace K7 := Lib.hid (K7.out.below hb7); replace HB := Lib.hid (below_ext HB.out hb7); have K10 := Lib.hid hk; clear hk hb7; have tok2 : True := trivial; clear _t tok1)
    | (refine supStore (.tmp 10) (.tmp 29) rfl K10.out rfl rfl HS.out rfl ?_; intro w8 hk hg; replace HB := Lib.hid (below_at HB.out hg (by omega) K10.out.lt); replace K4 := Lib.hid (K4.out.grown hg (by omega)); replace K5 := Lib.hid (K5.out.grown hg (by omega)); replace K7 := Lib.hid (K7.out.grown hg (by omega)); replace K10 := Lib.hid hk; have hz8 := hg.size; clear hk hg)
    | (refine supLoad (.tmp 10) rfl K10.out rfl rfl ?_)
    | (refine supNeqS (.tmp 35) (.tmp 36) _ rfl rfl rfl HS.out HS.out false (neS_self _) rfl ?_)
    | (have _t := tp2; go_at_call 107; refine (M1.out _).mono ?_; rintro e w9 ⟨rfl, hb9⟩; replace K4 := Lib.hid (K4.out.below hb9); replace K5 := Lib.hid (K5.out.below hb9); replace K7 := Lib.hid (K7.out.below hb9); replace K10 := Lib.hid (K10.out.below hb9); replace HB := Lib.hid (below_ext HB.out hb9); have hz9 := hb9.size; clear hb9; have tp3 : True := trivial; clear _t tp2)
    | (refine F.blkLoad (.tmp 5) rfl K5.out rfl rfl ?_)
    | (have _t := tp3; go_at_call 103; refine (P4.out _).mono ?_; rintro e w10 ⟨rfl, hb10⟩; replace K4 := Lib.hid (K4.out.below hb10); replace K5 := Lib.hid (K5.out.below hb10); replace K7 := Lib.hid (K7.out.below hb10); replace K10 := Lib.hid (K10.out.below hb10); replace HB := Lib.hid (below_ext HB.out hb10); have hz10 := hb10.size; clear hb10; have tp4 : True := trivial; clear _t tp3)
    | (have _t := tok2; refine supAlloc rfl rfl ?_; intro w11 hk hb11 hz11; replace K4 := Lib.hid (K4.out.below hb11); replace K5 := Lib.hid (K5.out.below hb11); replace K7 := Lib.hid (K7.out.below hb11); replace K10 := Lib.hid (K10.out.below hb11); replace HB := Lib.hid (below_ext HB.out hb11); have K13 := Lib.hid hk; clear hk hb11; have tok3 : True := trivial; clear _t tok2)
    | (refine supStore (.tmp 13) (.tmp 62) rfl K13.out rfl rfl HY2.out rfl ?_; intro w12 hk hg; replace HB := Lib.hid (below_at HB.out hg (by omega) K13.out.lt); replace K4 := Lib.hid (K4.out.grown hg (by omega)); replace K5 := Lib.hid (K5.out.grown hg (by omega)); replace K7 := Lib.hid (K7.out.grown hg (by omega)); replace K10 := Lib.hid (K10.out.grown hg (by omega)); replace K13 := Lib.hid hk; have hz12 := hg.size; clear hk hg)
    | (refine supLoad (.tmp 13) rfl K13.out rfl rfl ?_)
    | (have _t := tp4; go_at_call 106; refine (P5.out _).mono ?_; rintro e w13 ⟨rfl, hb13⟩; replace K4 := Lib.hid (K4.out.below hb13); replace K5 := Lib.hid (K5.out.below hb13); replace K7 := Lib.hid (K7.out.below hb13); replace K10 := Lib.hid (K10.out.below hb13); replace K13 := Lib.hid (K13.out.below hb13); replace HB := Lib.hid (below_ext HB.out hb13); have hz13 := hb13.size; clear hb13; have tp5 : True := trivial; clear _t tp4)
    | (have _t := tok3; refine F.blkAlloc rfl rfl ?_; intro w14 hk hb14 hz14; replace K4 := Lib.hid (K4.out.below hb14); replace K5 := Lib.hid (K5.out.below hb14); replace K7 := Lib.hid (K7.out.below hb14); replace K10 := Lib.hid (K10.out.below hb14); replace K13 := Lib.hid (K13.out.below hb14); replace HB := Lib.hid (below_ext HB.out hb14); have K15 := Lib.hid hk; have tok4 : True := trivial; clear hk hb14 _t tok3)
    | (refine F.blkStore (.tmp 15) (.tmp 70) rfl K15.out rfl rfl HY.out rfl ?_; intro w15 hk hg; replace HB := Lib.hid (below_at HB.out hg (by omega) K15.out.lt); replace K4 := Lib.hid (K4.out.grown hg (by omega)); replace K5 := Lib.hid (K5.out.grown hg (by omega)); replace K7 := Lib.hid (K7.out.grown hg (by omega)); replace K10 := Lib.hid (K10.out.grown hg (by omega)); replace K13 := Lib.hid (K13.out.grown hg (by omega)); replace K15 := Lib.hid hk; have hz15 := hg.size; clear hk hg)
    | (refine F.blkLoad (.tmp 15) rfl K15.out rfl rfl ?_)
    | (refine F.blkEql (.tmp 75) (.tmp 76) _ rfl rfl rfl HY.out HY.out true (by simp) rfl ?_)
    | (have _t := tp5; go_at_call 105; refine (sLives_any _).mono ?_; rintro e w16 ⟨rfl, hb16⟩; replace K4 := Lib.hid (K4.out.below hb16); replace K5 := Lib.hid (K5.out.below hb16); replace K7 := Lib.hid (K7.out.below hb16); replace K10 := Lib.hid (K10.out.below hb16); replace K13 := Lib.hid (K13.out.below hb16); replace K15 := Lib.hid (K15.out.below hb16); replace HB := Lib.hid (below_ext HB.out hb16); have hz16 := hb16.size; clear hb16; have tp6 : True := trivial; clear _t tp5))
  go_ret
  exact ⟨rfl, HB.out⟩
theorem sBack_any (n : Nat) (hn : n < 18446744073709551616) (s : Su) (hs : Wf s.x) (is : s.id < 18446744073709551616) (ys : List Int) (hl : ys.length = 64) (hw : Wf8 ys) (w : World) :
    Calls Try.prog 28 #[.int .u64 (n : Int), sup s, blk ys] w fun e w' => e = .returned (.bool true) ∧ Below w.heap.size w w' := by
  have P4 := fun w => Get_S ys hl hw w
  have l2 := Lib.hid (gotS_len ys)
  unfold GotE at P4
  obtain ⟨⟨⟨m, y2⟩, k⟩, h4⟩ : ∃ q, gotS ys = q := ⟨_, rfl⟩
  rw [h4] at P4 l2
  by_cases hk : k = 0
  · subst hk
    obtain ⟨b1, b2, b3, b4⟩ := gotS_back hl hw h4
    have P5 := fun w => Put_S m (by have := okS_n b1; omega) y2 b3 b4 w
    rw [show supers m y2 = (sealed m (sbody y2), 0) from if_pos b1, b2] at P5
    clear h4 b1 b2
    by_cases ho : okS n s = true
    · have P1 := fun w => Put_S n hn s hs is w
      rw [show supers n s = (sealed n (sbody s), 0) from if_pos ho] at P1
      have hl2 : (sealed n (sbody s)).length = 64 := sealed_length (by rw [sbody_length]; decide)
      have P2 := fun w => Get_S (sealed n (sbody s)) hl2 (sealed_wf _ (sbody_wf s)) w
      unfold GotE at P2
      rw [gotS_put ho hs is] at P2
      have M1 := fun w => sMay_any s hs w
      rw [(okS_n ho).2.2] at M1
      exact sBack_OO n hn s (Lib.hid hs.1) _ (Lib.hid hl2) ys (Lib.hid hl) m y2 l2 (Lib.hid P1) (Lib.hid P2) (Lib.hid M1) (Lib.hid P4) (Lib.hid P5) w
    · have P1 := fun w => Put_S n hn s hs is w
      rw [show supers n s = (zeros, 2) from if_neg ho] at P1
      have M1 := fun w => sMay_any s hs w
      cases hm : mayS s with
      | false =>
        rw [hm] at M1
        exact sBack_AO n hn s (Lib.hid hs.1) _ (Lib.hid zeros_length) ys (Lib.hid hl) m y2 l2 (Lib.hid P1) (Lib.hid M1) (Lib.hid P4) (Lib.hid P5) w
      | true =>
        rw [hm] at M1
        by_cases hb : n < 1
        · exact sBack_BO n hn s (Lib.hid hs.1) _ (Lib.hid zeros_length) ys (Lib.hid hl) hb m y2 l2 (Lib.hid P1) (Lib.hid M1) (Lib.hid P4) (Lib.hid P5) w
        · have hb2 : 4611686018427387904 < n := Nat.lt_of_not_le fun h => ho (by rw [okS, hm, Bool.and_true, decide_eq_true_eq]; omega)
          exact sBack_CO n hn s (Lib.hid hs.1) _ (Lib.hid zeros_length) ys (Lib.hid hl) (by omega) m y2 l2 (Lib.hid P1) (Lib.hid M1) (Lib.hid P4) (Lib.hid P5) w
  · have h5 := gotS_no h4 hk
    obtain rfl : m = 0 := congrArg (fun z => z.1) h5
    obtain rfl : y2 = su0 := congrArg (fun z => z.2) h5
    clear h4 h5
    by_cases ho : okS n s = true
    · have P1 := fun w => Put_S n hn s hs is w
      rw [show supers n s = (sealed n (sbody s), 0) from if_pos ho] at P1
      have hl2 : (sealed n (sbody s)).length = 64 := sealed_length (by rw [sbody_length]; decide)
      have P2 := fun w => Get_S (sealed n (sbody s)) hl2 (sealed_wf _ (sbody_wf s)) w
      unfold GotE at P2
      rw [gotS_put ho hs is] at P2
      have M1 := fun w => sMay_any s hs w
      rw [(okS_n ho).2.2] at M1
      exact sBack_OE n hn s (Lib.hid hs.1) _ (Lib.hid hl2) ys (Lib.hid hl) k (by simpa using hk) (Lib.hid P1) (Lib.hid P2) (Lib.hid M1) (Lib.hid P4) w
    · have P1 := fun w => Put_S n hn s hs is w
      rw [show supers n s = (zeros, 2) from if_neg ho] at P1
      have M1 := fun w => sMay_any s hs w
      cases hm : mayS s with
      | false =>
        rw [hm] at M1
        exact sBack_AE n hn s (Lib.hid hs.1) _ (Lib.hid zeros_length) ys (Lib.hid hl) k (by simpa using hk) (Lib.hid P1) (Lib.hid M1) (Lib.hid P4) w
      | true =>
        rw [hm] at M1
        by_cases hb : n < 1
        · exact sBack_BE n hn s (Lib.hid hs.1) _ (Lib.hid zeros_length) ys (Lib.hid hl) hb k (by simpa using hk) (Lib.hid P1) (Lib.hid M1) (Lib.hid P4) w
        · have hb2 : 4611686018427387904 < n := Nat.lt_of_not_le fun h => ho (by rw [okS, hm, Bool.and_true, decide_eq_true_eq]; omega)
          exact sBack_CE n hn s (Lib.hid hs.1) _ (Lib.hid zeros_length) ys (Lib.hid hl) (by omega) k (by simpa using hk) (Lib.hid P1) (Lib.hid M1) (Lib.hid P4) w
end Go.Proofs.Ytdchcggllcgokaa.Q

namespace Go.Proofs.Ytdchcggllcgokaa.Q
open Go.RowKit Go.Proofs.Ytdchcggllcgokaa.L Go.Proofs.Ytdchcggllcgokaa.U Go.Proofs.Ytdchcggllcgokaa.E Go.Proofs.Ytdchcggllcgokaa.R Go.Proofs.YtdchcggllcgokaaW.PrintWords
set_option linter.unusedVariables false
set_option linter.unusedSimpArgs false
theorem sBack_row (n : Int) (wn : (Lit.int .u64 n).wf = true) (pi : Int) (wpi : (Lit.int .u64 pi).wf = true) (pe : Int) (wpe : (Lit.int .i64 pe).wf = true) (pm : Int) (wpm : (Lit.int .i64 pm).wf = true) (ps : Int) (wps : (Lit.int .i64 ps).wf = true) (pr : Int) (wpr : (Lit.int .i64 pr).wf = true) (pb0 : Int) (wpb0 : (Lit.int .u8 pb0).wf = true) (pb1 : Int) (wpb1 : (Lit.int .u8 pb1).wf = true) (pb2 : Int) (wpb2 : (Lit.int .u8 pb2).wf = true) (pb3 : Int) (wpb3 : (Lit.int .u8 pb3).wf = true) (pb4 : Int) (wpb4 : (Lit.int .u8 pb4).wf = true) (pb5 : Int) (wpb5 : (Lit.int .u8 pb5).wf = true) (pb6 : Int) (wpb6 : (Lit.int .u8 pb6).wf = true) (pb7 : Int) (wpb7 : (Lit.int .u8 pb7).wf = true) (pb8 : Int) (wpb8 : (Lit.int .u8 pb8).wf = true) (pb9 : Int) (wpb9 : (Lit.int .u8 pb9).wf = true) (pb10 : Int) (wpb10 : (Lit.int .u8 pb10).wf = true) (pb11 : Int) (wpb11 : (Lit.int .u8 pb11).wf = true) (pb12 : Int) (wpb12 : (Lit.int .u8 pb12).wf = true) (pb13 : Int) (wpb13 : (Lit.int .u8 pb13).wf = true) (pb14 : Int) (wpb14 : (Lit.int .u8 pb14).wf = true) (pb15 : Int) (wpb15 : (Lit.int .u8 pb15).wf = true) (pc : Int) (wpc : (Lit.int .i64 pc).wf = true) (pg : Bool) (l : List Int) (nl : l.length = 64) (hwl : ∀ x ∈ l, (Lit.int .u8 x).wf = true) (w : World) :
    Calls Try.prog 28 #[.int .u64 n, .agg #[.int .u64 pi, .int .i64 pe, .int .i64 pm, .int .i64 ps, .int .i64 pr, .int .u8 pb0, .int .u8 pb1, .int .u8 pb2, .int .u8 pb3, .int .u8 pb4, .int .u8 pb5, .int .u8 pb6, .int .u8 pb7, .int .u8 pb8, .int .u8 pb9, .int .u8 pb10, .int .u8 pb11, .int .u8 pb12, .int .u8 pb13, .int .u8 pb14, .int .u8 pb15, .int .i64 pc, .bool pg], blk l] w fun e w' => e = .returned (.bool true) ∧ Below w.heap.size w w' := by
  obtain ⟨n, rfl, hn⟩ := u64_nat wn
  obtain ⟨pi, rfl, hpi⟩ := u64_nat wpi
  exact sBack_any n hn ⟨pi, pe, ⟨pm, ps, pr, [pb0, pb1, pb2, pb3, pb4, pb5, pb6, pb7, pb8, pb9, pb10, pb11, pb12, pb13, pb14, pb15], pc, pg⟩⟩ (swf16 wpb0 wpb1 wpb2 wpb3 wpb4 wpb5 wpb6 wpb7 wpb8 wpb9 wpb10 wpb11 wpb12 wpb13 wpb14 wpb15) hpi l nl hwl w
end Go.Proofs.Ytdchcggllcgokaa.Q
