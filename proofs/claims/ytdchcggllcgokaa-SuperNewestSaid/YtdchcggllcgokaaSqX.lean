/-
  ashlarlaw08.SuperNewest: the walks, and whole. ashlarlaw08.SuperNewest: the contract for the row.
-/
import Derived.Test.YtdchcggllcgokaaSqU
import Derived.Deep.RegionHeld3
import Derived.Deep.MidRow
namespace Go.Proofs.Ytdchcggllcgokaa.Q
open Go.RowKit Go.Proofs.Ytdchcggllcgokaa.L Go.Proofs.Ytdchcggllcgokaa.U Go.Proofs.Ytdchcggllcgokaa.E Go.Proofs.Ytdchcggllcgokaa.R Go.Proofs.YtdchcggllcgokaaW.PrintWords
set_option linter.unusedVariables false
set_option linter.unusedSimpArgs false
set_option maxRecDepth 100000 in
set_option maxHeartbeats 4000000 in
theorem sNewL_E (xs ys : List Int) (HX : Hid (xs.length = 64)) (HY : Hid (ys.length = 64)) (n : Nat) (nl : n < 18446744073709551616) (m : Nat) (ml : m < 18446744073709551616) (s t : Su) (HS : Hid (s.x.st.length = 16)) (HT : Hid (t.x.st.length = 16)) (n0 : Nat) (y0 : Su) (H0 : Hid (y0.x.st.length = 16)) (k0 : Int) (v : Nat) (X Y : List Int) (HXl : Hid (X.length = 64)) (HYl : Hid (Y.length = 64)) (g h : Int) (hg : (g != 0) = true)
    (P1 : Hid (∀ w : World, Calls Try.prog 112 #[blk xs, blk ys] w fun e w' => e = .returned (.tuple #[.int .u64 (n0 : Int), sup y0, .int .i64 k0]) ∧ Below w.heap.size w w'))
    (P2 : Hid (∀ w : World, Calls Try.prog 113 #[blk xs, blk ys] w fun e w' => e = .returned (.tuple #[.int .u64 (n0 : Int), sup y0, .int .i64 k0]) ∧ Below w.heap.size w w'))
    (S1 : Hid (∀ w : World, Calls Try.prog 114 #[blk xs, blk ys] w fun e w' => e = .returned (.int .i64 (v : Int)) ∧ Below w.heap.size w w'))
    (S2 : Hid (∀ w : World, Calls Try.prog 115 #[blk xs, blk ys] w fun e w' => e = .returned (.int .i64 (v : Int)) ∧ Below w.heap.size w w'))
    (A1 : Hid (∀ w : World, Calls Try.prog 106 #[.int .u64 (n : Int), sup s] w fun e w' => e = .returned (.tuple #[blk X, .int .i64 g]) ∧ Below w.heap.size w w'))
    (A2 : Hid (∀ w : World, Calls Try.prog 106 #[.int .u64 (m : Int), sup t] w fun e w' => e = .returned (.tuple #[blk Y, .int .i64 h]) ∧ Below w.heap.size w w')) (w : World) : Calls Try.prog 30 #[blk xs, blk ys, .int .u64 (n : Int), .int .u64 (m : Int), sup s, sup t] w fun e w' => e = .returned (.bool true) ∧ Below w.heap.size w w' := by
  have HB := Lib.hid (Below.refl w.heap.size w)
  have tok0 : True := trivial
  have tp0 : True := trivial
  go_enter Try.func30, Try.ntmps30
  go_wp2_with (first
    | (go_skip)
    | (refine F.blkBox (.tmp 0) rfl rfl HX.out rfl ?_; intro w1 hk hb1 hz1; replace HB := Lib.hid (below_ext HB.out hb1); have K6 := Lib.hid hk; clear hk hb1)
    | (refine F.blkBox (.tmp 1) rfl rfl HY.out rfl ?_; intro w2 hk hb2 hz2; replace K6 := Lib.hid (K6.out.below hb2); replace HB := Lib.hid (below_ext HB.out hb2); have K7 := Lib.hid hk; clear hk hb2)
    | (refine supBox (.tmp 4) rfl rfl HS.out rfl ?_; intro w3 hk hb3 hz3; replace K6 := Lib.hid (K6.out.below hb3); replace K7 := Lib.hid (K7.out.below hb3); replace HB := Lib.hid (below_ext HB.out hb3); have K10 := Lib.hid hk; clear hk hb3)
    | (refine supBox (.tmp 5) rfl rfl HT.out rfl ?_; intro w4 hk hb4 hz4; replace K6 := Lib.hid (K6.out.below hb4); replace K7 := Lib.hid (K7.out.below hb4); replace K10 := Lib.hid (K10.out.below hb4); replace HB := Lib.hid (below_ext HB.out hb4); have K11 := Lib.hid hk; clear hk hb4)
    | (refine F.blkLoad (.tmp 6) rfl K6.out rfl rfl ?_)
    | (refine F.blkLoad (.tmp 7) rfl K7.out rfl rfl ?_)
    | (have _t := tp0; go_at_call 112; refine (P1.out _).mono ?_; rintro e w5 ⟨rfl, hb5⟩; replace K6 := Lib.hid (K6.out.below hb5); replace K7 := Lib.hid (K7.out.below hb5); replace K10 := Lib.hid (K10.out.below hb5); replace K11 := Lib.hid (K11.out.below hb5); replace HB := Lib.hid (below_ext HB.out hb5); have hz5 := hb5.size; clear hb5; have tp1 : True := trivial; clear _t tp0)
    | (have _t := tok0; refine supAlloc rfl rfl ?_; intro w6 hk hb6 hz6; replace K6 := Lib.hid (K6.out.below hb6); replace K7 := Lib.hid (K7.out.below hb6); replace K10 := Lib.hid (K10.out.below hb6); replace K11 := Lib.hid (K11.out.below hb6); replace HB := Lib.hid (below_ext HB.out hb6); have K14 := Lib.hid hk; clear hk hb6; have tok1 : True := trivial; clear _t tok0)
    | (refine supStore (.tmp 14) (.tmp 28) rfl K14.out rfl rfl H0.out rfl ?_; intro w7 hk hg; replace HB := Lib.hid (below_at HB.out hg (by omega) K14.out.lt); replace K6 := Lib.hid (K6.out.grown hg (by omega)); replace K7 := Lib.hid (K7.out.grown hg (by omega)); replace K10 := Lib.hid (K10.out.grown hg (by omega)); replace K11 := Lib.hid (K11.out.grown hg (by omega)); replace K14 := Lib.hid hk; have hz7 := hg.size; clear hk hg)
    | (have _t := tp1; go_at_call 113; refine (P2.out _).mono ?_; rintro e w8 ⟨rfl, hb8⟩; replace K6 := Lib.hid (K6.out.below hb8); replace K7 := Lib.hid (K7.out.below hb8); replace K10 := Lib.hid (K10.out.below hb8); replace K11 := Lib.hid (K11.out.below hb8); replace K14 := Lib.hid (K14.out.below hb8); replace HB := Lib.hid (below_ext HB.out hb8); have hz8 := hb8.size; clear hb8; have tp2 : True := trivial; clear _t tp1)
    | (have _t := tok1; refine supAlloc rfl rfl ?_; intro w9 hk hb9 hz9; replace K6 := Lib.hid (K6.out.below hb9); replace K7 := Lib.hid (K7.out.below hb9); replace K10 := Lib.hid (K10.out.below hb9); replace K11 := Lib.hid (K11.out.below hb9); replace K14 := Lib.hid (K14.out.below hb9); replace HB := Lib.hid (below_ext HB.out hb9); have K17 := Lib.hid hk; clear hk hb9; have tok2 : True := trivial; clear _t tok1)
    | (refine supStore (.tmp 17) (.tmp 35) rfl K17.out rfl rfl H0.out rfl ?_; intro w10 hk hg; replace HB := Lib.hid (below_at HB.out hg (by omega) K17.out.lt); replace K6 := Lib.hid (K6.out.grown hg (by omega)); replace K7 := Lib.hid (K7.out.grown hg (by omega)); replace K10 := Lib.hid (K10.out.grown hg (by omega)); replace K11 := Lib.hid (K11.out.grown hg (by omega)); replace K14 := Lib.hid (K14.out.grown hg (by omega)); replace K17 := Lib.hid hk; have hz10 := hg.size; clear hk hg))
  have qK14 := K14.out.later
  have qK17 := K17.out.later
  have qK6 := K6.out.later
  have qK7 := K7.out.later
  have tq0 : True := trivial
  refine wp_region_cls (fun w9 => ∃ x : Later w10, w9 = x.w) (by kernel_rfl) (by kernel_rfl) (Later.drew _) ?_
  repeat (first
    | go_big_quiet_skip
    | (refine qSupLoad (.tmp 14) rfl H0.out qK14 rfl rfl ?_; simp only [Act.put, List.setIfInBounds_toArray, List.set_cons_zero, List.set_cons_succ])
    | (refine qSupLoad (.tmp 17) rfl H0.out qK17 rfl rfl ?_; simp only [Act.put, List.setIfInBounds_toArray, List.set_cons_zero, List.set_cons_succ])
    | (refine qBlkLoad rfl (.tmp 6) rfl HX.out qK6 rfl ?_; simp only [Act.put, List.setIfInBounds_toArray, List.set_cons_zero, List.set_cons_succ])
    | (refine qBlkLoad rfl (.tmp 7) rfl HY.out qK7 rfl ?_; simp only [Act.put, List.setIfInBounds_toArray, List.set_cons_zero, List.set_cons_succ])
    | (refine qSupNeq (.tmp 41) (.tmp 42) _ rfl rfl rfl H0.out H0.out false (neS_self _) rfl ?_; simp only [Act.put, List.setIfInBounds_toArray, List.set_cons_zero, List.set_cons_succ])
    | (have _t := tq0; refine qAt 114 rfl ?_; go_big_quiet_want; go_big_quiet_op; apply Exists.intro; refine ⟨fun x => ?_, ?_⟩; (· refine (S1.out _).mono ?_; rintro e x2 ⟨rfl, hb⟩; exact ⟨rfl, x.ext hb⟩); go_big_quiet_on; have tq1 : True := trivial; clear _t tq0)
    | (have _t := tq1; refine qAt 115 rfl ?_; go_big_quiet_want; go_big_quiet_op; apply Exists.intro; refine ⟨fun x => ?_, ?_⟩; (· refine (S2.out _).mono ?_; rintro e x2 ⟨rfl, hb⟩; exact ⟨rfl, x.ext hb⟩); go_big_quiet_on; have tq2 : True := trivial; clear _t tq1)
    | (go_big_quiet_want; go_big_quiet_op; go_big_quiet_on))
  refine wpQuiet_nil ?_
  rintro w9 ⟨⟨x9, h9⟩, rfl⟩
  have hb9 := below_ext HB.out h9
  replace K6 := Lib.hid (K6.out.below h9)
  replace K7 := Lib.hid (K7.out.below h9)
  replace K10 := Lib.hid (K10.out.below h9)
  replace K11 := Lib.hid (K11.out.below h9)
  replace K14 := Lib.hid (K14.out.below h9)
  replace K17 := Lib.hid (K17.out.below h9)
  replace HB := Lib.hid hb9
  have hz11 := h9.size
  clear h9 hb9 qK14 qK17 qK6 qK7 K17 K6 K7
  go_wp2_with (first
    | (go_skip)
    | (refine supLoad (.tmp 10) rfl K10.out rfl rfl ?_)
    | (have _t := tp2; go_at_call 106; refine (A1.out _).mono ?_; rintro e w12 ⟨rfl, hb12⟩; replace K10 := Lib.hid (K10.out.below hb12); replace K11 := Lib.hid (K11.out.below hb12); replace K14 := Lib.hid (K14.out.below hb12); replace HB := Lib.hid (below_ext HB.out hb12); have hz12 := hb12.size; clear hb12; have tp3 : True := trivial; clear _t tp2)
    | (have _t := tok2; refine F.blkAlloc rfl rfl ?_; intro w13 hk hb13 hz13; replace K10 := Lib.hid (K10.out.below hb13); replace K11 := Lib.hid (K11.out.below hb13); replace K14 := Lib.hid (K14.out.below hb13); replace HB := Lib.hid (below_ext HB.out hb13); have K19 := Lib.hid hk; have tok3 : True := trivial; clear hk hb13 _t tok2)
    | (refine F.blkStore (.tmp 19) (.tmp 63) rfl K19.out rfl rfl HXl.out rfl ?_; intro w14 hk hg; replace HB := Lib.hid (below_at HB.out hg (by omega) K19.out.lt); replace K10 := Lib.hid (K10.out.grown hg (by omega)); replace K11 := Lib.hid (K11.out.grown hg (by omega)); replace K14 := Lib.hid (K14.out.grown hg (by omega)); replace K19 := Lib.hid hk; have hz14 := hg.size; clear hk hg)
    | (refine supLoad (.tmp 11) rfl K11.out rfl rfl ?_)
    | (have _t := tp3; go_at_call 106; refine (A2.out _).mono ?_; rintro e w15 ⟨rfl, hb15⟩; replace K10 := Lib.hid (K10.out.below hb15); replace K11 := Lib.hid (K11.out.below hb15); replace K14 := Lib.hid (K14.out.below hb15); replace K19 := Lib.hid (K19.out.below hb15); replace HB := Lib.hid (below_ext HB.out hb15); have hz15 := hb15.size; clear hb15; have tp4 : True := trivial; clear _t tp3)
    | (have _t := tok3; refine F.blkAlloc rfl rfl ?_; intro w16 hk hb16 hz16; replace K10 := Lib.hid (K10.out.below hb16); replace K11 := Lib.hid (K11.out.below hb16); replace K14 := Lib.hid (K14.out.below hb16); replace K19 := Lib.hid (K19.out.below hb16); replace HB := Lib.hid (below_ext HB.out hb16); have K21 := Lib.hid hk; have tok4 : True := trivial; clear hk hb16 _t tok3)
    | (refine F.blkStore (.tmp 21) (.tmp 69) rfl K21.out rfl rfl HYl.out rfl ?_; intro w17 hk hg; replace HB := Lib.hid (below_at HB.out hg (by omega) K21.out.lt); replace K10 := Lib.hid (K10.out.grown hg (by omega)); replace K11 := Lib.hid (K11.out.grown hg (by omega)); replace K14 := Lib.hid (K14.out.grown hg (by omega)); replace K19 := Lib.hid (K19.out.grown hg (by omega)); replace K21 := Lib.hid hk; have hz17 := hg.size; clear hk hg)
    | (have _t := tp4; go_at_call 105; refine (sLives_any _).mono ?_; rintro e w18 ⟨rfl, hb18⟩; replace K10 := Lib.hid (K10.out.below hb18); replace K11 := Lib.hid (K11.out.below hb18); replace K14 := Lib.hid (K14.out.below hb18); replace K19 := Lib.hid (K19.out.below hb18); replace K21 := Lib.hid (K21.out.below hb18); replace HB := Lib.hid (below_ext HB.out hb18); have hz18 := hb18.size; clear hb18; have tp5 : True := trivial; clear _t tp4))
  go_ret
  exact ⟨rfl, HB.out⟩
set_option maxRecDepth 100000 in
set_option maxHeartbeats 4000000 in
theorem sNewL_G (xs ys : List Int) (HX : Hid (xs.length = 64)) (HY : Hid (ys.length = 64)) (n : Nat) (nl : n < 18446744073709551616) (m : Nat) (ml : m < 18446744073709551616) (s t : Su) (HS : Hid (s.x.st.length = 16)) (HT : Hid (t.x.st.length = 16)) (n0 : Nat) (y0 : Su) (H0 : Hid (y0.x.st.length = 16)) (k0 : Int) (v : Nat) (X Y : List Int) (HXl : Hid (X.length = 64)) (HYl : Hid (Y.length = 64)) (h : Int) (hh : (h != 0) = true)
    (P1 : Hid (∀ w : World, Calls Try.prog 112 #[blk xs, blk ys] w fun e w' => e = .returned (.tuple #[.int .u64 (n0 : Int), sup y0, .int .i64 k0]) ∧ Below w.heap.size w w'))
    (P2 : Hid (∀ w : World, Calls Try.prog 113 #[blk xs, blk ys] w fun e w' => e = .returned (.tuple #[.int .u64 (n0 : Int), sup y0, .int .i64 k0]) ∧ Below w.heap.size w w'))
    (S1 : Hid (∀ w : World, Calls Try.prog 114 #[blk xs, blk ys] w fun e w' => e = .returned (.int .i64 (v : Int)) ∧ Below w.heap.size w w'))
    (S2 : Hid (∀ w : World, Calls Try.prog 115 #[blk xs, blk ys] w fun e w' => e = .returned (.int .i64 (v : Int)) ∧ Below w.heap.size w w'))
    (A1 : Hid (∀ w : World, Calls Try.prog 106 #[.int .u64 (n : Int), sup s] w fun e w' => e = .returned (.tuple #[blk X, .int .i64 0]) ∧ Below w.heap.size w w'))
    (A2 : Hid (∀ w : World, Calls Try.prog 106 #[.int .u64 (m : Int), sup t] w fun e w' => e = .returned (.tuple #[blk Y, .int .i64 h]) ∧ Below w.heap.size w w')) (w : World) : Calls Try.prog 30 #[blk xs, blk ys, .int .u64 (n : Int), .int .u64 (m : Int), sup s, sup t] w fun e w' => e = .returned (.bool true) ∧ Below w.heap.size w w' := by
  have HB := Lib.hid (Below.refl w.heap.size w)
  have tok0 : True := trivial
  have tp0 : True := trivial
  go_enter Try.func30, Try.ntmps30
  go_wp2_with (first
    | (go_skip)
    | (refine F.blkBox (.tmp 0) rfl rfl HX.out rfl ?_; intro w1 hk hb1 hz1; replace HB := Lib.hid (below_ext HB.out hb1); have K6 := Lib.hid hk; clear hk hb1)
    | (refine F.blkBox (.tmp 1) rfl rfl HY.out rfl ?_; intro w2 hk hb2 hz2; replace K6 := Lib.hid (K6.out.below hb2); replace HB := Lib.hid (below_ext HB.out hb2); have K7 := Lib.hid hk; clear hk hb2)
    | (refine supBox (.tmp 4) rfl rfl HS.out rfl ?_; intro w3 hk hb3 hz3; replace K6 := Lib.hid (K6.out.below hb3); replace K7 := Lib.hid (K7.out.below hb3); replace HB := Lib.hid (below_ext HB.out hb3); have K10 := Lib.hid hk; clear hk hb3)
    | (refine supBox (.tmp 5) rfl rfl HT.out rfl ?_; intro w4 hk hb4 hz4; replace K6 := Lib.hid (K6.out.below hb4); replace K7 := Lib.hid (K7.out.below hb4); replace K10 := Lib.hid (K10.out.below hb4); replace HB := Lib.hid (below_ext HB.out hb4); have K11 := Lib.hid hk; clear hk hb4)
    | (refine F.blkLoad (.tmp 6) rfl K6.out rfl rfl ?_)
    | (refine F.blkLoad (.tmp 7) rfl K7.out rfl rfl ?_)
    | (have _t := tp0; go_at_call 112; refine (P1.out _).mono ?_; rintro e w5 ⟨rfl, hb5⟩; replace K6 := Lib.hid (K6.out.below hb5); replace K7 := Lib.hid (K7.out.below hb5); replace K10 := Lib.hid (K10.out.below hb5); replace K11 := Lib.hid (K11.out.below hb5); replace HB := Lib.hid (below_ext HB.out hb5); have hz5 := hb5.size; clear hb5; have tp1 : True := trivial; clear _t tp0)
    | (have _t := tok0; refine supAlloc rfl rfl ?_; intro w6 hk hb6 hz6; replace K6 := Lib.hid (K6.out.below hb6); replace K7 := Lib.hid (K7.out.below hb6); replace K10 := Lib.hid (K10.out.below hb6); replace K11 := Lib.hid (K11.out.below hb6); replace HB := Lib.hid (below_ext HB.out hb6); have K14 := Lib.hid hk; clear hk hb6; have tok1 : True := trivial; clear _t tok0)
    | (refine supStore (.tmp 14) (.tmp 28) rfl K14.out rfl rfl H0.out rfl ?_; intro w7 hk hg; replace HB := Lib.hid (below_at HB.out hg (by omega) K14.out.lt); replace K6 := Lib.hid (K6.out.grown hg (by omega)); replace K7 := Lib.hid (K7.out.grown hg (by omega)); replace K10 := Lib.hid (K10.out.grown hg (by omega)); replace K11 := Lib.hid (K11.out.grown hg (by omega)); replace K14 := Lib.hid hk; have hz7 := hg.size; clear hk hg)
    | (have _t := tp1; go_at_call 113; refine (P2.out _).mono ?_; rintro e w8 ⟨rfl, hb8⟩; replace K6 := Lib.hid (K6.out.below hb8); replace K7 := Lib.hid (K7.out.below hb8); replace K10 := Lib.hid (K10.out.below hb8); replace K11 := Lib.hid (K11.out.below hb8); replace K14 := Lib.hid (K14.out.below hb8); replace HB := Lib.hid (below_ext HB.out hb8); have hz8 := hb8.size; clear hb8; have tp2 : True := trivial; clear _t tp1)
    | (have _t := tok1; refine supAlloc rfl rfl ?_; intro w9 hk hb9 hz9; replace K6 := Lib.hid (K6.out.below hb9); replace K7 := Lib.hid (K7.out.below hb9); replace K10 := Lib.hid (K10.out.below hb9); replace K11 := Lib.hid (K11.out.below hb9); replace K14 := Lib.hid (K14.out.below hb9); replace HB := Lib.hid (below_ext HB.out hb9); have K17 := Lib.hid hk; clear hk hb9; have tok2 : True := trivial; clear _t tok1)
    | (refine supStore (.tmp 17) (.tmp 35) rfl K17.out rfl rfl H0.out rfl ?_; intro w10 hk hg; replace HB := Lib.hid (below_at HB.out hg (by omega) K17.out.lt); replace K6 := Lib.hid (K6.out.grown hg (by omega)); replace K7 := Lib.hid (K7.out.grown hg (by omega)); replace K10 := Lib.hid (K10.out.grown hg (by omega)); replace K11 := Lib.hid (K11.out.grown hg (by omega)); replace K14 := Lib.hid (K14.out.grown hg (by omega)); replace K17 := Lib.hid hk; have hz10 := hg.size; clear hk hg))
  have qK14 := K14.out.later
  have qK17 := K17.out.later
  have qK6 := K6.out.later
  have qK7 := K7.out.later
  have tq0 : True := trivial
  refine wp_region_cls (fun w9 => ∃ x : Later w10, w9 = x.w) (by kernel_rfl) (by kernel_rfl) (Later.drew _) ?_
  repeat (first
    | go_big_quiet_skip
    | (refine qSupLoad (.tmp 14) rfl H0.out qK14 rfl rfl ?_; simp only [Act.put, List.setIfInBounds_toArray, List.set_cons_zero, List.set_cons_succ])
    | (refine qSupLoad (.tmp 17) rfl H0.out qK17 rfl rfl ?_; simp only [Act.put, List.setIfInBounds_toArray, List.set_cons_zero, List.set_cons_succ])
    | (refine qBlkLoad rfl (.tmp 6) rfl HX.out qK6 rfl ?_; simp only [Act.put, List.setIfInBounds_toArray, List.set_cons_zero, List.set_cons_succ])
    | (refine qBlkLoad rfl (.tmp 7) rfl HY.out qK7 rfl ?_; simp only [Act.put, List.setIfInBounds_toArray, List.set_cons_zero, List.set_cons_succ])
    | (refine qSupNeq (.tmp 41) (.tmp 42) _ rfl rfl rfl H0.out H0.out false (neS_self _) rfl ?_; simp only [Act.put, List.setIfInBounds_toArray, List.set_cons_zero, List.set_cons_succ])
    | (have _t := tq0; refine qAt 114 rfl ?_; go_big_quiet_want; go_big_quiet_op; apply Exists.intro; refine ⟨fun x => ?_, ?_⟩; (· refine (S1.out _).mono ?_; rintro e x2 ⟨rfl, hb⟩; exact ⟨rfl, x.ext hb⟩); go_big_quiet_on; have tq1 : True := trivial; clear _t tq0)
    | (have _t := tq1; refine qAt 115 rfl ?_; go_big_quiet_want; go_big_quiet_op; apply Exists.intro; refine ⟨fun x => ?_, ?_⟩; (· refine (S2.out _).mono ?_; rintro e x2 ⟨rfl, hb⟩; exact ⟨rfl, x.ext hb⟩); go_big_quiet_on; have tq2 : True := trivial; clear _t tq1)
    | (go_big_quiet_want; go_big_quiet_op; go_big_quiet_on))
  refine wpQuiet_nil ?_
  rintro w9 ⟨⟨x9, h9⟩, rfl⟩
  have hb9 := below_ext HB.out h9
  replace K6 := Lib.hid (K6.out.below h9)
  replace K7 := Lib.hid (K7.out.below h9)
  replace K10 := Lib.hid (K10.out.below h9)
  replace K11 := Lib.hid (K11.out.below h9)
  replace K14 := Lib.hid (K14.out.below h9)
  replace K17 := Lib.hid (K17.out.below h9)
  replace HB := Lib.hid hb9
  have hz11 := h9.size
  clear h9 hb9 qK14 qK17 qK6 qK7 K17 K6 K7
  go_wp2_with (first
    | (go_skip)
    | (refine supLoad (.tmp 10) rfl K10.out rfl rfl ?_)
    | (have _t := tp2; go_at_call 106; refine (A1.out _).mono ?_; rintro e w12 ⟨rfl, hb12⟩; replace K10 := Lib.hid (K10.out.below hb12); replace K11 := Lib.hid (K11.out.below hb12); replace K14 := Lib.hid (K14.out.below hb12); replace HB := Lib.hid (below_ext HB.out hb12); have hz12 := hb12.size; clear hb12; have tp3 : True := trivial; clear _t tp2)
    | (have _t := tok2; refine F.blkAlloc rfl rfl ?_; intro w13 hk hb13 hz13; replace K10 := Lib.hid (K10.out.below hb13); replace K11 := Lib.hid (K11.out.below hb13); replace K14 := Lib.hid (K14.out.below hb13); replace HB := Lib.hid (below_ext HB.out hb13); have K19 := Lib.hid hk; have tok3 : True := trivial; clear hk hb13 _t tok2)
    | (refine F.blkStore (.tmp 19) (.tmp 63) rfl K19.out rfl rfl HXl.out rfl ?_; intro w14 hk hg; replace HB := Lib.hid (below_at HB.out hg (by omega) K19.out.lt); replace K10 := Lib.hid (K10.out.grown hg (by omega)); replace K11 := Lib.hid (K11.out.grown hg (by omega)); replace K14 := Lib.hid (K14.out.grown hg (by omega)); replace K19 := Lib.hid hk; have hz14 := hg.size; clear hk hg)
    | (refine supLoad (.tmp 11) rfl K11.out rfl rfl ?_)
    | (have _t := tp3; go_at_call 106; refine (A2.out _).mono ?_; rintro e w15 ⟨rfl, hb15⟩; replace K10 := Lib.hid (K10.out.below hb15); replace K11 := Lib.hid (K11.out.below hb15); replace K14 := Lib.hid (K14.out.below hb15); replace K19 := Lib.hid (K19.out.below hb15); replace HB := Lib.hid (below_ext HB.out hb15); have hz15 := hb15.size; clear hb15; have tp4 : True := trivial; clear _t tp3)
    | (have _t := tok3; refine F.blkAlloc rfl rfl ?_; intro w16 hk hb16 hz16; replace K10 := Lib.hid (K10.out.below hb16); replace K11 := Lib.hid (K11.out.below hb16); replace K14 := Lib.hid (K14.out.below hb16); replace K19 := Lib.hid (K19.out.below hb16); replace HB := Lib.hid (below_ext HB.out hb16); have K21 := Lib.hid hk; have tok4 : True := trivial; clear hk hb16 _t tok3)
    | (refine F.blkStore (.tmp 21) (.tmp 69) rfl K21.out rfl rfl HYl.out rfl ?_; intro w17 hk hg; replace HB := Lib.hid (below_at HB.out hg (by omega) K21.out.lt); replace K10 := Lib.hid (K10.out.grown hg (by omega)); replace K11 := Lib.hid (K11.out.grown hg (by omega)); replace K14 := Lib.hid (K14.out.grown hg (by omega)); replace K19 := Lib.hid (K19.out.grown hg (by omega)); replace K21 := Lib.hid hk; have hz17 := hg.size; clear hk hg)
    | (have _t := tp4; go_at_call 105; refine (sLives_any _).mono ?_; rintro e w18 ⟨rfl, hb18⟩; replace K10 := Lib.hid (K10.out.below hb18); replace K11 := Lib.hid (K11.out.below hb18); replace K14 := Lib.hid (K14.out.below hb18); replace K19 := Lib.hid (K19.out.below hb18); replace K21 := Lib.hid (K21.out.below hb18); replace HB := Lib.hid (below_ext HB.out hb18); have hz18 := hb18.size; clear hb18; have tp5 : True := trivial; clear _t tp4))
  go_ret
  exact ⟨rfl, HB.out⟩
set_option maxRecDepth 100000 in
set_option maxHeartbeats 4000000 in
theorem sNewL_C (xs ys : List Int) (HX : Hid (xs.length = 64)) (HY : Hid (ys.length = 64)) (n : Nat) (nl : n < 18446744073709551616) (m : Nat) (ml : m < 18446744073709551616) (s t : Su) (HS : Hid (s.x.st.length = 16)) (HT : Hid (t.x.st.length = 16)) (n0 : Nat) (y0 : Su) (H0 : Hid (y0.x.st.length = 16)) (k0 : Int) (v : Nat) (X Y : List Int) (HXl : Hid (X.length = 64)) (HYl : Hid (Y.length = 64)) (hlt : n < m)
    (P1 : Hid (∀ w : World, Calls Try.prog 112 #[blk xs, blk ys] w fun e w' => e = .returned (.tuple #[.int .u64 (n0 : Int), sup y0, .int .i64 k0]) ∧ Below w.heap.size w w'))
    (P2 : Hid (∀ w : World, Calls Try.prog 113 #[blk xs, blk ys] w fun e w' => e = .returned (.tuple #[.int .u64 (n0 : Int), sup y0, .int .i64 k0]) ∧ Below w.heap.size w w'))
    (S1 : Hid (∀ w : World, Calls Try.prog 114 #[blk xs, blk ys] w fun e w' => e = .returned (.int .i64 (v : Int)) ∧ Below w.heap.size w w'))
    (S2 : Hid (∀ w : World, Calls Try.prog 115 #[blk xs, blk ys] w fun e w' => e = .returned (.int .i64 (v : Int)) ∧ Below w.heap.size w w'))
    (A1 : Hid (∀ w : World, Calls Try.prog 106 #[.int .u64 (n : Int), sup s] w fun e w' => e = .returned (.tuple #[blk X, .int .i64 0]) ∧ Below w.heap.size w w'))
    (A2 : Hid (∀ w : World, Calls Try.prog 106 #[.int .u64 (m : Int), sup t] w fun e w' => e = .returned (.tuple #[blk Y, .int .i64 0]) ∧ Below w.heap.size w w'))
    (P3 : Hid (∀ w : World, Calls Try.prog 112 #[blk X, blk Y] w fun e w' => e = .returned (.tuple #[.int .u64 (m : Int), sup t, .int .i64 0]) ∧ Below w.heap.size w w'))
    (P4 : Hid (∀ w : World, Calls Try.prog 112 #[blk zeros, blk Y] w fun e w' => e = .returned (.tuple #[.int .u64 (m : Int), sup t, .int .i64 0]) ∧ Below w.heap.size w w')) (w : World) : Calls Try.prog 30 #[blk xs, blk ys, .int .u64 (n : Int), .int .u64 (m : Int), sup s, sup t] w fun e w' => e = .returned (.bool true) ∧ Below w.heap.size w w' := by
  have HB := Lib.hid (Below.refl w.heap.size w)
  have g1 : decide (n < m) = true := by simp; omega
  have g2 : decide ((n : Int) < (m : Int)) = true := by simp; omega
  have g3 : decide (m ≤ n) = false := by simp; omega
  have g4 : decide ((m : Int) ≤ (n : Int)) = false := by simp; omega
  have tok0 : True := trivial
  have tp0 : True := trivial
  go_enter Try.func30, Try.ntmps30
  go_wp2_with (first
    | (go_skip)
    | (refine F.blkBox (.tmp 0) rfl rfl HX.out rfl ?_; intro w1 hk hb1 hz1; replace HB := Lib.hid (below_ext HB.out hb1); have K6 := Lib.hid hk; clear hk hb1)
    | (refine F.blkBox (.tmp 1) rfl rfl HY.out rfl ?_; intro w2 hk hb2 hz2; replace K6 := Lib.hid (K6.out.below hb2); replace HB := Lib.hid (below_ext HB.out hb2); have K7 := Lib.hid hk; clear hk hb2)
    | (refine supBox (.tmp 4) rfl rfl HS.out rfl ?_; intro w3 hk hb3 hz3; replace K6 := Lib.hid (K6.out.below hb3); replace K7 := Lib.hid (K7.out.below hb3); replace HB := Lib.hid (below_ext HB.out hb3); have K10 := Lib.hid hk; clear hk hb3)
    | (refine supBox (.tmp 5) rfl rfl HT.out rfl ?_; intro w4 hk hb4 hz4; replace K6 := Lib.hid (K6.out.below hb4); replace K7 := Lib.hid (K7.out.below hb4); replace K10 := Lib.hid (K10.out.below hb4); replace HB := Lib.hid (below_ext HB.out hb4); have K11 := Lib.hid hk; clear hk hb4)
    | (refine F.blkLoad (.tmp 6) rfl K6.out rfl rfl ?_)
    | (refine F.blkLoad (.tmp 7) rfl K7.out rfl rfl ?_)
    | (have _t := tp0; go_at_call 112; refine (P1.out _).mono ?_; rintro e w5 ⟨rfl, hb5⟩; replace K6 := Lib.hid (K6.out.below hb5); replace K7 := Lib.hid (K7.out.below hb5); replace K10 := Lib.hid (K10.out.below hb5); replace K11 := Lib.hid (K11.out.below hb5); replace HB := Lib.hid (below_ext HB.out hb5); have hz5 := hb5.size; clear hb5; have tp1 : True := trivial; clear _t tp0)
    | (have _t := tok0; refine supAlloc rfl rfl ?_; intro w6 hk hb6 hz6; replace K6 := Lib.hid (K6.out.below hb6); replace K7 := Lib.hid (K7.out.below hb6); replace K10 := Lib.hid (K10.out.below hb6); replace K11 := Lib.hid (K11.out.below hb6); replace HB := Lib.hid (below_ext HB.out hb6); have K14 := Lib.hid hk; clear hk hb6; have tok1 : True := trivial; clear _t tok0)
    | (refine supStore (.tmp 14) (.tmp 28) rfl K14.out rfl rfl H0.out rfl ?_; intro w7 hk hg; replace HB := Lib.hid (below_at HB.out hg (by omega) K14.out.lt); replace K6 := Lib.hid (K6.out.grown hg (by omega)); replace K7 := Lib.hid (K7.out.grown hg (by omega)); replace K10 := Lib.hid (K10.out.grown hg (by omega)); replace K11 := Lib.hid (K11.out.grown hg (by omega)); replace K14 := Lib.hid hk; have hz7 := hg.size; clear hk hg)
    | (have _t := tp1; go_at_call 113; refine (P2.out _).mono ?_; rintro e w8 ⟨rfl, hb8⟩; replace K6 := Lib.hid (K6.out.below hb8); replace K7 := Lib.hid (K7.out.below hb8); replace K10 := Lib.hid (K10.out.below hb8); replace K11 := Lib.hid (K11.out.below hb8); replace K14 := Lib.hid (K14.out.below hb8); replace HB := Lib.hid (below_ext HB.out hb8); have hz8 := hb8.size; clear hb8; have tp2 : True := trivial; clear _t tp1)
    | (have _t := tok1; refine supAlloc rfl rfl ?_; intro w9 hk hb9 hz9; replace K6 := Lib.hid (K6.out.below hb9); replace K7 := Lib.hid (K7.out.below hb9); replace K10 := Lib.hid (K10.out.below hb9); replace K11 := Lib.hid (K11.out.below hb9); replace K14 := Lib.hid (K14.out.below hb9); replace HB := Lib.hid (below_ext HB.out hb9); have K17 := Lib.hid hk; clear hk hb9; have tok2 : True := trivial; clear _t tok1)
    | (refine supStore (.tmp 17) (.tmp 35) rfl K17.out rfl rfl H0.out rfl ?_; intro w10 hk hg; replace HB := Lib.hid (below_at HB.out hg (by omega) K17.out.lt); replace K6 := Lib.hid (K6.out.grown hg (by omega)); replace K7 := Lib.hid (K7.out.grown hg (by omega)); replace K10 := Lib.hid (K10.out.grown hg (by omega)); replace K11 := Lib.hid (K11.out.grown hg (by omega)); replace K14 := Lib.hid (K14.out.grown hg (by omega)); replace K17 := Lib.hid hk; have hz10 := hg.size; clear hk hg))
  have qK14 := K14.out.later
  have qK17 := K17.out.later
  have qK6 := K6.out.later
  have qK7 := K7.out.later
  have tq0 : True := trivial
  refine wp_region_cls (fun w9 => ∃ x : Later w10, w9 = x.w) (by kernel_rfl) (by kernel_rfl) (Later.drew _) ?_
  repeat (first
    | go_big_quiet_skip
    | (refine qSupLoad (.tmp 14) rfl H0.out qK14 rfl rfl ?_; simp only [Act.put, List.setIfInBounds_toArray, List.set_cons_zero, List.set_cons_succ])
    | (refine qSupLoad (.tmp 17) rfl H0.out qK17 rfl rfl ?_; simp only [Act.put, List.setIfInBounds_toArray, List.set_cons_zero, List.set_cons_succ])
    | (refine qBlkLoad rfl (.tmp 6) rfl HX.out qK6 rfl ?_; simp only [Act.put, List.setIfInBounds_toArray, List.set_cons_zero, List.set_cons_succ])
    | (refine qBlkLoad rfl (.tmp 7) rfl HY.out qK7 rfl ?_; simp only [Act.put, List.setIfInBounds_toArray, List.set_cons_zero, List.set_cons_succ])
    | (refine qSupNeq (.tmp 41) (.tmp 42) _ rfl rfl rfl H0.out H0.out false (neS_self _) rfl ?_; simp only [Act.put, List.setIfInBounds_toArray, List.set_cons_zero, List.set_cons_succ])
    | (have _t := tq0; refine qAt 114 rfl ?_; go_big_quiet_want; go_big_quiet_op; apply Exists.intro; refine ⟨fun x => ?_, ?_⟩; (· refine (S1.out _).mono ?_; rintro e x2 ⟨rfl, hb⟩; exact ⟨rfl, x.ext hb⟩); go_big_quiet_on; have tq1 : True := trivial; clear _t tq0)
    | (have _t := tq1; refine qAt 115 rfl ?_; go_big_quiet_want; go_big_quiet_op; apply Exists.intro; refine ⟨fun x => ?_, ?_⟩; (· refine (S2.out _).mono ?_; rintro e x2 ⟨rfl, hb⟩; exact ⟨rfl, x.ext hb⟩); go_big_quiet_on; have tq2 : True := trivial; clear _t tq1)
    | (go_big_quiet_want; go_big_quiet_op; go_big_quiet_on))
  refine wpQuiet_nil ?_
  rintro w9 ⟨⟨x9, h9⟩, rfl⟩
  have hb9 := below_ext HB.out h9
  replace K6 := Lib.hid (K6.out.below h9)
  replace K7 := Lib.hid (K7.out.below h9)
  replace K10 := Lib.hid (K10.out.below h9)
  replace K11 := Lib.hid (K11.out.below h9)
  replace K14 := Lib.hid (K14.out.below h9)
  replace K17 := Lib.hid (K17.out.below h9)
  replace HB := Lib.hid hb9
  have hz11 := h9.size
  clear h9 hb9 qK14 qK17 qK6 qK7 K17 K6 K7
  go_wp2_with (first
    | (go_skip)
    | (refine supLoad (.tmp 10) rfl K10.out rfl rfl ?_)
    | (have _t := tp2; go_at_call 106; refine (A1.out _).mono ?_; rintro e w12 ⟨rfl, hb12⟩; replace K10 := Lib.hid (K10.out.below hb12); replace K11 := Lib.hid (K11.out.below hb12); replace K14 := Lib.hid (K14.out.below hb12); replace HB := Lib.hid (below_ext HB.out hb12); have hz12 := hb12.size; clear hb12; have tp3 : True := trivial; clear _t tp2)
    | (have _t := tok2; refine F.blkAlloc rfl rfl ?_; intro w13 hk hb13 hz13; replace K10 := Lib.hid (K10.out.below hb13); replace K11 := Lib.hid (K11.out.below hb13); replace K14 := Lib.hid (K14.out.below hb13); replace HB := Lib.hid (below_ext HB.out hb13); have K19 := Lib.hid hk; have tok3 : True := trivial; clear hk hb13 _t tok2)
    | (refine F.blkStore (.tmp 19) (.tmp 63) rfl K19.out rfl rfl HXl.out rfl ?_; intro w14 hk hg; replace HB := Lib.hid (below_at HB.out hg (by omega) K19.out.lt); replace K10 := Lib.hid (K10.out.grown hg (by omega)); replace K11 := Lib.hid (K11.out.grown hg (by omega)); replace K14 := Lib.hid (K14.out.grown hg (by omega)); replace K19 := Lib.hid hk; have hz14 := hg.size; clear hk hg)
    | (refine supLoad (.tmp 11) rfl K11.out rfl rfl ?_)
    | (have _t := tp3; go_at_call 106; refine (A2.out _).mono ?_; rintro e w15 ⟨rfl, hb15⟩; replace K10 := Lib.hid (K10.out.below hb15); replace K11 := Lib.hid (K11.out.below hb15); replace K14 := Lib.hid (K14.out.below hb15); replace K19 := Lib.hid (K19.out.below hb15); replace HB := Lib.hid (below_ext HB.out hb15); have hz15 := hb15.size; clear hb15; have tp4 : True := trivial; clear _t tp3)
    | (have _t := tok3; refine F.blkAlloc rfl rfl ?_; intro w16 hk hb16 hz16; replace K10 := Lib.hid (K10.out.below hb16); replace K11 := Lib.hid (K11.out.below hb16); replace K14 := Lib.hid (K14.out.below hb16); replace K19 := Lib.hid (K19.out.below hb16); replace HB := Lib.hid (below_ext HB.out hb16); have K21 := Lib.hid hk; have tok4 : True := trivial; clear hk hb16 _t tok3)
    | (refine F.blkStore (.tmp 21) (.tmp 69) rfl K21.out rfl rfl HYl.out rfl ?_; intro w17 hk hg; replace HB := Lib.hid (below_at HB.out hg (by omega) K21.out.lt); replace K10 := Lib.hid (K10.out.grown hg (by omega)); replace K11 := Lib.hid (K11.out.grown hg (by omega)); replace K14 := Lib.hid (K14.out.grown hg (by omega)); replace K19 := Lib.hid (K19.out.grown hg (by omega)); replace K21 := Lib.hid hk; have hz17 := hg.size; clear hk hg)
    | (refine F.blkLoad (.tmp 19) rfl K19.out rfl rfl ?_)
    | (refine F.blkLoad (.tmp 21) rfl K21.out rfl rfl ?_)
    | (have _t := tp4; go_at_call 112; refine (P3.out _).mono ?_; rintro e w18 ⟨rfl, hb18⟩; replace K10 := Lib.hid (K10.out.below hb18); replace K11 := Lib.hid (K11.out.below hb18); replace K14 := Lib.hid (K14.out.below hb18); replace K19 := Lib.hid (K19.out.below hb18); replace K21 := Lib.hid (K21.out.below hb18); replace HB := Lib.hid (below_ext HB.out hb18); have hz18 := hb18.size; clear hb18; have tp5 : True := trivial; clear _t tp4)
    | (refine supStore (.tmp 14) (.tmp 83) rfl K14.out rfl rfl HT.out rfl ?_; intro w19 hk hg; replace HB := Lib.hid (below_at HB.out hg (by omega) K14.out.lt); replace K10 := Lib.hid (K10.out.grown hg (by omega)); replace K11 := Lib.hid (K11.out.grown hg (by omega)); replace K19 := Lib.hid (K19.out.grown hg (by omega)); replace K21 := Lib.hid (K21.out.grown hg (by omega)); replace K14 := Lib.hid hk; have hz19 := hg.size; clear hk hg)
    | (refine supLoad (.tmp 14) rfl K14.out rfl rfl ?_)
    | (refine supNeqS (.tmp 96) (.tmp 97) _ rfl rfl rfl HT.out HT.out false (neS_self _) rfl ?_)
    | (refine F.blkBuild rfl rfl ?_)
    | (have _t := tp5; go_at_call 112; refine (P4.out _).mono ?_; rintro e w20 ⟨rfl, hb20⟩; replace K10 := Lib.hid (K10.out.below hb20); replace K11 := Lib.hid (K11.out.below hb20); replace K14 := Lib.hid (K14.out.below hb20); replace K19 := Lib.hid (K19.out.below hb20); replace K21 := Lib.hid (K21.out.below hb20); replace HB := Lib.hid (below_ext HB.out hb20); have hz20 := hb20.size; clear hb20; have tp6 : True := trivial; clear _t tp5)
    | (refine supStore (.tmp 14) (.tmp 122) rfl K14.out rfl rfl HT.out rfl ?_; intro w21 hk hg; replace HB := Lib.hid (below_at HB.out hg (by omega) K14.out.lt); replace K10 := Lib.hid (K10.out.grown hg (by omega)); replace K11 := Lib.hid (K11.out.grown hg (by omega)); replace K19 := Lib.hid (K19.out.grown hg (by omega)); replace K21 := Lib.hid (K21.out.grown hg (by omega)); replace K14 := Lib.hid hk; have hz21 := hg.size; clear hk hg)
    | (refine supEqlS (.tmp 132) (.tmp 133) _ rfl rfl rfl HT.out HT.out true (eqS_self _) rfl ?_)
    | (have _t := tp6; go_at_call 105; refine (sLives_any _).mono ?_; rintro e w22 ⟨rfl, hb22⟩; replace K10 := Lib.hid (K10.out.below hb22); replace K11 := Lib.hid (K11.out.below hb22); replace K14 := Lib.hid (K14.out.below hb22); replace K19 := Lib.hid (K19.out.below hb22); replace K21 := Lib.hid (K21.out.below hb22); replace HB := Lib.hid (below_ext HB.out hb22); have hz22 := hb22.size; clear hb22; have tp7 : True := trivial; clear _t tp6))
  go_ret
  exact ⟨rfl, HB.out⟩
set_option maxRecDepth 100000 in
set_option maxHeartbeats 4000000 in
theorem sNewL_D (xs ys : List Int) (HX : Hid (xs.length = 64)) (HY : Hid (ys.length = 64)) (n : Nat) (nl : n < 18446744073709551616) (m : Nat) (ml : m < 18446744073709551616) (s t : Su) (HS : Hid (s.x.st.length = 16)) (HT : Hid (t.x.st.length = 16)) (n0 : Nat) (y0 : Su) (H0 : Hid (y0.x.st.length = 16)) (k0 : Int) (v : Nat) (X Y : List Int) (HXl : Hid (X.length = 64)) (HYl : Hid (Y.length = 64)) (hlt : ¬ n < m)
    (P1 : Hid (∀ w : World, Calls Try.prog 112 #[blk xs, blk ys] w fun e w' => e = .returned (.tuple #[.int .u64 (n0 : Int), sup y0, .int .i64 k0]) ∧ Below w.heap.size w w'))
    (P2 : Hid (∀ w : World, Calls Try.prog 113 #[blk xs, blk ys] w fun e w' => e = .returned (.tuple #[.int .u64 (n0 : Int), sup y0, .int .i64 k0]) ∧ Below w.heap.size w w'))
    (S1 : Hid (∀ w : World, Calls Try.prog 114 #[blk xs, blk ys] w fun e w' => e = .returned (.int .i64 (v : Int)) ∧ Below w.heap.size w w'))
    (S2 : Hid (∀ w : World, Calls Try.prog 115 #[blk xs, blk ys] w fun e w' => e = .returned (.int .i64 (v : Int)) ∧ Below w.heap.size w w'))
    (A1 : Hid (∀ w : World, Calls Try.prog 106 #[.int .u64 (n : Int), sup s] w fun e w' => e = .returned (.tuple #[blk X, .int .i64 0]) ∧ Below w.heap.size w w'))
    (A2 : Hid (∀ w : World, Calls Try.prog 106 #[.int .u64 (m : Int), sup t] w fun e w' => e = .returned (.tuple #[blk Y, .int .i64 0]) ∧ Below w.heap.size w w'))
    (P3 : Hid (∀ w : World, Calls Try.prog 112 #[blk X, blk Y] w fun e w' => e = .returned (.tuple #[.int .u64 (n : Int), sup s, .int .i64 0]) ∧ Below w.heap.size w w'))
    (P4 : Hid (∀ w : World, Calls Try.prog 112 #[blk zeros, blk Y] w fun e w' => e = .returned (.tuple #[.int .u64 (m : Int), sup t, .int .i64 0]) ∧ Below w.heap.size w w')) (w : World) : Calls Try.prog 30 #[blk xs, blk ys, .int .u64 (n : Int), .int .u64 (m : Int), sup s, sup t] w fun e w' => e = .returned (.bool true) ∧ Below w.heap.size w w' := by
  have HB := Lib.hid (Below.refl w.heap.size w)
  have g1 : decide (n < m) = false := by simp; omega
  have g2 : decide ((n : Int) < (m : Int)) = false := by simp; omega
  have g3 : decide (m ≤ n) = true := by simp; omega
  have g4 : decide ((m : Int) ≤ (n : Int)) = true := by simp; omega
  have tok0 : True := trivial
  have tp0 : True := trivial
  go_enter Try.func30, Try.ntmps30
  go_wp2_with (first
    | (go_skip)
    | (refine F.blkBox (.tmp 0) rfl rfl HX.out rfl ?_; intro w1 hk hb1 hz1; replace HB := Lib.hid (below_ext HB.out hb1); have K6 := Lib.hid hk; clear hk hb1)
    | (refine F.blkBox (.tmp 1) rfl rfl HY.out rfl ?_; intro w2 hk hb2 hz2; replace K6 := Lib.hid (K6.out.below hb2); replace HB := Lib.hid (below_ext HB.out hb2); have K7 := Lib.hid hk; clear hk hb2)
    | (refine supBox (.tmp 4) rfl rfl HS.out rfl ?_; intro w3 hk hb3 hz3; replace K6 := Lib.hid (K6.out.below hb3); replace K7 := Lib.hid (K7.out.below hb3); replace HB := Lib.hid (below_ext HB.out hb3); have K10 := Lib.hid hk; clear hk hb3)
    | (refine supBox (.tmp 5) rfl rfl HT.out rfl ?_; intro w4 hk hb4 hz4; replace K6 := Lib.hid (K6.out.below hb4); replace K7 := Lib.hid (K7.out.below hb4); replace K10 := Lib.hid (K10.out.below hb4); replace HB := Lib.hid (below_ext HB.out hb4); have K11 := Lib.hid hk; clear hk hb4)
    | (refine F.blkLoad (.tmp 6) rfl K6.out rfl rfl ?_)
    | (refine F.blkLoad (.tmp 7) rfl K7.out rfl rfl ?_)
    | (have _t := tp0; go_at_call 112; refine (P1.out _).mono ?_; rintro e w5 ⟨rfl, hb5⟩; replace K6 := Lib.hid (K6.out.below hb5); replace K7 := Lib.hid (K7.out.below hb5); replace K10 := Lib.hid (K10.out.below hb5); replace K11 := Lib.hid (K11.out.below hb5); replace HB := Lib.hid (below_ext HB.out hb5); have hz5 := hb5.size; clear hb5; have tp1 : True := trivial; clear _t tp0)
    | (have _t := tok0; refine supAlloc rfl rfl ?_; intro w6 hk hb6 hz6; replace K6 := Lib.hid (K6.out.below hb6); replace K7 := Lib.hid (K7.out.below hb6); replace K10 := Lib.hid (K10.out.below hb6); replace K11 := Lib.hid (K11.out.below hb6); replace HB := Lib.hid (below_ext HB.out hb6); have K14 := Lib.hid hk; clear hk hb6; have tok1 : True := trivial; clear _t tok0)
    | (refine supStore (.tmp 14) (.tmp 28) rfl K14.out rfl rfl H0.out rfl ?_; intro w7 hk hg; replace HB := Lib.hid (below_at HB.out hg (by omega) K14.out.lt); replace K6 := Lib.hid (K6.out.grown hg (by omega)); replace K7 := Lib.hid (K7.out.grown hg (by omega)); replace K10 := Lib.hid (K10.out.grown hg (by omega)); replace K11 := Lib.hid (K11.out.grown hg (by omega)); replace K14 := Lib.hid hk; have hz7 := hg.size; clear hk hg)
    | (have _t := tp1; go_at_call 113; refine (P2.out _).mono ?_; rintro e w8 ⟨rfl, hb8⟩; replace K6 := Lib.hid (K6.out.below hb8); replace K7 := Lib.hid (K7.out.below hb8); replace K10 := Lib.hid (K10.out.below hb8); replace K11 := Lib.hid (K11.out.below hb8); replace K14 := Lib.hid (K14.out.below hb8); replace HB := Lib.hid (below_ext HB.out hb8); have hz8 := hb8.size; clear hb8; have tp2 : True := trivial; clear _t tp1)
    | (have _t := tok1; refine supAlloc rfl rfl ?_; intro w9 hk hb9 hz9; replace K6 := Lib.hid (K6.out.below hb9); replace K7 := Lib.hid (K7.out.below hb9); replace K10 := Lib.hid (K10.out.below hb9); replace K11 := Lib.hid (K11.out.below hb9); replace K14 := Lib.hid (K14.out.below hb9); replace HB := Lib.hid (below_ext HB.out hb9); have K17 := Lib.hid hk; clear hk hb9; have tok2 : True := trivial; clear _t tok1)
    | (refine supStore (.tmp 17) (.tmp 35) rfl K17.out rfl rfl H0.out rfl ?_; intro w10 hk hg; replace HB := Lib.hid (below_at HB.out hg (by omega) K17.out.lt); replace K6 := Lib.hid (K6.out.grown hg (by omega)); replace K7 := Lib.hid (K7.out.grown hg (by omega)); replace K10 := Lib.hid (K10.out.grown hg (by omega)); replace K11 := Lib.hid (K11.out.grown hg (by omega)); replace K14 := Lib.hid (K14.out.grown hg (by omega)); replace K17 := Lib.hid hk; have hz10 := hg.size; clear hk hg))
  have qK14 := K14.out.later
  have qK17 := K17.out.later
  have qK6 := K6.out.later
  have qK7 := K7.out.later
  have tq0 : True := trivial
  refine wp_region_cls (fun w9 => ∃ x : Later w10, w9 = x.w) (by kernel_rfl) (by kernel_rfl) (Later.drew _) ?_
  repeat (first
    | go_big_quiet_skip
    | (refine qSupLoad (.tmp 14) rfl H0.out qK14 rfl rfl ?_; simp only [Act.put, List.setIfInBounds_toArray, List.set_cons_zero, List.set_cons_succ])
    | (refine qSupLoad (.tmp 17) rfl H0.out qK17 rfl rfl ?_; simp only [Act.put, List.setIfInBounds_toArray, List.set_cons_zero, List.set_cons_succ])
    | (refine qBlkLoad rfl (.tmp 6) rfl HX.out qK6 rfl ?_; simp only [Act.put, List.setIfInBounds_toArray, List.set_cons_zero, List.set_cons_succ])
    | (refine qBlkLoad rfl (.tmp 7) rfl HY.out qK7 rfl ?_; simp only [Act.put, List.setIfInBounds_toArray, List.set_cons_zero, List.set_cons_succ])
    | (refine qSupNeq (.tmp 41) (.tmp 42) _ rfl rfl rfl H0.out H0.out false (neS_self _) rfl ?_; simp only [Act.put, List.setIfInBounds_toArray, List.set_cons_zero, List.set_cons_succ])
    | (have _t := tq0; refine qAt 114 rfl ?_; go_big_quiet_want; go_big_quiet_op; apply Exists.intro; refine ⟨fun x => ?_, ?_⟩; (· refine (S1.out _).mono ?_; rintro e x2 ⟨rfl, hb⟩; exact ⟨rfl, x.ext hb⟩); go_big_quiet_on; have tq1 : True := trivial; clear _t tq0)
    | (have _t := tq1; refine qAt 115 rfl ?_; go_big_quiet_want; go_big_quiet_op; apply Exists.intro; refine ⟨fun x => ?_, ?_⟩; (· refine (S2.out _).mono ?_; rintro e x2 ⟨rfl, hb⟩; exact ⟨rfl, x.ext hb⟩); go_big_quiet_on; have tq2 : True := trivial; clear _t tq1)
    | (go_big_quiet_want; go_big_quiet_op; go_big_quiet_on))
  refine wpQuiet_nil ?_
  rintro w9 ⟨⟨x9, h9⟩, rfl⟩
  have hb9 := below_ext HB.out h9
  replace K6 := Lib.hid (K6.out.below h9)
  replace K7 := Lib.hid (K7.out.below h9)
  replace K10 := Lib.hid (K10.out.below h9)
  replace K11 := Lib.hid (K11.out.below h9)
  replace K14 := Lib.hid (K14.out.below h9)
  replace K17 := Lib.hid (K17.out.below h9)
  replace HB := Lib.hid hb9
  have hz11 := h9.size
  clear h9 hb9 qK14 qK17 qK6 qK7 K17 K6 K7
  go_wp2_with (first
    | (go_skip)
    | (refine supLoad (.tmp 10) rfl K10.out rfl rfl ?_)
    | (have _t := tp2; go_at_call 106; refine (A1.out _).mono ?_; rintro e w12 ⟨rfl, hb12⟩; replace K10 := Lib.hid (K10.out.below hb12); replace K11 := Lib.hid (K11.out.below hb12); replace K14 := Lib.hid (K14.out.below hb12); replace HB := Lib.hid (below_ext HB.out hb12); have hz12 := hb12.size; clear hb12; have tp3 : True := trivial; clear _t tp2)
    | (have _t := tok2; refine F.blkAlloc rfl rfl ?_; intro w13 hk hb13 hz13; replace K10 := Lib.hid (K10.out.below hb13); replace K11 := Lib.hid (K11.out.below hb13); replace K14 := Lib.hid (K14.out.below hb13); replace HB := Lib.hid (below_ext HB.out hb13); have K19 := Lib.hid hk; have tok3 : True := trivial; clear hk hb13 _t tok2)
    | (refine F.blkStore (.tmp 19) (.tmp 63) rfl K19.out rfl rfl HXl.out rfl ?_; intro w14 hk hg; replace HB := Lib.hid (below_at HB.out hg (by omega) K19.out.lt); replace K10 := Lib.hid (K10.out.grown hg (by omega)); replace K11 := Lib.hid (K11.out.grown hg (by omega)); replace K14 := Lib.hid (K14.out.grown hg (by omega)); replace K19 := Lib.hid hk; have hz14 := hg.size; clear hk hg)
    | (refine supLoad (.tmp 11) rfl K11.out rfl rfl ?_)
    | (have _t := tp3; go_at_call 106; refine (A2.out _).mono ?_; rintro e w15 ⟨rfl, hb15⟩; replace K10 := Lib.hid (K10.out.below hb15); replace K11 := Lib.hid (K11.out.below hb15); replace K14 := Lib.hid (K14.out.below hb15); replace K19 := Lib.hid (K19.out.below hb15); replace HB := Lib.hid (below_ext HB.out hb15); have hz15 := hb15.size; clear hb15; have tp4 : True := trivial; clear _t tp3)
    | (have _t := tok3; refine F.blkAlloc rfl rfl ?_; intro w16 hk hb16 hz16; replace K10 := Lib.hid (K10.out.below hb16); replace K11 := Lib.hid (K11.out.below hb16); replace K14 := Lib.hid (K14.out.below hb16); replace K19 := Lib.hid (K19.out.below hb16); replace HB := Lib.hid (below_ext HB.out hb16); have K21 := Lib.hid hk; have tok4 : True := trivial; clear hk hb16 _t tok3)
    | (refine F.blkStore (.tmp 21) (.tmp 69) rfl K21.out rfl rfl HYl.out rfl ?_; intro w17 hk hg; replace HB := Lib.hid (below_at HB.out hg (by omega) K21.out.lt); replace K10 := Lib.hid (K10.out.grown hg (by omega)); replace K11 := Lib.hid (K11.out.grown hg (by omega)); replace K14 := Lib.hid (K14.out.grown hg (by omega)); replace K19 := Lib.hid (K19.out.grown hg (by omega)); replace K21 := Lib.hid hk; have hz17 := hg.size; clear hk hg)
    | (refine F.blkLoad (.tmp 19) rfl K19.out rfl rfl ?_)
    | (refine F.blkLoad (.tmp 21) rfl K21.out rfl rfl ?_)
    | (have _t := tp4; go_at_call 112; refine (P3.out _).mono ?_; rintro e w18 ⟨rfl, hb18⟩; replace K10 := Lib.hid (K10.out.below hb18); replace K11 := Lib.hid (K11.out.below hb18); replace K14 := Lib.hid (K14.out.below hb18); replace K19 := Lib.hid (K19.out.below hb18); replace K21 := Lib.hid (K21.out.below hb18); replace HB := Lib.hid (below_ext HB.out hb18); have hz18 := hb18.size; clear hb18; have tp5 : True := trivial; clear _t tp4)
    | (refine supStore (.tmp 14) (.tmp 83) rfl K14.out rfl rfl HS.out rfl ?_; intro w19 hk hg; replace HB := Lib.hid (below_at HB.out hg (by omega) K14.out.lt); replace K10 := Lib.hid (K10.out.grown hg (by omega)); replace K11 := Lib.hid (K11.out.grown hg (by omega)); replace K19 := Lib.hid (K19.out.grown hg (by omega)); replace K21 := Lib.hid (K21.out.grown hg (by omega)); replace K14 := Lib.hid hk; have hz19 := hg.size; clear hk hg)
    | (refine supLoad (.tmp 14) rfl K14.out rfl rfl ?_)
    | (refine supNeqS (.tmp 111) (.tmp 112) _ rfl rfl rfl HS.out HS.out false (neS_self _) rfl ?_)
    | (refine F.blkBuild rfl rfl ?_)
    | (have _t := tp5; go_at_call 112; refine (P4.out _).mono ?_; rintro e w20 ⟨rfl, hb20⟩; replace K10 := Lib.hid (K10.out.below hb20); replace K11 := Lib.hid (K11.out.below hb20); replace K14 := Lib.hid (K14.out.below hb20); replace K19 := Lib.hid (K19.out.below hb20); replace K21 := Lib.hid (K21.out.below hb20); replace HB := Lib.hid (below_ext HB.out hb20); have hz20 := hb20.size; clear hb20; have tp6 : True := trivial; clear _t tp5)
    | (refine supStore (.tmp 14) (.tmp 122) rfl K14.out rfl rfl HT.out rfl ?_; intro w21 hk hg; replace HB := Lib.hid (below_at HB.out hg (by omega) K14.out.lt); replace K10 := Lib.hid (K10.out.grown hg (by omega)); replace K11 := Lib.hid (K11.out.grown hg (by omega)); replace K19 := Lib.hid (K19.out.grown hg (by omega)); replace K21 := Lib.hid (K21.out.grown hg (by omega)); replace K14 := Lib.hid hk; have hz21 := hg.size; clear hk hg)
    | (refine supEqlS (.tmp 132) (.tmp 133) _ rfl rfl rfl HT.out HT.out true (eqS_self _) rfl ?_)
    | (have _t := tp6; go_at_call 105; refine (sLives_any _).mono ?_; rintro e w22 ⟨rfl, hb22⟩; replace K10 := Lib.hid (K10.out.below hb22); replace K11 := Lib.hid (K11.out.below hb22); replace K14 := Lib.hid (K14.out.below hb22); replace K19 := Lib.hid (K19.out.below hb22); replace K21 := Lib.hid (K21.out.below hb22); replace HB := Lib.hid (below_ext HB.out hb22); have hz22 := hb22.size; clear hb22; have tp7 : True := trivial; clear _t tp6))
  go_ret
  exact ⟨rfl, HB.out⟩
theorem sNewest_any (xs : List Int) (hx : xs.length = 64) (wx : Wf8 xs) (ys : List Int) (hy : ys.length = 64) (wy : Wf8 ys) (n : Nat) (hn : n < 18446744073709551616) (m : Nat) (hm : m < 18446744073709551616) (s t : Su) (hs : Wf s.x) (ht : Wf t.x) (is : s.id < 18446744073709551616) (it : t.id < 18446744073709551616) (w : World) :
    Calls Try.prog 30 #[blk xs, blk ys, .int .u64 (n : Int), .int .u64 (m : Int), sup s, sup t] w fun e w' => e = .returned (.bool true) ∧ Below w.heap.size w w' := by
  have P1 := fun w => Newest_S xs ys hx hy wx wy w
  have P2 := fun w => rNewest_S xs ys hx hy wx wy w
  have S1 := fun w => Slot_S xs ys hx hy wx wy w
  have S2 := fun w => rSlot_S xs ys hx hy wx wy w
  have H0 := newS_len (gotS_len xs) (gotS_len ys)
  unfold NewE at P1 P2
  generalize slotS (gotS xs) (gotS ys) = v at S1 S2
  generalize newS (gotS xs) (gotS ys) = r at P1 P2 H0
  obtain ⟨⟨n0, y0⟩, k0⟩ := r
  simp only at P1 P2 H0
  have A1 := fun w => Put_S n hn s hs is w
  have A2 := fun w => Put_S m hm t ht it w
  have lx := Lib.hid (supers_length n s)
  have ly := Lib.hid (supers_length m t)
  by_cases h1 : okS n s = true
  · have e1 : supers n s = (sealed n (sbody s), 0) := if_pos h1
    rw [e1] at A1 lx
    by_cases h2 : okS m t = true
    · have e2 : supers m t = (sealed m (sbody t), 0) := if_pos h2
      rw [e2] at A2 ly
      have wX : Wf8 (sealed n (sbody s)) := sealed_wf _ (sbody_wf s)
      have wY : Wf8 (sealed m (sbody t)) := sealed_wf _ (sbody_wf t)
      have P3 := fun w => Newest_S _ _ lx.out ly.out wX wY w
      have P4 := fun w => Newest_S zeros _ zeros_length ly.out (zeros_wf 64) wY w
      unfold NewE at P3 P4
      rw [gotS_put h1 hs is, gotS_put h2 ht it] at P3
      rw [gotS_put h2 ht it, gotS_zeros] at P4
      rw [show newS ((0, su0), 5) ((m, t), 0) = ((m, t), 0) by simp [newS]] at P4
      by_cases hlt : n < m
      · rw [show newS ((n, s), 0) ((m, t), 0) = ((m, t), 0) by simp [newS, hlt]] at P3
        exact sNewL_C xs ys (Lib.hid hx) (Lib.hid hy) n hn m hm s t (Lib.hid hs.1) (Lib.hid ht.1) n0 y0 (Lib.hid H0) k0 v _ _ lx ly hlt (Lib.hid P1) (Lib.hid P2) (Lib.hid S1) (Lib.hid S2) (Lib.hid A1) (Lib.hid A2) (Lib.hid P3) (Lib.hid P4) w
      · rw [show newS ((n, s), 0) ((m, t), 0) = ((n, s), 0) by simp [newS, hlt]] at P3
        exact sNewL_D xs ys (Lib.hid hx) (Lib.hid hy) n hn m hm s t (Lib.hid hs.1) (Lib.hid ht.1) n0 y0 (Lib.hid H0) k0 v _ _ lx ly hlt (Lib.hid P1) (Lib.hid P2) (Lib.hid S1) (Lib.hid S2) (Lib.hid A1) (Lib.hid A2) (Lib.hid P3) (Lib.hid P4) w
    · have e2 : supers m t = (zeros, 2) := if_neg h2
      rw [e2] at A2 ly
      exact sNewL_G xs ys (Lib.hid hx) (Lib.hid hy) n hn m hm s t (Lib.hid hs.1) (Lib.hid ht.1) n0 y0 (Lib.hid H0) k0 v _ _ lx ly 2 (by decide) (Lib.hid P1) (Lib.hid P2) (Lib.hid S1) (Lib.hid S2) (Lib.hid A1) (Lib.hid A2) w
  · have e1 : supers n s = (zeros, 2) := if_neg h1
    rw [e1] at A1 lx
    exact sNewL_E xs ys (Lib.hid hx) (Lib.hid hy) n hn m hm s t (Lib.hid hs.1) (Lib.hid ht.1) n0 y0 (Lib.hid H0) k0 v _ _ lx ly 2 _ (by decide) (Lib.hid P1) (Lib.hid P2) (Lib.hid S1) (Lib.hid S2) (Lib.hid A1) (Lib.hid A2) w
end Go.Proofs.Ytdchcggllcgokaa.Q

namespace Go.Proofs.Ytdchcggllcgokaa.Q
open Go.RowKit Go.Proofs.Ytdchcggllcgokaa.L Go.Proofs.Ytdchcggllcgokaa.U Go.Proofs.Ytdchcggllcgokaa.E Go.Proofs.Ytdchcggllcgokaa.R Go.Proofs.YtdchcggllcgokaaW.PrintWords
set_option linter.unusedVariables false
set_option linter.unusedSimpArgs false
theorem sNewest_row (l : List Int) (nl : l.length = 64) (hwl : ∀ x ∈ l, (Lit.int .u8 x).wf = true) (k : List Int) (nk : k.length = 64) (hwk : ∀ x ∈ k, (Lit.int .u8 x).wf = true) (n : Int) (wn : (Lit.int .u64 n).wf = true) (m : Int) (wm : (Lit.int .u64 m).wf = true) (pi : Int) (wpi : (Lit.int .u64 pi).wf = true) (pe : Int) (wpe : (Lit.int .i64 pe).wf = true) (pm : Int) (wpm : (Lit.int .i64 pm).wf = true) (ps : Int) (wps : (Lit.int .i64 ps).wf = true) (pr : Int) (wpr : (Lit.int .i64 pr).wf = true) (pb0 : Int) (wpb0 : (Lit.int .u8 pb0).wf = true) (pb1 : Int) (wpb1 : (Lit.int .u8 pb1).wf = true) (pb2 : Int) (wpb2 : (Lit.int .u8 pb2).wf = true) (pb3 : Int) (wpb3 : (Lit.int .u8 pb3).wf = true) (pb4 : Int) (wpb4 : (Lit.int .u8 pb4).wf = true) (pb5 : Int) (wpb5 : (Lit.int .u8 pb5).wf = true) (pb6 : Int) (wpb6 : (Lit.int .u8 pb6).wf = true) (pb7 : Int) (wpb7 : (Lit.int .u8 pb7).wf = true) (pb8 : Int) (wpb8 : (Lit.int .u8 pb8).wf = true) (pb9 : Int) (wpb9 : (Lit.int .u8 pb9).wf = true) (pb10 : Int) (wpb10 : (Lit.int .u8 pb10).wf = true) (pb11 : Int) (wpb11 : (Lit.int .u8 pb11).wf = true) (pb12 : Int) (wpb12 : (Lit.int .u8 pb12).wf = true) (pb13 : Int) (wpb13 : (Lit.int .u8 pb13).wf = true) (pb14 : Int) (wpb14 : (Lit.int .u8 pb14).wf = true) (pb15 : Int) (wpb15 : (Lit.int .u8 pb15).wf = true) (pc : Int) (wpc : (Lit.int .i64 pc).wf = true) (pg : Bool) (qi : Int) (wqi : (Lit.int .u64 qi).wf = true) (qe : Int) (wqe : (Lit.int .i64 qe).wf = true) (qm : Int) (wqm : (Lit.int .i64 qm).wf = true) (qs : Int) (wqs : (Lit.int .i64 qs).wf = true) (qr : Int) (wqr : (Lit.int .i64 qr).wf = true) (qb0 : Int) (wqb0 : (Lit.int .u8 qb0).wf = true) (qb1 : Int) (wqb1 : (Lit.int .u8 qb1).wf = true) (qb2 : Int) (wqb2 : (Lit.int .u8 qb2).wf = true) (qb3 : Int) (wqb3 : (Lit.int .u8 qb3).wf = true) (qb4 : Int) (wqb4 : (Lit.int .u8 qb4).wf = true) (qb5 : Int) (wqb5 : (Lit.int .u8 qb5).wf = true) (qb6 : Int) (wqb6 : (Lit.int .u8 qb6).wf = true) (qb7 : Int) (wqb7 : (Lit.int .u8 qb7).wf = true) (qb8 : Int) (wqb8 : (Lit.int .u8 qb8).wf = true) (qb9 : Int) (wqb9 : (Lit.int .u8 qb9).wf = true) (qb10 : Int) (wqb10 : (Lit.int .u8 qb10).wf = true) (qb11 : Int) (wqb11 : (Lit.int .u8 qb11).wf = true) (qb12 : Int) (wqb12 : (Lit.int .u8 qb12).wf = true) (qb13 : Int) (wqb13 : (Lit.int .u8 qb13).wf = true) (qb14 : Int) (wqb14 : (Lit.int .u8 qb14).wf = true) (qb15 : Int) (wqb15 : (Lit.int .u8 qb15).wf = true) (qc : Int) (wqc : (Lit.int .i64 qc).wf = true) (qg : Bool) (w : World) :
    Calls Try.prog 30 #[blk l, blk k, .int .u64 n, .int .u64 m, .agg #[.int .u64 pi, .int .i64 pe, .int .i64 pm, .int .i64 ps, .int .i64 pr, .int .u8 pb0, .int .u8 pb1, .int .u8 pb2, .int .u8 pb3, .int .u8 pb4, .int .u8 pb5, .int .u8 pb6, .int .u8 pb7, .int .u8 pb8, .int .u8 pb9, .int .u8 pb10, .int .u8 pb11, .int .u8 pb12, .int .u8 pb13, .int .u8 pb14, .int .u8 pb15, .int .i64 pc, .bool pg], .agg #[.int .u64 qi, .int .i64 qe, .int .i64 qm, .int .i64 qs, .int .i64 qr, .int .u8 qb0, .int .u8 qb1, .int .u8 qb2, .int .u8 qb3, .int .u8 qb4, .int .u8 qb5, .int .u8 qb6, .int .u8 qb7, .int .u8 qb8, .int .u8 qb9, .int .u8 qb10, .int .u8 qb11, .int .u8 qb12, .int .u8 qb13, .int .u8 qb14, .int .u8 qb15, .int .i64 qc, .bool qg]] w fun e w' => e = .returned (.bool true) ∧ Below w.heap.size w w' := by
  obtain ⟨n, rfl, hn⟩ := u64_nat wn
  obtain ⟨m, rfl, hm⟩ := u64_nat wm
  obtain ⟨pi, rfl, hpi⟩ := u64_nat wpi
  obtain ⟨qi, rfl, hqi⟩ := u64_nat wqi
  exact sNewest_any l nl hwl k nk hwk n hn m hm ⟨pi, pe, ⟨pm, ps, pr, [pb0, pb1, pb2, pb3, pb4, pb5, pb6, pb7, pb8, pb9, pb10, pb11, pb12, pb13, pb14, pb15], pc, pg⟩⟩ ⟨qi, qe, ⟨qm, qs, qr, [qb0, qb1, qb2, qb3, qb4, qb5, qb6, qb7, qb8, qb9, qb10, qb11, qb12, qb13, qb14, qb15], qc, qg⟩⟩ (swf16 wpb0 wpb1 wpb2 wpb3 wpb4 wpb5 wpb6 wpb7 wpb8 wpb9 wpb10 wpb11 wpb12 wpb13 wpb14 wpb15) (swf16 wqb0 wqb1 wqb2 wqb3 wqb4 wqb5 wqb6 wqb7 wqb8 wqb9 wqb10 wqb11 wqb12 wqb13 wqb14 wqb15) hpi hqi w
end Go.Proofs.Ytdchcggllcgokaa.Q
