/-
  super.newest, Slot: the walks, and whole. super.Newest: the walks, and whole. ashlarref08.Slot, Newest: the walks, and whole.
-/
import Derived.Test.YtdchcggllcgokaaSqQ
import Derived.Test.YtdchcggllcgokaaSqP
import Derived.Deep.RegionHeld3
import Derived.Deep.MidRow
import Derived.StillTail
import Derived.StillTactics
namespace Go.Proofs.Ytdchcggllcgokaa.Q
open Go.RowKit Go.Proofs.Ytdchcggllcgokaa.L Go.Proofs.Ytdchcggllcgokaa.U Go.Proofs.Ytdchcggllcgokaa.E Go.Proofs.Ytdchcggllcgokaa.R Go.Proofs.YtdchcggllcgokaaW.PrintWords
set_option linter.unusedVariables false
set_option linter.unusedSimpArgs false
set_option maxRecDepth 100000 in
set_option maxHeartbeats 4000000 in
theorem Wch_A (xs ys : List Int) (HX : Hid (xs.length = 64)) (HY : Hid (ys.length = 64)) (n m : Nat) (y1 y2 : Su) (H1 : Hid (y1.x.st.length = 16)) (H2 : Hid (y2.x.st.length = 16)) (ea k : Int) (he : (ea != 0) = true) (hk : (k != 0) = true)
    (P1 : Hid (∀ w : World, Calls Try.prog 103 #[blk xs] w fun e w' => e = .returned (.tuple #[.int .u64 (n : Int), sup y1, .int .i64 ea]) ∧ Below w.heap.size w w'))
    (P2 : Hid (∀ w : World, Calls Try.prog 103 #[blk ys] w fun e w' => e = .returned (.tuple #[.int .u64 (m : Int), sup y2, .int .i64 k]) ∧ Below w.heap.size w w')) (w : World) : Calls Try.prog 145 #[blk xs, blk ys] w fun e w' => e = .returned (.tuple #[.int .i64 0, .bool true]) ∧ Below w.heap.size w w' := by
  have HB := Lib.hid (Below.refl w.heap.size w)
  have tok0 : True := trivial
  have tp0 : True := trivial
  go_enter Try.func145, Try.ntmps145
  go_wp2_with (first
    | (go_skip)
    | (refine F.blkBox (.tmp 0) rfl rfl HX.out rfl ?_; intro w1 hk hb1 hz1; replace HB := Lib.hid (below_ext HB.out hb1); have K2 := Lib.hid hk; clear hk hb1)
    | (refine F.blkBox (.tmp 1) rfl rfl HY.out rfl ?_; intro w2 hk hb2 hz2; replace K2 := Lib.hid (K2.out.below hb2); replace HB := Lib.hid (below_ext HB.out hb2); have K3 := Lib.hid hk; clear hk hb2)
    | (refine F.blkLoad (.tmp 2) rfl K2.out rfl rfl ?_)
    | (have _t := tp0; go_at_call 103; refine (P1.out _).mono ?_; rintro e w3 ⟨rfl, hb3⟩; replace K2 := Lib.hid (K2.out.below hb3); replace K3 := Lib.hid (K3.out.below hb3); replace HB := Lib.hid (below_ext HB.out hb3); have hz3 := hb3.size; clear hb3; have tp1 : True := trivial; clear _t tp0)
    | (have _t := tok0; refine supAlloc rfl rfl ?_; intro w4 hk hb4 hz4; replace K2 := Lib.hid (K2.out.below hb4); replace K3 := Lib.hid (K3.out.below hb4); replace HB := Lib.hid (below_ext HB.out hb4); have K7 := Lib.hid hk; clear hk hb4; have tok1 : True := trivial; clear _t tok0)
    | (refine supStore (.tmp 7) (.tmp 16) rfl K7.out rfl rfl H1.out rfl ?_; intro w5 hk hg; replace HB := Lib.hid (below_at HB.out hg (by omega) K7.out.lt); replace K2 := Lib.hid (K2.out.grown hg (by omega)); replace K3 := Lib.hid (K3.out.grown hg (by omega)); replace K7 := Lib.hid hk; have hz5 := hg.size; clear hk hg)
    | (refine F.blkLoad (.tmp 3) rfl K3.out rfl rfl ?_)
    | (have _t := tp1; go_at_call 103; refine (P2.out _).mono ?_; rintro e w6 ⟨rfl, hb6⟩; replace K2 := Lib.hid (K2.out.below hb6); replace K3 := Lib.hid (K3.out.below hb6); replace K7 := Lib.hid (K7.out.below hb6); replace HB := Lib.hid (below_ext HB.out hb6); have hz6 := hb6.size; clear hb6; have tp2 : True := trivial; clear _t tp1)
    | (have _t := tok1; refine supAlloc rfl rfl ?_; intro w7 hk hb7 hz7; replace K2 := Lib.hid (K2.out.below hb7); replace K3 := Lib.hid (K3.out.below hb7); replace K7 := Lib.hid (K7.out.below hb7); replace HB := Lib.hid (below_ext HB.out hb7); have K10 := Lib.hid hk; clear hk hb7; have tok2 : True := trivial; clear _t tok1)
    | (refine supStore (.tmp 10) (.tmp 22) rfl K10.out rfl rfl H2.out rfl ?_; intro w8 hk hg; replace HB := Lib.hid (below_at HB.out hg (by omega) K10.out.lt); replace K2 := Lib.hid (K2.out.grown hg (by omega)); replace K3 := Lib.hid (K3.out.grown hg (by omega)); replace K7 := Lib.hid (K7.out.grown hg (by omega)); replace K10 := Lib.hid hk; have hz8 := hg.size; clear hk hg))
  go_ret2
  exact ⟨rfl, HB.out⟩
set_option maxRecDepth 100000 in
set_option maxHeartbeats 4000000 in
theorem Wch_B (xs ys : List Int) (HX : Hid (xs.length = 64)) (HY : Hid (ys.length = 64)) (n m : Nat) (y1 y2 : Su) (H1 : Hid (y1.x.st.length = 16)) (H2 : Hid (y2.x.st.length = 16)) (ea k : Int) (he : (ea != 0) = true) (he0 : (ea == 0) = false)
    (P1 : Hid (∀ w : World, Calls Try.prog 103 #[blk xs] w fun e w' => e = .returned (.tuple #[.int .u64 (n : Int), sup y1, .int .i64 ea]) ∧ Below w.heap.size w w'))
    (P2 : Hid (∀ w : World, Calls Try.prog 103 #[blk ys] w fun e w' => e = .returned (.tuple #[.int .u64 (m : Int), sup y2, .int .i64 0]) ∧ Below w.heap.size w w')) (w : World) : Calls Try.prog 145 #[blk xs, blk ys] w fun e w' => e = .returned (.tuple #[.int .i64 1, .bool false]) ∧ Below w.heap.size w w' := by
  have HB := Lib.hid (Below.refl w.heap.size w)
  have tok0 : True := trivial
  have tp0 : True := trivial
  go_enter Try.func145, Try.ntmps145
  go_wp2_with (first
    | (go_skip)
    | (refine F.blkBox (.tmp 0) rfl rfl HX.out rfl ?_; intro w1 hk hb1 hz1; replace HB := Lib.hid (below_ext HB.out hb1); have K2 := Lib.hid hk; clear hk hb1)
    | (refine F.blkBox (.tmp 1) rfl rfl HY.out rfl ?_; intro w2 hk hb2 hz2; replace K2 := Lib.hid (K2.out.below hb2); replace HB := Lib.hid (below_ext HB.out hb2); have K3 := Lib.hid hk; clear hk hb2)
    | (refine F.blkLoad (.tmp 2) rfl K2.out rfl rfl ?_)
    | (have _t := tp0; go_at_call 103; refine (P1.out _).mono ?_; rintro e w3 ⟨rfl, hb3⟩; replace K2 := Lib.hid (K2.out.below hb3); replace K3 := Lib.hid (K3.out.below hb3); replace HB := Lib.hid (below_ext HB.out hb3); have hz3 := hb3.size; clear hb3; have tp1 : True := trivial; clear _t tp0)
    | (have _t := tok0; refine supAlloc rfl rfl ?_; intro w4 hk hb4 hz4; replace K2 := Lib.hid (K2.out.below hb4); replace K3 := Lib.hid (K3.out.below hb4); replace HB := Lib.hid (below_ext HB.out hb4); have K7 := Lib.hid hk; clear hk hb4; have tok1 : True := trivial; clear _t tok0)
    | (refine supStore (.tmp 7) (.tmp 16) rfl K7.out rfl rfl H1.out rfl ?_; intro w5 hk hg; replace HB := Lib.hid (below_at HB.out hg (by omega) K7.out.lt); replace K2 := Lib.hid (K2.out.grown hg (by omega)); replace K3 := Lib.hid (K3.out.grown hg (by omega)); replace K7 := Lib.hid hk; have hz5 := hg.size; clear hk hg)
    | (refine F.blkLoad (.tmp 3) rfl K3.out rfl rfl ?_)
    | (have _t := tp1; go_at_call 103; refine (P2.out _).mono ?_; rintro e w6 ⟨rfl, hb6⟩; replace K2 := Lib.hid (K2.out.below hb6); replace K3 := Lib.hid (K3.out.below hb6); replace K7 := Lib.hid (K7.out.below hb6); replace HB := Lib.hid (below_ext HB.out hb6); have hz6 := hb6.size; clear hb6; have tp2 : True := trivial; clear _t tp1)
    | (have _t := tok1; refine supAlloc rfl rfl ?_; intro w7 hk hb7 hz7; replace K2 := Lib.hid (K2.out.below hb7); replace K3 := Lib.hid (K3.out.below hb7); replace K7 := Lib.hid (K7.out.below hb7); replace HB := Lib.hid (below_ext HB.out hb7); have K10 := Lib.hid hk; clear hk hb7; have tok2 : True := trivial; clear _t tok1)
    | (refine supStore (.tmp 10) (.tmp 22) rfl K10.out rfl rfl H2.out rfl ?_; intro w8 hk hg; replace HB := Lib.hid (below_at HB.out hg (by omega) K10.out.lt); replace K2 := Lib.hid (K2.out.grown hg (by omega)); replace K3 := Lib.hid (K3.out.grown hg (by omega)); replace K7 := Lib.hid (K7.out.grown hg (by omega)); replace K10 := Lib.hid hk; have hz8 := hg.size; clear hk hg))
  go_ret2
  exact ⟨rfl, HB.out⟩
set_option maxRecDepth 100000 in
set_option maxHeartbeats 4000000 in
theorem Wch_C (xs ys : List Int) (HX : Hid (xs.length = 64)) (HY : Hid (ys.length = 64)) (n m : Nat) (y1 y2 : Su) (H1 : Hid (y1.x.st.length = 16)) (H2 : Hid (y2.x.st.length = 16)) (ea k : Int) (h : n < m)
    (P1 : Hid (∀ w : World, Calls Try.prog 103 #[blk xs] w fun e w' => e = .returned (.tuple #[.int .u64 (n : Int), sup y1, .int .i64 0]) ∧ Below w.heap.size w w'))
    (P2 : Hid (∀ w : World, Calls Try.prog 103 #[blk ys] w fun e w' => e = .returned (.tuple #[.int .u64 (m : Int), sup y2, .int .i64 0]) ∧ Below w.heap.size w w')) (w : World) : Calls Try.prog 145 #[blk xs, blk ys] w fun e w' => e = .returned (.tuple #[.int .i64 1, .bool false]) ∧ Below w.heap.size w w' := by
  have HB := Lib.hid (Below.refl w.heap.size w)
  have g1 : decide (n < m) = true := by simp; omega
  have g2 : decide ((n : Int) < (m : Int)) = true := by simp; omega
  have g3 : decide (m ≤ n) = false := by simp; omega
  have g4 : decide ((m : Int) ≤ (n : Int)) = false := by simp; omega
  have tok0 : True := trivial
  have tp0 : True := trivial
  go_enter Try.func145, Try.ntmps145
  go_wp2_with (first
    | (go_skip)
    | (refine F.blkBox (.tmp 0) rfl rfl HX.out rfl ?_; intro w1 hk hb1 hz1; replace HB := Lib.hid (below_ext HB.out hb1); have K2 := Lib.hid hk; clear hk hb1)
    | (refine F.blkBox (.tmp 1) rfl rfl HY.out rfl ?_; intro w2 hk hb2 hz2; replace K2 := Lib.hid (K2.out.below hb2); replace HB := Lib.hid (below_ext HB.out hb2); have K3 := Lib.hid hk; clear hk hb2)
    | (refine F.blkLoad (.tmp 2) rfl K2.out rfl rfl ?_)
    | (have _t := tp0; go_at_call 103; refine (P1.out _).mono ?_; rintro e w3 ⟨rfl, hb3⟩; replace K2 := Lib.hid (K2.out.below hb3); replace K3 := Lib.hid (K3.out.below hb3); replace HB := Lib.hid (below_ext HB.out hb3); have hz3 := hb3.size; clear hb3; have tp1 : True := trivial; clear _t tp0)
    | (have _t := tok0; refine supAlloc rfl rfl ?_; intro w4 hk hb4 hz4; replace K2 := Lib.hid (K2.out.below hb4); replace K3 := Lib.hid (K3.out.below hb4); replace HB := Lib.hid (below_ext HB.out hb4); have K7 := Lib.hid hk; clear hk hb4; have tok1 : True := trivial; clear _t tok0)
    | (refine supStore (.tmp 7) (.tmp 16) rfl K7.out rfl rfl H1.out rfl ?_; intro w5 hk hg; replace HB := Lib.hid (below_at HB.out hg (by omega) K7.out.lt); replace K2 := Lib.hid (K2.out.grown hg (by omega)); replace K3 := Lib.hid (K3.out.grown hg (by omega)); replace K7 := Lib.hid hk; have hz5 := hg.size; clear hk hg)
    | (refine F.blkLoad (.tmp 3) rfl K3.out rfl rfl ?_)
    | (have _t := tp1; go_at_call 103; refine (P2.out _).mono ?_; rintro e w6 ⟨rfl, hb6⟩; replace K2 := Lib.hid (K2.out.below hb6); replace K3 := Lib.hid (K3.out.below hb6); replace K7 := Lib.hid (K7.out.below hb6); replace HB := Lib.hid (below_ext HB.out hb6); have hz6 := hb6.size; clear hb6; have tp2 : True := trivial; clear _t tp1)
    | (have _t := tok1; refine supAlloc rfl rfl ?_; intro w7 hk hb7 hz7; replace K2 := Lib.hid (K2.out.below hb7); replace K3 := Lib.hid (K3.out.below hb7); replace K7 := Lib.hid (K7.out.below hb7); replace HB := Lib.hid (below_ext HB.out hb7); have K10 := Lib.hid hk; clear hk hb7; have tok2 : True := trivial; clear _t tok1)
    | (refine supStore (.tmp 10) (.tmp 22) rfl K10.out rfl rfl H2.out rfl ?_; intro w8 hk hg; replace HB := Lib.hid (below_at HB.out hg (by omega) K10.out.lt); replace K2 := Lib.hid (K2.out.grown hg (by omega)); replace K3 := Lib.hid (K3.out.grown hg (by omega)); replace K7 := Lib.hid (K7.out.grown hg (by omega)); replace K10 := Lib.hid hk; have hz8 := hg.size; clear hk hg))
  go_ret2
  exact ⟨rfl, HB.out⟩
set_option maxRecDepth 100000 in
set_option maxHeartbeats 4000000 in
theorem Wch_D (xs ys : List Int) (HX : Hid (xs.length = 64)) (HY : Hid (ys.length = 64)) (n m : Nat) (y1 y2 : Su) (H1 : Hid (y1.x.st.length = 16)) (H2 : Hid (y2.x.st.length = 16)) (ea k : Int) (h : ¬ n < m)
    (P1 : Hid (∀ w : World, Calls Try.prog 103 #[blk xs] w fun e w' => e = .returned (.tuple #[.int .u64 (n : Int), sup y1, .int .i64 0]) ∧ Below w.heap.size w w'))
    (P2 : Hid (∀ w : World, Calls Try.prog 103 #[blk ys] w fun e w' => e = .returned (.tuple #[.int .u64 (m : Int), sup y2, .int .i64 0]) ∧ Below w.heap.size w w')) (w : World) : Calls Try.prog 145 #[blk xs, blk ys] w fun e w' => e = .returned (.tuple #[.int .i64 0, .bool false]) ∧ Below w.heap.size w w' := by
  have HB := Lib.hid (Below.refl w.heap.size w)
  have g1 : decide (n < m) = false := by simp; omega
  have g2 : decide ((n : Int) < (m : Int)) = false := by simp; omega
  have g3 : decide (m ≤ n) = true := by simp; omega
  have g4 : decide ((m : Int) ≤ (n : Int)) = true := by simp; omega
  have tok0 : True := trivial
  have tp0 : True := trivial
  go_enter Try.func145, Try.ntmps145
  go_wp2_with (first
    | (go_skip)
    | (refine F.blkBox (.tmp 0) rfl rfl HX.out rfl ?_; intro w1 hk hb1 hz1; replace HB := Lib.hid (below_ext HB.out hb1); have K2 := Lib.hid hk; clear hk hb1)
    | (refine F.blkBox (.tmp 1) rfl rfl HY.out rfl ?_; intro w2 hk hb2 hz2; replace K2 := Lib.hid (K2.out.below hb2); replace HB := Lib.hid (below_ext HB.out hb2); have K3 := Lib.hid hk; clear hk hb2)
    | (refine F.blkLoad (.tmp 2) rfl K2.out rfl rfl ?_)
    | (have _t := tp0; go_at_call 103; refine (P1.out _).mono ?_; rintro e w3 ⟨rfl, hb3⟩; replace K2 := Lib.hid (K2.out.below hb3); replace K3 := Lib.hid (K3.out.below hb3); replace HB := Lib.hid (below_ext HB.out hb3); have hz3 := hb3.size; clear hb3; have tp1 : True := trivial; clear _t tp0)
    | (have _t := tok0; refine supAlloc rfl rfl ?_; intro w4 hk hb4 hz4; replace K2 := Lib.hid (K2.out.below hb4); replace K3 := Lib.hid (K3.out.below hb4); replace HB := Lib.hid (below_ext HB.out hb4); have K7 := Lib.hid hk; clear hk hb4; have tok1 : True := trivial; clear _t tok0)
    | (refine supStore (.tmp 7) (.tmp 16) rfl K7.out rfl rfl H1.out rfl ?_; intro w5 hk hg; replace HB := Lib.hid (below_at HB.out hg (by omega) K7.out.lt); replace K2 := Lib.hid (K2.out.grown hg (by omega)); replace K3 := Lib.hid (K3.out.grown hg (by omega)); replace K7 := Lib.hid hk; have hz5 := hg.size; clear hk hg)
    | (refine F.blkLoad (.tmp 3) rfl K3.out rfl rfl ?_)
    | (have _t := tp1; go_at_call 103; refine (P2.out _).mono ?_; rintro e w6 ⟨rfl, hb6⟩; replace K2 := Lib.hid (K2.out.below hb6); replace K3 := Lib.hid (K3.out.below hb6); replace K7 := Lib.hid (K7.out.below hb6); replace HB := Lib.hid (below_ext HB.out hb6); have hz6 := hb6.size; clear hb6; have tp2 : True := trivial; clear _t tp1)
    | (have _t := tok1; refine supAlloc rfl rfl ?_; intro w7 hk hb7 hz7; replace K2 := Lib.hid (K2.out.below hb7); replace K3 := Lib.hid (K3.out.below hb7); replace K7 := Lib.hid (K7.out.below hb7); replace HB := Lib.hid (below_ext HB.out hb7); have K10 := Lib.hid hk; clear hk hb7; have tok2 : True := trivial; clear _t tok1)
    | (refine supStore (.tmp 10) (.tmp 22) rfl K10.out rfl rfl H2.out rfl ?_; intro w8 hk hg; replace HB := Lib.hid (below_at HB.out hg (by omega) K10.out.lt); replace K2 := Lib.hid (K2.out.grown hg (by omega)); replace K3 := Lib.hid (K3.out.grown hg (by omega)); replace K7 := Lib.hid (K7.out.grown hg (by omega)); replace K10 := Lib.hid hk; have hz8 := hg.size; clear hk hg))
  go_ret2
  exact ⟨rfl, HB.out⟩
set_option maxRecDepth 100000 in
set_option maxHeartbeats 4000000 in
theorem Wch_E (xs ys : List Int) (HX : Hid (xs.length = 64)) (HY : Hid (ys.length = 64)) (n m : Nat) (y1 y2 : Su) (H1 : Hid (y1.x.st.length = 16)) (H2 : Hid (y2.x.st.length = 16)) (ea k : Int) (hk : (k != 0) = true) (hk0 : (k == 0) = false)
    (P1 : Hid (∀ w : World, Calls Try.prog 103 #[blk xs] w fun e w' => e = .returned (.tuple #[.int .u64 (n : Int), sup y1, .int .i64 0]) ∧ Below w.heap.size w w'))
    (P2 : Hid (∀ w : World, Calls Try.prog 103 #[blk ys] w fun e w' => e = .returned (.tuple #[.int .u64 (m : Int), sup y2, .int .i64 k]) ∧ Below w.heap.size w w')) (w : World) : Calls Try.prog 145 #[blk xs, blk ys] w fun e w' => e = .returned (.tuple #[.int .i64 0, .bool false]) ∧ Below w.heap.size w w' := by
  have HB := Lib.hid (Below.refl w.heap.size w)
  have tok0 : True := trivial
  have tp0 : True := trivial
  go_enter Try.func145, Try.ntmps145
  go_wp2_with (first
    | (go_skip)
    | (refine F.blkBox (.tmp 0) rfl rfl HX.out rfl ?_; intro w1 hk hb1 hz1; replace HB := Lib.hid (below_ext HB.out hb1); have K2 := Lib.hid hk; clear hk hb1)
    | (refine F.blkBox (.tmp 1) rfl rfl HY.out rfl ?_; intro w2 hk hb2 hz2; replace K2 := Lib.hid (K2.out.below hb2); replace HB := Lib.hid (below_ext HB.out hb2); have K3 := Lib.hid hk; clear hk hb2)
    | (refine F.blkLoad (.tmp 2) rfl K2.out rfl rfl ?_)
    | (have _t := tp0; go_at_call 103; refine (P1.out _).mono ?_; rintro e w3 ⟨rfl, hb3⟩; replace K2 := Lib.hid (K2.out.below hb3); replace K3 := Lib.hid (K3.out.below hb3); replace HB := Lib.hid (below_ext HB.out hb3); have hz3 := hb3.size; clear hb3; have tp1 : True := trivial; clear _t tp0)
    | (have _t := tok0; refine supAlloc rfl rfl ?_; intro w4 hk hb4 hz4; replace K2 := Lib.hid (K2.out.below hb4); replace K3 := Lib.hid (K3.out.below hb4); replace HB := Lib.hid (below_ext HB.out hb4); have K7 := Lib.hid hk; clear hk hb4; have tok1 : True := trivial; clear _t tok0)
    | (refine supStore (.tmp 7) (.tmp 16) rfl K7.out rfl rfl H1.out rfl ?_; intro w5 hk hg; replace HB := Lib.hid (below_at HB.out hg (by omega) K7.out.lt); replace K2 := Lib.hid (K2.out.grown hg (by omega)); replace K3 := Lib.hid (K3.out.grown hg (by omega)); replace K7 := Lib.hid hk; have hz5 := hg.size; clear hk hg)
    | (refine F.blkLoad (.tmp 3) rfl K3.out rfl rfl ?_)
    | (have _t := tp1; go_at_call 103; refine (P2.out _).mono ?_; rintro e w6 ⟨rfl, hb6⟩; replace K2 := Lib.hid (K2.out.below hb6); replace K3 := Lib.hid (K3.out.below hb6); replace K7 := Lib.hid (K7.out.below hb6); replace HB := Lib.hid (below_ext HB.out hb6); have hz6 := hb6.size; clear hb6; have tp2 : True := trivial; clear _t tp1)
    | (have _t := tok1; refine supAlloc rfl rfl ?_; intro w7 hk hb7 hz7; replace K2 := Lib.hid (K2.out.below hb7); replace K3 := Lib.hid (K3.out.below hb7); replace K7 := Lib.hid (K7.out.below hb7); replace HB := Lib.hid (below_ext HB.out hb7); have K10 := Lib.hid hk; clear hk hb7; have tok2 : True := trivial; clear _t tok1)
    | (refine supStore (.tmp 10) (.tmp 22) rfl K10.out rfl rfl H2.out rfl ?_; intro w8 hk hg; replace HB := Lib.hid (below_at HB.out hg (by omega) K10.out.lt); replace K2 := Lib.hid (K2.out.grown hg (by omega)); replace K3 := Lib.hid (K3.out.grown hg (by omega)); replace K7 := Lib.hid (K7.out.grown hg (by omega)); replace K10 := Lib.hid hk; have hz8 := hg.size; clear hk hg))
  go_ret2
  exact ⟨rfl, HB.out⟩
theorem newest_any (xs ys : List Int) (hx : xs.length = 64) (hy : ys.length = 64) (wx : Wf8 xs) (wy : Wf8 ys) (w : World) : Calls Try.prog 145 #[blk xs, blk ys] w fun e w' => e = .returned (.tuple #[.int .i64 ((wchS (gotS xs) (gotS ys)).1 : Int), .bool (wchS (gotS xs) (gotS ys)).2]) ∧ Below w.heap.size w w' := by
  have P1 := fun w => Get_S xs hx wx w
  have P2 := fun w => Get_S ys hy wy w
  have H1 := Lib.hid (gotS_len xs)
  have H2 := Lib.hid (gotS_len ys)
  unfold GotE at P1 P2
  obtain ⟨⟨⟨n, y1⟩, ea⟩, h1⟩ : ∃ q, gotS xs = q := ⟨_, rfl⟩
  obtain ⟨⟨⟨m, y2⟩, k⟩, h2⟩ : ∃ q, gotS ys = q := ⟨_, rfl⟩
  rw [h1] at P1 H1 ⊢
  rw [h2] at P2 H2 ⊢
  clear h1 h2
  simp only at P1 P2 H1 H2
  by_cases he : ea = 0
  · subst he
    by_cases hk : k = 0
    · subst hk
      by_cases h : n < m
      · rw [show wchS ((n, y1), 0) ((m, y2), 0) = (1, false) by simp [wchS, h]]
        exact Wch_C xs ys (Lib.hid hx) (Lib.hid hy) n m y1 y2 H1 H2 0 0 h (Lib.hid P1) (Lib.hid P2) w
      · rw [show wchS ((n, y1), 0) ((m, y2), 0) = (0, false) by simp [wchS, h]]
        exact Wch_D xs ys (Lib.hid hx) (Lib.hid hy) n m y1 y2 H1 H2 0 0 h (Lib.hid P1) (Lib.hid P2) w
    · rw [show wchS ((n, y1), 0) ((m, y2), k) = (0, false) by simp [wchS, hk]]
      exact Wch_E xs ys (Lib.hid hx) (Lib.hid hy) n m y1 y2 H1 H2 0 k (by simpa using hk) (by simpa using hk) (Lib.hid P1) (Lib.hid P2) w
  · by_cases hk : k = 0
    · subst hk
      rw [show wchS ((n, y1), ea) ((m, y2), 0) = (1, false) by simp [wchS, he]]
      exact Wch_B xs ys (Lib.hid hx) (Lib.hid hy) n m y1 y2 H1 H2 ea 0 (by simpa using he) (by simpa using he) (Lib.hid P1) (Lib.hid P2) w
    · rw [show wchS ((n, y1), ea) ((m, y2), k) = (0, true) by simp [wchS, he, hk]]
      exact Wch_A xs ys (Lib.hid hx) (Lib.hid hy) n m y1 y2 H1 H2 ea k (by simpa using he) (by simpa using hk) (Lib.hid P1) (Lib.hid P2) w
set_option maxRecDepth 100000 in
set_option maxHeartbeats 4000000 in
theorem Slot_A (xs ys : List Int) (HX : Hid (xs.length = 64)) (HY : Hid (ys.length = 64))
    (PN : Hid (∀ w : World, Calls Try.prog 145 #[blk xs, blk ys] w fun e w' => e = .returned (.tuple #[.int .i64 0, .bool true]) ∧ Below w.heap.size w w')) (w : World) : Calls Try.prog 114 #[blk xs, blk ys] w fun e w' => e = .returned (.int .i64 0) ∧ Below w.heap.size w w' := by
  have HB := Lib.hid (Below.refl w.heap.size w)
  have tok0 : True := trivial
  have tp0 : True := trivial
  go_enter Try.func114, Try.ntmps114
  go_wp2_with (first
    | (go_skip)
    | (refine F.blkBox (.tmp 0) rfl rfl HX.out rfl ?_; intro w1 hk hb1 hz1; replace HB := Lib.hid (below_ext HB.out hb1); have K2 := Lib.hid hk; clear hk hb1)
    | (refine F.blkBox (.tmp 1) rfl rfl HY.out rfl ?_; intro w2 hk hb2 hz2; replace K2 := Lib.hid (K2.out.below hb2); replace HB := Lib.hid (below_ext HB.out hb2); have K3 := Lib.hid hk; clear hk hb2)
    | (refine F.blkLoad (.tmp 2) rfl K2.out rfl rfl ?_)
    | (refine F.blkLoad (.tmp 3) rfl K3.out rfl rfl ?_)
    | (have _t := tp0; go_at_call 145; refine (PN.out _).mono ?_; rintro e w3 ⟨rfl, hb3⟩; replace K2 := Lib.hid (K2.out.below hb3); replace K3 := Lib.hid (K3.out.below hb3); replace HB := Lib.hid (below_ext HB.out hb3); have hz3 := hb3.size; clear hb3; have tp1 : True := trivial; clear _t tp0))
  go_ret
  exact ⟨rfl, HB.out⟩
set_option maxRecDepth 100000 in
set_option maxHeartbeats 4000000 in
theorem Slot_B (xs ys : List Int) (HX : Hid (xs.length = 64)) (HY : Hid (ys.length = 64))
    (PN : Hid (∀ w : World, Calls Try.prog 145 #[blk xs, blk ys] w fun e w' => e = .returned (.tuple #[.int .i64 1, .bool false]) ∧ Below w.heap.size w w')) (w : World) : Calls Try.prog 114 #[blk xs, blk ys] w fun e w' => e = .returned (.int .i64 0) ∧ Below w.heap.size w w' := by
  have HB := Lib.hid (Below.refl w.heap.size w)
  have tok0 : True := trivial
  have tp0 : True := trivial
  go_enter Try.func114, Try.ntmps114
  go_wp2_with (first
    | (go_skip)
    | (refine F.blkBox (.tmp 0) rfl rfl HX.out rfl ?_; intro w1 hk hb1 hz1; replace HB := Lib.hid (below_ext HB.out hb1); have K2 := Lib.hid hk; clear hk hb1)
    | (refine F.blkBox (.tmp 1) rfl rfl HY.out rfl ?_; intro w2 hk hb2 hz2; replace K2 := Lib.hid (K2.out.below hb2); replace HB := Lib.hid (below_ext HB.out hb2); have K3 := Lib.hid hk; clear hk hb2)
    | (refine F.blkLoad (.tmp 2) rfl K2.out rfl rfl ?_)
    | (refine F.blkLoad (.tmp 3) rfl K3.out rfl rfl ?_)
    | (have _t := tp0; go_at_call 145; refine (PN.out _).mono ?_; rintro e w3 ⟨rfl, hb3⟩; replace K2 := Lib.hid (K2.out.below hb3); replace K3 := Lib.hid (K3.out.below hb3); replace HB := Lib.hid (below_ext HB.out hb3); have hz3 := hb3.size; clear hb3; have tp1 : True := trivial; clear _t tp0))
  go_ret
  exact ⟨rfl, HB.out⟩
set_option maxRecDepth 100000 in
set_option maxHeartbeats 4000000 in
theorem Slot_D (xs ys : List Int) (HX : Hid (xs.length = 64)) (HY : Hid (ys.length = 64))
    (PN : Hid (∀ w : World, Calls Try.prog 145 #[blk xs, blk ys] w fun e w' => e = .returned (.tuple #[.int .i64 0, .bool false]) ∧ Below w.heap.size w w')) (w : World) : Calls Try.prog 114 #[blk xs, blk ys] w fun e w' => e = .returned (.int .i64 1) ∧ Below w.heap.size w w' := by
  have HB := Lib.hid (Below.refl w.heap.size w)
  have tok0 : True := trivial
  have tp0 : True := trivial
  go_enter Try.func114, Try.ntmps114
  go_wp2_with (first
    | (go_skip)
    | (refine F.blkBox (.tmp 0) rfl rfl HX.out rfl ?_; intro w1 hk hb1 hz1; replace HB := Lib.hid (below_ext HB.out hb1); have K2 := Lib.hid hk; clear hk hb1)
    | (refine F.blkBox (.tmp 1) rfl rfl HY.out rfl ?_; intro w2 hk hb2 hz2; replace K2 := Lib.hid (K2.out.below hb2); replace HB := Lib.hid (below_ext HB.out hb2); have K3 := Lib.hid hk; clear hk hb2)
    | (refine F.blkLoad (.tmp 2) rfl K2.out rfl rfl ?_)
    | (refine F.blkLoad (.tmp 3) rfl K3.out rfl rfl ?_)
    | (have _t := tp0; go_at_call 145; refine (PN.out _).mono ?_; rintro e w3 ⟨rfl, hb3⟩; replace K2 := Lib.hid (K2.out.below hb3); replace K3 := Lib.hid (K3.out.below hb3); replace HB := Lib.hid (below_ext HB.out hb3); have hz3 := hb3.size; clear hb3; have tp1 : True := trivial; clear _t tp0))
  go_ret
  exact ⟨rfl, HB.out⟩
theorem Slot_S (xs ys : List Int) (hx : xs.length = 64) (hy : ys.length = 64) (wx : Wf8 xs) (wy : Wf8 ys) (w : World) : Calls Try.prog 114 #[blk xs, blk ys] w fun e w' => e = .returned (.int .i64 (slotS (gotS xs) (gotS ys) : Int)) ∧ Below w.heap.size w w' := by
  have PN := fun w => newest_any xs ys hx hy wx wy w
  obtain ⟨⟨⟨n, y1⟩, ea⟩, h1⟩ : ∃ q, gotS xs = q := ⟨_, rfl⟩
  obtain ⟨⟨⟨m, y2⟩, k⟩, h2⟩ : ∃ q, gotS ys = q := ⟨_, rfl⟩
  rw [h1, h2] at PN ⊢
  clear h1 h2
  by_cases he : ea = 0
  · by_cases hk : k = 0
    · by_cases h : n < m
      · rw [show wchS ((n, y1), ea) ((m, y2), k) = (1, false) by simp [wchS, he, hk, h]] at PN
        rw [show slotS ((n, y1), ea) ((m, y2), k) = 0 by simp [slotS, he, hk, h]]
        exact Slot_B xs ys (Lib.hid hx) (Lib.hid hy) (Lib.hid PN) w
      · rw [show wchS ((n, y1), ea) ((m, y2), k) = (0, false) by simp [wchS, he, hk, h]] at PN
        rw [show slotS ((n, y1), ea) ((m, y2), k) = 1 by simp [slotS, he, hk]; omega]
        exact Slot_D xs ys (Lib.hid hx) (Lib.hid hy) (Lib.hid PN) w
    · rw [show wchS ((n, y1), ea) ((m, y2), k) = (0, false) by simp [wchS, he, hk]] at PN
      rw [show slotS ((n, y1), ea) ((m, y2), k) = 1 by simp [slotS, he, hk]]
      exact Slot_D xs ys (Lib.hid hx) (Lib.hid hy) (Lib.hid PN) w
  · rw [show slotS ((n, y1), ea) ((m, y2), k) = 0 by simp [slotS, he]]
    by_cases hk : k = 0
    · rw [show wchS ((n, y1), ea) ((m, y2), k) = (1, false) by simp [wchS, he, hk]] at PN
      exact Slot_B xs ys (Lib.hid hx) (Lib.hid hy) (Lib.hid PN) w
    · rw [show wchS ((n, y1), ea) ((m, y2), k) = (0, true) by simp [wchS, he, hk]] at PN
      exact Slot_A xs ys (Lib.hid hx) (Lib.hid hy) (Lib.hid PN) w
end Go.Proofs.Ytdchcggllcgokaa.Q

namespace Go.Proofs.Ytdchcggllcgokaa.Q
open Go.RowKit Go.Proofs.Ytdchcggllcgokaa.L Go.Proofs.Ytdchcggllcgokaa.U Go.Proofs.Ytdchcggllcgokaa.E Go.Proofs.Ytdchcggllcgokaa.R Go.Proofs.YtdchcggllcgokaaW.PrintWords
set_option linter.unusedVariables false
set_option linter.unusedSimpArgs false
theorem fold_set (off : Nat) : ∀ (vs old : List Value) (k : Nat) (pre post : List Value), pre.length = off + k → old.length = vs.length →
    (vs.zipIdx k).foldl (fun cs (x : Value × Nat) => cs.setIfInBounds (off + x.2) x.1) (pre ++ old ++ post).toArray = (pre ++ vs ++ post).toArray
  | [], old, k, pre, post, hp, ho => by
    have h0 : old = [] := List.eq_nil_of_length_eq_zero (by simpa using ho)
    subst h0; rfl
  | v :: vs, [], k, pre, post, hp, ho => by simp at ho
  | v :: vs, o :: old, k, pre, post, hp, ho => by
    have h1 : (pre ++ (o :: old) ++ post).toArray.setIfInBounds (off + k) v = ((pre ++ [v]) ++ old ++ post).toArray := by
      rw [List.setIfInBounds_toArray, ← hp]
      congr 1
      simp
    have h2 := fold_set off vs old (k + 1) (pre ++ [v]) post (by rw [List.length_append, hp]; simp; omega) (by simpa using ho)
    rw [List.zipIdx_cons, List.foldl_cons, h1, h2]
    congr 1
    simp
theorem fill_one (place : Nat → Option (Nat × Nat)) (i off size : Nat) (hpl : place i = some (off, size)) (pre old post vs : List Value) (hp : pre.length = off) (ho : old.length = size) (hv : vs.length = size) (rest : List (Nat × Value)) :
    Instr.fill place (pre ++ old ++ post).toArray ((i, .agg vs.toArray) :: rest) = Instr.fill place (pre ++ vs ++ post).toArray rest := by
  have h := fold_set off vs old 0 pre post (by omega) (by omega)
  simp only [Instr.fill, hpl]
  rw [if_neg]
  · congr 1
    simp only [Value.cells, List.size_toArray]
    rw [← Array.foldl_toList, Array.toList_zipIdx]
    exact h
  · simp only [Value.cells, List.size_toArray, List.length_append, ne_eq, decide_not, Bool.or_eq_true, Bool.not_eq_eq_eq_not, Bool.not_true, decide_eq_false_iff_not, decide_eq_true_eq]
    omega
theorem built2 (ps : List (Nat × Value)) : Try.prog.built 151 ps = Instr.fill (fun i => some (i * 64, 64)) ([] ++ nums .u8 zeros ++ nums .u8 zeros).toArray ps := by kernel_rfl
def blk2 (xs ys : List Int) : Value := .agg (nums .u8 xs ++ nums .u8 ys).toArray
theorem run_build2 {xs ys : List Int} (hx : xs.length = 64) (hy : ys.length = 64) (w : World) : (Instr.build 151 #[(0, blk xs), (1, blk ys)]).run Try.prog w = .ok (blk2 xs ys) w := by
  refine run_build w _ _ _ ?_
  show Try.prog.built 151 [(0, blk xs), (1, blk ys)] = some (nums .u8 xs ++ nums .u8 ys).toArray
  rw [built2, blk, blk]
  rw [fill_one (fun i => some (i * 64, 64)) 0 0 64 rfl [] (nums .u8 zeros) (nums .u8 zeros) (nums .u8 xs) rfl (by rw [nums_length, zeros_length]) (by rw [nums_length, hx])]
  rw [show ([] ++ nums .u8 xs ++ nums .u8 zeros) = (nums .u8 xs ++ nums .u8 zeros ++ []) by simp]
  rw [fill_one (fun i => some (i * 64, 64)) 1 64 64 rfl (nums .u8 xs) (nums .u8 zeros) [] (nums .u8 ys) (by rw [nums_length, hx]) (by rw [nums_length, zeros_length]) (by rw [nums_length, hy])]
  simp [Instr.fill]
theorem agg_blk (w : World) : (isAgg 50).run Try.prog w = .ok true w := by kernel_rfl
theorem size_blk (w : World) : (sizeOf 50).run Try.prog w = .ok 64 w := by kernel_rfl
theorem run_index2 {xs ys zs : List Int} (hx : xs.length = 64) (hy : ys.length = 64) (i : Nat) (hi : i < 2) (hz : zs = if i = 0 then xs else ys) (w : World) : (Instr.index 151 (blk2 xs ys) (.int .i64 (i : Int))).run Try.prog w = .ok (blk zs) w := by
  have hu : Try.prog.underlying 151 = some (.array 2 50) := by kernel_rfl
  have lx : (nums .u8 xs).length = 64 := by rw [nums_length, hx]
  have ly : (nums .u8 ys).length = 64 := by rw [nums_length, hy]
  have hp : (part 50 (nums .u8 xs ++ nums .u8 ys).toArray (i * 64)).run Try.prog w = .ok (blk zs) w := by
    refine part_agg agg_blk size_blk ?_ w
    rw [List.extract_toArray]
    rcases (by omega : i = 0 ∨ i = 1) with rfl | rfl
    · rw [hz, if_pos rfl]
      simp [List.extract_eq_take_drop, ← lx]
    · rw [hz, if_neg (by decide)]
      simp [List.extract_eq_take_drop]
      rw [List.drop_left' lx, List.take_of_length_le (by omega)]
  simp [Instr.index, blk2, asIntOf, run_underlying hu, hi, size_blk, hp]
section
variable {ops : Array Oper} {rest : List Oper} {op : Oper} {a : Act} {w : World} {Q : Exit → Act → World → Prop}
theorem blk2Build (x y : Operand) (ho : op.op = .build 151 #[(0, x), (1, y)]) {xs ys : List Int} (hx : a.eval x = blk xs) (hy : a.eval y = blk ys) (lx : xs.length = 64) (ly : ys.length = 64) (hw : Region.wanted op (yielded ops a.tmps) = true) (h : wpList Try.prog ops Q rest (a.put op.dst (blk2 xs ys)) w) : wpList Try.prog ops Q (op :: rest) a w := by
  refine wanted_step hw fun K hK => ?_
  unfold Oper.wp execOp
  simp only [ho, List.map_toArray, List.map_cons, List.map_nil, hx, hy, run_build2 lx ly, Sem.run_map, Sem.run_bind, Result.andThen_ok, Sem.run_pure]
  exact hK _ _ h
theorem blk2Index (x y : Operand) (ho : op.op = .index 151 x y) {xs ys zs : List Int} (hx : a.eval x = blk2 xs ys) (i : Nat) (hy : a.eval y = .int .i64 (i : Int)) (lx : xs.length = 64) (ly : ys.length = 64) (hi : i < 2) (hz : zs = if i = 0 then xs else ys) (hw : Region.wanted op (yielded ops a.tmps) = true) (h : wpList Try.prog ops Q rest (a.put op.dst (blk zs)) w) : wpList Try.prog ops Q (op :: rest) a w := by
  refine wanted_step hw fun K hK => ?_
  unfold Oper.wp execOp
  simp only [ho, hx, hy, run_index2 lx ly i hi hz, Sem.run_bind, Result.andThen_ok, Sem.run_pure]
  exact hK _ _ h
end
set_option maxRecDepth 100000 in
set_option maxHeartbeats 4000000 in
theorem sNew_A (xs ys : List Int) (HX : Hid (xs.length = 64)) (HY : Hid (ys.length = 64))
    (PN : Hid (∀ w : World, Calls Try.prog 145 #[blk xs, blk ys] w fun e w' => e = .returned (.tuple #[.int .i64 0, .bool true]) ∧ Below w.heap.size w w')) (w : World) : Calls Try.prog 112 #[blk xs, blk ys] w fun e w' => e = .returned (.tuple #[.int .u64 0, sup su0, .int .i64 7]) ∧ Below w.heap.size w w' := by
  have HB := Lib.hid (Below.refl w.heap.size w)
  have tok0 : True := trivial
  have tp0 : True := trivial
  go_enter Try.func112, Try.ntmps112
  go_wp2_with (first
    | (go_skip)
    | (refine F.blkBox (.tmp 0) rfl rfl HX.out rfl ?_; intro w1 hk hb1 hz1; replace HB := Lib.hid (below_ext HB.out hb1); have K2 := Lib.hid hk; clear hk hb1)
    | (refine F.blkBox (.tmp 1) rfl rfl HY.out rfl ?_; intro w2 hk hb2 hz2; replace K2 := Lib.hid (K2.out.below hb2); replace HB := Lib.hid (below_ext HB.out hb2); have K3 := Lib.hid hk; clear hk hb2)
    | (have _t := tok0; refine supAlloc rfl rfl ?_; intro w3 hk hb3 hz3; replace K2 := Lib.hid (K2.out.below hb3); replace K3 := Lib.hid (K3.out.below hb3); replace HB := Lib.hid (below_ext HB.out hb3); have K5 := Lib.hid hk; clear hk hb3; have tok1 : True := trivial; clear _t tok0)
    | (refine F.blkLoad (.tmp 2) rfl K2.out rfl rfl ?_)
    | (refine F.blkLoad (.tmp 3) rfl K3.out rfl rfl ?_)
    | (have _t := tp0; go_at_call 145; refine (PN.out _).mono ?_; rintro e w4 ⟨rfl, hb4⟩; replace K2 := Lib.hid (K2.out.below hb4); replace K3 := Lib.hid (K3.out.below hb4); replace K5 := Lib.hid (K5.out.below hb4); replace HB := Lib.hid (below_ext HB.out hb4); have hz4 := hb4.size; clear hb4; have tp1 : True := trivial; clear _t tp0)
    | (refine supBuild0 rfl rfl ?_)
    | (refine supStore (.tmp 5) (.tmp 16) rfl K5.out rfl rfl zero16_length rfl ?_; intro w5 hk hg; replace HB := Lib.hid (below_at HB.out hg (by omega) K5.out.lt); replace K2 := Lib.hid (K2.out.grown hg (by omega)); replace K3 := Lib.hid (K3.out.grown hg (by omega)); replace K5 := Lib.hid hk; have hz5 := hg.size; clear hk hg))
  exact bodyPost_ret (v := .tuple #[.int .u64 0, sup su0, .int .i64 7]) (ret_sup rfl _ _ K5.out rfl rfl rfl) rfl ⟨rfl, HB.out⟩
set_option maxRecDepth 100000 in
set_option maxHeartbeats 4000000 in
theorem sNew_B (xs ys : List Int) (HX : Hid (xs.length = 64)) (HY : Hid (ys.length = 64)) (n : Nat) (y1 : Su) (H1 : Hid (y1.x.st.length = 16))
    (PN : Hid (∀ w : World, Calls Try.prog 145 #[blk xs, blk ys] w fun e w' => e = .returned (.tuple #[.int .i64 1, .bool false]) ∧ Below w.heap.size w w'))
    (PX : Hid (∀ w : World, Calls Try.prog 103 #[blk ys] w fun e w' => e = .returned (.tuple #[.int .u64 (n : Int), sup y1, .int .i64 0]) ∧ Below w.heap.size w w')) (w : World) : Calls Try.prog 112 #[blk xs, blk ys] w fun e w' => e = .returned (.tuple #[.int .u64 (n : Int), sup y1, .int .i64 0]) ∧ Below w.heap.size w w' := by
  have HB := Lib.hid (Below.refl w.heap.size w)
  have tok0 : True := trivial
  have tp0 : True := trivial
  go_enter Try.func112, Try.ntmps112
  go_wp2_with (first
    | (go_skip)
    | (refine F.blkBox (.tmp 0) rfl rfl HX.out rfl ?_; intro w1 hk hb1 hz1; replace HB := Lib.hid (below_ext HB.out hb1); have K2 := Lib.hid hk; clear hk hb1)
    | (refine F.blkBox (.tmp 1) rfl rfl HY.out rfl ?_; intro w2 hk hb2 hz2; replace K2 := Lib.hid (K2.out.below hb2); replace HB := Lib.hid (below_ext HB.out hb2); have K3 := Lib.hid hk; clear hk hb2)
    | (have _t := tok0; refine supAlloc rfl rfl ?_; intro w3 hk hb3 hz3; replace K2 := Lib.hid (K2.out.below hb3); replace K3 := Lib.hid (K3.out.below hb3); replace HB := Lib.hid (below_ext HB.out hb3); have K5 := Lib.hid hk; clear hk hb3; have tok1 : True := trivial; clear _t tok0)
    | (refine F.blkLoad (.tmp 2) rfl K2.out rfl rfl ?_)
    | (refine F.blkLoad (.tmp 3) rfl K3.out rfl rfl ?_)
    | (have _t := tp0; go_at_call 145; refine (PN.out _).mono ?_; rintro e w4 ⟨rfl, hb4⟩; replace K2 := Lib.hid (K2.out.below hb4); replace K3 := Lib.hid (K3.out.below hb4); replace K5 := Lib.hid (K5.out.below hb4); replace HB := Lib.hid (below_ext HB.out hb4); have hz4 := hb4.size; clear hb4; have tp1 : True := trivial; clear _t tp0)
    | (refine blk2Build (.tmp 17) (.tmp 18) rfl rfl rfl HX.out HY.out rfl ?_)
    | (refine blk2Index (.tmp 19) (.tmp 20) rfl (zs := ys) rfl 1 rfl HX.out HY.out (by decide) rfl rfl ?_)
    | (have _t := tp1; go_at_call 103; refine (PX.out _).mono ?_; rintro e w5 ⟨rfl, hb5⟩; replace K2 := Lib.hid (K2.out.below hb5); replace K3 := Lib.hid (K3.out.below hb5); replace K5 := Lib.hid (K5.out.below hb5); replace HB := Lib.hid (below_ext HB.out hb5); have hz5 := hb5.size; clear hb5; have tp2 : True := trivial; clear _t tp1)
    | (refine supStore (.tmp 5) (.tmp 24) rfl K5.out rfl rfl H1.out rfl ?_; intro w6 hk hg; replace HB := Lib.hid (below_at HB.out hg (by omega) K5.out.lt); replace K2 := Lib.hid (K2.out.grown hg (by omega)); replace K3 := Lib.hid (K3.out.grown hg (by omega)); replace K5 := Lib.hid hk; have hz6 := hg.size; clear hk hg))
  exact bodyPost_ret (v := .tuple #[.int .u64 (n : Int), sup y1, .int .i64 0]) (ret_sup rfl _ _ K5.out rfl rfl rfl) rfl ⟨rfl, HB.out⟩
set_option maxRecDepth 100000 in
set_option maxHeartbeats 4000000 in
theorem sNew_D (xs ys : List Int) (HX : Hid (xs.length = 64)) (HY : Hid (ys.length = 64)) (n : Nat) (y1 : Su) (H1 : Hid (y1.x.st.length = 16))
    (PN : Hid (∀ w : World, Calls Try.prog 145 #[blk xs, blk ys] w fun e w' => e = .returned (.tuple #[.int .i64 0, .bool false]) ∧ Below w.heap.size w w'))
    (PX : Hid (∀ w : World, Calls Try.prog 103 #[blk xs] w fun e w' => e = .returned (.tuple #[.int .u64 (n : Int), sup y1, .int .i64 0]) ∧ Below w.heap.size w w')) (w : World) : Calls Try.prog 112 #[blk xs, blk ys] w fun e w' => e = .returned (.tuple #[.int .u64 (n : Int), sup y1, .int .i64 0]) ∧ Below w.heap.size w w' := by
  have HB := Lib.hid (Below.refl w.heap.size w)
  have tok0 : True := trivial
  have tp0 : True := trivial
  go_enter Try.func112, Try.ntmps112
  go_wp2_with (first
    | (go_skip)
    | (refine F.blkBox (.tmp 0) rfl rfl HX.out rfl ?_; intro w1 hk hb1 hz1; replace HB := Lib.hid (below_ext HB.out hb1); have K2 := Lib.hid hk; clear hk hb1)
    | (refine F.blkBox (.tmp 1) rfl rfl HY.out rfl ?_; intro w2 hk hb2 hz2; replace K2 := Lib.hid (K2.out.below hb2); replace HB := Lib.hid (below_ext HB.out hb2); have K3 := Lib.hid hk; clear hk hb2)
    | (have _t := tok0; refine supAlloc rfl rfl ?_; intro w3 hk hb3 hz3; replace K2 := Lib.hid (K2.out.below hb3); replace K3 := Lib.hid (K3.out.below hb3); replace HB := Lib.hid (below_ext HB.out hb3); have K5 := Lib.hid hk; clear hk hb3; have tok1 : True := trivial; clear _t tok0)
    | (refine F.blkLoad (.tmp 2) rfl K2.out rfl rfl ?_)
    | (refine F.blkLoad (.tmp 3) rfl K3.out rfl rfl ?_)
    | (have _t := tp0; go_at_call 145; refine (PN.out _).mono ?_; rintro e w4 ⟨rfl, hb4⟩; replace K2 := Lib.hid (K2.out.below hb4); replace K3 := Lib.hid (K3.out.below hb4); replace K5 := Lib.hid (K5.out.below hb4); replace HB := Lib.hid (below_ext HB.out hb4); have hz4 := hb4.size; clear hb4; have tp1 : True := trivial; clear _t tp0)
    | (refine blk2Build (.tmp 17) (.tmp 18) rfl rfl rfl HX.out HY.out rfl ?_)
    | (refine blk2Index (.tmp 19) (.tmp 20) rfl (zs := xs) rfl 0 rfl HX.out HY.out (by decide) rfl rfl ?_)
    | (have _t := tp1; go_at_call 103; refine (PX.out _).mono ?_; rintro e w5 ⟨rfl, hb5⟩; replace K2 := Lib.hid (K2.out.below hb5); replace K3 := Lib.hid (K3.out.below hb5); replace K5 := Lib.hid (K5.out.below hb5); replace HB := Lib.hid (below_ext HB.out hb5); have hz5 := hb5.size; clear hb5; have tp2 : True := trivial; clear _t tp1)
    | (refine supStore (.tmp 5) (.tmp 24) rfl K5.out rfl rfl H1.out rfl ?_; intro w6 hk hg; replace HB := Lib.hid (below_at HB.out hg (by omega) K5.out.lt); replace K2 := Lib.hid (K2.out.grown hg (by omega)); replace K3 := Lib.hid (K3.out.grown hg (by omega)); replace K5 := Lib.hid hk; have hz6 := hg.size; clear hk hg))
  exact bodyPost_ret (v := .tuple #[.int .u64 (n : Int), sup y1, .int .i64 0]) (ret_sup rfl _ _ K5.out rfl rfl rfl) rfl ⟨rfl, HB.out⟩
def NewE (f : Nat) (xs ys : List Int) (w : World) (r : SQ) : Prop := Calls Try.prog f #[blk xs, blk ys] w fun e w' => e = .returned (.tuple #[.int .u64 (r.1.1 : Int), sup r.1.2, .int .i64 r.2]) ∧ Below w.heap.size w w'
theorem Newest_S (xs ys : List Int) (hx : xs.length = 64) (hy : ys.length = 64) (wx : Wf8 xs) (wy : Wf8 ys) (w : World) : NewE 112 xs ys w (newS (gotS xs) (gotS ys)) := by
  have PN := fun w => newest_any xs ys hx hy wx wy w
  have P1 := fun w => Get_S xs hx wx w
  have P2 := fun w => Get_S ys hy wy w
  have H1 := Lib.hid (gotS_len xs)
  have H2 := Lib.hid (gotS_len ys)
  unfold GotE at P1 P2
  obtain ⟨⟨⟨n, y1⟩, ea⟩, h1⟩ : ∃ q, gotS xs = q := ⟨_, rfl⟩
  obtain ⟨⟨⟨m, y2⟩, k⟩, h2⟩ : ∃ q, gotS ys = q := ⟨_, rfl⟩
  rw [h1] at P1 H1 ⊢
  rw [h2] at P2 H2 ⊢
  simp only at P1 P2 H1 H2
  rw [show gotS xs = ((n, y1), ea) from h1, show gotS ys = ((m, y2), k) from h2] at PN
  clear h1 h2
  by_cases he : ea = 0
  · subst he
    by_cases hk : k = 0
    · subst hk
      by_cases h : n < m
      · rw [show wchS ((n, y1), 0) ((m, y2), 0) = (1, false) by simp [wchS, h]] at PN
        rw [show newS ((n, y1), 0) ((m, y2), 0) = ((m, y2), 0) by simp [newS, h]]
        exact sNew_B xs ys (Lib.hid hx) (Lib.hid hy) m y2 H2 (Lib.hid PN) (Lib.hid P2) w
      · rw [show wchS ((n, y1), 0) ((m, y2), 0) = (0, false) by simp [wchS, h]] at PN
        rw [show newS ((n, y1), 0) ((m, y2), 0) = ((n, y1), 0) by simp [newS, h]]
        exact sNew_D xs ys (Lib.hid hx) (Lib.hid hy) n y1 H1 (Lib.hid PN) (Lib.hid P1) w
    · rw [show wchS ((n, y1), 0) ((m, y2), k) = (0, false) by simp [wchS, hk]] at PN
      rw [show newS ((n, y1), 0) ((m, y2), k) = ((n, y1), 0) by simp [newS, hk]]
      exact sNew_D xs ys (Lib.hid hx) (Lib.hid hy) n y1 H1 (Lib.hid PN) (Lib.hid P1) w
  · by_cases hk : k = 0
    · subst hk
      rw [show wchS ((n, y1), ea) ((m, y2), 0) = (1, false) by simp [wchS, he]] at PN
      rw [show newS ((n, y1), ea) ((m, y2), 0) = ((m, y2), 0) by simp [newS, he]]
      exact sNew_B xs ys (Lib.hid hx) (Lib.hid hy) m y2 H2 (Lib.hid PN) (Lib.hid P2) w
    · rw [show wchS ((n, y1), ea) ((m, y2), k) = (0, true) by simp [wchS, he, hk]] at PN
      rw [show newS ((n, y1), ea) ((m, y2), k) = ((0, su0), 7) by simp [newS, he, hk]]
      exact sNew_A xs ys (Lib.hid hx) (Lib.hid hy) (Lib.hid PN) w
end Go.Proofs.Ytdchcggllcgokaa.Q

namespace Go.Proofs.Ytdchcggllcgokaa.Q
open Go.RowKit Go.Proofs.Ytdchcggllcgokaa.L Go.Proofs.Ytdchcggllcgokaa.U Go.Proofs.Ytdchcggllcgokaa.E Go.Proofs.Ytdchcggllcgokaa.R Go.Proofs.YtdchcggllcgokaaW.PrintWords
set_option linter.unusedVariables false
set_option linter.unusedSimpArgs false
set_option maxRecDepth 100000 in
set_option maxHeartbeats 4000000 in
theorem rSlot_C (xs ys : List Int) (HX : Hid (xs.length = 64)) (HY : Hid (ys.length = 64)) (n m : Nat) (y1 y2 : Su) (H1 : Hid (y1.x.st.length = 16)) (H2 : Hid (y2.x.st.length = 16)) (ea k : Int) (h : n < m)
    (P1 : Hid (∀ w : World, Calls Try.prog 104 #[blk xs] w fun e w' => e = .returned (.tuple #[.int .u64 (n : Int), sup y1, .int .i64 0]) ∧ Below w.heap.size w w'))
    (P2 : Hid (∀ w : World, Calls Try.prog 104 #[blk ys] w fun e w' => e = .returned (.tuple #[.int .u64 (m : Int), sup y2, .int .i64 0]) ∧ Below w.heap.size w w')) (w : World) : Calls Try.prog 115 #[blk xs, blk ys] w fun e w' => e = .returned (.int .i64 0) ∧ Below w.heap.size w w' := by
  have HB := Lib.hid (Below.refl w.heap.size w)
  have g1 : decide (n < m) = true := by simp; omega
  have g2 : decide ((n : Int) < (m : Int)) = true := by simp; omega
  have g3 : decide (m ≤ n) = false := by simp; omega
  have g4 : decide ((m : Int) ≤ (n : Int)) = false := by simp; omega
  have tok0 : True := trivial
  have tp0 : True := trivial
  go_enter Try.func115, Try.ntmps115
  go_wp2_with (first
    | (go_skip)
    | (refine F.blkBox (.tmp 0) rfl rfl HX.out rfl ?_; intro w1 hk hb1 hz1; replace HB := Lib.hid (below_ext HB.out hb1); have K2 := Lib.hid hk; clear hk hb1)
    | (refine F.blkBox (.tmp 1) rfl rfl HY.out rfl ?_; intro w2 hk hb2 hz2; replace K2 := Lib.hid (K2.out.below hb2); replace HB := Lib.hid (below_ext HB.out hb2); have K3 := Lib.hid hk; clear hk hb2)
    | (refine F.blkLoad (.tmp 2) rfl K2.out rfl rfl ?_)
    | (have _t := tp0; go_at_call 104; refine (P1.out _).mono ?_; rintro e w3 ⟨rfl, hb3⟩; replace K2 := Lib.hid (K2.out.below hb3); replace K3 := Lib.hid (K3.out.below hb3); replace HB := Lib.hid (below_ext HB.out hb3); have hz3 := hb3.size; clear hb3; have tp1 : True := trivial; clear _t tp0)
    | (have _t := tok0; refine supAlloc rfl rfl ?_; intro w4 hk hb4 hz4; replace K2 := Lib.hid (K2.out.below hb4); replace K3 := Lib.hid (K3.out.below hb4); replace HB := Lib.hid (below_ext HB.out hb4); have K6 := Lib.hid hk; clear hk hb4; have tok1 : True := trivial; clear _t tok0)
    | (refine supStore (.tmp 6) (.tmp 15) rfl K6.out rfl rfl H1.out rfl ?_; intro w5 hk hg; replace HB := Lib.hid (below_at HB.out hg (by omega) K6.out.lt); replace K2 := Lib.hid (K2.out.grown hg (by omega)); replace K3 := Lib.hid (K3.out.grown hg (by omega)); replace K6 := Lib.hid hk; have hz5 := hg.size; clear hk hg)
    | (refine F.blkLoad (.tmp 3) rfl K3.out rfl rfl ?_)
    | (have _t := tp1; go_at_call 104; refine (P2.out _).mono ?_; rintro e w6 ⟨rfl, hb6⟩; replace K2 := Lib.hid (K2.out.below hb6); replace K3 := Lib.hid (K3.out.below hb6); replace K6 := Lib.hid (K6.out.below hb6); replace HB := Lib.hid (below_ext HB.out hb6); have hz6 := hb6.size; clear hb6; have tp2 : True := trivial; clear _t tp1)
    | (have _t := tok1; refine supAlloc rfl rfl ?_; intro w7 hk hb7 hz7; replace K2 := Lib.hid (K2.out.below hb7); replace K3 := Lib.hid (K3.out.below hb7); replace K6 := Lib.hid (K6.out.below hb7); replace HB := Lib.hid (below_ext HB.out hb7); have K9 := Lib.hid hk; clear hk hb7; have tok2 : True := trivial; clear _t tok1)
    | (refine supStore (.tmp 9) (.tmp 21) rfl K9.out rfl rfl H2.out rfl ?_; intro w8 hk hg; replace HB := Lib.hid (below_at HB.out hg (by omega) K9.out.lt); replace K2 := Lib.hid (K2.out.grown hg (by omega)); replace K3 := Lib.hid (K3.out.grown hg (by omega)); replace K6 := Lib.hid (K6.out.grown hg (by omega)); replace K9 := Lib.hid hk; have hz8 := hg.size; clear hk hg))
  go_ret
  exact ⟨rfl, HB.out⟩
set_option maxRecDepth 100000 in
set_option maxHeartbeats 4000000 in
theorem rSlot_D (xs ys : List Int) (HX : Hid (xs.length = 64)) (HY : Hid (ys.length = 64)) (n m : Nat) (y1 y2 : Su) (H1 : Hid (y1.x.st.length = 16)) (H2 : Hid (y2.x.st.length = 16)) (ea k : Int) (h : ¬ n < m)
    (P1 : Hid (∀ w : World, Calls Try.prog 104 #[blk xs] w fun e w' => e = .returned (.tuple #[.int .u64 (n : Int), sup y1, .int .i64 0]) ∧ Below w.heap.size w w'))
    (P2 : Hid (∀ w : World, Calls Try.prog 104 #[blk ys] w fun e w' => e = .returned (.tuple #[.int .u64 (m : Int), sup y2, .int .i64 0]) ∧ Below w.heap.size w w')) (w : World) : Calls Try.prog 115 #[blk xs, blk ys] w fun e w' => e = .returned (.int .i64 1) ∧ Below w.heap.size w w' := by
  have HB := Lib.hid (Below.refl w.heap.size w)
  have g1 : decide (n < m) = false := by simp; omega
  have g2 : decide ((n : Int) < (m : Int)) = false := by simp; omega
  have g3 : decide (m ≤ n) = true := by simp; omega
  have g4 : decide ((m : Int) ≤ (n : Int)) = true := by simp; omega
  have tok0 : True := trivial
  have tp0 : True := trivial
  go_enter Try.func115, Try.ntmps115
  go_wp2_with (first
    | (go_skip)
    | (refine F.blkBox (.tmp 0) rfl rfl HX.out rfl ?_; intro w1 hk hb1 hz1; replace HB := Lib.hid (below_ext HB.out hb1); have K2 := Lib.hid hk; clear hk hb1)
    | (refine F.blkBox (.tmp 1) rfl rfl HY.out rfl ?_; intro w2 hk hb2 hz2; replace K2 := Lib.hid (K2.out.below hb2); replace HB := Lib.hid (below_ext HB.out hb2); have K3 := Lib.hid hk; clear hk hb2)
    | (refine F.blkLoad (.tmp 2) rfl K2.out rfl rfl ?_)
    | (have _t := tp0; go_at_call 104; refine (P1.out _).mono ?_; rintro e w3 ⟨rfl, hb3⟩; replace K2 := Lib.hid (K2.out.below hb3); replace K3 := Lib.hid (K3.out.below hb3); replace HB := Lib.hid (below_ext HB.out hb3); have hz3 := hb3.size; clear hb3; have tp1 : True := trivial; clear _t tp0)
    | (have _t := tok0; refine supAlloc rfl rfl ?_; intro w4 hk hb4 hz4; replace K2 := Lib.hid (K2.out.below hb4); replace K3 := Lib.hid (K3.out.below hb4); replace HB := Lib.hid (below_ext HB.out hb4); have K6 := Lib.hid hk; clear hk hb4; have tok1 : True := trivial; clear _t tok0)
    | (refine supStore (.tmp 6) (.tmp 15) rfl K6.out rfl rfl H1.out rfl ?_; intro w5 hk hg; replace HB := Lib.hid (below_at HB.out hg (by omega) K6.out.lt); replace K2 := Lib.hid (K2.out.grown hg (by omega)); replace K3 := Lib.hid (K3.out.grown hg (by omega)); replace K6 := Lib.hid hk; have hz5 := hg.size; clear hk hg)
    | (refine F.blkLoad (.tmp 3) rfl K3.out rfl rfl ?_)
    | (have _t := tp1; go_at_call 104; refine (P2.out _).mono ?_; rintro e w6 ⟨rfl, hb6⟩; replace K2 := Lib.hid (K2.out.below hb6); replace K3 := Lib.hid (K3.out.below hb6); replace K6 := Lib.hid (K6.out.below hb6); replace HB := Lib.hid (below_ext HB.out hb6); have hz6 := hb6.size; clear hb6; have tp2 : True := trivial; clear _t tp1)
    | (have _t := tok1; refine supAlloc rfl rfl ?_; intro w7 hk hb7 hz7; replace K2 := Lib.hid (K2.out.below hb7); replace K3 := Lib.hid (K3.out.below hb7); replace K6 := Lib.hid (K6.out.below hb7); replace HB := Lib.hid (below_ext HB.out hb7); have K9 := Lib.hid hk; clear hk hb7; have tok2 : True := trivial; clear _t tok1)
    | (refine supStore (.tmp 9) (.tmp 21) rfl K9.out rfl rfl H2.out rfl ?_; intro w8 hk hg; replace HB := Lib.hid (below_at HB.out hg (by omega) K9.out.lt); replace K2 := Lib.hid (K2.out.grown hg (by omega)); replace K3 := Lib.hid (K3.out.grown hg (by omega)); replace K6 := Lib.hid (K6.out.grown hg (by omega)); replace K9 := Lib.hid hk; have hz8 := hg.size; clear hk hg))
  go_ret
  exact ⟨rfl, HB.out⟩
set_option maxRecDepth 100000 in
set_option maxHeartbeats 4000000 in
theorem rSlot_E (xs ys : List Int) (HX : Hid (xs.length = 64)) (HY : Hid (ys.length = 64)) (n m : Nat) (y1 y2 : Su) (H1 : Hid (y1.x.st.length = 16)) (H2 : Hid (y2.x.st.length = 16)) (ea k : Int) (hk : (k != 0) = true) (hk0 : (k == 0) = false)
    (P1 : Hid (∀ w : World, Calls Try.prog 104 #[blk xs] w fun e w' => e = .returned (.tuple #[.int .u64 (n : Int), sup y1, .int .i64 0]) ∧ Below w.heap.size w w'))
    (P2 : Hid (∀ w : World, Calls Try.prog 104 #[blk ys] w fun e w' => e = .returned (.tuple #[.int .u64 (m : Int), sup y2, .int .i64 k]) ∧ Below w.heap.size w w')) (w : World) : Calls Try.prog 115 #[blk xs, blk ys] w fun e w' => e = .returned (.int .i64 1) ∧ Below w.heap.size w w' := by
  have HB := Lib.hid (Below.refl w.heap.size w)
  have tok0 : True := trivial
  have tp0 : True := trivial
  go_enter Try.func115, Try.ntmps115
  go_wp2_with (first
    | (go_skip)
    | (refine F.blkBox (.tmp 0) rfl rfl HX.out rfl ?_; intro w1 hk hb1 hz1; replace HB := Lib.hid (below_ext HB.out hb1); have K2 := Lib.hid hk; clear hk hb1)
    | (refine F.blkBox (.tmp 1) rfl rfl HY.out rfl ?_; intro w2 hk hb2 hz2; replace K2 := Lib.hid (K2.out.below hb2); replace HB := Lib.hid (below_ext HB.out hb2); have K3 := Lib.hid hk; clear hk hb2)
    | (refine F.blkLoad (.tmp 2) rfl K2.out rfl rfl ?_)
    | (have _t := tp0; go_at_call 104; refine (P1.out _).mono ?_; rintro e w3 ⟨rfl, hb3⟩; replace K2 := Lib.hid (K2.out.below hb3); replace K3 := Lib.hid (K3.out.below hb3); replace HB := Lib.hid (below_ext HB.out hb3); have hz3 := hb3.size; clear hb3; have tp1 : True := trivial; clear _t tp0)
    | (have _t := tok0; refine supAlloc rfl rfl ?_; intro w4 hk hb4 hz4; replace K2 := Lib.hid (K2.out.below hb4); replace K3 := Lib.hid (K3.out.below hb4); replace HB := Lib.hid (below_ext HB.out hb4); have K6 := Lib.hid hk; clear hk hb4; have tok1 : True := trivial; clear _t tok0)
    | (refine supStore (.tmp 6) (.tmp 15) rfl K6.out rfl rfl H1.out rfl ?_; intro w5 hk hg; replace HB := Lib.hid (below_at HB.out hg (by omega) K6.out.lt); replace K2 := Lib.hid (K2.out.grown hg (by omega)); replace K3 := Lib.hid (K3.out.grown hg (by omega)); replace K6 := Lib.hid hk; have hz5 := hg.size; clear hk hg)
    | (refine F.blkLoad (.tmp 3) rfl K3.out rfl rfl ?_)
    | (have _t := tp1; go_at_call 104; refine (P2.out _).mono ?_; rintro e w6 ⟨rfl, hb6⟩; replace K2 := Lib.hid (K2.out.below hb6); replace K3 := Lib.hid (K3.out.below hb6); replace K6 := Lib.hid (K6.out.below hb6); replace HB := Lib.hid (below_ext HB.out hb6); have hz6 := hb6.size; clear hb6; have tp2 : True := trivial; clear _t tp1)
    | (have _t := tok1; refine supAlloc rfl rfl ?_; intro w7 hk hb7 hz7; replace K2 := Lib.hid (K2.out.below hb7); replace K3 := Lib.hid (K3.out.below hb7); replace K6 := Lib.hid (K6.out.below hb7); replace HB := Lib.hid (below_ext HB.out hb7); have K9 := Lib.hid hk; clear hk hb7; have tok2 : True := trivial; clear _t tok1)
    | (refine supStore (.tmp 9) (.tmp 21) rfl K9.out rfl rfl H2.out rfl ?_; intro w8 hk hg; replace HB := Lib.hid (below_at HB.out hg (by omega) K9.out.lt); replace K2 := Lib.hid (K2.out.grown hg (by omega)); replace K3 := Lib.hid (K3.out.grown hg (by omega)); replace K6 := Lib.hid (K6.out.grown hg (by omega)); replace K9 := Lib.hid hk; have hz8 := hg.size; clear hk hg))
  go_ret
  exact ⟨rfl, HB.out⟩
set_option maxRecDepth 100000 in
set_option maxHeartbeats 4000000 in
theorem rSlot_B (xs ys : List Int) (HX : Hid (xs.length = 64)) (HY : Hid (ys.length = 64)) (n m : Nat) (y1 y2 : Su) (H1 : Hid (y1.x.st.length = 16)) (H2 : Hid (y2.x.st.length = 16)) (ea k : Int) (he : (ea != 0) = true) (he0 : (ea == 0) = false)
    (P1 : Hid (∀ w : World, Calls Try.prog 104 #[blk xs] w fun e w' => e = .returned (.tuple #[.int .u64 (n : Int), sup y1, .int .i64 ea]) ∧ Below w.heap.size w w'))
    (P2 : Hid (∀ w : World, Calls Try.prog 104 #[blk ys] w fun e w' => e = .returned (.tuple #[.int .u64 (m : Int), sup y2, .int .i64 k]) ∧ Below w.heap.size w w')) (w : World) : Calls Try.prog 115 #[blk xs, blk ys] w fun e w' => e = .returned (.int .i64 0) ∧ Below w.heap.size w w' := by
  have HB := Lib.hid (Below.refl w.heap.size w)
  have tok0 : True := trivial
  have tp0 : True := trivial
  go_enter Try.func115, Try.ntmps115
  go_wp2_with (first
    | (go_skip)
    | (refine F.blkBox (.tmp 0) rfl rfl HX.out rfl ?_; intro w1 hk hb1 hz1; replace HB := Lib.hid (below_ext HB.out hb1); have K2 := Lib.hid hk; clear hk hb1)
    | (refine F.blkBox (.tmp 1) rfl rfl HY.out rfl ?_; intro w2 hk hb2 hz2; replace K2 := Lib.hid (K2.out.below hb2); replace HB := Lib.hid (below_ext HB.out hb2); have K3 := Lib.hid hk; clear hk hb2)
    | (refine F.blkLoad (.tmp 2) rfl K2.out rfl rfl ?_)
    | (have _t := tp0; go_at_call 104; refine (P1.out _).mono ?_; rintro e w3 ⟨rfl, hb3⟩; replace K2 := Lib.hid (K2.out.below hb3); replace K3 := Lib.hid (K3.out.below hb3); replace HB := Lib.hid (below_ext HB.out hb3); have hz3 := hb3.size; clear hb3; have tp1 : True := trivial; clear _t tp0)
    | (have _t := tok0; refine supAlloc rfl rfl ?_; intro w4 hk hb4 hz4; replace K2 := Lib.hid (K2.out.below hb4); replace K3 := Lib.hid (K3.out.below hb4); replace HB := Lib.hid (below_ext HB.out hb4); have K6 := Lib.hid hk; clear hk hb4; have tok1 : True := trivial; clear _t tok0)
    | (refine supStore (.tmp 6) (.tmp 15) rfl K6.out rfl rfl H1.out rfl ?_; intro w5 hk hg; replace HB := Lib.hid (below_at HB.out hg (by omega) K6.out.lt); replace K2 := Lib.hid (K2.out.grown hg (by omega)); replace K3 := Lib.hid (K3.out.grown hg (by omega)); replace K6 := Lib.hid hk; have hz5 := hg.size; clear hk hg)
    | (refine F.blkLoad (.tmp 3) rfl K3.out rfl rfl ?_)
    | (have _t := tp1; go_at_call 104; refine (P2.out _).mono ?_; rintro e w6 ⟨rfl, hb6⟩; replace K2 := Lib.hid (K2.out.below hb6); replace K3 := Lib.hid (K3.out.below hb6); replace K6 := Lib.hid (K6.out.below hb6); replace HB := Lib.hid (below_ext HB.out hb6); have hz6 := hb6.size; clear hb6; have tp2 : True := trivial; clear _t tp1)
    | (have _t := tok1; refine supAlloc rfl rfl ?_; intro w7 hk hb7 hz7; replace K2 := Lib.hid (K2.out.below hb7); replace K3 := Lib.hid (K3.out.below hb7); replace K6 := Lib.hid (K6.out.below hb7); replace HB := Lib.hid (below_ext HB.out hb7); have K9 := Lib.hid hk; clear hk hb7; have tok2 : True := trivial; clear _t tok1)
    | (refine supStore (.tmp 9) (.tmp 21) rfl K9.out rfl rfl H2.out rfl ?_; intro w8 hk hg; replace HB := Lib.hid (below_at HB.out hg (by omega) K9.out.lt); replace K2 := Lib.hid (K2.out.grown hg (by omega)); replace K3 := Lib.hid (K3.out.grown hg (by omega)); replace K6 := Lib.hid (K6.out.grown hg (by omega)); replace K9 := Lib.hid hk; have hz8 := hg.size; clear hk hg))
  go_ret
  exact ⟨rfl, HB.out⟩
theorem rSlot_S (xs ys : List Int) (hx : xs.length = 64) (hy : ys.length = 64) (wx : Wf8 xs) (wy : Wf8 ys) (w : World) : Calls Try.prog 115 #[blk xs, blk ys] w fun e w' => e = .returned (.int .i64 (slotS (gotS xs) (gotS ys) : Int)) ∧ Below w.heap.size w w' := by
  have P1 := fun w => rGet_S xs hx wx w
  have P2 := fun w => rGet_S ys hy wy w
  have H1 := Lib.hid (gotS_len xs)
  have H2 := Lib.hid (gotS_len ys)
  unfold GotE at P1 P2
  obtain ⟨⟨⟨n, y1⟩, ea⟩, h1⟩ : ∃ q, gotS xs = q := ⟨_, rfl⟩
  obtain ⟨⟨⟨m, y2⟩, k⟩, h2⟩ : ∃ q, gotS ys = q := ⟨_, rfl⟩
  rw [h1] at P1 H1 ⊢
  rw [h2] at P2 H2 ⊢
  clear h1 h2
  simp only at P1 P2 H1 H2
  by_cases he : ea = 0
  · subst he
    by_cases hk : k = 0
    · subst hk
      by_cases h : n < m
      · rw [show slotS ((n, y1), 0) ((m, y2), 0) = 0 by simp [slotS, h]]
        exact rSlot_C xs ys (Lib.hid hx) (Lib.hid hy) n m y1 y2 H1 H2 0 0 h (Lib.hid P1) (Lib.hid P2) w
      · rw [show slotS ((n, y1), 0) ((m, y2), 0) = 1 by simp [slotS]; omega]
        exact rSlot_D xs ys (Lib.hid hx) (Lib.hid hy) n m y1 y2 H1 H2 0 0 h (Lib.hid P1) (Lib.hid P2) w
    · rw [show slotS ((n, y1), 0) ((m, y2), k) = 1 by simp [slotS, hk]]
      exact rSlot_E xs ys (Lib.hid hx) (Lib.hid hy) n m y1 y2 H1 H2 0 k (by simpa using hk) (by simpa using hk) (Lib.hid P1) (Lib.hid P2) w
  · rw [show slotS ((n, y1), ea) ((m, y2), k) = 0 by simp [slotS, he]]
    exact rSlot_B xs ys (Lib.hid hx) (Lib.hid hy) n m y1 y2 H1 H2 ea k (by simpa using he) (by simpa using he) (Lib.hid P1) (Lib.hid P2) w
set_option maxRecDepth 100000 in
set_option maxHeartbeats 4000000 in
theorem rsNew_A (xs ys : List Int) (HX : Hid (xs.length = 64)) (HY : Hid (ys.length = 64)) (n m : Nat) (y1 y2 : Su) (H1 : Hid (y1.x.st.length = 16)) (H2 : Hid (y2.x.st.length = 16)) (ea k : Int) (he : (ea != 0) = true) (hk : (k != 0) = true)
    (P1 : Hid (∀ w : World, Calls Try.prog 104 #[blk xs] w fun e w' => e = .returned (.tuple #[.int .u64 (n : Int), sup y1, .int .i64 ea]) ∧ Below w.heap.size w w'))
    (P2 : Hid (∀ w : World, Calls Try.prog 104 #[blk ys] w fun e w' => e = .returned (.tuple #[.int .u64 (m : Int), sup y2, .int .i64 k]) ∧ Below w.heap.size w w')) (w : World) : Calls Try.prog 113 #[blk xs, blk ys] w fun e w' => e = .returned (.tuple #[.int .u64 0, sup su0, .int .i64 7]) ∧ Below w.heap.size w w' := by
  have HB := Lib.hid (Below.refl w.heap.size w)
  have tok0 : True := trivial
  have tp0 : True := trivial
  go_enter Try.func113, Try.ntmps113
  go_wp2_with (first
    | (go_skip)
    | (refine F.blkBox (.tmp 0) rfl rfl HX.out rfl ?_; intro w1 hk hb1 hz1; replace HB := Lib.hid (below_ext HB.out hb1); have K2 := Lib.hid hk; clear hk hb1)
    | (refine F.blkBox (.tmp 1) rfl rfl HY.out rfl ?_; intro w2 hk hb2 hz2; replace K2 := Lib.hid (K2.out.below hb2); replace HB := Lib.hid (below_ext HB.out hb2); have K3 := Lib.hid hk; clear hk hb2)
    | (have _t := tok0; refine supAlloc rfl rfl ?_; intro w3 hk hb3 hz3; replace K2 := Lib.hid (K2.out.below hb3); replace K3 := Lib.hid (K3.out.below hb3); replace HB := Lib.hid (below_ext HB.out hb3); have K5 := Lib.hid hk; clear hk hb3; have tok1 : True := trivial; clear _t tok0)
    | (refine F.blkLoad (.tmp 2) rfl K2.out rfl rfl ?_)
    | (have _t := tp0; go_at_call 104; refine (P1.out _).mono ?_; rintro e w4 ⟨rfl, hb4⟩; replace K2 := Lib.hid (K2.out.below hb4); replace K3 := Lib.hid (K3.out.below hb4); replace K5 := Lib.hid (K5.out.below hb4); replace HB := Lib.hid (below_ext HB.out hb4); have hz4 := hb4.size; clear hb4; have tp1 : True := trivial; clear _t tp0)
    | (have _t := tok1; refine supAlloc rfl rfl ?_; intro w5 hk hb5 hz5; replace K2 := Lib.hid (K2.out.below hb5); replace K3 := Lib.hid (K3.out.below hb5); replace K5 := Lib.hid (K5.out.below hb5); replace HB := Lib.hid (below_ext HB.out hb5); have K8 := Lib.hid hk; clear hk hb5; have tok2 : True := trivial; clear _t tok1)
    | (refine supStore (.tmp 8) (.tmp 17) rfl K8.out rfl rfl H1.out rfl ?_; intro w6 hk hg; replace HB := Lib.hid (below_at HB.out hg (by omega) K8.out.lt); replace K2 := Lib.hid (K2.out.grown hg (by omega)); replace K3 := Lib.hid (K3.out.grown hg (by omega)); replace K5 := Lib.hid (K5.out.grown hg (by omega)); replace K8 := Lib.hid hk; have hz6 := hg.size; clear hk hg)
    | (refine F.blkLoad (.tmp 3) rfl K3.out rfl rfl ?_)
    | (have _t := tp1; go_at_call 104; refine (P2.out _).mono ?_; rintro e w7 ⟨rfl, hb7⟩; replace K2 := Lib.hid (K2.out.below hb7); replace K3 := Lib.hid (K3.out.below hb7); replace K5 := Lib.hid (K5.out.below hb7); replace K8 := Lib.hid (K8.out.below hb7); replace HB := Lib.hid (below_ext HB.out hb7); have hz7 := hb7.size; clear hb7; have tp2 : True := trivial; clear _t tp1)
    | (have _t := tok2; refine supAlloc rfl rfl ?_; intro w8 hk hb8 hz8; replace K2 := Lib.hid (K2.out.below hb8); replace K3 := Lib.hid (K3.out.below hb8); replace K5 := Lib.hid (K5.out.below hb8); replace K8 := Lib.hid (K8.out.below hb8); replace HB := Lib.hid (below_ext HB.out hb8); have K11 := Lib.hid hk; clear hk hb8; have tok3 : True := trivial; clear _t tok2)
    | (refine supStore (.tmp 11) (.tmp 23) rfl K11.out rfl rfl H2.out rfl ?_; intro w9 hk hg; replace HB := Lib.hid (below_at HB.out hg (by omega) K11.out.lt); replace K2 := Lib.hid (K2.out.grown hg (by omega)); replace K3 := Lib.hid (K3.out.grown hg (by omega)); replace K5 := Lib.hid (K5.out.grown hg (by omega)); replace K8 := Lib.hid (K8.out.grown hg (by omega)); replace K11 := Lib.hid hk; have hz9 := hg.size; clear hk hg)
    | (refine supBuild0 rfl rfl ?_)
    | (refine supStore (.tmp 5) (.tmp 31) rfl K5.out rfl rfl zero16_length rfl ?_; intro w10 hk hg; replace HB := Lib.hid (below_at HB.out hg (by omega) K5.out.lt); replace K2 := Lib.hid (K2.out.grown hg (by omega)); replace K3 := Lib.hid (K3.out.grown hg (by omega)); replace K8 := Lib.hid (K8.out.grown hg (by omega)); replace K11 := Lib.hid (K11.out.grown hg (by omega)); replace K5 := Lib.hid hk; have hz10 := hg.size; clear hk hg))
  exact bodyPost_ret (v := .tuple #[.int .u64 0, sup su0, .int .i64 7]) (ret_sup rfl _ _ K5.out rfl rfl rfl) rfl ⟨rfl, HB.out⟩
set_option maxRecDepth 100000 in
set_option maxHeartbeats 4000000 in
theorem rsNew_B (xs ys : List Int) (HX : Hid (xs.length = 64)) (HY : Hid (ys.length = 64)) (n m : Nat) (y1 y2 : Su) (H1 : Hid (y1.x.st.length = 16)) (H2 : Hid (y2.x.st.length = 16)) (ea k : Int) (he : (ea != 0) = true) (he0 : (ea == 0) = false) 
    (P1 : Hid (∀ w : World, Calls Try.prog 104 #[blk xs] w fun e w' => e = .returned (.tuple #[.int .u64 (n : Int), sup y1, .int .i64 ea]) ∧ Below w.heap.size w w'))
    (P2 : Hid (∀ w : World, Calls Try.prog 104 #[blk ys] w fun e w' => e = .returned (.tuple #[.int .u64 (m : Int), sup y2, .int .i64 0]) ∧ Below w.heap.size w w')) (w : World) : Calls Try.prog 113 #[blk xs, blk ys] w fun e w' => e = .returned (.tuple #[.int .u64 (m : Int), sup y2, .int .i64 0]) ∧ Below w.heap.size w w' := by
  have HB := Lib.hid (Below.refl w.heap.size w)
  have tok0 : True := trivial
  have tp0 : True := trivial
  go_enter Try.func113, Try.ntmps113
  go_wp2_with (first
    | (go_skip)
    | (refine F.blkBox (.tmp 0) rfl rfl HX.out rfl ?_; intro w1 hk hb1 hz1; replace HB := Lib.hid (below_ext HB.out hb1); have K2 := Lib.hid hk; clear hk hb1)
    | (refine F.blkBox (.tmp 1) rfl rfl HY.out rfl ?_; intro w2 hk hb2 hz2; replace K2 := Lib.hid (K2.out.below hb2); replace HB := Lib.hid (below_ext HB.out hb2); have K3 := Lib.hid hk; clear hk hb2)
    | (have _t := tok0; refine supAlloc rfl rfl ?_; intro w3 hk hb3 hz3; replace K2 := Lib.hid (K2.out.below hb3); replace K3 := Lib.hid (K3.out.below hb3); replace HB := Lib.hid (below_ext HB.out hb3); have K5 := Lib.hid hk; clear hk hb3; have tok1 : True := trivial; clear _t tok0)
    | (refine F.blkLoad (.tmp 2) rfl K2.out rfl rfl ?_)
    | (have _t := tp0; go_at_call 104; refine (P1.out _).mono ?_; rintro e w4 ⟨rfl, hb4⟩; replace K2 := Lib.hid (K2.out.below hb4); replace K3 := Lib.hid (K3.out.below hb4); replace K5 := Lib.hid (K5.out.below hb4); replace HB := Lib.hid (below_ext HB.out hb4); have hz4 := hb4.size; clear hb4; have tp1 : True := trivial; clear _t tp0)
    | (have _t := tok1; refine supAlloc rfl rfl ?_; intro w5 hk hb5 hz5; replace K2 := Lib.hid (K2.out.below hb5); replace K3 := Lib.hid (K3.out.below hb5); replace K5 := Lib.hid (K5.out.below hb5); replace HB := Lib.hid (below_ext HB.out hb5); have K8 := Lib.hid hk; clear hk hb5; have tok2 : True := trivial; clear _t tok1)
    | (refine supStore (.tmp 8) (.tmp 17) rfl K8.out rfl rfl H1.out rfl ?_; intro w6 hk hg; replace HB := Lib.hid (below_at HB.out hg (by omega) K8.out.lt); replace K2 := Lib.hid (K2.out.grown hg (by omega)); replace K3 := Lib.hid (K3.out.grown hg (by omega)); replace K5 := Lib.hid (K5.out.grown hg (by omega)); replace K8 := Lib.hid hk; have hz6 := hg.size; clear hk hg)
    | (refine F.blkLoad (.tmp 3) rfl K3.out rfl rfl ?_)
    | (have _t := tp1; go_at_call 104; refine (P2.out _).mono ?_; rintro e w7 ⟨rfl, hb7⟩; replace K2 := Lib.hid (K2.out.below hb7); replace K3 := Lib.hid (K3.out.below hb7); replace K5 := Lib.hid (K5.out.below hb7); replace K8 := Lib.hid (K8.out.below hb7); replace HB := Lib.hid (below_ext HB.out hb7); have hz7 := hb7.size; clear hb7; have tp2 : True := trivial; clear _t tp1)
    | (have _t := tok2; refine supAlloc rfl rfl ?_; intro w8 hk hb8 hz8; replace K2 := Lib.hid (K2.out.below hb8); replace K3 := Lib.hid (K3.out.below hb8); replace K5 := Lib.hid (K5.out.below hb8); replace K8 := Lib.hid (K8.out.below hb8); replace HB := Lib.hid (below_ext HB.out hb8); have K11 := Lib.hid hk; clear hk hb8; have tok3 : True := trivial; clear _t tok2)
    | (refine supStore (.tmp 11) (.tmp 23) rfl K11.out rfl rfl H2.out rfl ?_; intro w9 hk hg; replace HB := Lib.hid (below_at HB.out hg (by omega) K11.out.lt); replace K2 := Lib.hid (K2.out.grown hg (by omega)); replace K3 := Lib.hid (K3.out.grown hg (by omega)); replace K5 := Lib.hid (K5.out.grown hg (by omega)); replace K8 := Lib.hid (K8.out.grown hg (by omega)); replace K11 := Lib.hid hk; have hz9 := hg.size; clear hk hg))
  have LK := K11.out.lt
  refine wp_region_still_tail 3 (by kernel_rfl) (by kernel_rfl) ?_
  simp only [List.take_succ_cons, List.take_zero, List.drop_succ_cons, List.drop_zero]
  still_step
  refine sSupLoad (.tmp 11) rfl (K11.out.below (below_drewN (Below.refl _ _) 1)) rfl rfl ?_
  still_step
  refine wpStill_nil ?_
  have hbd := below_drewN HB.out 1
  have K5d := Lib.hid (K5.out.below (below_drewN (Below.refl w9.heap.size w9) 1))
  change wpList _ _ _ _ _ (w9.drewN 1)
  replace HB := Lib.hid hbd
  have hzd : w9.heap.size ≤ (w9.drewN 1).heap.size := Nat.le_refl _
  clear hbd
  generalize w9.drewN 1 = w30 at K5d HB hzd ⊢
  go_wp2_with (first
    | (go_skip)
    | (refine supStore (.tmp 5) (.tmp 44) rfl K5d.out rfl rfl H2.out rfl ?_; intro w31 hk hg; replace HB := Lib.hid (below_at HB.out hg (by omega) K5d.out.lt); replace K5d := Lib.hid hk; clear hk hg))
  exact bodyPost_ret (v := .tuple #[.int .u64 (m : Int), sup y2, .int .i64 0]) (ret_sup rfl _ _ K5d.out rfl rfl rfl) rfl ⟨rfl, HB.out⟩
set_option maxRecDepth 100000 in
set_option maxHeartbeats 4000000 in
theorem rsNew_C (xs ys : List Int) (HX : Hid (xs.length = 64)) (HY : Hid (ys.length = 64)) (n m : Nat) (y1 y2 : Su) (H1 : Hid (y1.x.st.length = 16)) (H2 : Hid (y2.x.st.length = 16)) (ea k : Int) (h : n < m)
    (P1 : Hid (∀ w : World, Calls Try.prog 104 #[blk xs] w fun e w' => e = .returned (.tuple #[.int .u64 (n : Int), sup y1, .int .i64 0]) ∧ Below w.heap.size w w'))
    (P2 : Hid (∀ w : World, Calls Try.prog 104 #[blk ys] w fun e w' => e = .returned (.tuple #[.int .u64 (m : Int), sup y2, .int .i64 0]) ∧ Below w.heap.size w w')) (w : World) : Calls Try.prog 113 #[blk xs, blk ys] w fun e w' => e = .returned (.tuple #[.int .u64 (m : Int), sup y2, .int .i64 0]) ∧ Below w.heap.size w w' := by
  have HB := Lib.hid (Below.refl w.heap.size w)
  have g1 : decide (n < m) = true := by simp; omega
  have g2 : decide ((n : Int) < (m : Int)) = true := by simp; omega
  have g3 : decide (m ≤ n) = false := by simp; omega
  have g4 : decide ((m : Int) ≤ (n : Int)) = false := by simp; omega
  have tok0 : True := trivial
  have tp0 : True := trivial
  go_enter Try.func113, Try.ntmps113
  go_wp2_with (first
    | (go_skip)
    | (refine F.blkBox (.tmp 0) rfl rfl HX.out rfl ?_; intro w1 hk hb1 hz1; replace HB := Lib.hid (below_ext HB.out hb1); have K2 := Lib.hid hk; clear hk hb1)
    | (refine F.blkBox (.tmp 1) rfl rfl HY.out rfl ?_; intro w2 hk hb2 hz2; replace K2 := Lib.hid (K2.out.below hb2); replace HB := Lib.hid (below_ext HB.out hb2); have K3 := Lib.hid hk; clear hk hb2)
    | (have _t := tok0; refine supAlloc rfl rfl ?_; intro w3 hk hb3 hz3; replace K2 := Lib.hid (K2.out.below hb3); replace K3 := Lib.hid (K3.out.below hb3); replace HB := Lib.hid (below_ext HB.out hb3); have K5 := Lib.hid hk; clear hk hb3; have tok1 : True := trivial; clear _t tok0)
    | (refine F.blkLoad (.tmp 2) rfl K2.out rfl rfl ?_)
    | (have _t := tp0; go_at_call 104; refine (P1.out _).mono ?_; rintro e w4 ⟨rfl, hb4⟩; replace K2 := Lib.hid (K2.out.below hb4); replace K3 := Lib.hid (K3.out.below hb4); replace K5 := Lib.hid (K5.out.below hb4); replace HB := Lib.hid (below_ext HB.out hb4); have hz4 := hb4.size; clear hb4; have tp1 : True := trivial; clear _t tp0)
    | (have _t := tok1; refine supAlloc rfl rfl ?_; intro w5 hk hb5 hz5; replace K2 := Lib.hid (K2.out.below hb5); replace K3 := Lib.hid (K3.out.below hb5); replace K5 := Lib.hid (K5.out.below hb5); replace HB := Lib.hid (below_ext HB.out hb5); have K8 := Lib.hid hk; clear hk hb5; have tok2 : True := trivial; clear _t tok1)
    | (refine supStore (.tmp 8) (.tmp 17) rfl K8.out rfl rfl H1.out rfl ?_; intro w6 hk hg; replace HB := Lib.hid (below_at HB.out hg (by omega) K8.out.lt); replace K2 := Lib.hid (K2.out.grown hg (by omega)); replace K3 := Lib.hid (K3.out.grown hg (by omega)); replace K5 := Lib.hid (K5.out.grown hg (by omega)); replace K8 := Lib.hid hk; have hz6 := hg.size; clear hk hg)
    | (refine F.blkLoad (.tmp 3) rfl K3.out rfl rfl ?_)
    | (have _t := tp1; go_at_call 104; refine (P2.out _).mono ?_; rintro e w7 ⟨rfl, hb7⟩; replace K2 := Lib.hid (K2.out.below hb7); replace K3 := Lib.hid (K3.out.below hb7); replace K5 := Lib.hid (K5.out.below hb7); replace K8 := Lib.hid (K8.out.below hb7); replace HB := Lib.hid (below_ext HB.out hb7); have hz7 := hb7.size; clear hb7; have tp2 : True := trivial; clear _t tp1)
    | (have _t := tok2; refine supAlloc rfl rfl ?_; intro w8 hk hb8 hz8; replace K2 := Lib.hid (K2.out.below hb8); replace K3 := Lib.hid (K3.out.below hb8); replace K5 := Lib.hid (K5.out.below hb8); replace K8 := Lib.hid (K8.out.below hb8); replace HB := Lib.hid (below_ext HB.out hb8); have K11 := Lib.hid hk; clear hk hb8; have tok3 : True := trivial; clear _t tok2)
    | (refine supStore (.tmp 11) (.tmp 23) rfl K11.out rfl rfl H2.out rfl ?_; intro w9 hk hg; replace HB := Lib.hid (below_at HB.out hg (by omega) K11.out.lt); replace K2 := Lib.hid (K2.out.grown hg (by omega)); replace K3 := Lib.hid (K3.out.grown hg (by omega)); replace K5 := Lib.hid (K5.out.grown hg (by omega)); replace K8 := Lib.hid (K8.out.grown hg (by omega)); replace K11 := Lib.hid hk; have hz9 := hg.size; clear hk hg))
  have LK := K11.out.lt
  refine wp_region_still_tail 3 (by kernel_rfl) (by kernel_rfl) ?_
  simp only [List.take_succ_cons, List.take_zero, List.drop_succ_cons, List.drop_zero]
  still_step
  refine sSupLoad (.tmp 11) rfl (K11.out.below (below_drewN (Below.refl _ _) 1)) rfl rfl ?_
  still_step
  refine wpStill_nil ?_
  have hbd := below_drewN HB.out 1
  have K5d := Lib.hid (K5.out.below (below_drewN (Below.refl w9.heap.size w9) 1))
  change wpList _ _ _ _ _ (w9.drewN 1)
  replace HB := Lib.hid hbd
  have hzd : w9.heap.size ≤ (w9.drewN 1).heap.size := Nat.le_refl _
  clear hbd
  generalize w9.drewN 1 = w30 at K5d HB hzd ⊢
  go_wp2_with (first
    | (go_skip)
    | (refine supStore (.tmp 5) (.tmp 44) rfl K5d.out rfl rfl H2.out rfl ?_; intro w31 hk hg; replace HB := Lib.hid (below_at HB.out hg (by omega) K5d.out.lt); replace K5d := Lib.hid hk; clear hk hg))
  exact bodyPost_ret (v := .tuple #[.int .u64 (m : Int), sup y2, .int .i64 0]) (ret_sup rfl _ _ K5d.out rfl rfl rfl) rfl ⟨rfl, HB.out⟩
set_option maxRecDepth 100000 in
set_option maxHeartbeats 4000000 in
theorem rsNew_D (xs ys : List Int) (HX : Hid (xs.length = 64)) (HY : Hid (ys.length = 64)) (n m : Nat) (y1 y2 : Su) (H1 : Hid (y1.x.st.length = 16)) (H2 : Hid (y2.x.st.length = 16)) (ea k : Int) (h : ¬ n < m)
    (P1 : Hid (∀ w : World, Calls Try.prog 104 #[blk xs] w fun e w' => e = .returned (.tuple #[.int .u64 (n : Int), sup y1, .int .i64 0]) ∧ Below w.heap.size w w'))
    (P2 : Hid (∀ w : World, Calls Try.prog 104 #[blk ys] w fun e w' => e = .returned (.tuple #[.int .u64 (m : Int), sup y2, .int .i64 0]) ∧ Below w.heap.size w w')) (w : World) : Calls Try.prog 113 #[blk xs, blk ys] w fun e w' => e = .returned (.tuple #[.int .u64 (n : Int), sup y1, .int .i64 0]) ∧ Below w.heap.size w w' := by
  have HB := Lib.hid (Below.refl w.heap.size w)
  have g1 : decide (n < m) = false := by simp; omega
  have g2 : decide ((n : Int) < (m : Int)) = false := by simp; omega
  have g3 : decide (m ≤ n) = true := by simp; omega
  have g4 : decide ((m : Int) ≤ (n : Int)) = true := by simp; omega
  have tok0 : True := trivial
  have tp0 : True := trivial
  go_enter Try.func113, Try.ntmps113
  go_wp2_with (first
    | (go_skip)
    | (refine F.blkBox (.tmp 0) rfl rfl HX.out rfl ?_; intro w1 hk hb1 hz1; replace HB := Lib.hid (below_ext HB.out hb1); have K2 := Lib.hid hk; clear hk hb1)
    | (refine F.blkBox (.tmp 1) rfl rfl HY.out rfl ?_; intro w2 hk hb2 hz2; replace K2 := Lib.hid (K2.out.below hb2); replace HB := Lib.hid (below_ext HB.out hb2); have K3 := Lib.hid hk; clear hk hb2)
    | (have _t := tok0; refine supAlloc rfl rfl ?_; intro w3 hk hb3 hz3; replace K2 := Lib.hid (K2.out.below hb3); replace K3 := Lib.hid (K3.out.below hb3); replace HB := Lib.hid (below_ext HB.out hb3); have K5 := Lib.hid hk; clear hk hb3; have tok1 : True := trivial; clear _t tok0)
    | (refine F.blkLoad (.tmp 2) rfl K2.out rfl rfl ?_)
    | (have _t := tp0; go_at_call 104; refine (P1.out _).mono ?_; rintro e w4 ⟨rfl, hb4⟩; replace K2 := Lib.hid (K2.out.below hb4); replace K3 := Lib.hid (K3.out.below hb4); replace K5 := Lib.hid (K5.out.below hb4); replace HB := Lib.hid (below_ext HB.out hb4); have hz4 := hb4.size; clear hb4; have tp1 : True := trivial; clear _t tp0)
    | (have _t := tok1; refine supAlloc rfl rfl ?_; intro w5 hk hb5 hz5; replace K2 := Lib.hid (K2.out.below hb5); replace K3 := Lib.hid (K3.out.below hb5); replace K5 := Lib.hid (K5.out.below hb5); replace HB := Lib.hid (below_ext HB.out hb5); have K8 := Lib.hid hk; clear hk hb5; have tok2 : True := trivial; clear _t tok1)
    | (refine supStore (.tmp 8) (.tmp 17) rfl K8.out rfl rfl H1.out rfl ?_; intro w6 hk hg; replace HB := Lib.hid (below_at HB.out hg (by omega) K8.out.lt); replace K2 := Lib.hid (K2.out.grown hg (by omega)); replace K3 := Lib.hid (K3.out.grown hg (by omega)); replace K5 := Lib.hid (K5.out.grown hg (by omega)); replace K8 := Lib.hid hk; have hz6 := hg.size; clear hk hg)
    | (refine F.blkLoad (.tmp 3) rfl K3.out rfl rfl ?_)
    | (have _t := tp1; go_at_call 104; refine (P2.out _).mono ?_; rintro e w7 ⟨rfl, hb7⟩; replace K2 := Lib.hid (K2.out.below hb7); replace K3 := Lib.hid (K3.out.below hb7); replace K5 := Lib.hid (K5.out.below hb7); replace K8 := Lib.hid (K8.out.below hb7); replace HB := Lib.hid (below_ext HB.out hb7); have hz7 := hb7.size; clear hb7; have tp2 : True := trivial; clear _t tp1)
    | (have _t := tok2; refine supAlloc rfl rfl ?_; intro w8 hk hb8 hz8; replace K2 := Lib.hid (K2.out.below hb8); replace K3 := Lib.hid (K3.out.below hb8); replace K5 := Lib.hid (K5.out.below hb8); replace K8 := Lib.hid (K8.out.below hb8); replace HB := Lib.hid (below_ext HB.out hb8); have K11 := Lib.hid hk; clear hk hb8; have tok3 : True := trivial; clear _t tok2)
    | (refine supStore (.tmp 11) (.tmp 23) rfl K11.out rfl rfl H2.out rfl ?_; intro w9 hk hg; replace HB := Lib.hid (below_at HB.out hg (by omega) K11.out.lt); replace K2 := Lib.hid (K2.out.grown hg (by omega)); replace K3 := Lib.hid (K3.out.grown hg (by omega)); replace K5 := Lib.hid (K5.out.grown hg (by omega)); replace K8 := Lib.hid (K8.out.grown hg (by omega)); replace K11 := Lib.hid hk; have hz9 := hg.size; clear hk hg))
  have LK := K8.out.lt
  refine wp_region_still_tail 3 (by kernel_rfl) (by kernel_rfl) ?_
  simp only [List.take_succ_cons, List.take_zero, List.drop_succ_cons, List.drop_zero]
  still_step
  refine sSupLoad (.tmp 8) rfl (K8.out.below (below_drewN (Below.refl _ _) 1)) rfl rfl ?_
  still_step
  refine wpStill_nil ?_
  have hbd := below_drewN HB.out 1
  have K5d := Lib.hid (K5.out.below (below_drewN (Below.refl w9.heap.size w9) 1))
  change wpList _ _ _ _ _ (w9.drewN 1)
  replace HB := Lib.hid hbd
  have hzd : w9.heap.size ≤ (w9.drewN 1).heap.size := Nat.le_refl _
  clear hbd
  generalize w9.drewN 1 = w30 at K5d HB hzd ⊢
  go_wp2_with (first
    | (go_skip)
    | (refine supStore (.tmp 5) (.tmp 46) rfl K5d.out rfl rfl H1.out rfl ?_; intro w31 hk hg; replace HB := Lib.hid (below_at HB.out hg (by omega) K5d.out.lt); replace K5d := Lib.hid hk; clear hk hg))
  exact bodyPost_ret (v := .tuple #[.int .u64 (n : Int), sup y1, .int .i64 0]) (ret_sup rfl _ _ K5d.out rfl rfl rfl) rfl ⟨rfl, HB.out⟩
set_option maxRecDepth 100000 in
set_option maxHeartbeats 4000000 in
theorem rsNew_E (xs ys : List Int) (HX : Hid (xs.length = 64)) (HY : Hid (ys.length = 64)) (n m : Nat) (y1 y2 : Su) (H1 : Hid (y1.x.st.length = 16)) (H2 : Hid (y2.x.st.length = 16)) (ea k : Int) (hk : (k != 0) = true) (hk0 : (k == 0) = false)
    (P1 : Hid (∀ w : World, Calls Try.prog 104 #[blk xs] w fun e w' => e = .returned (.tuple #[.int .u64 (n : Int), sup y1, .int .i64 0]) ∧ Below w.heap.size w w'))
    (P2 : Hid (∀ w : World, Calls Try.prog 104 #[blk ys] w fun e w' => e = .returned (.tuple #[.int .u64 (m : Int), sup y2, .int .i64 k]) ∧ Below w.heap.size w w')) (w : World) : Calls Try.prog 113 #[blk xs, blk ys] w fun e w' => e = .returned (.tuple #[.int .u64 (n : Int), sup y1, .int .i64 0]) ∧ Below w.heap.size w w' := by
  have HB := Lib.hid (Below.refl w.heap.size w)
  have tok0 : True := trivial
  have tp0 : True := trivial
  go_enter Try.func113, Try.ntmps113
  go_wp2_with (first
    | (go_skip)
    | (refine F.blkBox (.tmp 0) rfl rfl HX.out rfl ?_; intro w1 hk hb1 hz1; replace HB := Lib.hid (below_ext HB.out hb1); have K2 := Lib.hid hk; clear hk hb1)
    | (refine F.blkBox (.tmp 1) rfl rfl HY.out rfl ?_; intro w2 hk hb2 hz2; replace K2 := Lib.hid (K2.out.below hb2); replace HB := Lib.hid (below_ext HB.out hb2); have K3 := Lib.hid hk; clear hk hb2)
    | (have _t := tok0; refine supAlloc rfl rfl ?_; intro w3 hk hb3 hz3; replace K2 := Lib.hid (K2.out.below hb3); replace K3 := Lib.hid (K3.out.below hb3); replace HB := Lib.hid (below_ext HB.out hb3); have K5 := Lib.hid hk; clear hk hb3; have tok1 : True := trivial; clear _t tok0)
    | (refine F.blkLoad (.tmp 2) rfl K2.out rfl rfl ?_)
    | (have _t := tp0; go_at_call 104; refine (P1.out _).mono ?_; rintro e w4 ⟨rfl, hb4⟩; replace K2 := Lib.hid (K2.out.below hb4); replace K3 := Lib.hid (K3.out.below hb4); replace K5 := Lib.hid (K5.out.below hb4); replace HB := Lib.hid (below_ext HB.out hb4); have hz4 := hb4.size; clear hb4; have tp1 : True := trivial; clear _t tp0)
    | (have _t := tok1; refine supAlloc rfl rfl ?_; intro w5 hk hb5 hz5; replace K2 := Lib.hid (K2.out.below hb5); replace K3 := Lib.hid (K3.out.below hb5); replace K5 := Lib.hid (K5.out.below hb5); replace HB := Lib.hid (below_ext HB.out hb5); have K8 := Lib.hid hk; clear hk hb5; have tok2 : True := trivial; clear _t tok1)
    | (refine supStore (.tmp 8) (.tmp 17) rfl K8.out rfl rfl H1.out rfl ?_; intro w6 hk hg; replace HB := Lib.hid (below_at HB.out hg (by omega) K8.out.lt); replace K2 := Lib.hid (K2.out.grown hg (by omega)); replace K3 := Lib.hid (K3.out.grown hg (by omega)); replace K5 := Lib.hid (K5.out.grown hg (by omega)); replace K8 := Lib.hid hk; have hz6 := hg.size; clear hk hg)
    | (refine F.blkLoad (.tmp 3) rfl K3.out rfl rfl ?_)
    | (have _t := tp1; go_at_call 104; refine (P2.out _).mono ?_; rintro e w7 ⟨rfl, hb7⟩; replace K2 := Lib.hid (K2.out.below hb7); replace K3 := Lib.hid (K3.out.below hb7); replace K5 := Lib.hid (K5.out.below hb7); replace K8 := Lib.hid (K8.out.below hb7); replace HB := Lib.hid (below_ext HB.out hb7); have hz7 := hb7.size; clear hb7; have tp2 : True := trivial; clear _t tp1)
    | (have _t := tok2; refine supAlloc rfl rfl ?_; intro w8 hk hb8 hz8; replace K2 := Lib.hid (K2.out.below hb8); replace K3 := Lib.hid (K3.out.below hb8); replace K5 := Lib.hid (K5.out.below hb8); replace K8 := Lib.hid (K8.out.below hb8); replace HB := Lib.hid (below_ext HB.out hb8); have K11 := Lib.hid hk; clear hk hb8; have tok3 : True := trivial; clear _t tok2)
    | (refine supStore (.tmp 11) (.tmp 23) rfl K11.out rfl rfl H2.out rfl ?_; intro w9 hk hg; replace HB := Lib.hid (below_at HB.out hg (by omega) K11.out.lt); replace K2 := Lib.hid (K2.out.grown hg (by omega)); replace K3 := Lib.hid (K3.out.grown hg (by omega)); replace K5 := Lib.hid (K5.out.grown hg (by omega)); replace K8 := Lib.hid (K8.out.grown hg (by omega)); replace K11 := Lib.hid hk; have hz9 := hg.size; clear hk hg))
  have LK := K8.out.lt
  refine wp_region_still_tail 3 (by kernel_rfl) (by kernel_rfl) ?_
  simp only [List.take_succ_cons, List.take_zero, List.drop_succ_cons, List.drop_zero]
  still_step
  refine sSupLoad (.tmp 8) rfl (K8.out.below (below_drewN (Below.refl _ _) 1)) rfl rfl ?_
  still_step
  refine wpStill_nil ?_
  have hbd := below_drewN HB.out 1
  have K5d := Lib.hid (K5.out.below (below_drewN (Below.refl w9.heap.size w9) 1))
  change wpList _ _ _ _ _ (w9.drewN 1)
  replace HB := Lib.hid hbd
  have hzd : w9.heap.size ≤ (w9.drewN 1).heap.size := Nat.le_refl _
  clear hbd
  generalize w9.drewN 1 = w30 at K5d HB hzd ⊢
  go_wp2_with (first
    | (go_skip)
    | (refine supStore (.tmp 5) (.tmp 46) rfl K5d.out rfl rfl H1.out rfl ?_; intro w31 hk hg; replace HB := Lib.hid (below_at HB.out hg (by omega) K5d.out.lt); replace K5d := Lib.hid hk; clear hk hg))
  exact bodyPost_ret (v := .tuple #[.int .u64 (n : Int), sup y1, .int .i64 0]) (ret_sup rfl _ _ K5d.out rfl rfl rfl) rfl ⟨rfl, HB.out⟩
theorem rNewest_S (xs ys : List Int) (hx : xs.length = 64) (hy : ys.length = 64) (wx : Wf8 xs) (wy : Wf8 ys) (w : World) : NewE 113 xs ys w (newS (gotS xs) (gotS ys)) := by
  have P1 := fun w => rGet_S xs hx wx w
  have P2 := fun w => rGet_S ys hy wy w
  have H1 := Lib.hid (gotS_len xs)
  have H2 := Lib.hid (gotS_len ys)
  unfold GotE at P1 P2
  obtain ⟨⟨⟨n, y1⟩, ea⟩, h1⟩ : ∃ q, gotS xs = q := ⟨_, rfl⟩
  obtain ⟨⟨⟨m, y2⟩, k⟩, h2⟩ : ∃ q, gotS ys = q := ⟨_, rfl⟩
  rw [h1] at P1 H1 ⊢
  rw [h2] at P2 H2 ⊢
  clear h1 h2
  simp only at P1 P2 H1 H2
  by_cases he : ea = 0
  · subst he
    by_cases hk : k = 0
    · subst hk
      by_cases h : n < m
      · rw [show newS ((n, y1), 0) ((m, y2), 0) = ((m, y2), 0) by simp [newS, h]]
        exact rsNew_C xs ys (Lib.hid hx) (Lib.hid hy) n m y1 y2 H1 H2 0 0 h (Lib.hid P1) (Lib.hid P2) w
      · rw [show newS ((n, y1), 0) ((m, y2), 0) = ((n, y1), 0) by simp [newS, h]]
        exact rsNew_D xs ys (Lib.hid hx) (Lib.hid hy) n m y1 y2 H1 H2 0 0 h (Lib.hid P1) (Lib.hid P2) w
    · rw [show newS ((n, y1), 0) ((m, y2), k) = ((n, y1), 0) by simp [newS, hk]]
      exact rsNew_E xs ys (Lib.hid hx) (Lib.hid hy) n m y1 y2 H1 H2 0 k (by simpa using hk) (by simpa using hk) (Lib.hid P1) (Lib.hid P2) w
  · by_cases hk : k = 0
    · subst hk
      rw [show newS ((n, y1), ea) ((m, y2), 0) = ((m, y2), 0) by simp [newS, he]]
      exact rsNew_B xs ys (Lib.hid hx) (Lib.hid hy) n m y1 y2 H1 H2 ea 0 (by simpa using he) (by simpa using he) (Lib.hid P1) (Lib.hid P2) w
    · rw [show newS ((n, y1), ea) ((m, y2), k) = ((0, su0), 7) by simp [newS, he, hk]]
      exact rsNew_A xs ys (Lib.hid hx) (Lib.hid hy) n m y1 y2 H1 H2 ea k (by simpa using he) (by simpa using hk) (Lib.hid P1) (Lib.hid P2) w
end Go.Proofs.Ytdchcggllcgokaa.Q
