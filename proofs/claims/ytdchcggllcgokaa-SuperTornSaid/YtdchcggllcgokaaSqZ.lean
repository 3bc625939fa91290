/-
  ashlarlaw08.SuperTorn: walks ln. ashlarlaw08.SuperTorn: walks go. ashlarlaw08.SuperTorn: walks gn. ashlarlaw08.SuperTorn whole. ashlarlaw08.SuperTorn: the contract for the row.
-/
import Derived.Test.YtdchcggllcgokaaSqY
import Derived.Deep.RegionHeld3
import Derived.Deep.MidRow
import Derived.Test.YtdchcggllcgokaaSqU
namespace Go.Proofs.Ytdchcggllcgokaa.Q
open Go.RowKit Go.Proofs.Ytdchcggllcgokaa.L Go.Proofs.Ytdchcggllcgokaa.U Go.Proofs.Ytdchcggllcgokaa.E Go.Proofs.Ytdchcggllcgokaa.R Go.Proofs.YtdchcggllcgokaaW.PrintWords
set_option linter.unusedVariables false
set_option linter.unusedSimpArgs false
set_option maxRecDepth 100000 in
set_option maxHeartbeats 4000000 in
theorem sTorn_ln (n : Nat) (nl : n < 18446744073709551616) (m : Nat) (ml : m < 18446744073709551616) (s t nx : Su) (HS : Hid (s.x.st.length = 16)) (HT : Hid (t.x.st.length = 16)) (HN : Hid (nx.x.st.length = 16)) (z : Nat) (zl : z < 256) (q : Int) (M v1 ev : Nat) (el : ev < 18446744073709551616) (hM : Hid (max n m = M)) (hv1 : Hid ((M + 1) % 18446744073709551616 = v1)) (hev : Hid ((v1 + z) % 18446744073709551616 = ev)) (X Y Z : List Int) (HX : Hid (X.length = 64)) (HY : Hid (Y.length = 64)) (HZ : Hid (Z.length = 64)) (T : List Int) (HTl : Hid (T.length = 64)) (hlt : n < m) (hq0 : 0 < q)
    (A1 : Hid (∀ w : World, Calls Try.prog 106 #[.int .u64 (n : Int), sup s] w fun e w' => e = .returned (.tuple #[blk X, .int .i64 0]) ∧ Below w.heap.size w w'))
    (A2 : Hid (∀ w : World, Calls Try.prog 106 #[.int .u64 (m : Int), sup t] w fun e w' => e = .returned (.tuple #[blk Y, .int .i64 0]) ∧ Below w.heap.size w w'))
    (A3 : Hid (∀ w : World, Calls Try.prog 106 #[.int .u64 (ev : Int), sup nx] w fun e w' => e = .returned (.tuple #[blk Z, .int .i64 0]) ∧ Below w.heap.size w w'))
    (S1 : Hid (∀ w : World, Calls Try.prog 114 #[blk X, blk Y] w fun e w' => e = .returned (.int .i64 0) ∧ Below w.heap.size w w'))
    (T1 : Hid (∀ w : World, Calls Try.prog 63 #[blk X, blk Z, .int .i64 q] w fun e w' => e = .returned (blk T) ∧ Below w.heap.size w w'))
    (P3 : Hid (∀ w : World, Calls Try.prog 112 #[blk T, blk Y] w fun e w' => e = .returned (.tuple #[.int .u64 (ev : Int), sup nx, .int .i64 0]) ∧ Below w.heap.size w w')) (w : World) : Calls Try.prog 31 #[.int .u64 (n : Int), .int .u64 (m : Int), sup s, sup t, sup nx, .int .u8 (z : Int), .int .i64 q] w fun e w' => e = .returned (.bool true) ∧ Below w.heap.size w w' := by
  have HB := Lib.hid (Below.refl w.heap.size w)
  have f1 : (n == m) = false := by simp; omega
  have f2 : ((n : Int) == (m : Int)) = false := by simp; omega
  have g1 : decide (n < m) = true := by simp; omega
  have g2 : decide ((n : Int) < (m : Int)) = true := by simp; omega
  have g3 : decide (m < n) = false := by simp; omega
  have g4 : decide ((m : Int) < (n : Int)) = false := by simp; omega
  have f3 : decide (0 < q) = true := by simpa using hq0
  have tok0 : True := trivial
  have tp0 : True := trivial
  go_enter Try.func31, Try.ntmps31
  go_wp2_with (first
    | (go_skip)
    | (refine supBox (.tmp 2) rfl rfl HS.out rfl ?_; intro w1 hk hb1 hz1; replace HB := Lib.hid (below_ext HB.out hb1); have K9 := Lib.hid hk; clear hk hb1)
    | (refine supBox (.tmp 3) rfl rfl HT.out rfl ?_; intro w2 hk hb2 hz2; replace K9 := Lib.hid (K9.out.below hb2); replace HB := Lib.hid (below_ext HB.out hb2); have K10 := Lib.hid hk; clear hk hb2)
    | (refine supBox (.tmp 4) rfl rfl HN.out rfl ?_; intro w3 hk hb3 hz3; replace K9 := Lib.hid (K9.out.below hb3); replace K10 := Lib.hid (K10.out.below hb3); replace HB := Lib.hid (below_ext HB.out hb3); have K11 := Lib.hid hk; clear hk hb3)
    | (refine supLoad (.tmp 9) rfl K9.out rfl rfl ?_)
    | (have _t := tp0; go_at_call 106; refine (A1.out _).mono ?_; rintro e w4 ⟨rfl, hb4⟩; replace K9 := Lib.hid (K9.out.below hb4); replace K10 := Lib.hid (K10.out.below hb4); replace K11 := Lib.hid (K11.out.below hb4); replace HB := Lib.hid (below_ext HB.out hb4); have hz4 := hb4.size; clear hb4; have tp1 : True := trivial; clear _t tp0)
    | (have _t := tok0; refine F.blkAlloc rfl rfl ?_; intro w5 hk hb5 hz5; replace K9 := Lib.hid (K9.out.below hb5); replace K10 := Lib.hid (K10.out.below hb5); replace K11 := Lib.hid (K11.out.below hb5); replace HB := Lib.hid (below_ext HB.out hb5); have K15 := Lib.hid hk; have tok1 : True := trivial; clear hk hb5 _t tok0)
    | (refine F.blkStore (.tmp 15) (.tmp 30) rfl K15.out rfl rfl HX.out rfl ?_; intro w6 hk hg; replace HB := Lib.hid (below_at HB.out hg (by omega) K15.out.lt); replace K9 := Lib.hid (K9.out.grown hg (by omega)); replace K10 := Lib.hid (K10.out.grown hg (by omega)); replace K11 := Lib.hid (K11.out.grown hg (by omega)); replace K15 := Lib.hid hk; have hz6 := hg.size; clear hk hg)
    | (refine supLoad (.tmp 10) rfl K10.out rfl rfl ?_)
    | (have _t := tp1; go_at_call 106; refine (A2.out _).mono ?_; rintro e w7 ⟨rfl, hb7⟩; replace K9 := Lib.hid (K9.out.below hb7); replace K10 := Lib.hid (K10.out.below hb7); replace K11 := Lib.hid (K11.out.below hb7); replace K15 := Lib.hid (K15.out.below hb7); replace HB := Lib.hid (below_ext HB.out hb7); have hz7 := hb7.size; clear hb7; have tp2 : True := trivial; clear _t tp1)
    | (have _t := tok1; refine F.blkAlloc rfl rfl ?_; intro w8 hk hb8 hz8; replace K9 := Lib.hid (K9.out.below hb8); replace K10 := Lib.hid (K10.out.below hb8); replace K11 := Lib.hid (K11.out.below hb8); replace K15 := Lib.hid (K15.out.below hb8); replace HB := Lib.hid (below_ext HB.out hb8); have K17 := Lib.hid hk; have tok2 : True := trivial; clear hk hb8 _t tok1)
    | (refine F.blkStore (.tmp 17) (.tmp 36) rfl K17.out rfl rfl HY.out rfl ?_; intro w9 hk hg; replace HB := Lib.hid (below_at HB.out hg (by omega) K17.out.lt); replace K9 := Lib.hid (K9.out.grown hg (by omega)); replace K10 := Lib.hid (K10.out.grown hg (by omega)); replace K11 := Lib.hid (K11.out.grown hg (by omega)); replace K15 := Lib.hid (K15.out.grown hg (by omega)); replace K17 := Lib.hid hk; have hz9 := hg.size; clear hk hg)
    | (refine supLoad (.tmp 11) rfl K11.out rfl rfl ?_)
    | (refine maxS (.tmp 38) (.tmp 39) rfl n m M rfl rfl hM.out rfl ?_)
    | (refine addS (.tmp 40) (.const (.int .u64 1)) _ rfl M 1 v1 rfl rfl hv1.out rfl ?_)
    | (refine addS (.tmp 41) (.tmp 43) _ rfl v1 z ev rfl rfl hev.out rfl ?_)
    | (have _t := tp2; go_at_call 106; refine (A3.out _).mono ?_; rintro e w10 ⟨rfl, hb10⟩; replace K9 := Lib.hid (K9.out.below hb10); replace K10 := Lib.hid (K10.out.below hb10); replace K11 := Lib.hid (K11.out.below hb10); replace K15 := Lib.hid (K15.out.below hb10); replace K17 := Lib.hid (K17.out.below hb10); replace HB := Lib.hid (below_ext HB.out hb10); have hz10 := hb10.size; clear hb10; have tp3 : True := trivial; clear _t tp2)
    | (have _t := tok2; refine F.blkAlloc rfl rfl ?_; intro w11 hk hb11 hz11; replace K9 := Lib.hid (K9.out.below hb11); replace K10 := Lib.hid (K10.out.below hb11); replace K11 := Lib.hid (K11.out.below hb11); replace K15 := Lib.hid (K15.out.below hb11); replace K17 := Lib.hid (K17.out.below hb11); replace HB := Lib.hid (below_ext HB.out hb11); have K20 := Lib.hid hk; have tok3 : True := trivial; clear hk hb11 _t tok2)
    | (refine F.blkStore (.tmp 20) (.tmp 49) rfl K20.out rfl rfl HZ.out rfl ?_; intro w12 hk hg; replace HB := Lib.hid (below_at HB.out hg (by omega) K20.out.lt); replace K9 := Lib.hid (K9.out.grown hg (by omega)); replace K10 := Lib.hid (K10.out.grown hg (by omega)); replace K11 := Lib.hid (K11.out.grown hg (by omega)); replace K15 := Lib.hid (K15.out.grown hg (by omega)); replace K17 := Lib.hid (K17.out.grown hg (by omega)); replace K20 := Lib.hid hk; have hz12 := hg.size; clear hk hg)
    | (refine F.blkLoad (.tmp 15) rfl K15.out rfl rfl ?_)
    | (refine F.blkLoad (.tmp 17) rfl K17.out rfl rfl ?_)
    | (have _t := tp3; go_at_call 114; refine (S1.out _).mono ?_; rintro e w13 ⟨rfl, hb13⟩; replace K9 := Lib.hid (K9.out.below hb13); replace K10 := Lib.hid (K10.out.below hb13); replace K11 := Lib.hid (K11.out.below hb13); replace K15 := Lib.hid (K15.out.below hb13); replace K17 := Lib.hid (K17.out.below hb13); replace K20 := Lib.hid (K20.out.below hb13); replace HB := Lib.hid (below_ext HB.out hb13); have hz13 := hb13.size; clear hb13; have tp4 : True := trivial; clear _t tp3)
    | (refine F.blkLoad (.tmp 20) rfl K20.out rfl rfl ?_)
    | (have _t := tp4; go_at_call 63; refine (T1.out _).mono ?_; rintro e w14 ⟨rfl, hb14⟩; replace K9 := Lib.hid (K9.out.below hb14); replace K10 := Lib.hid (K10.out.below hb14); replace K11 := Lib.hid (K11.out.below hb14); replace K15 := Lib.hid (K15.out.below hb14); replace K17 := Lib.hid (K17.out.below hb14); replace K20 := Lib.hid (K20.out.below hb14); replace HB := Lib.hid (below_ext HB.out hb14); have hz14 := hb14.size; clear hb14; have tp5 : True := trivial; clear _t tp4)
    | (refine F.blkStore (.tmp 15) (.tmp 75) rfl K15.out rfl rfl HTl.out rfl ?_; intro w15 hk hg; replace HB := Lib.hid (below_at HB.out hg (by omega) K15.out.lt); replace K9 := Lib.hid (K9.out.grown hg (by omega)); replace K10 := Lib.hid (K10.out.grown hg (by omega)); replace K11 := Lib.hid (K11.out.grown hg (by omega)); replace K17 := Lib.hid (K17.out.grown hg (by omega)); replace K20 := Lib.hid (K20.out.grown hg (by omega)); replace K15 := Lib.hid hk; have hz15 := hg.size; clear hk hg)
    | (have _t := tp5; go_at_call 112; refine (P3.out _).mono ?_; rintro e w16 ⟨rfl, hb16⟩; replace K9 := Lib.hid (K9.out.below hb16); replace K10 := Lib.hid (K10.out.below hb16); replace K11 := Lib.hid (K11.out.below hb16); replace K15 := Lib.hid (K15.out.below hb16); replace K17 := Lib.hid (K17.out.below hb16); replace K20 := Lib.hid (K20.out.below hb16); replace HB := Lib.hid (below_ext HB.out hb16); have hz16 := hb16.size; clear hb16; have tp6 : True := trivial; clear _t tp5)
    | (have _t := tok3; refine supAlloc rfl rfl ?_; intro w17 hk hb17 hz17; replace K9 := Lib.hid (K9.out.below hb17); replace K10 := Lib.hid (K10.out.below hb17); replace K11 := Lib.hid (K11.out.below hb17); replace K15 := Lib.hid (K15.out.below hb17); replace K17 := Lib.hid (K17.out.below hb17); replace K20 := Lib.hid (K20.out.below hb17); replace HB := Lib.hid (below_ext HB.out hb17); have K24 := Lib.hid hk; clear hk hb17; have tok4 : True := trivial; clear _t tok3)
    | (refine supStore (.tmp 24) (.tmp 85) rfl K24.out rfl rfl HN.out rfl ?_; intro w18 hk hg; replace HB := Lib.hid (below_at HB.out hg (by omega) K24.out.lt); replace K9 := Lib.hid (K9.out.grown hg (by omega)); replace K10 := Lib.hid (K10.out.grown hg (by omega)); replace K11 := Lib.hid (K11.out.grown hg (by omega)); replace K15 := Lib.hid (K15.out.grown hg (by omega)); replace K17 := Lib.hid (K17.out.grown hg (by omega)); replace K20 := Lib.hid (K20.out.grown hg (by omega)); replace K24 := Lib.hid hk; have hz18 := hg.size; clear hk hg)
    | (refine supLoad (.tmp 24) rfl K24.out rfl rfl ?_)
    | (refine supEqlS (.tmp 100) (.tmp 101) _ rfl rfl rfl HN.out HN.out true (eqS_self _) rfl ?_)
    | (have _t := tp6; go_at_call 105; refine (sLives_any _).mono ?_; rintro e w19 ⟨rfl, hb19⟩; replace K9 := Lib.hid (K9.out.below hb19); replace K10 := Lib.hid (K10.out.below hb19); replace K11 := Lib.hid (K11.out.below hb19); replace K15 := Lib.hid (K15.out.below hb19); replace K17 := Lib.hid (K17.out.below hb19); replace K20 := Lib.hid (K20.out.below hb19); replace K24 := Lib.hid (K24.out.below hb19); replace HB := Lib.hid (below_ext HB.out hb19); have hz19 := hb19.size; clear hb19; have tp7 : True := trivial; clear _t tp6))
  go_ret
  exact ⟨rfl, HB.out⟩
end Go.Proofs.Ytdchcggllcgokaa.Q

namespace Go.Proofs.Ytdchcggllcgokaa.Q
open Go.RowKit Go.Proofs.Ytdchcggllcgokaa.L Go.Proofs.Ytdchcggllcgokaa.U Go.Proofs.Ytdchcggllcgokaa.E Go.Proofs.Ytdchcggllcgokaa.R Go.Proofs.YtdchcggllcgokaaW.PrintWords
set_option linter.unusedVariables false
set_option linter.unusedSimpArgs false
set_option maxRecDepth 100000 in
set_option maxHeartbeats 4000000 in
theorem sTorn_go (n : Nat) (nl : n < 18446744073709551616) (m : Nat) (ml : m < 18446744073709551616) (s t nx : Su) (HS : Hid (s.x.st.length = 16)) (HT : Hid (t.x.st.length = 16)) (HN : Hid (nx.x.st.length = 16)) (z : Nat) (zl : z < 256) (q : Int) (M v1 ev : Nat) (el : ev < 18446744073709551616) (hM : Hid (max n m = M)) (hv1 : Hid ((M + 1) % 18446744073709551616 = v1)) (hev : Hid ((v1 + z) % 18446744073709551616 = ev)) (X Y Z : List Int) (HX : Hid (X.length = 64)) (HY : Hid (Y.length = 64)) (HZ : Hid (Z.length = 64)) (T : List Int) (HTl : Hid (T.length = 64)) (hlt : m < n) (h64 : q < 64) (hne : n ≠ ev)
    (A1 : Hid (∀ w : World, Calls Try.prog 106 #[.int .u64 (n : Int), sup s] w fun e w' => e = .returned (.tuple #[blk X, .int .i64 0]) ∧ Below w.heap.size w w'))
    (A2 : Hid (∀ w : World, Calls Try.prog 106 #[.int .u64 (m : Int), sup t] w fun e w' => e = .returned (.tuple #[blk Y, .int .i64 0]) ∧ Below w.heap.size w w'))
    (A3 : Hid (∀ w : World, Calls Try.prog 106 #[.int .u64 (ev : Int), sup nx] w fun e w' => e = .returned (.tuple #[blk Z, .int .i64 0]) ∧ Below w.heap.size w w'))
    (S1 : Hid (∀ w : World, Calls Try.prog 114 #[blk X, blk Y] w fun e w' => e = .returned (.int .i64 1) ∧ Below w.heap.size w w'))
    (T1 : Hid (∀ w : World, Calls Try.prog 63 #[blk Y, blk Z, .int .i64 q] w fun e w' => e = .returned (blk T) ∧ Below w.heap.size w w'))
    (P3 : Hid (∀ w : World, Calls Try.prog 112 #[blk X, blk T] w fun e w' => e = .returned (.tuple #[.int .u64 (n : Int), sup s, .int .i64 0]) ∧ Below w.heap.size w w')) (w : World) : Calls Try.prog 31 #[.int .u64 (n : Int), .int .u64 (m : Int), sup s, sup t, sup nx, .int .u8 (z : Int), .int .i64 q] w fun e w' => e = .returned (.bool true) ∧ Below w.heap.size w w' := by
  have HB := Lib.hid (Below.refl w.heap.size w)
  have f1 : (n == m) = false := by simp; omega
  have f2 : ((n : Int) == (m : Int)) = false := by simp; omega
  have g1 : decide (n < m) = false := by simp; omega
  have g2 : decide ((n : Int) < (m : Int)) = false := by simp; omega
  have g3 : decide (m < n) = true := by simp; omega
  have g4 : decide ((m : Int) < (n : Int)) = true := by simp; omega
  have f3 : decide (q < 64) = true := by simpa using h64
  have f4 : (n == ev) = false := by simpa using hne
  have f5 : ((n : Int) == (ev : Int)) = false := by simp; omega
  have tok0 : True := trivial
  have tp0 : True := trivial
  go_enter Try.func31, Try.ntmps31
  go_wp2_with (first
    | (go_skip)
    | (refine supBox (.tmp 2) rfl rfl HS.out rfl ?_; intro w1 hk hb1 hz1; replace HB := Lib.hid (below_ext HB.out hb1); have K9 := Lib.hid hk; clear hk hb1)
    | (refine supBox (.tmp 3) rfl rfl HT.out rfl ?_; intro w2 hk hb2 hz2; replace K9 := Lib.hid (K9.out.below hb2); replace HB := Lib.hid (below_ext HB.out hb2); have K10 := Lib.hid hk; clear hk hb2)
    | (refine supBox (.tmp 4) rfl rfl HN.out rfl ?_; intro w3 hk hb3 hz3; replace K9 := Lib.hid (K9.out.below hb3); replace K10 := Lib.hid (K10.out.below hb3); replace HB := Lib.hid (below_ext HB.out hb3); have K11 := Lib.hid hk; clear hk hb3)
    | (refine supLoad (.tmp 9) rfl K9.out rfl rfl ?_)
    | (have _t := tp0; go_at_call 106; refine (A1.out _).mono ?_; rintro e w4 ⟨rfl, hb4⟩; replace K9 := Lib.hid (K9.out.below hb4); replace K10 := Lib.hid (K10.out.below hb4); replace K11 := Lib.hid (K11.out.below hb4); replace HB := Lib.hid (below_ext HB.out hb4); have hz4 := hb4.size; clear hb4; have tp1 : True := trivial; clear _t tp0)
    | (have _t := tok0; refine F.blkAlloc rfl rfl ?_; intro w5 hk hb5 hz5; replace K9 := Lib.hid (K9.out.below hb5); replace K10 := Lib.hid (K10.out.below hb5); replace K11 := Lib.hid (K11.out.below hb5); replace HB := Lib.hid (below_ext HB.out hb5); have K15 := Lib.hid hk; have tok1 : True := trivial; clear hk hb5 _t tok0)
    | (refine F.blkStore (.tmp 15) (.tmp 30) rfl K15.out rfl rfl HX.out rfl ?_; intro w6 hk hg; replace HB := Lib.hid (below_at HB.out hg (by omega) K15.out.lt); replace K9 := Lib.hid (K9.out.grown hg (by omega)); replace K10 := Lib.hid (K10.out.grown hg (by omega)); replace K11 := Lib.hid (K11.out.grown hg (by omega)); replace K15 := Lib.hid hk; have hz6 := hg.size; clear hk hg)
    | (refine supLoad (.tmp 10) rfl K10.out rfl rfl ?_)
    | (have _t := tp1; go_at_call 106; refine (A2.out _).mono ?_; rintro e w7 ⟨rfl, hb7⟩; replace K9 := Lib.hid (K9.out.below hb7); replace K10 := Lib.hid (K10.out.below hb7); replace K11 := Lib.hid (K11.out.below hb7); replace K15 := Lib.hid (K15.out.below hb7); replace HB := Lib.hid (below_ext HB.out hb7); have hz7 := hb7.size; clear hb7; have tp2 : True := trivial; clear _t tp1)
    | (have _t := tok1; refine F.blkAlloc rfl rfl ?_; intro w8 hk hb8 hz8; replace K9 := Lib.hid (K9.out.below hb8); replace K10 := Lib.hid (K10.out.below hb8); replace K11 := Lib.hid (K11.out.below hb8); replace K15 := Lib.hid (K15.out.below hb8); replace HB := Lib.hid (below_ext HB.out hb8); have K17 := Lib.hid hk; have tok2 : True := trivial; clear hk hb8 _t tok1)
    | (refine F.blkStore (.tmp 17) (.tmp 36) rfl K17.out rfl rfl HY.out rfl ?_; intro w9 hk hg; replace HB := Lib.hid (below_at HB.out hg (by omega) K17.out.lt); replace K9 := Lib.hid (K9.out.grown hg (by omega)); replace K10 := Lib.hid (K10.out.grown hg (by omega)); replace K11 := Lib.hid (K11.out.grown hg (by omega)); replace K15 := Lib.hid (K15.out.grown hg (by omega)); replace K17 := Lib.hid hk; have hz9 := hg.size; clear hk hg)
    | (refine supLoad (.tmp 11) rfl K11.out rfl rfl ?_)
    | (refine maxS (.tmp 38) (.tmp 39) rfl n m M rfl rfl hM.out rfl ?_)
    | (refine addS (.tmp 40) (.const (.int .u64 1)) _ rfl M 1 v1 rfl rfl hv1.out rfl ?_)
    | (refine addS (.tmp 41) (.tmp 43) _ rfl v1 z ev rfl rfl hev.out rfl ?_)
    | (have _t := tp2; go_at_call 106; refine (A3.out _).mono ?_; rintro e w10 ⟨rfl, hb10⟩; replace K9 := Lib.hid (K9.out.below hb10); replace K10 := Lib.hid (K10.out.below hb10); replace K11 := Lib.hid (K11.out.below hb10); replace K15 := Lib.hid (K15.out.below hb10); replace K17 := Lib.hid (K17.out.below hb10); replace HB := Lib.hid (below_ext HB.out hb10); have hz10 := hb10.size; clear hb10; have tp3 : True := trivial; clear _t tp2)
    | (have _t := tok2; refine F.blkAlloc rfl rfl ?_; intro w11 hk hb11 hz11; replace K9 := Lib.hid (K9.out.below hb11); replace K10 := Lib.hid (K10.out.below hb11); replace K11 := Lib.hid (K11.out.below hb11); replace K15 := Lib.hid (K15.out.below hb11); replace K17 := Lib.hid (K17.out.below hb11); replace HB := Lib.hid (below_ext HB.out hb11); have K20 := Lib.hid hk; have tok3 : True := trivial; clear hk hb11 _t tok2)
    | (refine F.blkStore (.tmp 20) (.tmp 49) rfl K20.out rfl rfl HZ.out rfl ?_; intro w12 hk hg; replace HB := Lib.hid (below_at HB.out hg (by omega) K20.out.lt); replace K9 := Lib.hid (K9.out.grown hg (by omega)); replace K10 := Lib.hid (K10.out.grown hg (by omega)); replace K11 := Lib.hid (K11.out.grown hg (by omega)); replace K15 := Lib.hid (K15.out.grown hg (by omega)); replace K17 := Lib.hid (K17.out.grown hg (by omega)); replace K20 := Lib.hid hk; have hz12 := hg.size; clear hk hg)
    | (refine F.blkLoad (.tmp 15) rfl K15.out rfl rfl ?_)
    | (refine F.blkLoad (.tmp 17) rfl K17.out rfl rfl ?_)
    | (have _t := tp3; go_at_call 114; refine (S1.out _).mono ?_; rintro e w13 ⟨rfl, hb13⟩; replace K9 := Lib.hid (K9.out.below hb13); replace K10 := Lib.hid (K10.out.below hb13); replace K11 := Lib.hid (K11.out.below hb13); replace K15 := Lib.hid (K15.out.below hb13); replace K17 := Lib.hid (K17.out.below hb13); replace K20 := Lib.hid (K20.out.below hb13); replace HB := Lib.hid (below_ext HB.out hb13); have hz13 := hb13.size; clear hb13; have tp4 : True := trivial; clear _t tp3)
    | (refine F.blkLoad (.tmp 20) rfl K20.out rfl rfl ?_)
    | (have _t := tp4; go_at_call 63; refine (T1.out _).mono ?_; rintro e w14 ⟨rfl, hb14⟩; replace K9 := Lib.hid (K9.out.below hb14); replace K10 := Lib.hid (K10.out.below hb14); replace K11 := Lib.hid (K11.out.below hb14); replace K15 := Lib.hid (K15.out.below hb14); replace K17 := Lib.hid (K17.out.below hb14); replace K20 := Lib.hid (K20.out.below hb14); replace HB := Lib.hid (below_ext HB.out hb14); have hz14 := hb14.size; clear hb14; have tp5 : True := trivial; clear _t tp4)
    | (refine F.blkStore (.tmp 17) (.tmp 79) rfl K17.out rfl rfl HTl.out rfl ?_; intro w15 hk hg; replace HB := Lib.hid (below_at HB.out hg (by omega) K17.out.lt); replace K9 := Lib.hid (K9.out.grown hg (by omega)); replace K10 := Lib.hid (K10.out.grown hg (by omega)); replace K11 := Lib.hid (K11.out.grown hg (by omega)); replace K15 := Lib.hid (K15.out.grown hg (by omega)); replace K20 := Lib.hid (K20.out.grown hg (by omega)); replace K17 := Lib.hid hk; have hz15 := hg.size; clear hk hg)
    | (have _t := tp5; go_at_call 112; refine (P3.out _).mono ?_; rintro e w16 ⟨rfl, hb16⟩; replace K9 := Lib.hid (K9.out.below hb16); replace K10 := Lib.hid (K10.out.below hb16); replace K11 := Lib.hid (K11.out.below hb16); replace K15 := Lib.hid (K15.out.below hb16); replace K17 := Lib.hid (K17.out.below hb16); replace K20 := Lib.hid (K20.out.below hb16); replace HB := Lib.hid (below_ext HB.out hb16); have hz16 := hb16.size; clear hb16; have tp6 : True := trivial; clear _t tp5)
    | (have _t := tok3; refine supAlloc rfl rfl ?_; intro w17 hk hb17 hz17; replace K9 := Lib.hid (K9.out.below hb17); replace K10 := Lib.hid (K10.out.below hb17); replace K11 := Lib.hid (K11.out.below hb17); replace K15 := Lib.hid (K15.out.below hb17); replace K17 := Lib.hid (K17.out.below hb17); replace K20 := Lib.hid (K20.out.below hb17); replace HB := Lib.hid (below_ext HB.out hb17); have K24 := Lib.hid hk; clear hk hb17; have tok4 : True := trivial; clear _t tok3)
    | (refine supStore (.tmp 24) (.tmp 85) rfl K24.out rfl rfl HS.out rfl ?_; intro w18 hk hg; replace HB := Lib.hid (below_at HB.out hg (by omega) K24.out.lt); replace K9 := Lib.hid (K9.out.grown hg (by omega)); replace K10 := Lib.hid (K10.out.grown hg (by omega)); replace K11 := Lib.hid (K11.out.grown hg (by omega)); replace K15 := Lib.hid (K15.out.grown hg (by omega)); replace K17 := Lib.hid (K17.out.grown hg (by omega)); replace K20 := Lib.hid (K20.out.grown hg (by omega)); replace K24 := Lib.hid hk; have hz18 := hg.size; clear hk hg)
    | (refine supLoad (.tmp 24) rfl K24.out rfl rfl ?_)
    | (refine supEqlS (.tmp 119) (.tmp 120) _ rfl rfl rfl HS.out HS.out true (eqS_self _) rfl ?_)
    | (have _t := tp6; go_at_call 105; refine (sLives_any _).mono ?_; rintro e w19 ⟨rfl, hb19⟩; replace K9 := Lib.hid (K9.out.below hb19); replace K10 := Lib.hid (K10.out.below hb19); replace K11 := Lib.hid (K11.out.below hb19); replace K15 := Lib.hid (K15.out.below hb19); replace K17 := Lib.hid (K17.out.below hb19); replace K20 := Lib.hid (K20.out.below hb19); replace K24 := Lib.hid (K24.out.below hb19); replace HB := Lib.hid (below_ext HB.out hb19); have hz19 := hb19.size; clear hb19; have tp7 : True := trivial; clear _t tp6))
  go_ret
  exact ⟨rfl, HB.out⟩
end Go.Proofs.Ytdchcggllcgokaa.Q

namespace Go.Proofs.Ytdchcggllcgokaa.Q
open Go.RowKit Go.Proofs.Ytdchcggllcgokaa.L Go.Proofs.Ytdchcggllcgokaa.U Go.Proofs.Ytdchcggllcgokaa.E Go.Proofs.Ytdchcggllcgokaa.R Go.Proofs.YtdchcggllcgokaaW.PrintWords
set_option linter.unusedVariables false
set_option linter.unusedSimpArgs false
set_option maxRecDepth 100000 in
set_option maxHeartbeats 4000000 in
theorem sTorn_gn (n : Nat) (nl : n < 18446744073709551616) (m : Nat) (ml : m < 18446744073709551616) (s t nx : Su) (HS : Hid (s.x.st.length = 16)) (HT : Hid (t.x.st.length = 16)) (HN : Hid (nx.x.st.length = 16)) (z : Nat) (zl : z < 256) (q : Int) (M v1 ev : Nat) (el : ev < 18446744073709551616) (hM : Hid (max n m = M)) (hv1 : Hid ((M + 1) % 18446744073709551616 = v1)) (hev : Hid ((v1 + z) % 18446744073709551616 = ev)) (X Y Z : List Int) (HX : Hid (X.length = 64)) (HY : Hid (Y.length = 64)) (HZ : Hid (Z.length = 64)) (T : List Int) (HTl : Hid (T.length = 64)) (hlt : m < n) (hq0 : 0 < q)
    (A1 : Hid (∀ w : World, Calls Try.prog 106 #[.int .u64 (n : Int), sup s] w fun e w' => e = .returned (.tuple #[blk X, .int .i64 0]) ∧ Below w.heap.size w w'))
    (A2 : Hid (∀ w : World, Calls Try.prog 106 #[.int .u64 (m : Int), sup t] w fun e w' => e = .returned (.tuple #[blk Y, .int .i64 0]) ∧ Below w.heap.size w w'))
    (A3 : Hid (∀ w : World, Calls Try.prog 106 #[.int .u64 (ev : Int), sup nx] w fun e w' => e = .returned (.tuple #[blk Z, .int .i64 0]) ∧ Below w.heap.size w w'))
    (S1 : Hid (∀ w : World, Calls Try.prog 114 #[blk X, blk Y] w fun e w' => e = .returned (.int .i64 1) ∧ Below w.heap.size w w'))
    (T1 : Hid (∀ w : World, Calls Try.prog 63 #[blk Y, blk Z, .int .i64 q] w fun e w' => e = .returned (blk T) ∧ Below w.heap.size w w'))
    (P3 : Hid (∀ w : World, Calls Try.prog 112 #[blk X, blk T] w fun e w' => e = .returned (.tuple #[.int .u64 (ev : Int), sup nx, .int .i64 0]) ∧ Below w.heap.size w w')) (w : World) : Calls Try.prog 31 #[.int .u64 (n : Int), .int .u64 (m : Int), sup s, sup t, sup nx, .int .u8 (z : Int), .int .i64 q] w fun e w' => e = .returned (.bool true) ∧ Below w.heap.size w w' := by
  have HB := Lib.hid (Below.refl w.heap.size w)
  have f1 : (n == m) = false := by simp; omega
  have f2 : ((n : Int) == (m : Int)) = false := by simp; omega
  have g1 : decide (n < m) = false := by simp; omega
  have g2 : decide ((n : Int) < (m : Int)) = false := by simp; omega
  have g3 : decide (m < n) = true := by simp; omega
  have g4 : decide ((m : Int) < (n : Int)) = true := by simp; omega
  have f3 : decide (0 < q) = true := by simpa using hq0
  have tok0 : True := trivial
  have tp0 : True := trivial
  go_enter Try.func31, Try.ntmps31
  go_wp2_with (first
    | (go_skip)
    | (refine supBox (.tmp 2) rfl rfl HS.out rfl ?_; intro w1 hk hb1 hz1; replace HB := Lib.hid (below_ext HB.out hb1); have K9 := Lib.hid hk; clear hk hb1)
    | (refine supBox (.tmp 3) rfl rfl HT.out rfl ?_; intro w2 hk hb2 hz2; replace K9 := Lib.hid (K9.out.below hb2); replace HB := Lib.hid (below_ext HB.out hb2); have K10 := Lib.hid hk; clear hk hb2)
    | (refine supBox (.tmp 4) rfl rfl HN.out rfl ?_; intro w3 hk hb3 hz3; replace K9 := Lib.hid (K9.out.below hb3); replace K10 := Lib.hid (K10.out.below hb3); replace HB := Lib.hid (below_ext HB.out hb3); have K11 := Lib.hid hk; clear hk hb3)
    | (refine supLoad (.tmp 9) rfl K9.out rfl rfl ?_)
    | (have _t := tp0; go_at_call 106; refine (A1.out _).mono ?_; rintro e w4 ⟨rfl, hb4⟩; replace K9 := Lib.hid (K9.out.below hb4); replace K10 := Lib.hid (K10.out.below hb4); replace K11 := Lib.hid (K11.out.below hb4); replace HB := Lib.hid (below_ext HB.out hb4); have hz4 := hb4.size; clear hb4; have tp1 : True := trivial; clear _t tp0)
    | (have _t := tok0; refine F.blkAlloc rfl rfl ?_; intro w5 hk hb5 hz5; replace K9 := Lib.hid (K9.out.below hb5); replace K10 := Lib.hid (K10.out.below hb5); replace K11 := Lib.hid (K11.out.below hb5); replace HB := Lib.hid (below_ext HB.out hb5); have K15 := Lib.hid hk; have tok1 : True := trivial; clear hk hb5 _t tok0)
    | (refine F.blkStore (.tmp 15) (.tmp 30) rfl K15.out rfl rfl HX.out rfl ?_; intro w6 hk hg; replace HB := Lib.hid (below_at HB.out hg (by omega) K15.out.lt); replace K9 := Lib.hid (K9.out.grown hg (by omega)); replace K10 := Lib.hid (K10.out.grown hg (by omega)); replace K11 := Lib.hid (K11.out.grown hg (by omega)); replace K15 := Lib.hid hk; have hz6 := hg.size; clear hk hg)
    | (refine supLoad (.tmp 10) rfl K10.out rfl rfl ?_)
    | (have _t := tp1; go_at_call 106; refine (A2.out _).mono ?_; rintro e w7 ⟨rfl, hb7⟩; replace K9 := Lib.hid (K9.out.below hb7); replace K10 := Lib.hid (K10.out.below hb7); replace K11 := Lib.hid (K11.out.below hb7); replace K15 := Lib.hid (K15.out.below hb7); replace HB := Lib.hid (below_ext HB.out hb7); have hz7 := hb7.size; clear hb7; have tp2 : True := trivial; clear _t tp1)
    | (have _t := tok1; refine F.blkAlloc rfl rfl ?_; intro w8 hk hb8 hz8; replace K9 := Lib.hid (K9.out.below hb8); replace K10 := Lib.hid (K10.out.below hb8); replace K11 := Lib.hid (K11.out.below hb8); replace K15 := Lib.hid (K15.out.below hb8); replace HB := Lib.hid (below_ext HB.out hb8); have K17 := Lib.hid hk; have tok2 : True := trivial; clear hk hb8 _t tok1)
    | (refine F.blkStore (.tmp 17) (.tmp 36) rfl K17.out rfl rfl HY.out rfl ?_; intro w9 hk hg; replace HB := Lib.hid (below_at HB.out hg (by omega) K17.out.lt); replace K9 := Lib.hid (K9.out.grown hg (by omega)); replace K10 := Lib.hid (K10.out.grown hg (by omega)); replace K11 := Lib.hid (K11.out.grown hg (by omega)); replace K15 := Lib.hid (K15.out.grown hg (by omega)); replace K17 := Lib.hid hk; have hz9 := hg.size; clear hk hg)
    | (refine supLoad (.tmp 11) rfl K11.out rfl rfl ?_)
    | (refine maxS (.tmp 38) (.tmp 39) rfl n m M rfl rfl hM.out rfl ?_)
    | (refine addS (.tmp 40) (.const (.int .u64 1)) _ rfl M 1 v1 rfl rfl hv1.out rfl ?_)
    | (refine addS (.tmp 41) (.tmp 43) _ rfl v1 z ev rfl rfl hev.out rfl ?_)
    | (have _t := tp2; go_at_call 106; refine (A3.out _).mono ?_; rintro e w10 ⟨rfl, hb10⟩; replace K9 := Lib.hid (K9.out.below hb10); replace K10 := Lib.hid (K10.out.below hb10); replace K11 := Lib.hid (K11.out.below hb10); replace K15 := Lib.hid (K15.out.below hb10); replace K17 := Lib.hid (K17.out.below hb10); replace HB := Lib.hid (below_ext HB.out hb10); have hz10 := hb10.size; clear hb10; have tp3 : True := trivial; clear _t tp2)
    | (have _t := tok2; refine F.blkAlloc rfl rfl ?_; intro w11 hk hb11 hz11; replace K9 := Lib.hid (K9.out.below hb11); replace K10 := Lib.hid (K10.out.below hb11); replace K11 := Lib.hid (K11.out.below hb11); replace K15 := Lib.hid (K15.out.below hb11); replace K17 := Lib.hid (K17.out.below hb11); replace HB := Lib.hid (below_ext HB.out hb11); have K20 := Lib.hid hk; have tok3 : True := trivial; clear hk hb11 _t tok2)
    | (refine F.blkStore (.tmp 20) (.tmp 49) rfl K20.out rfl rfl HZ.out rfl ?_; intro w12 hk hg; replace HB := Lib.hid (below_at HB.out hg (by omega) K20.out.lt); replace K9 := Lib.hid (K9.out.grown hg (by omega)); replace K10 := Lib.hid (K10.out.grown hg (by omega)); replace K11 := Lib.hid (K11.out.grown hg (by omega)); replace K15 := Lib.hid (K15.out.grown hg (by omega)); replace K17 := Lib.hid (K17.out.grown hg (by omega)); replace K20 := Lib.hid hk; have hz12 := hg.size; clear hk hg)
    | (refine F.blkLoad (.tmp 15) rfl K15.out rfl rfl ?_)
    | (refine F.blkLoad (.tmp 17) rfl K17.out rfl rfl ?_)
    | (have _t := tp3; go_at_call 114; refine (S1.out _).mono ?_; rintro e w13 ⟨rfl, hb13⟩; replace K9 := Lib.hid (K9.out.below hb13); replace K10 := Lib.hid (K10.out.below hb13); replace K11 := Lib.hid (K11.out.below hb13); replace K15 := Lib.hid (K15.out.below hb13); replace K17 := Lib.hid (K17.out.below hb13); replace K20 := Lib.hid (K20.out.below hb13); replace HB := Lib.hid (below_ext HB.out hb13); have hz13 := hb13.size; clear hb13; have tp4 : True := trivial; clear _t tp3)
    | (refine F.blkLoad (.tmp 20) rfl K20.out rfl rfl ?_)
    | (have _t := tp4; go_at_call 63; refine (T1.out _).mono ?_; rintro e w14 ⟨rfl, hb14⟩; replace K9 := Lib.hid (K9.out.below hb14); replace K10 := Lib.hid (K10.out.below hb14); replace K11 := Lib.hid (K11.out.below hb14); replace K15 := Lib.hid (K15.out.below hb14); replace K17 := Lib.hid (K17.out.below hb14); replace K20 := Lib.hid (K20.out.below hb14); replace HB := Lib.hid (below_ext HB.out hb14); have hz14 := hb14.size; clear hb14; have tp5 : True := trivial; clear _t tp4)
    | (refine F.blkStore (.tmp 17) (.tmp 79) rfl K17.out rfl rfl HTl.out rfl ?_; intro w15 hk hg; replace HB := Lib.hid (below_at HB.out hg (by omega) K17.out.lt); replace K9 := Lib.hid (K9.out.grown hg (by omega)); replace K10 := Lib.hid (K10.out.grown hg (by omega)); replace K11 := Lib.hid (K11.out.grown hg (by omega)); replace K15 := Lib.hid (K15.out.grown hg (by omega)); replace K20 := Lib.hid (K20.out.grown hg (by omega)); replace K17 := Lib.hid hk; have hz15 := hg.size; clear hk hg)
    | (have _t := tp5; go_at_call 112; refine (P3.out _).mono ?_; rintro e w16 ⟨rfl, hb16⟩; replace K9 := Lib.hid (K9.out.below hb16); replace K10 := Lib.hid (K10.out.below hb16); replace K11 := Lib.hid (K11.out.below hb16); replace K15 := Lib.hid (K15.out.below hb16); replace K17 := Lib.hid (K17.out.below hb16); replace K20 := Lib.hid (K20.out.below hb16); replace HB := Lib.hid (below_ext HB.out hb16); have hz16 := hb16.size; clear hb16; have tp6 : True := trivial; clear _t tp5)
    | (have _t := tok3; refine supAlloc rfl rfl ?_; intro w17 hk hb17 hz17; replace K9 := Lib.hid (K9.out.below hb17); replace K10 := Lib.hid (K10.out.below hb17); replace K11 := Lib.hid (K11.out.below hb17); replace K15 := Lib.hid (K15.out.below hb17); replace K17 := Lib.hid (K17.out.below hb17); replace K20 := Lib.hid (K20.out.below hb17); replace HB := Lib.hid (below_ext HB.out hb17); have K24 := Lib.hid hk; clear hk hb17; have tok4 : True := trivial; clear _t tok3)
    | (refine supStore (.tmp 24) (.tmp 85) rfl K24.out rfl rfl HN.out rfl ?_; intro w18 hk hg; replace HB := Lib.hid (below_at HB.out hg (by omega) K24.out.lt); replace K9 := Lib.hid (K9.out.grown hg (by omega)); replace K10 := Lib.hid (K10.out.grown hg (by omega)); replace K11 := Lib.hid (K11.out.grown hg (by omega)); replace K15 := Lib.hid (K15.out.grown hg (by omega)); replace K17 := Lib.hid (K17.out.grown hg (by omega)); replace K20 := Lib.hid (K20.out.grown hg (by omega)); replace K24 := Lib.hid hk; have hz18 := hg.size; clear hk hg)
    | (refine supLoad (.tmp 24) rfl K24.out rfl rfl ?_)
    | (refine supEqlS (.tmp 100) (.tmp 101) _ rfl rfl rfl HN.out HN.out true (eqS_self _) rfl ?_)
    | (have _t := tp6; go_at_call 105; refine (sLives_any _).mono ?_; rintro e w19 ⟨rfl, hb19⟩; replace K9 := Lib.hid (K9.out.below hb19); replace K10 := Lib.hid (K10.out.below hb19); replace K11 := Lib.hid (K11.out.below hb19); replace K15 := Lib.hid (K15.out.below hb19); replace K17 := Lib.hid (K17.out.below hb19); replace K20 := Lib.hid (K20.out.below hb19); replace K24 := Lib.hid (K24.out.below hb19); replace HB := Lib.hid (below_ext HB.out hb19); have hz19 := hb19.size; clear hb19; have tp7 : True := trivial; clear _t tp6))
  go_ret
  exact ⟨rfl, HB.out⟩
end Go.Proofs.Ytdchcggllcgokaa.Q

namespace Go.Proofs.Ytdchcggllcgokaa.Q
open Go.RowKit Go.Proofs.Ytdchcggllcgokaa.L Go.Proofs.Ytdchcggllcgokaa.U Go.Proofs.Ytdchcggllcgokaa.E Go.Proofs.Ytdchcggllcgokaa.R Go.Proofs.YtdchcggllcgokaaW.PrintWords
set_option linter.unusedVariables false
set_option linter.unusedSimpArgs false
theorem sTorn_any (n : Nat) (hn : n < 18446744073709551616) (m : Nat) (hm : m < 18446744073709551616) (s t nx : Su) (hs : Wf s.x) (ht : Wf t.x) (hx : Wf nx.x) (is : s.id < 18446744073709551616) (it : t.id < 18446744073709551616) (ix : nx.id < 18446744073709551616) (z : Nat) (hz : z < 256) (q : Int) (hq : -9223372036854775808 ≤ q ∧ q ≤ 9223372036854775807) (w : World) :
    Calls Try.prog 31 #[.int .u64 (n : Int), .int .u64 (m : Int), sup s, sup t, sup nx, .int .u8 (z : Int), .int .i64 q] w fun e w' => e = .returned (.bool true) ∧ Below w.heap.size w w' := by
  obtain ⟨M, hM⟩ : ∃ M, max n m = M := ⟨_, rfl⟩
  obtain ⟨v1, hv1⟩ : ∃ v1, (M + 1) % 18446744073709551616 = v1 := ⟨_, rfl⟩
  obtain ⟨ev, hev⟩ : ∃ ev, (v1 + z) % 18446744073709551616 = ev := ⟨_, rfl⟩
  have hel : ev < 18446744073709551616 := by omega
  have A1 := fun w => Put_S n hn s hs is w
  have A2 := fun w => Put_S m hm t ht it w
  have A3 := fun w => Put_S ev hel nx hx ix w
  have lx := Lib.hid (supers_length n s)
  have ly := Lib.hid (supers_length m t)
  have lz := Lib.hid (supers_length ev nx)
  by_cases h1 : okS n s = true
  · rw [show supers n s = (sealed n (sbody s), 0) from if_pos h1] at A1 lx
    by_cases h2 : okS m t = true
    · rw [show supers m t = (sealed m (sbody t), 0) from if_pos h2] at A2 ly
      by_cases h3 : okS ev nx = true
      · rw [show supers ev nx = (sealed ev (sbody nx), 0) from if_pos h3] at A3 lz
        have o1 := okS_n h1
        have o2 := okS_n h2
        have gn : n < ev := by omega
        have gm : m < ev := by omega
        by_cases hnm : n = m
        · subst hnm
          exact sTorn_L4 n hn s t nx (Lib.hid hs.1) (Lib.hid ht.1) (Lib.hid hx.1) z hz q M v1 ev hel (Lib.hid hM) (Lib.hid hv1) (Lib.hid hev) _ _ _ lx ly lz (Lib.hid A1) (Lib.hid A2) (Lib.hid A3) w
        · have wX : Wf8 (sealed n (sbody s)) := sealed_wf _ (sbody_wf s)
          have wY : Wf8 (sealed m (sbody t)) := sealed_wf _ (sbody_wf t)
          have wZ : Wf8 (sealed ev (sbody nx)) := sealed_wf _ (sbody_wf nx)
          have S1 := fun w => Slot_S _ _ lx.out ly.out wX wY w
          rw [gotS_put h1 hs is, gotS_put h2 ht it] at S1
          by_cases hlt : n < m
          · rw [show slotS ((n, s), 0) ((m, t), 0) = 0 by simp [slotS, hlt]] at S1
            have T1 := fun w => Torn_any _ _ lx.out lz.out q hq w
            have lT := torn_length (n := q) lx.out lz.out
            have wT := torn_wf (n := q) wX wZ
            have key := gotS_torn h1 hs is h3 hx ix (by omega) q
            generalize torn (sealed n (sbody s)) (sealed ev (sbody nx)) q = T at T1 lT wT key
            have P3 := fun w => Newest_S T _ lT ly.out wT wY w
            unfold NewE at P3
            rw [gotS_put h2 ht it] at P3
            rcases key with ⟨k1, k2⟩ | ⟨k1, k2⟩ | ⟨k, k0, k1, k3, k2⟩
            · rw [k1, show newS ((n, s), 0) ((m, t), 0) = ((m, t), 0) by simp [newS, hlt]] at P3
              exact sTorn_lo n hn m hm s t nx (Lib.hid hs.1) (Lib.hid ht.1) (Lib.hid hx.1) z hz q M v1 ev hel (Lib.hid hM) (Lib.hid hv1) (Lib.hid hev) _ _ _ lx ly lz T (Lib.hid lT) hlt k2 (by omega) (Lib.hid A1) (Lib.hid A2) (Lib.hid A3) (Lib.hid S1) (Lib.hid T1) (Lib.hid P3) w
            · rw [k1, show newS ((ev, nx), 0) ((m, t), 0) = ((ev, nx), 0) by simp [newS]; omega] at P3
              exact sTorn_ln n hn m hm s t nx (Lib.hid hs.1) (Lib.hid ht.1) (Lib.hid hx.1) z hz q M v1 ev hel (Lib.hid hM) (Lib.hid hv1) (Lib.hid hev) _ _ _ lx ly lz T (Lib.hid lT) hlt k2 (Lib.hid A1) (Lib.hid A2) (Lib.hid A3) (Lib.hid S1) (Lib.hid T1) (Lib.hid P3) w
            · rw [k1, show newS ((0, su0), k) ((m, t), 0) = ((m, t), 0) by simp [newS, k0]] at P3
              exact sTorn_lo n hn m hm s t nx (Lib.hid hs.1) (Lib.hid ht.1) (Lib.hid hx.1) z hz q M v1 ev hel (Lib.hid hM) (Lib.hid hv1) (Lib.hid hev) _ _ _ lx ly lz T (Lib.hid lT) hlt k2 (by omega) (Lib.hid A1) (Lib.hid A2) (Lib.hid A3) (Lib.hid S1) (Lib.hid T1) (Lib.hid P3) w
          · have hgt : m < n := by omega
            rw [show slotS ((n, s), 0) ((m, t), 0) = 1 by simp [slotS]; omega] at S1
            have T1 := fun w => Torn_any _ _ ly.out lz.out q hq w
            have lT := torn_length (n := q) ly.out lz.out
            have wT := torn_wf (n := q) wY wZ
            have key := gotS_torn h2 ht it h3 hx ix (by omega) q
            generalize torn (sealed m (sbody t)) (sealed ev (sbody nx)) q = T at T1 lT wT key
            have P3 := fun w => Newest_S _ T lx.out lT wX wT w
            unfold NewE at P3
            rw [gotS_put h1 hs is] at P3
            rcases key with ⟨k1, k2⟩ | ⟨k1, k2⟩ | ⟨k, k0, k1, k3, k2⟩
            · rw [k1, show newS ((n, s), 0) ((m, t), 0) = ((n, s), 0) by simp [newS]; omega] at P3
              exact sTorn_go n hn m hm s t nx (Lib.hid hs.1) (Lib.hid ht.1) (Lib.hid hx.1) z hz q M v1 ev hel (Lib.hid hM) (Lib.hid hv1) (Lib.hid hev) _ _ _ lx ly lz T (Lib.hid lT) hgt k2 (by omega) (Lib.hid A1) (Lib.hid A2) (Lib.hid A3) (Lib.hid S1) (Lib.hid T1) (Lib.hid P3) w
            · rw [k1, show newS ((n, s), 0) ((ev, nx), 0) = ((ev, nx), 0) by simp [newS]; omega] at P3
              exact sTorn_gn n hn m hm s t nx (Lib.hid hs.1) (Lib.hid ht.1) (Lib.hid hx.1) z hz q M v1 ev hel (Lib.hid hM) (Lib.hid hv1) (Lib.hid hev) _ _ _ lx ly lz T (Lib.hid lT) hgt k2 (Lib.hid A1) (Lib.hid A2) (Lib.hid A3) (Lib.hid S1) (Lib.hid T1) (Lib.hid P3) w
            · rw [k1, show newS ((n, s), 0) ((0, su0), k) = ((n, s), 0) by simp [newS, k0]] at P3
              exact sTorn_go n hn m hm s t nx (Lib.hid hs.1) (Lib.hid ht.1) (Lib.hid hx.1) z hz q M v1 ev hel (Lib.hid hM) (Lib.hid hv1) (Lib.hid hev) _ _ _ lx ly lz T (Lib.hid lT) hgt k2 (by omega) (Lib.hid A1) (Lib.hid A2) (Lib.hid A3) (Lib.hid S1) (Lib.hid T1) (Lib.hid P3) w
      · rw [show supers ev nx = (zeros, 2) from if_neg h3] at A3 lz
        exact sTorn_L3 n hn m hm s t nx (Lib.hid hs.1) (Lib.hid ht.1) (Lib.hid hx.1) z hz q M v1 ev hel (Lib.hid hM) (Lib.hid hv1) (Lib.hid hev) _ _ _ lx ly lz 2 (by decide) (Lib.hid A1) (Lib.hid A2) (Lib.hid A3) w
    · rw [show supers m t = (zeros, 2) from if_neg h2] at A2 ly
      exact sTorn_L2 n hn m hm s t nx (Lib.hid hs.1) (Lib.hid ht.1) (Lib.hid hx.1) z hz q M v1 ev hel (Lib.hid hM) (Lib.hid hv1) (Lib.hid hev) _ _ _ lx ly lz 2 _ (by decide) (Lib.hid A1) (Lib.hid A2) (Lib.hid A3) w
  · rw [show supers n s = (zeros, 2) from if_neg h1] at A1 lx
    exact sTorn_L1 n hn m hm s t nx (Lib.hid hs.1) (Lib.hid ht.1) (Lib.hid hx.1) z hz q M v1 ev hel (Lib.hid hM) (Lib.hid hv1) (Lib.hid hev) _ _ _ lx ly lz 2 _ _ (by decide) (Lib.hid A1) (Lib.hid A2) (Lib.hid A3) w
end Go.Proofs.Ytdchcggllcgokaa.Q

namespace Go.Proofs.Ytdchcggllcgokaa.Q
open Go.RowKit Go.Proofs.Ytdchcggllcgokaa.L Go.Proofs.Ytdchcggllcgokaa.U Go.Proofs.Ytdchcggllcgokaa.E Go.Proofs.Ytdchcggllcgokaa.R Go.Proofs.YtdchcggllcgokaaW.PrintWords
set_option linter.unusedVariables false
set_option linter.unusedSimpArgs false
theorem sTorn_row (n : Int) (wn : (Lit.int .u64 n).wf = true) (m : Int) (wm : (Lit.int .u64 m).wf = true) (pi : Int) (wpi : (Lit.int .u64 pi).wf = true) (pe : Int) (wpe : (Lit.int .i64 pe).wf = true) (pm : Int) (wpm : (Lit.int .i64 pm).wf = true) (ps : Int) (wps : (Lit.int .i64 ps).wf = true) (pr : Int) (wpr : (Lit.int .i64 pr).wf = true) (pb0 : Int) (wpb0 : (Lit.int .u8 pb0).wf = true) (pb1 : Int) (wpb1 : (Lit.int .u8 pb1).wf = true) (pb2 : Int) (wpb2 : (Lit.int .u8 pb2).wf = true) (pb3 : Int) (wpb3 : (Lit.int .u8 pb3).wf = true) (pb4 : Int) (wpb4 : (Lit.int .u8 pb4).wf = true) (pb5 : Int) (wpb5 : (Lit.int .u8 pb5).wf = true) (pb6 : Int) (wpb6 : (Lit.int .u8 pb6).wf = true) (pb7 : Int) (wpb7 : (Lit.int .u8 pb7).wf = true) (pb8 : Int) (wpb8 : (Lit.int .u8 pb8).wf = true) (pb9 : Int) (wpb9 : (Lit.int .u8 pb9).wf = true) (pb10 : Int) (wpb10 : (Lit.int .u8 pb10).wf = true) (pb11 : Int) (wpb11 : (Lit.int .u8 pb11).wf = true) (pb12 : Int) (wpb12 : (Lit.int .u8 pb12).wf = true) (pb13 : Int) (wpb13 : (Lit.int .u8 pb13).wf = true) (pb14 : Int) (wpb14 : (Lit.int .u8 pb14).wf = true) (pb15 : Int) (wpb15 : (Lit.int .u8 pb15).wf = true) (pc : Int) (wpc : (Lit.int .i64 pc).wf = true) (pg : Bool) (ti : Int) (wti : (Lit.int .u64 ti).wf = true) (te : Int) (wte : (Lit.int .i64 te).wf = true) (tm : Int) (wtm : (Lit.int .i64 tm).wf = true) (ts : Int) (wts : (Lit.int .i64 ts).wf = true) (tr : Int) (wtr : (Lit.int .i64 tr).wf = true) (tb0 : Int) (wtb0 : (Lit.int .u8 tb0).wf = true) (tb1 : Int) (wtb1 : (Lit.int .u8 tb1).wf = true) (tb2 : Int) (wtb2 : (Lit.int .u8 tb2).wf = true) (tb3 : Int) (wtb3 : (Lit.int .u8 tb3).wf = true) (tb4 : Int) (wtb4 : (Lit.int .u8 tb4).wf = true) (tb5 : Int) (wtb5 : (Lit.int .u8 tb5).wf = true) (tb6 : Int) (wtb6 : (Lit.int .u8 tb6).wf = true) (tb7 : Int) (wtb7 : (Lit.int .u8 tb7).wf = true) (tb8 : Int) (wtb8 : (Lit.int .u8 tb8).wf = true) (tb9 : Int) (wtb9 : (Lit.int .u8 tb9).wf = true) (tb10 : Int) (wtb10 : (Lit.int .u8 tb10).wf = true) (tb11 : Int) (wtb11 : (Lit.int .u8 tb11).wf = true) (tb12 : Int) (wtb12 : (Lit.int .u8 tb12).wf = true) (tb13 : Int) (wtb13 : (Lit.int .u8 tb13).wf = true) (tb14 : Int) (wtb14 : (Lit.int .u8 tb14).wf = true) (tb15 : Int) (wtb15 : (Lit.int .u8 tb15).wf = true) (tc : Int) (wtc : (Lit.int .i64 tc).wf = true) (tg : Bool) (xi : Int) (wxi : (Lit.int .u64 xi).wf = true) (xe : Int) (wxe : (Lit.int .i64 xe).wf = true) (xm : Int) (wxm : (Lit.int .i64 xm).wf = true) (xs : Int) (wxs : (Lit.int .i64 xs).wf = true) (xr : Int) (wxr : (Lit.int .i64 xr).wf = true) (xb0 : Int) (wxb0 : (Lit.int .u8 xb0).wf = true) (xb1 : Int) (wxb1 : (Lit.int .u8 xb1).wf = true) (xb2 : Int) (wxb2 : (Lit.int .u8 xb2).wf = true) (xb3 : Int) (wxb3 : (Lit.int .u8 xb3).wf = true) (xb4 : Int) (wxb4 : (Lit.int .u8 xb4).wf = true) (xb5 : Int) (wxb5 : (Lit.int .u8 xb5).wf = true) (xb6 : Int) (wxb6 : (Lit.int .u8 xb6).wf = true) (xb7 : Int) (wxb7 : (Lit.int .u8 xb7).wf = true) (xb8 : Int) (wxb8 : (Lit.int .u8 xb8).wf = true) (xb9 : Int) (wxb9 : (Lit.int .u8 xb9).wf = true) (xb10 : Int) (wxb10 : (Lit.int .u8 xb10).wf = true) (xb11 : Int) (wxb11 : (Lit.int .u8 xb11).wf = true) (xb12 : Int) (wxb12 : (Lit.int .u8 xb12).wf = true) (xb13 : Int) (wxb13 : (Lit.int .u8 xb13).wf = true) (xb14 : Int) (wxb14 : (Lit.int .u8 xb14).wf = true) (xb15 : Int) (wxb15 : (Lit.int .u8 xb15).wf = true) (xc : Int) (wxc : (Lit.int .i64 xc).wf = true) (xg : Bool) (z : Int) (wz : (Lit.int .u8 z).wf = true) (q : Int) (wq : (Lit.int .i64 q).wf = true) (w : World) :
    Calls Try.prog 31 #[.int .u64 n, .int .u64 m, .agg #[.int .u64 pi, .int .i64 pe, .int .i64 pm, .int .i64 ps, .int .i64 pr, .int .u8 pb0, .int .u8 pb1, .int .u8 pb2, .int .u8 pb3, .int .u8 pb4, .int .u8 pb5, .int .u8 pb6, .int .u8 pb7, .int .u8 pb8, .int .u8 pb9, .int .u8 pb10, .int .u8 pb11, .int .u8 pb12, .int .u8 pb13, .int .u8 pb14, .int .u8 pb15, .int .i64 pc, .bool pg], .agg #[.int .u64 ti, .int .i64 te, .int .i64 tm, .int .i64 ts, .int .i64 tr, .int .u8 tb0, .int .u8 tb1, .int .u8 tb2, .int .u8 tb3, .int .u8 tb4, .int .u8 tb5, .int .u8 tb6, .int .u8 tb7, .int .u8 tb8, .int .u8 tb9, .int .u8 tb10, .int .u8 tb11, .int .u8 tb12, .int .u8 tb13, .int .u8 tb14, .int .u8 tb15, .int .i64 tc, .bool tg], .agg #[.int .u64 xi, .int .i64 xe, .int .i64 xm, .int .i64 xs, .int .i64 xr, .int .u8 xb0, .int .u8 xb1, .int .u8 xb2, .int .u8 xb3, .int .u8 xb4, .int .u8 xb5, .int .u8 xb6, .int .u8 xb7, .int .u8 xb8, .int .u8 xb9, .int .u8 xb10, .int .u8 xb11, .int .u8 xb12, .int .u8 xb13, .int .u8 xb14, .int .u8 xb15, .int .i64 xc, .bool xg], .int .u8 z, .int .i64 q] w fun e w' => e = .returned (.bool true) ∧ Below w.heap.size w w' := by
  obtain ⟨n, rfl, hn⟩ := u64_nat wn
  obtain ⟨m, rfl, hm⟩ := u64_nat wm
  obtain ⟨pi, rfl, hpi⟩ := u64_nat wpi
  obtain ⟨ti, rfl, hti⟩ := u64_nat wti
  obtain ⟨xi, rfl, hxi⟩ := u64_nat wxi
  obtain ⟨z1, z2⟩ := bounds_u8 wz
  obtain ⟨z, rfl⟩ : ∃ k : Nat, z = k := ⟨z.toNat, by omega⟩
  have hq := bounds_i64 wq
  exact sTorn_any n hn m hm ⟨pi, pe, ⟨pm, ps, pr, [pb0, pb1, pb2, pb3, pb4, pb5, pb6, pb7, pb8, pb9, pb10, pb11, pb12, pb13, pb14, pb15], pc, pg⟩⟩ ⟨ti, te, ⟨tm, ts, tr, [tb0, tb1, tb2, tb3, tb4, tb5, tb6, tb7, tb8, tb9, tb10, tb11, tb12, tb13, tb14, tb15], tc, tg⟩⟩ ⟨xi, xe, ⟨xm, xs, xr, [xb0, xb1, xb2, xb3, xb4, xb5, xb6, xb7, xb8, xb9, xb10, xb11, xb12, xb13, xb14, xb15], xc, xg⟩⟩ (swf16 wpb0 wpb1 wpb2 wpb3 wpb4 wpb5 wpb6 wpb7 wpb8 wpb9 wpb10 wpb11 wpb12 wpb13 wpb14 wpb15) (swf16 wtb0 wtb1 wtb2 wtb3 wtb4 wtb5 wtb6 wtb7 wtb8 wtb9 wtb10 wtb11 wtb12 wtb13 wtb14 wtb15) (swf16 wxb0 wxb1 wxb2 wxb3 wxb4 wxb5 wxb6 wxb7 wxb8 wxb9 wxb10 wxb11 wxb12 wxb13 wxb14 wxb15) hpi hti hxi z (by omega) q ⟨by omega, by omega⟩ w
end Go.Proofs.Ytdchcggllcgokaa.Q
