/-
  ashlarref10.Begin, Next, New: the walks.
-/
import Derived.Test.YtdchcggllcgokaaRos10
namespace Go.Proofs.Ytdchcggllcgokaa.Q
open Go.RowKit Go.Proofs.Ytdchcggllcgokaa.L Go.Proofs.Ytdchcggllcgokaa.R Go.Proofs.YtdchcggllcgokaaW.PrintWords
set_option linter.unusedVariables false
set_option linter.unusedSimpArgs false
set_option maxRecDepth 100000 in
set_option maxHeartbeats 2000000 in
theorem rBegin_A (x : Ro) (HL : Hid (x.st.length = 16)) (i : Int) 
    (Y : Hid (∀ w : World, Calls Try.prog 90 #[ros x] w fun e w' => e = .returned (.bool false) ∧ Below w.heap.size w w')) (w : World) : Calls Try.prog 98 #[ros x, .int .i64 i] w fun e w' => e = .returned (.tuple #[ros ro0, .int .i64 2]) ∧ Below w.heap.size w w' := by
  have HB := Lib.hid (Below.refl w.heap.size w)
  have tok0 : True := trivial
  have tp0 : True := trivial
  go_enter Try.func98, Try.ntmps98
  go_wp2_with (first
    | (go_skip)
    | (refine rosBox (.tmp 0) rfl rfl HL.out rfl ?_; intro w1 hk hb1 hz1; replace HB := Lib.hid (below_ext HB.out hb1); have K2 := Lib.hid hk; clear hk hb1)
    | (have _t := tok0; refine rosAlloc rfl rfl ?_; intro w2 hk hb2 hz2; replace K2 := Lib.hid (K2.out.below hb2); replace HB := Lib.hid (below_ext HB.out hb2); have K4 := Lib.hid hk; clear hk hb2; have tok1 : True := trivial; clear _t tok0)
    | (refine rosLoad (.tmp 2) rfl K2.out rfl rfl ?_)
    | (have _t := tp0; go_at_call 90; refine (Y.out _).mono ?_; rintro e w3 ⟨rfl, hb3⟩; replace K2 := Lib.hid (K2.out.below hb3); replace K4 := Lib.hid (K4.out.below hb3); replace HB := Lib.hid (below_ext HB.out hb3); have hz3 := hb3.size; clear hb3; have tp1 : True := trivial; clear _t tp0)
    | (have _t := tp1; go_at_call 134; refine (trivial).mono ?_; rintro e w4 ⟨rfl, hb4⟩; replace K2 := Lib.hid (K2.out.below hb4); replace K4 := Lib.hid (K4.out.below hb4); replace HB := Lib.hid (below_ext HB.out hb4); have hz4 := hb4.size; clear hb4; have tp2 : True := trivial; clear _t tp1)
    | (refine rosBuild0 rfl rfl ?_)
    | (refine rosStore (.tmp 4) (.tmp 15) rfl K4.out rfl rfl zero16_length rfl ?_; intro w5 hk hg; replace HB := Lib.hid (below_at HB.out hg (by omega) K4.out.lt); replace K2 := Lib.hid (K2.out.grown hg (by omega)); replace K4 := Lib.hid hk; have hz5 := hg.size; clear hk hg))
  exact bodyPost_ret (v := .tuple #[ros ro0, .int .i64 2]) (ret_ros rfl _ _ K4.out rfl rfl) rfl ⟨rfl, HB.out⟩
set_option maxRecDepth 100000 in
set_option maxHeartbeats 2000000 in
theorem rBegin_B (x : Ro) (HL : Hid (x.st.length = 16)) (i : Int) 
    (Y : Hid (∀ w : World, Calls Try.prog 90 #[ros x] w fun e w' => e = .returned (.bool true) ∧ Below w.heap.size w w'))
    (P : Hid (∀ w : World, Calls Try.prog 134 #[ros x, .int .i64 i] w fun e w' => e = .returned (.bool false) ∧ Below w.heap.size w w')) (w : World) : Calls Try.prog 98 #[ros x, .int .i64 i] w fun e w' => e = .returned (.tuple #[ros ro0, .int .i64 2]) ∧ Below w.heap.size w w' := by
  have HB := Lib.hid (Below.refl w.heap.size w)
  have tok0 : True := trivial
  have tp0 : True := trivial
  go_enter Try.func98, Try.ntmps98
  go_wp2_with (first
    | (go_skip)
    | (refine rosBox (.tmp 0) rfl rfl HL.out rfl ?_; intro w1 hk hb1 hz1; replace HB := Lib.hid (below_ext HB.out hb1); have K2 := Lib.hid hk; clear hk hb1)
    | (have _t := tok0; refine rosAlloc rfl rfl ?_; intro w2 hk hb2 hz2; replace K2 := Lib.hid (K2.out.below hb2); replace HB := Lib.hid (below_ext HB.out hb2); have K4 := Lib.hid hk; clear hk hb2; have tok1 : True := trivial; clear _t tok0)
    | (refine rosLoad (.tmp 2) rfl K2.out rfl rfl ?_)
    | (have _t := tp0; go_at_call 90; refine (Y.out _).mono ?_; rintro e w3 ⟨rfl, hb3⟩; replace K2 := Lib.hid (K2.out.below hb3); replace K4 := Lib.hid (K4.out.below hb3); replace HB := Lib.hid (below_ext HB.out hb3); have hz3 := hb3.size; clear hb3; have tp1 : True := trivial; clear _t tp0)
    | (have _t := tp1; go_at_call 134; refine (P.out _).mono ?_; rintro e w4 ⟨rfl, hb4⟩; replace K2 := Lib.hid (K2.out.below hb4); replace K4 := Lib.hid (K4.out.below hb4); replace HB := Lib.hid (below_ext HB.out hb4); have hz4 := hb4.size; clear hb4; have tp2 : True := trivial; clear _t tp1)
    | (refine rosBuild0 rfl rfl ?_)
    | (refine rosStore (.tmp 4) (.tmp 15) rfl K4.out rfl rfl zero16_length rfl ?_; intro w5 hk hg; replace HB := Lib.hid (below_at HB.out hg (by omega) K4.out.lt); replace K2 := Lib.hid (K2.out.grown hg (by omega)); replace K4 := Lib.hid hk; have hz5 := hg.size; clear hk hg))
  exact bodyPost_ret (v := .tuple #[ros ro0, .int .i64 2]) (ret_ros rfl _ _ K4.out rfl rfl) rfl ⟨rfl, HB.out⟩
set_option maxRecDepth 100000 in
set_option maxHeartbeats 2000000 in
theorem rBegin_C (x : Ro) (HL : Hid (x.st.length = 16)) (i : Nat) (hi : i < 16) (h : (rd x.st (i : Int) != 1) = true)
    (Y : Hid (∀ w : World, Calls Try.prog 90 #[ros x] w fun e w' => e = .returned (.bool true) ∧ Below w.heap.size w w'))
    (P : Hid (∀ w : World, Calls Try.prog 134 #[ros x, .int .i64 (i : Int)] w fun e w' => e = .returned (.bool true) ∧ Below w.heap.size w w'))
     (w : World) : Calls Try.prog 98 #[ros x, .int .i64 (i : Int)] w fun e w' => e = .returned (.tuple #[ros ro0, .int .i64 17]) ∧ Below w.heap.size w w' := by
  have HB := Lib.hid (Below.refl w.heap.size w)
  have hi0 : (0 : Int) ≤ (i : Int) := by omega
  have hi16 : (i : Int) < 16 := by omega
  have tok0 : True := trivial
  have tp0 : True := trivial
  go_enter Try.func98, Try.ntmps98
  go_wp2_with (first
    | (go_skip)
    | (refine rosBox (.tmp 0) rfl rfl HL.out rfl ?_; intro w1 hk hb1 hz1; replace HB := Lib.hid (below_ext HB.out hb1); have K2 := Lib.hid hk; clear hk hb1)
    | (have _t := tok0; refine rosAlloc rfl rfl ?_; intro w2 hk hb2 hz2; replace K2 := Lib.hid (K2.out.below hb2); replace HB := Lib.hid (below_ext HB.out hb2); have K4 := Lib.hid hk; clear hk hb2; have tok1 : True := trivial; clear _t tok0)
    | (refine rosLoad (.tmp 2) rfl K2.out rfl rfl ?_)
    | (have _t := tp0; go_at_call 90; refine (Y.out _).mono ?_; rintro e w3 ⟨rfl, hb3⟩; replace K2 := Lib.hid (K2.out.below hb3); replace K4 := Lib.hid (K4.out.below hb3); replace HB := Lib.hid (below_ext HB.out hb3); have hz3 := hb3.size; clear hb3; have tp1 : True := trivial; clear _t tp0)
    | (have _t := tp1; go_at_call 134; refine (P.out _).mono ?_; rintro e w4 ⟨rfl, hb4⟩; replace K2 := Lib.hid (K2.out.below hb4); replace K4 := Lib.hid (K4.out.below hb4); replace HB := Lib.hid (below_ext HB.out hb4); have hz4 := hb4.size; clear hb4; have tp2 : True := trivial; clear _t tp1)
    | (refine F.rowCell _ (.tmp 18) rfl (K2.out.ci i hi) rfl R.agg_u8 rfl ?_)
    | (have _t := tp2; go_at_call 93; refine (trivial).mono ?_; rintro e w5 ⟨rfl, hb5⟩; replace K2 := Lib.hid (K2.out.below hb5); replace K4 := Lib.hid (K4.out.below hb5); replace HB := Lib.hid (below_ext HB.out hb5); have hz5 := hb5.size; clear hb5; have tp3 : True := trivial; clear _t tp2)
    | (refine F.rowCell _ (.tmp 27) rfl K2.out.cgo rfl agg_bool rfl ?_)
    | (refine rosBuild0 rfl rfl ?_)
    | (refine rosStore (.tmp 4) (.tmp 30) rfl K4.out rfl rfl zero16_length rfl ?_; intro w6 hk hg; replace HB := Lib.hid (below_at HB.out hg (by omega) K4.out.lt); replace K2 := Lib.hid (K2.out.grown hg (by omega)); replace K4 := Lib.hid hk; have hz6 := hg.size; clear hk hg))
  exact bodyPost_ret (v := .tuple #[ros ro0, .int .i64 17]) (ret_ros rfl _ _ K4.out rfl rfl) rfl ⟨rfl, HB.out⟩
set_option maxRecDepth 100000 in
set_option maxHeartbeats 2000000 in
theorem rBegin_D (x : Ro) (HL : Hid (x.st.length = 16)) (i : Nat) (hi : i < 16) (h : (rd x.st (i : Int) != 1) = false) (c : Int) (hc : 1 < c)
    (Y : Hid (∀ w : World, Calls Try.prog 90 #[ros x] w fun e w' => e = .returned (.bool true) ∧ Below w.heap.size w w'))
    (P : Hid (∀ w : World, Calls Try.prog 134 #[ros x, .int .i64 (i : Int)] w fun e w' => e = .returned (.bool true) ∧ Below w.heap.size w w'))
    (M : Hid (∀ w : World, Calls Try.prog 93 #[ros x] w fun e w' => e = .returned (.int .i64 c) ∧ Below w.heap.size w w')) (w : World) : Calls Try.prog 98 #[ros x, .int .i64 (i : Int)] w fun e w' => e = .returned (.tuple #[ros ro0, .int .i64 17]) ∧ Below w.heap.size w w' := by
  have HB := Lib.hid (Below.refl w.heap.size w)
  have hi0 : (0 : Int) ≤ (i : Int) := by omega
  have hi16 : (i : Int) < 16 := by omega
  have g1 : decide (1 < c) = true := by simpa using hc
  have tok0 : True := trivial
  have tp0 : True := trivial
  go_enter Try.func98, Try.ntmps98
  go_wp2_with (first
    | (go_skip)
    | (refine rosBox (.tmp 0) rfl rfl HL.out rfl ?_; intro w1 hk hb1 hz1; replace HB := Lib.hid (below_ext HB.out hb1); have K2 := Lib.hid hk; clear hk hb1)
    | (have _t := tok0; refine rosAlloc rfl rfl ?_; intro w2 hk hb2 hz2; replace K2 := Lib.hid (K2.out.below hb2); replace HB := Lib.hid (below_ext HB.out hb2); have K4 := Lib.hid hk; clear hk hb2; have tok1 : True := trivial; clear _t tok0)
    | (refine rosLoad (.tmp 2) rfl K2.out rfl rfl ?_)
    | (have _t := tp0; go_at_call 90; refine (Y.out _).mono ?_; rintro e w3 ⟨rfl, hb3⟩; replace K2 := Lib.hid (K2.out.below hb3); replace K4 := Lib.hid (K4.out.below hb3); replace HB := Lib.hid (below_ext HB.out hb3); have hz3 := hb3.size; clear hb3; have tp1 : True := trivial; clear _t tp0)
    | (have _t := tp1; go_at_call 134; refine (P.out _).mono ?_; rintro e w4 ⟨rfl, hb4⟩; replace K2 := Lib.hid (K2.out.below hb4); replace K4 := Lib.hid (K4.out.below hb4); replace HB := Lib.hid (below_ext HB.out hb4); have hz4 := hb4.size; clear hb4; have tp2 : True := trivial; clear _t tp1)
    | (refine F.rowCell _ (.tmp 18) rfl (K2.out.ci i hi) rfl R.agg_u8 rfl ?_)
    | (have _t := tp2; go_at_call 93; refine (M.out _).mono ?_; rintro e w5 ⟨rfl, hb5⟩; replace K2 := Lib.hid (K2.out.below hb5); replace K4 := Lib.hid (K4.out.below hb5); replace HB := Lib.hid (below_ext HB.out hb5); have hz5 := hb5.size; clear hb5; have tp3 : True := trivial; clear _t tp2)
    | (refine F.rowCell _ (.tmp 27) rfl K2.out.cgo rfl agg_bool rfl ?_)
    | (refine rosBuild0 rfl rfl ?_)
    | (refine rosStore (.tmp 4) (.tmp 30) rfl K4.out rfl rfl zero16_length rfl ?_; intro w6 hk hg; replace HB := Lib.hid (below_at HB.out hg (by omega) K4.out.lt); replace K2 := Lib.hid (K2.out.grown hg (by omega)); replace K4 := Lib.hid hk; have hz6 := hg.size; clear hk hg))
  exact bodyPost_ret (v := .tuple #[ros ro0, .int .i64 17]) (ret_ros rfl _ _ K4.out rfl rfl) rfl ⟨rfl, HB.out⟩
set_option maxRecDepth 100000 in
set_option maxHeartbeats 2000000 in
theorem rBegin_E (x : Ro) (HL : Hid (x.st.length = 16)) (i : Nat) (hi : i < 16) (h : (rd x.st (i : Int) != 1) = false) (c : Int) (hc : ¬ 1 < c) (hg : x.go = true)
    (Y : Hid (∀ w : World, Calls Try.prog 90 #[ros x] w fun e w' => e = .returned (.bool true) ∧ Below w.heap.size w w'))
    (P : Hid (∀ w : World, Calls Try.prog 134 #[ros x, .int .i64 (i : Int)] w fun e w' => e = .returned (.bool true) ∧ Below w.heap.size w w'))
    (M : Hid (∀ w : World, Calls Try.prog 93 #[ros x] w fun e w' => e = .returned (.int .i64 c) ∧ Below w.heap.size w w')) (w : World) : Calls Try.prog 98 #[ros x, .int .i64 (i : Int)] w fun e w' => e = .returned (.tuple #[ros ro0, .int .i64 17]) ∧ Below w.heap.size w w' := by
  have HB := Lib.hid (Below.refl w.heap.size w)
  have hi0 : (0 : Int) ≤ (i : Int) := by omega
  have hi16 : (i : Int) < 16 := by omega
  have g1 : decide (1 < c) = false := by simpa using hc
  have tok0 : True := trivial
  have tp0 : True := trivial
  go_enter Try.func98, Try.ntmps98
  go_wp2_with (first
    | (go_skip)
    | (refine rosBox (.tmp 0) rfl rfl HL.out rfl ?_; intro w1 hk hb1 hz1; replace HB := Lib.hid (below_ext HB.out hb1); have K2 := Lib.hid hk; clear hk hb1)
    | (have _t := tok0; refine rosAlloc rfl rfl ?_; intro w2 hk hb2 hz2; replace K2 := Lib.hid (K2.out.below hb2); replace HB := Lib.hid (below_ext HB.out hb2); have K4 := Lib.hid hk; clear hk hb2; have tok1 : True := trivial; clear _t tok0)
    | (refine rosLoad (.tmp 2) rfl K2.out rfl rfl ?_)
    | (have _t := tp0; go_at_call 90; refine (Y.out _).mono ?_; rintro e w3 ⟨rfl, hb3⟩; replace K2 := Lib.hid (K2.out.below hb3); replace K4 := Lib.hid (K4.out.below hb3); replace HB := Lib.hid (below_ext HB.out hb3); have hz3 := hb3.size; clear hb3; have tp1 : True := trivial; clear _t tp0)
    | (have _t := tp1; go_at_call 134; refine (P.out _).mono ?_; rintro e w4 ⟨rfl, hb4⟩; replace K2 := Lib.hid (K2.out.below hb4); replace K4 := Lib.hid (K4.out.below hb4); replace HB := Lib.hid (below_ext HB.out hb4); have hz4 := hb4.size; clear hb4; have tp2 : True := trivial; clear _t tp1)
    | (refine F.rowCell _ (.tmp 18) rfl (K2.out.ci i hi) rfl R.agg_u8 rfl ?_)
    | (have _t := tp2; go_at_call 93; refine (M.out _).mono ?_; rintro e w5 ⟨rfl, hb5⟩; replace K2 := Lib.hid (K2.out.below hb5); replace K4 := Lib.hid (K4.out.below hb5); replace HB := Lib.hid (below_ext HB.out hb5); have hz5 := hb5.size; clear hb5; have tp3 : True := trivial; clear _t tp2)
    | (refine F.rowCell _ (.tmp 27) rfl K2.out.cgo rfl agg_bool rfl ?_)
    | (refine rosBuild0 rfl rfl ?_)
    | (refine rosStore (.tmp 4) (.tmp 30) rfl K4.out rfl rfl zero16_length rfl ?_; intro w6 hk hg; replace HB := Lib.hid (below_at HB.out hg (by omega) K4.out.lt); replace K2 := Lib.hid (K2.out.grown hg (by omega)); replace K4 := Lib.hid hk; have hz6 := hg.size; clear hk hg))
  exact bodyPost_ret (v := .tuple #[ros ro0, .int .i64 17]) (ret_ros rfl _ _ K4.out rfl rfl) rfl ⟨rfl, HB.out⟩
set_option maxRecDepth 100000 in
set_option maxHeartbeats 2000000 in
theorem rBegin_F (x : Ro) (HL : Hid (x.st.length = 16)) (i : Nat) (hi : i < 16) (h : (rd x.st (i : Int) != 1) = false) (c : Int) (hc : ¬ 1 < c) (hg : x.go = false)
    (Y : Hid (∀ w : World, Calls Try.prog 90 #[ros x] w fun e w' => e = .returned (.bool true) ∧ Below w.heap.size w w'))
    (P : Hid (∀ w : World, Calls Try.prog 134 #[ros x, .int .i64 (i : Int)] w fun e w' => e = .returned (.bool true) ∧ Below w.heap.size w w'))
    (M : Hid (∀ w : World, Calls Try.prog 93 #[ros x] w fun e w' => e = .returned (.int .i64 c) ∧ Below w.heap.size w w')) (w : World) : Calls Try.prog 98 #[ros x, .int .i64 (i : Int)] w fun e w' => e = .returned (.tuple #[ros { x with st := x.st.set i 2, cu := 0 }, .int .i64 0]) ∧ Below w.heap.size w w' := by
  have HB := Lib.hid (Below.refl w.heap.size w)
  have hi0 : (0 : Int) ≤ (i : Int) := by omega
  have hi16 : (i : Int) < 16 := by omega
  have g1 : decide (1 < c) = false := by simpa using hc
  have tok0 : True := trivial
  have tp0 : True := trivial
  go_enter Try.func98, Try.ntmps98
  go_wp2_with (first
    | (go_skip)
    | (refine rosBox (.tmp 0) rfl rfl HL.out rfl ?_; intro w1 hk hb1 hz1; replace HB := Lib.hid (below_ext HB.out hb1); have K2 := Lib.hid hk; clear hk hb1)
    | (have _t := tok0; refine rosAlloc rfl rfl ?_; intro w2 hk hb2 hz2; replace K2 := Lib.hid (K2.out.below hb2); replace HB := Lib.hid (below_ext HB.out hb2); have K4 := Lib.hid hk; clear hk hb2; have tok1 : True := trivial; clear _t tok0)
    | (refine rosLoad (.tmp 2) rfl K2.out rfl rfl ?_)
    | (have _t := tp0; go_at_call 90; refine (Y.out _).mono ?_; rintro e w3 ⟨rfl, hb3⟩; replace K2 := Lib.hid (K2.out.below hb3); replace K4 := Lib.hid (K4.out.below hb3); replace HB := Lib.hid (below_ext HB.out hb3); have hz3 := hb3.size; clear hb3; have tp1 : True := trivial; clear _t tp0)
    | (have _t := tp1; go_at_call 134; refine (P.out _).mono ?_; rintro e w4 ⟨rfl, hb4⟩; replace K2 := Lib.hid (K2.out.below hb4); replace K4 := Lib.hid (K4.out.below hb4); replace HB := Lib.hid (below_ext HB.out hb4); have hz4 := hb4.size; clear hb4; have tp2 : True := trivial; clear _t tp1)
    | (refine F.rowCell _ (.tmp 18) rfl (K2.out.ci i hi) rfl R.agg_u8 rfl ?_)
    | (have _t := tp2; go_at_call 93; refine (M.out _).mono ?_; rintro e w5 ⟨rfl, hb5⟩; replace K2 := Lib.hid (K2.out.below hb5); replace K4 := Lib.hid (K4.out.below hb5); replace HB := Lib.hid (below_ext HB.out hb5); have hz5 := hb5.size; clear hb5; have tp3 : True := trivial; clear _t tp2)
    | (refine F.rowCell _ (.tmp 27) rfl K2.out.cgo rfl agg_bool rfl ?_)
    | (refine rosSetSt (.tmp 33) (.const (.int .u8 2)) rfl K2.out i hi rfl _ rfl rfl ?_; intro w6 hk hg; replace HB := Lib.hid (below_at HB.out hg (by omega) K2.out.lt); replace K4 := Lib.hid (K4.out.grown hg (by omega)); replace K2 := Lib.hid hk; have hz6 := hg.size; clear hk hg)
    | (refine rosSetCu (.tmp 34) (.const (.int .i64 0)) rfl K2.out rfl _ rfl rfl ?_; intro w7 hk hg; replace HB := Lib.hid (below_at HB.out hg (by omega) K2.out.lt); replace K4 := Lib.hid (K4.out.grown hg (by omega)); replace K2 := Lib.hid hk; have hz7 := hg.size; clear hk hg)
    | (refine rosStore (.tmp 4) (.tmp 35) rfl K4.out rfl rfl (by simpa using HL.out) rfl ?_; intro w8 hk hg; replace HB := Lib.hid (below_at HB.out hg (by omega) K4.out.lt); replace K2 := Lib.hid (K2.out.grown hg (by omega)); replace K4 := Lib.hid hk; have hz8 := hg.size; clear hk hg))
  exact bodyPost_ret (v := .tuple #[ros { x with st := x.st.set i 2, cu := 0 }, .int .i64 0]) (ret_ros rfl _ _ K4.out rfl rfl) rfl ⟨by rw [hg], HB.out⟩
set_option maxRecDepth 100000 in
set_option maxHeartbeats 2000000 in
theorem rNext_A (x : Ro) (HL : Hid (x.st.length = 16))  
    (Y : Hid (∀ w : World, Calls Try.prog 90 #[ros x] w fun e w' => e = .returned (.bool false) ∧ Below w.heap.size w w')) (w : World) : Calls Try.prog 99 #[ros x] w fun e w' => e = .returned (.tuple #[ros ro0, .int .i64 2]) ∧ Below w.heap.size w w' := by
  have HB := Lib.hid (Below.refl w.heap.size w)
  have tok0 : True := trivial
  have tp0 : True := trivial
  go_enter Try.func99, Try.ntmps99
  go_wp2_with (first
    | (go_skip)
    | (refine rosBox (.tmp 0) rfl rfl HL.out rfl ?_; intro w1 hk hb1 hz1; replace HB := Lib.hid (below_ext HB.out hb1); have K1 := Lib.hid hk; clear hk hb1)
    | (have _t := tok0; refine rosAlloc rfl rfl ?_; intro w2 hk hb2 hz2; replace K1 := Lib.hid (K1.out.below hb2); replace HB := Lib.hid (below_ext HB.out hb2); have K2 := Lib.hid hk; clear hk hb2; have tok1 : True := trivial; clear _t tok0)
    | (refine rosLoad (.tmp 1) rfl K1.out rfl rfl ?_)
    | (have _t := tp0; go_at_call 90; refine (Y.out _).mono ?_; rintro e w3 ⟨rfl, hb3⟩; replace K1 := Lib.hid (K1.out.below hb3); replace K2 := Lib.hid (K2.out.below hb3); replace HB := Lib.hid (below_ext HB.out hb3); have hz3 := hb3.size; clear hb3; have tp1 : True := trivial; clear _t tp0)
    | (refine rosBuild0 rfl rfl ?_)
    | (refine rosStore (.tmp 2) (.tmp 9) rfl K2.out rfl rfl zero16_length rfl ?_; intro w4 hk hg; replace HB := Lib.hid (below_at HB.out hg (by omega) K2.out.lt); replace K1 := Lib.hid (K1.out.grown hg (by omega)); replace K2 := Lib.hid hk; have hz4 := hg.size; clear hk hg))
  exact bodyPost_ret (v := .tuple #[ros ro0, .int .i64 2]) (ret_ros rfl _ _ K2.out rfl rfl) rfl ⟨rfl, HB.out⟩
set_option maxRecDepth 100000 in
set_option maxHeartbeats 2000000 in
theorem rNext_B (x : Ro) (HL : Hid (x.st.length = 16)) (k : Int) 
    (Y : Hid (∀ w : World, Calls Try.prog 90 #[ros x] w fun e w' => e = .returned (.bool true) ∧ Below w.heap.size w w'))
    (H : Hid (∀ w : World, Calls Try.prog 96 #[ros x] w fun e w' => e = .returned (.tuple #[.int .i64 k, .bool false]) ∧ Below w.heap.size w w')) (w : World) : Calls Try.prog 99 #[ros x] w fun e w' => e = .returned (.tuple #[ros ro0, .int .i64 17]) ∧ Below w.heap.size w w' := by
  have HB := Lib.hid (Below.refl w.heap.size w)
  have tok0 : True := trivial
  have tp0 : True := trivial
  go_enter Try.func99, Try.ntmps99
  go_wp2_with (first
    | (go_skip)
    | (refine rosBox (.tmp 0) rfl rfl HL.out rfl ?_; intro w1 hk hb1 hz1; replace HB := Lib.hid (below_ext HB.out hb1); have K1 := Lib.hid hk; clear hk hb1)
    | (have _t := tok0; refine rosAlloc rfl rfl ?_; intro w2 hk hb2 hz2; replace K1 := Lib.hid (K1.out.below hb2); replace HB := Lib.hid (below_ext HB.out hb2); have K2 := Lib.hid hk; clear hk hb2; have tok1 : True := trivial; clear _t tok0)
    | (refine rosLoad (.tmp 1) rfl K1.out rfl rfl ?_)
    | (have _t := tp0; go_at_call 90; refine (Y.out _).mono ?_; rintro e w3 ⟨rfl, hb3⟩; replace K1 := Lib.hid (K1.out.below hb3); replace K2 := Lib.hid (K2.out.below hb3); replace HB := Lib.hid (below_ext HB.out hb3); have hz3 := hb3.size; clear hb3; have tp1 : True := trivial; clear _t tp0)
    | (have _t := tp1; go_at_call 96; refine (H.out _).mono ?_; rintro e w4 ⟨rfl, hb4⟩; replace K1 := Lib.hid (K1.out.below hb4); replace K2 := Lib.hid (K2.out.below hb4); replace HB := Lib.hid (below_ext HB.out hb4); have hz4 := hb4.size; clear hb4; have tp2 : True := trivial; clear _t tp1)
    | (refine rosBuild0 rfl rfl ?_)
    | (refine rosStore (.tmp 2) (.tmp 17) rfl K2.out rfl rfl zero16_length rfl ?_; intro w5 hk hg; replace HB := Lib.hid (below_at HB.out hg (by omega) K2.out.lt); replace K1 := Lib.hid (K1.out.grown hg (by omega)); replace K2 := Lib.hid hk; have hz5 := hg.size; clear hk hg))
  exact bodyPost_ret (v := .tuple #[ros ro0, .int .i64 17]) (ret_ros rfl _ _ K2.out rfl rfl) rfl ⟨rfl, HB.out⟩
set_option maxRecDepth 100000 in
set_option maxHeartbeats 2000000 in
theorem rNext_C (x : Ro) (HL : Hid (x.st.length = 16)) (k : Nat) (hk : k < 16) (h0 : 0 ≤ x.cu) (h1 : x.cu < 64) (he : (x.cu + 1 == x.s) = true)
    (Y : Hid (∀ w : World, Calls Try.prog 90 #[ros x] w fun e w' => e = .returned (.bool true) ∧ Below w.heap.size w w'))
    (H : Hid (∀ w : World, Calls Try.prog 96 #[ros x] w fun e w' => e = .returned (.tuple #[.int .i64 (k : Int), .bool true]) ∧ Below w.heap.size w w')) (w : World) : Calls Try.prog 99 #[ros x] w fun e w' => e = .returned (.tuple #[ros { x with st := x.st.set k 0, cu := 0 }, .int .i64 0]) ∧ Below w.heap.size w w' := by
  have HB := Lib.hid (Below.refl w.heap.size w)
  have hi0 : (0 : Int) ≤ (k : Int) := by omega
  have hi16 : (k : Int) < 16 := by omega
  have tok0 : True := trivial
  have tp0 : True := trivial
  go_enter Try.func99, Try.ntmps99
  go_wp2_with (first
    | (go_skip)
    | (refine rosBox (.tmp 0) rfl rfl HL.out rfl ?_; intro w1 hk hb1 hz1; replace HB := Lib.hid (below_ext HB.out hb1); have K1 := Lib.hid hk; clear hk hb1)
    | (have _t := tok0; refine rosAlloc rfl rfl ?_; intro w2 hk hb2 hz2; replace K1 := Lib.hid (K1.out.below hb2); replace HB := Lib.hid (below_ext HB.out hb2); have K2 := Lib.hid hk; clear hk hb2; have tok1 : True := trivial; clear _t tok0)
    | (refine rosLoad (.tmp 1) rfl K1.out rfl rfl ?_)
    | (have _t := tp0; go_at_call 90; refine (Y.out _).mono ?_; rintro e w3 ⟨rfl, hb3⟩; replace K1 := Lib.hid (K1.out.below hb3); replace K2 := Lib.hid (K2.out.below hb3); replace HB := Lib.hid (below_ext HB.out hb3); have hz3 := hb3.size; clear hb3; have tp1 : True := trivial; clear _t tp0)
    | (have _t := tp1; go_at_call 96; refine (H.out _).mono ?_; rintro e w4 ⟨rfl, hb4⟩; replace K1 := Lib.hid (K1.out.below hb4); replace K2 := Lib.hid (K2.out.below hb4); replace HB := Lib.hid (below_ext HB.out hb4); have hz4 := hb4.size; clear hb4; have tp2 : True := trivial; clear _t tp1)
    | (refine F.rowCell _ (.tmp 18) rfl K1.out.ccu rfl agg_int rfl ?_)
    | (refine rosSetCu (.tmp 21) (.tmp 20) rfl K1.out rfl _ rfl rfl ?_; intro w5 hk hg; replace HB := Lib.hid (below_at HB.out hg (by omega) K1.out.lt); replace K2 := Lib.hid (K2.out.grown hg (by omega)); replace K1 := Lib.hid hk; have hz5 := hg.size; clear hk hg)
    | (refine F.rowCell _ (.tmp 22) rfl K1.out.ccu rfl agg_int rfl ?_)
    | (refine F.rowCell _ (.tmp 25) rfl K1.out.cs rfl agg_int rfl ?_)
    | (refine rosSetSt (.tmp 30) (.const (.int .u8 0)) rfl K1.out k hk rfl _ rfl rfl ?_; intro w6 hk hg; replace HB := Lib.hid (below_at HB.out hg (by omega) K1.out.lt); replace K2 := Lib.hid (K2.out.grown hg (by omega)); replace K1 := Lib.hid hk; have hz6 := hg.size; clear hk hg)
    | (refine rosSetCu (.tmp 31) (.const (.int .i64 0)) rfl K1.out rfl _ rfl rfl ?_; intro w7 hk hg; replace HB := Lib.hid (below_at HB.out hg (by omega) K1.out.lt); replace K2 := Lib.hid (K2.out.grown hg (by omega)); replace K1 := Lib.hid hk; have hz7 := hg.size; clear hk hg)
    | (refine rosStore (.tmp 2) (.tmp 32) rfl K2.out rfl rfl (by simpa using HL.out) rfl ?_; intro w8 hk hg; replace HB := Lib.hid (below_at HB.out hg (by omega) K2.out.lt); replace K1 := Lib.hid (K1.out.grown hg (by omega)); replace K2 := Lib.hid hk; have hz8 := hg.size; clear hk hg))
  exact bodyPost_ret (v := .tuple #[ros { x with st := x.st.set k 0, cu := 0 }, .int .i64 0]) (ret_ros rfl _ _ K2.out rfl rfl) rfl ⟨rfl, HB.out⟩
set_option maxRecDepth 100000 in
set_option maxHeartbeats 2000000 in
theorem rNext_D (x : Ro) (HL : Hid (x.st.length = 16)) (k : Nat) (hk : k < 16) (h0 : 0 ≤ x.cu) (h1 : x.cu < 64) (he : (x.cu + 1 == x.s) = false)
    (Y : Hid (∀ w : World, Calls Try.prog 90 #[ros x] w fun e w' => e = .returned (.bool true) ∧ Below w.heap.size w w'))
    (H : Hid (∀ w : World, Calls Try.prog 96 #[ros x] w fun e w' => e = .returned (.tuple #[.int .i64 (k : Int), .bool true]) ∧ Below w.heap.size w w')) (w : World) : Calls Try.prog 99 #[ros x] w fun e w' => e = .returned (.tuple #[ros { x with cu := x.cu + 1 }, .int .i64 0]) ∧ Below w.heap.size w w' := by
  have HB := Lib.hid (Below.refl w.heap.size w)
  have hi0 : (0 : Int) ≤ (k : Int) := by omega
  have hi16 : (k : Int) < 16 := by omega
  have tok0 : True := trivial
  have tp0 : True := trivial
  go_enter Try.func99, Try.ntmps99
  go_wp2_with (first
    | (go_skip)
    | (refine rosBox (.tmp 0) rfl rfl HL.out rfl ?_; intro w1 hk hb1 hz1; replace HB := Lib.hid (below_ext HB.out hb1); have K1 := Lib.hid hk; clear hk hb1)
    | (have _t := tok0; refine rosAlloc rfl rfl ?_; intro w2 hk hb2 hz2; replace K1 := Lib.hid (K1.out.below hb2); replace HB := Lib.hid (below_ext HB.out hb2); have K2 := Lib.hid hk; clear hk hb2; have tok1 : True := trivial; clear _t tok0)
    | (refine rosLoad (.tmp 1) rfl K1.out rfl rfl ?_)
    | (have _t := tp0; go_at_call 90; refine (Y.out _).mono ?_; rintro e w3 ⟨rfl, hb3⟩; replace K1 := Lib.hid (K1.out.below hb3); replace K2 := Lib.hid (K2.out.below hb3); replace HB := Lib.hid (below_ext HB.out hb3); have hz3 := hb3.size; clear hb3; have tp1 : True := trivial; clear _t tp0)
    | (have _t := tp1; go_at_call 96; refine (H.out _).mono ?_; rintro e w4 ⟨rfl, hb4⟩; replace K1 := Lib.hid (K1.out.below hb4); replace K2 := Lib.hid (K2.out.below hb4); replace HB := Lib.hid (below_ext HB.out hb4); have hz4 := hb4.size; clear hb4; have tp2 : True := trivial; clear _t tp1)
    | (refine F.rowCell _ (.tmp 18) rfl K1.out.ccu rfl agg_int rfl ?_)
    | (refine rosSetCu (.tmp 21) (.tmp 20) rfl K1.out rfl _ rfl rfl ?_; intro w5 hk hg; replace HB := Lib.hid (below_at HB.out hg (by omega) K1.out.lt); replace K2 := Lib.hid (K2.out.grown hg (by omega)); replace K1 := Lib.hid hk; have hz5 := hg.size; clear hk hg)
    | (refine F.rowCell _ (.tmp 22) rfl K1.out.ccu rfl agg_int rfl ?_)
    | (refine F.rowCell _ (.tmp 25) rfl K1.out.cs rfl agg_int rfl ?_)
    | (refine rosStore (.tmp 2) (.tmp 32) rfl K2.out rfl rfl HL.out rfl ?_; intro w6 hk hg; replace HB := Lib.hid (below_at HB.out hg (by omega) K2.out.lt); replace K1 := Lib.hid (K1.out.grown hg (by omega)); replace K2 := Lib.hid hk; have hz6 := hg.size; clear hk hg))
  exact bodyPost_ret (v := .tuple #[ros { x with cu := x.cu + 1 }, .int .i64 0]) (ret_ros rfl _ _ K2.out rfl rfl) rfl ⟨rfl, HB.out⟩
set_option maxRecDepth 100000 in
set_option maxHeartbeats 2000000 in
theorem rNew_A (m s r : Int) (P : Hid (∀ w : World, Calls Try.prog 132 #[ros { ro0 with m := m, s := s, r := r }] w fun e w' => e = .returned (.bool false) ∧ Below w.heap.size w w')) (w : World) : Calls Try.prog 88 #[geo m s r] w fun e w' => e = .returned (.tuple #[ros ro0, .int .i64 2]) ∧ Below w.heap.size w w' := by
  have HB := Lib.hid (Below.refl w.heap.size w)
  unfold geo
  have tok0 : True := trivial
  have tp0 : True := trivial
  go_enter Try.func88, Try.ntmps88
  go_wp2_with (first
    | (go_skip)
    | (refine F.rowBox 68 (.tmp 0) rfl rfl rfl ?_; intro w1 hk hb1 hz1; replace HB := Lib.hid (below_ext HB.out hb1); have K1 := Lib.hid hk; clear hk hb1)
    | (have _t := tok0; refine rosAlloc rfl rfl ?_; intro w2 hk hb2 hz2; replace K1 := Lib.hid (K1.out.below hb2); replace HB := Lib.hid (below_ext HB.out hb2); have K2 := Lib.hid hk; clear hk hb2; have tok1 : True := trivial; clear _t tok0)
    | (refine F.rowLoad 68 (.tmp 1) rfl K1.out rfl Try.underlying68 rfl info_geo rfl ?_)
    | (refine rosBuildG (.tmp 5) rfl rfl rfl ?_)
    | (have _t := tok1; refine rosAlloc rfl rfl ?_; intro w3 hk hb3 hz3; replace K1 := Lib.hid (K1.out.below hb3); replace K2 := Lib.hid (K2.out.below hb3); replace HB := Lib.hid (below_ext HB.out hb3); have K4 := Lib.hid hk; clear hk hb3; have tok2 : True := trivial; clear _t tok1)
    | (refine rosStore (.tmp 4) (.tmp 6) rfl K4.out rfl rfl zero16_length rfl ?_; intro w4 hk hg; replace HB := Lib.hid (below_at HB.out hg (by omega) K4.out.lt); replace K1 := Lib.hid (K1.out.grown hg (by omega)); replace K2 := Lib.hid (K2.out.grown hg (by omega)); replace K4 := Lib.hid hk; have hz4 := hg.size; clear hk hg)
    | (refine rosLoad (.tmp 4) rfl K4.out rfl rfl ?_)
    | (have _t := tp0; go_at_call 132; refine (P.out _).mono ?_; rintro e w5 ⟨rfl, hb5⟩; replace K1 := Lib.hid (K1.out.below hb5); replace K2 := Lib.hid (K2.out.below hb5); replace K4 := Lib.hid (K4.out.below hb5); replace HB := Lib.hid (below_ext HB.out hb5); have hz5 := hb5.size; clear hb5; have tp1 : True := trivial; clear _t tp0)
    | (refine rosBuild0 rfl rfl ?_)
    | (refine rosStore (.tmp 2) (.tmp 10) rfl K2.out rfl rfl zero16_length rfl ?_; intro w6 hk hg; replace HB := Lib.hid (below_at HB.out hg (by omega) K2.out.lt); replace K1 := Lib.hid (K1.out.grown hg (by omega)); replace K4 := Lib.hid (K4.out.grown hg (by omega)); replace K2 := Lib.hid hk; have hz6 := hg.size; clear hk hg))
  exact bodyPost_ret (v := .tuple #[ros ro0, .int .i64 2]) (ret_ros rfl _ _ K2.out rfl rfl) rfl ⟨rfl, HB.out⟩
set_option maxRecDepth 100000 in
set_option maxHeartbeats 2000000 in
theorem rNew_B (m s r : Int) (P : Hid (∀ w : World, Calls Try.prog 132 #[ros { ro0 with m := m, s := s, r := r }] w fun e w' => e = .returned (.bool true) ∧ Below w.heap.size w w')) (w : World) : Calls Try.prog 88 #[geo m s r] w fun e w' => e = .returned (.tuple #[ros { ro0 with m := m, s := s, r := r }, .int .i64 0]) ∧ Below w.heap.size w w' := by
  have HB := Lib.hid (Below.refl w.heap.size w)
  unfold geo
  have tok0 : True := trivial
  have tp0 : True := trivial
  go_enter Try.func88, Try.ntmps88
  go_wp2_with (first
    | (go_skip)
    | (refine F.rowBox 68 (.tmp 0) rfl rfl rfl ?_; intro w1 hk hb1 hz1; replace HB := Lib.hid (below_ext HB.out hb1); have K1 := Lib.hid hk; clear hk hb1)
    | (have _t := tok0; refine rosAlloc rfl rfl ?_; intro w2 hk hb2 hz2; replace K1 := Lib.hid (K1.out.below hb2); replace HB := Lib.hid (below_ext HB.out hb2); have K2 := Lib.hid hk; clear hk hb2; have tok1 : True := trivial; clear _t tok0)
    | (refine F.rowLoad 68 (.tmp 1) rfl K1.out rfl Try.underlying68 rfl info_geo rfl ?_)
    | (refine rosBuildG (.tmp 5) rfl rfl rfl ?_)
    | (have _t := tok1; refine rosAlloc rfl rfl ?_; intro w3 hk hb3 hz3; replace K1 := Lib.hid (K1.out.below hb3); replace K2 := Lib.hid (K2.out.below hb3); replace HB := Lib.hid (below_ext HB.out hb3); have K4 := Lib.hid hk; clear hk hb3; have tok2 : True := trivial; clear _t tok1)
    | (refine rosStore (.tmp 4) (.tmp 6) rfl K4.out rfl rfl zero16_length rfl ?_; intro w4 hk hg; replace HB := Lib.hid (below_at HB.out hg (by omega) K4.out.lt); replace K1 := Lib.hid (K1.out.grown hg (by omega)); replace K2 := Lib.hid (K2.out.grown hg (by omega)); replace K4 := Lib.hid hk; have hz4 := hg.size; clear hk hg)
    | (refine rosLoad (.tmp 4) rfl K4.out rfl rfl ?_)
    | (have _t := tp0; go_at_call 132; refine (P.out _).mono ?_; rintro e w5 ⟨rfl, hb5⟩; replace K1 := Lib.hid (K1.out.below hb5); replace K2 := Lib.hid (K2.out.below hb5); replace K4 := Lib.hid (K4.out.below hb5); replace HB := Lib.hid (below_ext HB.out hb5); have hz5 := hb5.size; clear hb5; have tp1 : True := trivial; clear _t tp0)
    | (refine rosStore (.tmp 2) (.tmp 11) rfl K2.out rfl rfl zero16_length rfl ?_; intro w6 hk hg; replace HB := Lib.hid (below_at HB.out hg (by omega) K2.out.lt); replace K1 := Lib.hid (K1.out.grown hg (by omega)); replace K4 := Lib.hid (K4.out.grown hg (by omega)); replace K2 := Lib.hid hk; have hz6 := hg.size; clear hk hg))
  exact bodyPost_ret (v := .tuple #[ros { ro0 with m := m, s := s, r := r }, .int .i64 0]) (ret_ros rfl _ _ K2.out rfl rfl) rfl ⟨rfl, HB.out⟩
end Go.Proofs.Ytdchcggllcgokaa.Q
