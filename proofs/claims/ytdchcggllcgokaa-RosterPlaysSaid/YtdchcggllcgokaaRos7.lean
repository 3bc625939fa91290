/-
  roster.New, Lose, Begin, Next: the walks.
-/
import Derived.Test.YtdchcggllcgokaaRos6
namespace Go.Proofs.Ytdchcggllcgokaa.Q
open Go.RowKit Go.Proofs.Ytdchcggllcgokaa.L Go.Proofs.Ytdchcggllcgokaa.R Go.Proofs.YtdchcggllcgokaaW.PrintWords
set_option linter.unusedVariables false
set_option linter.unusedSimpArgs false
set_option maxRecDepth 100000 in
set_option maxHeartbeats 2000000 in
theorem Lose_A (x : Ro) (HL : Hid (x.st.length = 16)) (i : Int) 
    (P : Hid (∀ w : World, Calls Try.prog 127 #[ros x, .int .i64 i] w fun e w' => e = .returned (.bool false) ∧ Below w.heap.size w w')) (w : World) : Calls Try.prog 66 #[ros x, .int .i64 i] w fun e w' => e = .returned (.tuple #[ros x, .bool false]) ∧ Below w.heap.size w w' := by
  have HB := Lib.hid (Below.refl w.heap.size w)
  have tok0 : True := trivial
  have tp0 : True := trivial
  go_enter Try.func66, Try.ntmps66
  go_wp2_with (first
    | (go_skip)
    | (refine rosBox (.tmp 0) rfl rfl HL.out rfl ?_; intro w1 hk hb1 hz1; replace HB := Lib.hid (below_ext HB.out hb1); have K2 := Lib.hid hk; clear hk hb1)
    | (have _t := tok0; refine rosAlloc rfl rfl ?_; intro w2 hk hb2 hz2; replace K2 := Lib.hid (K2.out.below hb2); replace HB := Lib.hid (below_ext HB.out hb2); have K4 := Lib.hid hk; clear hk hb2; have tok1 : True := trivial; clear _t tok0)
    | (refine rosLoad (.tmp 2) rfl K2.out rfl rfl ?_)
    | (have _t := tp0; go_at_call 127; refine (P.out _).mono ?_; rintro e w3 ⟨rfl, hb3⟩; replace K2 := Lib.hid (K2.out.below hb3); replace K4 := Lib.hid (K4.out.below hb3); replace HB := Lib.hid (below_ext HB.out hb3); have hz3 := hb3.size; clear hb3; have tp1 : True := trivial; clear _t tp0)
    | (refine rosStore (.tmp 4) (.tmp 11) rfl K4.out rfl rfl HL.out rfl ?_; intro w4 hk hg; replace HB := Lib.hid (below_at HB.out hg (by omega) K4.out.lt); replace K2 := Lib.hid (K2.out.grown hg (by omega)); replace K4 := Lib.hid hk; have hz4 := hg.size; clear hk hg))
  exact bodyPost_ret (v := .tuple #[ros x, .bool false]) (ret_ros rfl _ _ K4.out rfl rfl) rfl ⟨rfl, HB.out⟩
set_option maxRecDepth 100000 in
set_option maxHeartbeats 2000000 in
theorem Lose_B (x : Ro) (HL : Hid (x.st.length = 16)) (i : Nat) (hi : i < 16) (h2 : rd x.st (i : Int) = 2)
    (P : Hid (∀ w : World, Calls Try.prog 127 #[ros x, .int .i64 (i : Int)] w fun e w' => e = .returned (.bool true) ∧ Below w.heap.size w w')) (w : World) : Calls Try.prog 66 #[ros x, .int .i64 (i : Int)] w fun e w' => e = .returned (.tuple #[ros { x with cu := 0, st := x.st.set i 1 }, .bool true]) ∧ Below w.heap.size w w' := by
  have HB := Lib.hid (Below.refl w.heap.size w)
  have hi0 : (0 : Int) ≤ (i : Int) := by omega
  have hi16 : (i : Int) < 16 := by omega
  have g1 : (rd x.st (i : Int) == 2) = true := by simpa using h2
  have g2 : (rd x.st (i : Int) != 1) = true := by simp [h2]
  clear h2
  have tok0 : True := trivial
  have tp0 : True := trivial
  go_enter Try.func66, Try.ntmps66
  go_wp2_with (first
    | (go_skip)
    | (refine rosBox (.tmp 0) rfl rfl HL.out rfl ?_; intro w1 hk hb1 hz1; replace HB := Lib.hid (below_ext HB.out hb1); have K2 := Lib.hid hk; clear hk hb1)
    | (have _t := tok0; refine rosAlloc rfl rfl ?_; intro w2 hk hb2 hz2; replace K2 := Lib.hid (K2.out.below hb2); replace HB := Lib.hid (below_ext HB.out hb2); have K4 := Lib.hid hk; clear hk hb2; have tok1 : True := trivial; clear _t tok0)
    | (refine rosLoad (.tmp 2) rfl K2.out rfl rfl ?_)
    | (have _t := tp0; go_at_call 127; refine (P.out _).mono ?_; rintro e w3 ⟨rfl, hb3⟩; replace K2 := Lib.hid (K2.out.below hb3); replace K4 := Lib.hid (K4.out.below hb3); replace HB := Lib.hid (below_ext HB.out hb3); have hz3 := hb3.size; clear hb3; have tp1 : True := trivial; clear _t tp0)
    | (refine F.rowCell _ (.tmp 14) rfl (K2.out.ci i hi) rfl R.agg_u8 rfl ?_)
    | (refine rosSetCu (.tmp 18) (.const (.int .i64 0)) rfl K2.out rfl _ rfl rfl ?_; intro w4 hk hg; replace HB := Lib.hid (below_at HB.out hg (by omega) K2.out.lt); replace K4 := Lib.hid (K4.out.grown hg (by omega)); replace K2 := Lib.hid hk; have hz4 := hg.size; clear hk hg)
    | (refine rosSetSt (.tmp 21) (.const (.int .u8 1)) rfl K2.out i hi rfl _ rfl rfl ?_; intro w5 hk hg; replace HB := Lib.hid (below_at HB.out hg (by omega) K2.out.lt); replace K4 := Lib.hid (K4.out.grown hg (by omega)); replace K2 := Lib.hid hk; have hz5 := hg.size; clear hk hg)
    | (refine rosStore (.tmp 4) (.tmp 22) rfl K4.out rfl rfl (by simpa using HL.out) rfl ?_; intro w6 hk hg; replace HB := Lib.hid (below_at HB.out hg (by omega) K4.out.lt); replace K2 := Lib.hid (K2.out.grown hg (by omega)); replace K4 := Lib.hid hk; have hz6 := hg.size; clear hk hg))
  exact bodyPost_ret (v := .tuple #[ros { x with cu := 0, st := x.st.set i 1 }, .bool true]) (ret_ros rfl _ _ K4.out rfl rfl) rfl ⟨rfl, HB.out⟩
set_option maxRecDepth 100000 in
set_option maxHeartbeats 2000000 in
theorem Lose_C (x : Ro) (HL : Hid (x.st.length = 16)) (i : Nat) (hi : i < 16) (h2 : (rd x.st (i : Int) == 2) = false) (b : Bool) (hb : (rd x.st (i : Int) != 1) = b)
    (P : Hid (∀ w : World, Calls Try.prog 127 #[ros x, .int .i64 (i : Int)] w fun e w' => e = .returned (.bool true) ∧ Below w.heap.size w w')) (w : World) : Calls Try.prog 66 #[ros x, .int .i64 (i : Int)] w fun e w' => e = .returned (.tuple #[ros { x with st := x.st.set i 1 }, .bool b]) ∧ Below w.heap.size w w' := by
  have HB := Lib.hid (Below.refl w.heap.size w)
  have hi0 : (0 : Int) ≤ (i : Int) := by omega
  have hi16 : (i : Int) < 16 := by omega
  have tok0 : True := trivial
  have tp0 : True := trivial
  go_enter Try.func66, Try.ntmps66
  go_wp2_with (first
    | (go_skip)
    | (refine rosBox (.tmp 0) rfl rfl HL.out rfl ?_; intro w1 hk hb1 hz1; replace HB := Lib.hid (below_ext HB.out hb1); have K2 := Lib.hid hk; clear hk hb1)
    | (have _t := tok0; refine rosAlloc rfl rfl ?_; intro w2 hk hb2 hz2; replace K2 := Lib.hid (K2.out.below hb2); replace HB := Lib.hid (below_ext HB.out hb2); have K4 := Lib.hid hk; clear hk hb2; have tok1 : True := trivial; clear _t tok0)
    | (refine rosLoad (.tmp 2) rfl K2.out rfl rfl ?_)
    | (have _t := tp0; go_at_call 127; refine (P.out _).mono ?_; rintro e w3 ⟨rfl, hb3⟩; replace K2 := Lib.hid (K2.out.below hb3); replace K4 := Lib.hid (K4.out.below hb3); replace HB := Lib.hid (below_ext HB.out hb3); have hz3 := hb3.size; clear hb3; have tp1 : True := trivial; clear _t tp0)
    | (refine F.rowCell _ (.tmp 14) rfl (K2.out.ci i hi) rfl R.agg_u8 rfl ?_)
    | (refine rosSetSt (.tmp 21) (.const (.int .u8 1)) rfl K2.out i hi rfl _ rfl rfl ?_; intro w4 hk hg; replace HB := Lib.hid (below_at HB.out hg (by omega) K2.out.lt); replace K4 := Lib.hid (K4.out.grown hg (by omega)); replace K2 := Lib.hid hk; have hz4 := hg.size; clear hk hg)
    | (refine rosStore (.tmp 4) (.tmp 22) rfl K4.out rfl rfl (by simpa using HL.out) rfl ?_; intro w5 hk hg; replace HB := Lib.hid (below_at HB.out hg (by omega) K4.out.lt); replace K2 := Lib.hid (K2.out.grown hg (by omega)); replace K4 := Lib.hid hk; have hz5 := hg.size; clear hk hg))
  exact bodyPost_ret (v := .tuple #[ros { x with st := x.st.set i 1 }, .bool b]) (ret_ros rfl _ _ K4.out rfl rfl) rfl ⟨rfl, HB.out⟩
set_option maxRecDepth 100000 in
set_option maxHeartbeats 2000000 in
theorem Begin_A (x : Ro) (HL : Hid (x.st.length = 16)) (i : Int) 
    (P : Hid (∀ w : World, Calls Try.prog 127 #[ros x, .int .i64 i] w fun e w' => e = .returned (.bool false) ∧ Below w.heap.size w w')) (w : World) : Calls Try.prog 67 #[ros x, .int .i64 i] w fun e w' => e = .returned (.tuple #[ros ro0, .int .i64 2]) ∧ Below w.heap.size w w' := by
  have HB := Lib.hid (Below.refl w.heap.size w)
  have tok0 : True := trivial
  have tp0 : True := trivial
  go_enter Try.func67, Try.ntmps67
  go_wp2_with (first
    | (go_skip)
    | (refine rosBox (.tmp 0) rfl rfl HL.out rfl ?_; intro w1 hk hb1 hz1; replace HB := Lib.hid (below_ext HB.out hb1); have K2 := Lib.hid hk; clear hk hb1)
    | (have _t := tok0; refine rosAlloc rfl rfl ?_; intro w2 hk hb2 hz2; replace K2 := Lib.hid (K2.out.below hb2); replace HB := Lib.hid (below_ext HB.out hb2); have K4 := Lib.hid hk; clear hk hb2; have tok1 : True := trivial; clear _t tok0)
    | (refine rosLoad (.tmp 2) rfl K2.out rfl rfl ?_)
    | (have _t := tp0; go_at_call 127; refine (P.out _).mono ?_; rintro e w3 ⟨rfl, hb3⟩; replace K2 := Lib.hid (K2.out.below hb3); replace K4 := Lib.hid (K4.out.below hb3); replace HB := Lib.hid (below_ext HB.out hb3); have hz3 := hb3.size; clear hb3; have tp1 : True := trivial; clear _t tp0)
    | (refine rosBuild0 rfl rfl ?_)
    | (refine rosStore (.tmp 4) (.tmp 11) rfl K4.out rfl rfl zero16_length rfl ?_; intro w4 hk hg; replace HB := Lib.hid (below_at HB.out hg (by omega) K4.out.lt); replace K2 := Lib.hid (K2.out.grown hg (by omega)); replace K4 := Lib.hid hk; have hz4 := hg.size; clear hk hg))
  exact bodyPost_ret (v := .tuple #[ros ro0, .int .i64 2]) (ret_ros rfl _ _ K4.out rfl rfl) rfl ⟨rfl, HB.out⟩
set_option maxRecDepth 100000 in
set_option maxHeartbeats 2000000 in
theorem Begin_B (x : Ro) (HL : Hid (x.st.length = 16)) (i : Nat) (hi : i < 16) (h : (rd x.st (i : Int) != 1) = true)
    (P : Hid (∀ w : World, Calls Try.prog 127 #[ros x, .int .i64 (i : Int)] w fun e w' => e = .returned (.bool true) ∧ Below w.heap.size w w')) (w : World) : Calls Try.prog 67 #[ros x, .int .i64 (i : Int)] w fun e w' => e = .returned (.tuple #[ros ro0, .int .i64 17]) ∧ Below w.heap.size w w' := by
  have HB := Lib.hid (Below.refl w.heap.size w)
  have hi0 : (0 : Int) ≤ (i : Int) := by omega
  have hi16 : (i : Int) < 16 := by omega
  have tok0 : True := trivial
  have tp0 : True := trivial
  go_enter Try.func67, Try.ntmps67
  go_wp2_with (first
    | (go_skip)
    | (refine rosBox (.tmp 0) rfl rfl HL.out rfl ?_; intro w1 hk hb1 hz1; replace HB := Lib.hid (below_ext HB.out hb1); have K2 := Lib.hid hk; clear hk hb1)
    | (have _t := tok0; refine rosAlloc rfl rfl ?_; intro w2 hk hb2 hz2; replace K2 := Lib.hid (K2.out.below hb2); replace HB := Lib.hid (below_ext HB.out hb2); have K4 := Lib.hid hk; clear hk hb2; have tok1 : True := trivial; clear _t tok0)
    | (refine rosLoad (.tmp 2) rfl K2.out rfl rfl ?_)
    | (have _t := tp0; go_at_call 127; refine (P.out _).mono ?_; rintro e w3 ⟨rfl, hb3⟩; replace K2 := Lib.hid (K2.out.below hb3); replace K4 := Lib.hid (K4.out.below hb3); replace HB := Lib.hid (below_ext HB.out hb3); have hz3 := hb3.size; clear hb3; have tp1 : True := trivial; clear _t tp0)
    | (refine F.rowCell _ (.tmp 15) rfl (K2.out.ci i hi) rfl R.agg_u8 rfl ?_)
    | (refine rosBuild0 rfl rfl ?_)
    | (refine rosStore (.tmp 4) (.tmp 23) rfl K4.out rfl rfl zero16_length rfl ?_; intro w4 hk hg; replace HB := Lib.hid (below_at HB.out hg (by omega) K4.out.lt); replace K2 := Lib.hid (K2.out.grown hg (by omega)); replace K4 := Lib.hid hk; have hz4 := hg.size; clear hk hg))
  exact bodyPost_ret (v := .tuple #[ros ro0, .int .i64 17]) (ret_ros rfl _ _ K4.out rfl rfl) rfl ⟨rfl, HB.out⟩
set_option maxRecDepth 100000 in
set_option maxHeartbeats 2000000 in
theorem Begin_C (x : Ro) (HL : Hid (x.st.length = 16)) (i : Nat) (hi : i < 16) (h : (rd x.st (i : Int) != 1) = false) (c : Int) (hc : 1 < c)
    (P : Hid (∀ w : World, Calls Try.prog 127 #[ros x, .int .i64 (i : Int)] w fun e w' => e = .returned (.bool true) ∧ Below w.heap.size w w'))
    (M : Hid (∀ w : World, Calls Try.prog 92 #[ros x] w fun e w' => e = .returned (.int .i64 c) ∧ Below w.heap.size w w')) (w : World) : Calls Try.prog 67 #[ros x, .int .i64 (i : Int)] w fun e w' => e = .returned (.tuple #[ros ro0, .int .i64 17]) ∧ Below w.heap.size w w' := by
  have HB := Lib.hid (Below.refl w.heap.size w)
  have hi0 : (0 : Int) ≤ (i : Int) := by omega
  have hi16 : (i : Int) < 16 := by omega
  have g1 : decide (1 < c) = true := by simpa using hc
  have tok0 : True := trivial
  have tp0 : True := trivial
  go_enter Try.func67, Try.ntmps67
  go_wp2_with (first
    | (go_skip)
    | (refine rosBox (.tmp 0) rfl rfl HL.out rfl ?_; intro w1 hk hb1 hz1; replace HB := Lib.hid (below_ext HB.out hb1); have K2 := Lib.hid hk; clear hk hb1)
    | (have _t := tok0; refine rosAlloc rfl rfl ?_; intro w2 hk hb2 hz2; replace K2 := Lib.hid (K2.out.below hb2); replace HB := Lib.hid (below_ext HB.out hb2); have K4 := Lib.hid hk; clear hk hb2; have tok1 : True := trivial; clear _t tok0)
    | (refine rosLoad (.tmp 2) rfl K2.out rfl rfl ?_)
    | (have _t := tp0; go_at_call 127; refine (P.out _).mono ?_; rintro e w3 ⟨rfl, hb3⟩; replace K2 := Lib.hid (K2.out.below hb3); replace K4 := Lib.hid (K4.out.below hb3); replace HB := Lib.hid (below_ext HB.out hb3); have hz3 := hb3.size; clear hb3; have tp1 : True := trivial; clear _t tp0)
    | (refine F.rowCell _ (.tmp 15) rfl (K2.out.ci i hi) rfl R.agg_u8 rfl ?_)
    | (have _t := tp1; go_at_call 92; refine (M.out _).mono ?_; rintro e w4 ⟨rfl, hb4⟩; replace K2 := Lib.hid (K2.out.below hb4); replace K4 := Lib.hid (K4.out.below hb4); replace HB := Lib.hid (below_ext HB.out hb4); have hz4 := hb4.size; clear hb4; have tp2 : True := trivial; clear _t tp1)
    | (refine rosBuild0 rfl rfl ?_)
    | (refine rosStore (.tmp 4) (.tmp 23) rfl K4.out rfl rfl zero16_length rfl ?_; intro w5 hk hg; replace HB := Lib.hid (below_at HB.out hg (by omega) K4.out.lt); replace K2 := Lib.hid (K2.out.grown hg (by omega)); replace K4 := Lib.hid hk; have hz5 := hg.size; clear hk hg))
  exact bodyPost_ret (v := .tuple #[ros ro0, .int .i64 17]) (ret_ros rfl _ _ K4.out rfl rfl) rfl ⟨rfl, HB.out⟩
set_option maxRecDepth 100000 in
set_option maxHeartbeats 2000000 in
theorem Begin_D (x : Ro) (HL : Hid (x.st.length = 16)) (i : Nat) (hi : i < 16) (h : (rd x.st (i : Int) != 1) = false) (c : Int) (hc : ¬ 1 < c) (hg : x.go = true)
    (P : Hid (∀ w : World, Calls Try.prog 127 #[ros x, .int .i64 (i : Int)] w fun e w' => e = .returned (.bool true) ∧ Below w.heap.size w w'))
    (M : Hid (∀ w : World, Calls Try.prog 92 #[ros x] w fun e w' => e = .returned (.int .i64 c) ∧ Below w.heap.size w w')) (w : World) : Calls Try.prog 67 #[ros x, .int .i64 (i : Int)] w fun e w' => e = .returned (.tuple #[ros ro0, .int .i64 17]) ∧ Below w.heap.size w w' := by
  have HB := Lib.hid (Below.refl w.heap.size w)
  have hi0 : (0 : Int) ≤ (i : Int) := by omega
  have hi16 : (i : Int) < 16 := by omega
  have g1 : decide (1 < c) = false := by simpa using hc
  have tok0 : True := trivial
  have tp0 : True := trivial
  go_enter Try.func67, Try.ntmps67
  go_wp2_with (first
    | (go_skip)
    | (refine rosBox (.tmp 0) rfl rfl HL.out rfl ?_; intro w1 hk hb1 hz1; replace HB := Lib.hid (below_ext HB.out hb1); have K2 := Lib.hid hk; clear hk hb1)
    | (have _t := tok0; refine rosAlloc rfl rfl ?_; intro w2 hk hb2 hz2; replace K2 := Lib.hid (K2.out.below hb2); replace HB := Lib.hid (below_ext HB.out hb2); have K4 := Lib.hid hk; clear hk hb2; have tok1 : True := trivial; clear _t tok0)
    | (refine rosLoad (.tmp 2) rfl K2.out rfl rfl ?_)
    | (have _t := tp0; go_at_call 127; refine (P.out _).mono ?_; rintro e w3 ⟨rfl, hb3⟩; replace K2 := Lib.hid (K2.out.below hb3); replace K4 := Lib.hid (K4.out.below hb3); replace HB := Lib.hid (below_ext HB.out hb3); have hz3 := hb3.size; clear hb3; have tp1 : True := trivial; clear _t tp0)
    | (refine F.rowCell _ (.tmp 15) rfl (K2.out.ci i hi) rfl R.agg_u8 rfl ?_)
    | (have _t := tp1; go_at_call 92; refine (M.out _).mono ?_; rintro e w4 ⟨rfl, hb4⟩; replace K2 := Lib.hid (K2.out.below hb4); replace K4 := Lib.hid (K4.out.below hb4); replace HB := Lib.hid (below_ext HB.out hb4); have hz4 := hb4.size; clear hb4; have tp2 : True := trivial; clear _t tp1)
    | (refine F.rowCell _ (.tmp 21) rfl K2.out.cgo rfl agg_bool rfl ?_)
    | (refine rosBuild0 rfl rfl ?_)
    | (refine rosStore (.tmp 4) (.tmp 23) rfl K4.out rfl rfl zero16_length rfl ?_; intro w5 hk hg; replace HB := Lib.hid (below_at HB.out hg (by omega) K4.out.lt); replace K2 := Lib.hid (K2.out.grown hg (by omega)); replace K4 := Lib.hid hk; have hz5 := hg.size; clear hk hg))
  exact bodyPost_ret (v := .tuple #[ros ro0, .int .i64 17]) (ret_ros rfl _ _ K4.out rfl rfl) rfl ⟨rfl, HB.out⟩
set_option maxRecDepth 100000 in
set_option maxHeartbeats 2000000 in
theorem Begin_E (x : Ro) (HL : Hid (x.st.length = 16)) (i : Nat) (hi : i < 16) (h : (rd x.st (i : Int) != 1) = false) (c : Int) (hc : ¬ 1 < c) (hg : x.go = false)
    (P : Hid (∀ w : World, Calls Try.prog 127 #[ros x, .int .i64 (i : Int)] w fun e w' => e = .returned (.bool true) ∧ Below w.heap.size w w'))
    (M : Hid (∀ w : World, Calls Try.prog 92 #[ros x] w fun e w' => e = .returned (.int .i64 c) ∧ Below w.heap.size w w')) (w : World) : Calls Try.prog 67 #[ros x, .int .i64 (i : Int)] w fun e w' => e = .returned (.tuple #[ros { x with st := x.st.set i 2, cu := 0 }, .int .i64 0]) ∧ Below w.heap.size w w' := by
  have HB := Lib.hid (Below.refl w.heap.size w)
  have hi0 : (0 : Int) ≤ (i : Int) := by omega
  have hi16 : (i : Int) < 16 := by omega
  have g1 : decide (1 < c) = false := by simpa using hc
  have tok0 : True := trivial
  have tp0 : True := trivial
  go_enter Try.func67, Try.ntmps67
  go_wp2_with (first
    | (go_skip)
    | (refine rosBox (.tmp 0) rfl rfl HL.out rfl ?_; intro w1 hk hb1 hz1; replace HB := Lib.hid (below_ext HB.out hb1); have K2 := Lib.hid hk; clear hk hb1)
    | (have _t := tok0; refine rosAlloc rfl rfl ?_; intro w2 hk hb2 hz2; replace K2 := Lib.hid (K2.out.below hb2); replace HB := Lib.hid (below_ext HB.out hb2); have K4 := Lib.hid hk; clear hk hb2; have tok1 : True := trivial; clear _t tok0)
    | (refine rosLoad (.tmp 2) rfl K2.out rfl rfl ?_)
    | (have _t := tp0; go_at_call 127; refine (P.out _).mono ?_; rintro e w3 ⟨rfl, hb3⟩; replace K2 := Lib.hid (K2.out.below hb3); replace K4 := Lib.hid (K4.out.below hb3); replace HB := Lib.hid (below_ext HB.out hb3); have hz3 := hb3.size; clear hb3; have tp1 : True := trivial; clear _t tp0)
    | (refine F.rowCell _ (.tmp 15) rfl (K2.out.ci i hi) rfl R.agg_u8 rfl ?_)
    | (have _t := tp1; go_at_call 92; refine (M.out _).mono ?_; rintro e w4 ⟨rfl, hb4⟩; replace K2 := Lib.hid (K2.out.below hb4); replace K4 := Lib.hid (K4.out.below hb4); replace HB := Lib.hid (below_ext HB.out hb4); have hz4 := hb4.size; clear hb4; have tp2 : True := trivial; clear _t tp1)
    | (refine F.rowCell _ (.tmp 21) rfl K2.out.cgo rfl agg_bool rfl ?_)
    | (refine rosSetSt (.tmp 26) (.const (.int .u8 2)) rfl K2.out i hi rfl _ rfl rfl ?_; intro w5 hk hg; replace HB := Lib.hid (below_at HB.out hg (by omega) K2.out.lt); replace K4 := Lib.hid (K4.out.grown hg (by omega)); replace K2 := Lib.hid hk; have hz5 := hg.size; clear hk hg)
    | (refine rosSetCu (.tmp 27) (.const (.int .i64 0)) rfl K2.out rfl _ rfl rfl ?_; intro w6 hk hg; replace HB := Lib.hid (below_at HB.out hg (by omega) K2.out.lt); replace K4 := Lib.hid (K4.out.grown hg (by omega)); replace K2 := Lib.hid hk; have hz6 := hg.size; clear hk hg)
    | (refine rosStore (.tmp 4) (.tmp 28) rfl K4.out rfl rfl (by simpa using HL.out) rfl ?_; intro w7 hk hg; replace HB := Lib.hid (below_at HB.out hg (by omega) K4.out.lt); replace K2 := Lib.hid (K2.out.grown hg (by omega)); replace K4 := Lib.hid hk; have hz7 := hg.size; clear hk hg))
  exact bodyPost_ret (v := .tuple #[ros { x with st := x.st.set i 2, cu := 0 }, .int .i64 0]) (ret_ros rfl _ _ K4.out rfl rfl) rfl ⟨by rw [hg], HB.out⟩
end Go.Proofs.Ytdchcggllcgokaa.Q
