/-
  roster.Has, Missing, Gone: the walks.
-/
import Derived.Test.YtdchcggllcgokaaRos5
namespace Go.Proofs.Ytdchcggllcgokaa.Q
open Go.RowKit Go.Proofs.Ytdchcggllcgokaa.L Go.Proofs.Ytdchcggllcgokaa.R Go.Proofs.YtdchcggllcgokaaW.PrintWords
set_option linter.unusedVariables false
set_option linter.unusedSimpArgs false
set_option maxRecDepth 100000 in
set_option maxHeartbeats 2000000 in
theorem Has_A (x : Ro) (HL : Hid (x.st.length = 16)) (i j : Int) 
    (P : Hid (∀ w : World, Calls Try.prog 127 #[ros x, .int .i64 i] w fun e w' => e = .returned (.bool false) ∧ Below w.heap.size w w')) (w : World) : Calls Try.prog 70 #[ros x, .int .i64 i, .int .i64 j] w fun e w' => e = .returned (.bool false) ∧ Below w.heap.size w w' := by
  have HB := Lib.hid (Below.refl w.heap.size w)
  have tok0 : True := trivial
  have tp0 : True := trivial
  go_enter Try.func70, Try.ntmps70
  go_wp2_with (first
    | (go_skip)
    | (refine rosBox (.tmp 0) rfl rfl HL.out rfl ?_; intro w1 hk hb1 hz1; replace HB := Lib.hid (below_ext HB.out hb1); have K3 := Lib.hid hk; clear hk hb1)
    | (refine rosLoad (.tmp 3) rfl K3.out rfl rfl ?_)
    | (have _t := tp0; go_at_call 127; refine (P.out _).mono ?_; rintro e w2 ⟨rfl, hb2⟩; replace K3 := Lib.hid (K3.out.below hb2); replace HB := Lib.hid (below_ext HB.out hb2); have hz2 := hb2.size; clear hb2; have tp1 : True := trivial; clear _t tp0)
    | (refine F.rowCell _ (.tmp 18) rfl K3.out.cs rfl agg_int rfl ?_))
  go_ret
  exact ⟨rfl, HB.out⟩
set_option maxRecDepth 100000 in
set_option maxHeartbeats 2000000 in
theorem Has_B (x : Ro) (HL : Hid (x.st.length = 16)) (i j : Int) (h1 : j < 0)
    (P : Hid (∀ w : World, Calls Try.prog 127 #[ros x, .int .i64 i] w fun e w' => e = .returned (.bool true) ∧ Below w.heap.size w w')) (w : World) : Calls Try.prog 70 #[ros x, .int .i64 i, .int .i64 j] w fun e w' => e = .returned (.bool false) ∧ Below w.heap.size w w' := by
  have HB := Lib.hid (Below.refl w.heap.size w)
  have g1 : decide (j < 0) = true := by simp; omega
  have tok0 : True := trivial
  have tp0 : True := trivial
  go_enter Try.func70, Try.ntmps70
  go_wp2_with (first
    | (go_skip)
    | (refine rosBox (.tmp 0) rfl rfl HL.out rfl ?_; intro w1 hk hb1 hz1; replace HB := Lib.hid (below_ext HB.out hb1); have K3 := Lib.hid hk; clear hk hb1)
    | (refine rosLoad (.tmp 3) rfl K3.out rfl rfl ?_)
    | (have _t := tp0; go_at_call 127; refine (P.out _).mono ?_; rintro e w2 ⟨rfl, hb2⟩; replace K3 := Lib.hid (K3.out.below hb2); replace HB := Lib.hid (below_ext HB.out hb2); have hz2 := hb2.size; clear hb2; have tp1 : True := trivial; clear _t tp0)
    | (refine F.rowCell _ (.tmp 18) rfl K3.out.cs rfl agg_int rfl ?_))
  go_ret
  exact ⟨rfl, HB.out⟩
set_option maxRecDepth 100000 in
set_option maxHeartbeats 2000000 in
theorem Has_C (x : Ro) (HL : Hid (x.st.length = 16)) (i j : Int) (h1 : 0 ≤ j) (h2 : x.s ≤ j)
    (P : Hid (∀ w : World, Calls Try.prog 127 #[ros x, .int .i64 i] w fun e w' => e = .returned (.bool true) ∧ Below w.heap.size w w')) (w : World) : Calls Try.prog 70 #[ros x, .int .i64 i, .int .i64 j] w fun e w' => e = .returned (.bool false) ∧ Below w.heap.size w w' := by
  have HB := Lib.hid (Below.refl w.heap.size w)
  have g1 : decide (j < 0) = false := by simp; omega
  have g2 : decide (x.s ≤ j) = true := by simp; omega
  have tok0 : True := trivial
  have tp0 : True := trivial
  go_enter Try.func70, Try.ntmps70
  go_wp2_with (first
    | (go_skip)
    | (refine rosBox (.tmp 0) rfl rfl HL.out rfl ?_; intro w1 hk hb1 hz1; replace HB := Lib.hid (below_ext HB.out hb1); have K3 := Lib.hid hk; clear hk hb1)
    | (refine rosLoad (.tmp 3) rfl K3.out rfl rfl ?_)
    | (have _t := tp0; go_at_call 127; refine (P.out _).mono ?_; rintro e w2 ⟨rfl, hb2⟩; replace K3 := Lib.hid (K3.out.below hb2); replace HB := Lib.hid (below_ext HB.out hb2); have hz2 := hb2.size; clear hb2; have tp1 : True := trivial; clear _t tp0)
    | (refine F.rowCell _ (.tmp 18) rfl K3.out.cs rfl agg_int rfl ?_))
  go_ret
  exact ⟨rfl, HB.out⟩
set_option maxRecDepth 100000 in
set_option maxHeartbeats 2000000 in
theorem Has_D (x : Ro) (HL : Hid (x.st.length = 16)) (i : Nat) (j : Int) (hi : i < 16) (h1 : 0 ≤ j) (h2 : j < x.s) (h3 : (rd x.st (i : Int) == 0) = true)
    (P : Hid (∀ w : World, Calls Try.prog 127 #[ros x, .int .i64 (i : Int)] w fun e w' => e = .returned (.bool true) ∧ Below w.heap.size w w')) (w : World) : Calls Try.prog 70 #[ros x, .int .i64 (i : Int), .int .i64 j] w fun e w' => e = .returned (.bool true) ∧ Below w.heap.size w w' := by
  have HB := Lib.hid (Below.refl w.heap.size w)
  have g1 : decide (j < 0) = false := by simp; omega
  have g2 : decide (x.s ≤ j) = false := by simp; omega
  have hi0 : (0 : Int) ≤ (i : Int) := by omega
  have hi16 : (i : Int) < 16 := by omega
  have tok0 : True := trivial
  have tp0 : True := trivial
  go_enter Try.func70, Try.ntmps70
  go_wp2_with (first
    | (go_skip)
    | (refine rosBox (.tmp 0) rfl rfl HL.out rfl ?_; intro w1 hk hb1 hz1; replace HB := Lib.hid (below_ext HB.out hb1); have K3 := Lib.hid hk; clear hk hb1)
    | (refine rosLoad (.tmp 3) rfl K3.out rfl rfl ?_)
    | (have _t := tp0; go_at_call 127; refine (P.out _).mono ?_; rintro e w2 ⟨rfl, hb2⟩; replace K3 := Lib.hid (K3.out.below hb2); replace HB := Lib.hid (below_ext HB.out hb2); have hz2 := hb2.size; clear hb2; have tp1 : True := trivial; clear _t tp0)
    | (refine F.rowCell _ (.tmp 18) rfl K3.out.cs rfl agg_int rfl ?_)
    | (refine F.rowCell _ (.tmp 24) rfl (K3.out.ci i hi) rfl R.agg_u8 rfl ?_))
  go_ret
  exact ⟨rfl, HB.out⟩
set_option maxRecDepth 100000 in
set_option maxHeartbeats 2000000 in
theorem Has_E (x : Ro) (HL : Hid (x.st.length = 16)) (i : Nat) (j : Int) (hi : i < 16) (h1 : 0 ≤ j) (h2 : j < x.s) (h3 : (rd x.st (i : Int) == 0) = false) (h4 : (rd x.st (i : Int) == 2) = true) (b : Bool) (hb : decide (j < x.cu) = b)
    (P : Hid (∀ w : World, Calls Try.prog 127 #[ros x, .int .i64 (i : Int)] w fun e w' => e = .returned (.bool true) ∧ Below w.heap.size w w')) (w : World) : Calls Try.prog 70 #[ros x, .int .i64 (i : Int), .int .i64 j] w fun e w' => e = .returned (.bool b) ∧ Below w.heap.size w w' := by
  have HB := Lib.hid (Below.refl w.heap.size w)
  have g1 : decide (j < 0) = false := by simp; omega
  have g2 : decide (x.s ≤ j) = false := by simp; omega
  have hi0 : (0 : Int) ≤ (i : Int) := by omega
  have hi16 : (i : Int) < 16 := by omega
  have tok0 : True := trivial
  have tp0 : True := trivial
  go_enter Try.func70, Try.ntmps70
  go_wp2_with (first
    | (go_skip)
    | (refine rosBox (.tmp 0) rfl rfl HL.out rfl ?_; intro w1 hk hb1 hz1; replace HB := Lib.hid (below_ext HB.out hb1); have K3 := Lib.hid hk; clear hk hb1)
    | (refine rosLoad (.tmp 3) rfl K3.out rfl rfl ?_)
    | (have _t := tp0; go_at_call 127; refine (P.out _).mono ?_; rintro e w2 ⟨rfl, hb2⟩; replace K3 := Lib.hid (K3.out.below hb2); replace HB := Lib.hid (below_ext HB.out hb2); have hz2 := hb2.size; clear hb2; have tp1 : True := trivial; clear _t tp0)
    | (refine F.rowCell _ (.tmp 18) rfl K3.out.cs rfl agg_int rfl ?_)
    | (refine F.rowCell _ (.tmp 24) rfl (K3.out.ci i hi) rfl R.agg_u8 rfl ?_)
    | (refine F.rowCell _ (.tmp 31) rfl K3.out.ccu rfl agg_int rfl ?_))
  go_ret
  exact ⟨rfl, HB.out⟩
set_option maxRecDepth 100000 in
set_option maxHeartbeats 2000000 in
theorem Has_F (x : Ro) (HL : Hid (x.st.length = 16)) (i : Nat) (j : Int) (hi : i < 16) (h1 : 0 ≤ j) (h2 : j < x.s) (h3 : (rd x.st (i : Int) == 0) = false) (h4 : (rd x.st (i : Int) == 2) = false)
    (P : Hid (∀ w : World, Calls Try.prog 127 #[ros x, .int .i64 (i : Int)] w fun e w' => e = .returned (.bool true) ∧ Below w.heap.size w w')) (w : World) : Calls Try.prog 70 #[ros x, .int .i64 (i : Int), .int .i64 j] w fun e w' => e = .returned (.bool false) ∧ Below w.heap.size w w' := by
  have HB := Lib.hid (Below.refl w.heap.size w)
  have g1 : decide (j < 0) = false := by simp; omega
  have g2 : decide (x.s ≤ j) = false := by simp; omega
  have hi0 : (0 : Int) ≤ (i : Int) := by omega
  have hi16 : (i : Int) < 16 := by omega
  have tok0 : True := trivial
  have tp0 : True := trivial
  go_enter Try.func70, Try.ntmps70
  go_wp2_with (first
    | (go_skip)
    | (refine rosBox (.tmp 0) rfl rfl HL.out rfl ?_; intro w1 hk hb1 hz1; replace HB := Lib.hid (below_ext HB.out hb1); have K3 := Lib.hid hk; clear hk hb1)
    | (refine rosLoad (.tmp 3) rfl K3.out rfl rfl ?_)
    | (have _t := tp0; go_at_call 127; refine (P.out _).mono ?_; rintro e w2 ⟨rfl, hb2⟩; replace K3 := Lib.hid (K3.out.below hb2); replace HB := Lib.hid (below_ext HB.out hb2); have hz2 := hb2.size; clear hb2; have tp1 : True := trivial; clear _t tp0)
    | (refine F.rowCell _ (.tmp 18) rfl K3.out.cs rfl agg_int rfl ?_)
    | (refine F.rowCell _ (.tmp 24) rfl (K3.out.ci i hi) rfl R.agg_u8 rfl ?_))
  go_ret
  exact ⟨rfl, HB.out⟩
set_option maxRecDepth 100000 in
set_option maxHeartbeats 2000000 in
theorem Missing_A (x : Ro) (HL : Hid (x.st.length = 16))  
    (P : Hid (∀ w : World, Calls Try.prog 89 #[ros x] w fun e w' => e = .returned (.bool false) ∧ Below w.heap.size w w')) (w : World) : Calls Try.prog 92 #[ros x] w fun e w' => e = .returned (.int .i64 0) ∧ Below w.heap.size w w' := by
  have HB := Lib.hid (Below.refl w.heap.size w)
  have tok0 : True := trivial
  have tp0 : True := trivial
  go_enter Try.func92, Try.ntmps92
  go_wp2_with (first
    | (go_skip)
    | (refine rosBox (.tmp 0) rfl rfl HL.out rfl ?_; intro w1 hk hb1 hz1; replace HB := Lib.hid (below_ext HB.out hb1); have K1 := Lib.hid hk; clear hk hb1)
    | (refine rosLoad (.tmp 1) rfl K1.out rfl rfl ?_)
    | (have _t := tp0; go_at_call 89; refine (P.out _).mono ?_; rintro e w2 ⟨rfl, hb2⟩; replace K1 := Lib.hid (K1.out.below hb2); replace HB := Lib.hid (below_ext HB.out hb2); have hz2 := hb2.size; clear hb2; have tp1 : True := trivial; clear _t tp0))
  go_ret
  exact ⟨rfl, HB.out⟩
set_option maxRecDepth 100000 in
set_option maxHeartbeats 2000000 in
theorem Missing_B (x : Ro) (HL : Hid (x.st.length = 16)) (c : Nat) (hc : c ≤ 16) 
    (P : Hid (∀ w : World, Calls Try.prog 89 #[ros x] w fun e w' => e = .returned (.bool true) ∧ Below w.heap.size w w'))
    (C : Hid (∀ w : World, Calls Try.prog 133 #[ros x, .int .u8 0] w fun e w' => e = .returned (.int .i64 (c : Int)) ∧ Below w.heap.size w w')) (w : World) : Calls Try.prog 92 #[ros x] w fun e w' => e = .returned (.int .i64 (16 - (c : Int))) ∧ Below w.heap.size w w' := by
  have HB := Lib.hid (Below.refl w.heap.size w)
  have tok0 : True := trivial
  have tp0 : True := trivial
  go_enter Try.func92, Try.ntmps92
  go_wp2_with (first
    | (go_skip)
    | (refine rosBox (.tmp 0) rfl rfl HL.out rfl ?_; intro w1 hk hb1 hz1; replace HB := Lib.hid (below_ext HB.out hb1); have K1 := Lib.hid hk; clear hk hb1)
    | (refine rosLoad (.tmp 1) rfl K1.out rfl rfl ?_)
    | (have _t := tp0; go_at_call 89; refine (P.out _).mono ?_; rintro e w2 ⟨rfl, hb2⟩; replace K1 := Lib.hid (K1.out.below hb2); replace HB := Lib.hid (below_ext HB.out hb2); have hz2 := hb2.size; clear hb2; have tp1 : True := trivial; clear _t tp0)
    | (have _t := tp1; go_at_call 133; refine (C.out _).mono ?_; rintro e w3 ⟨rfl, hb3⟩; replace K1 := Lib.hid (K1.out.below hb3); replace HB := Lib.hid (below_ext HB.out hb3); have hz3 := hb3.size; clear hb3; have tp2 : True := trivial; clear _t tp1))
  go_ret
  exact ⟨rfl, HB.out⟩
set_option maxRecDepth 100000 in
set_option maxHeartbeats 2000000 in
theorem Gone_A (x : Ro) (HL : Hid (x.st.length = 16)) (b : Bool) 
    (P : Hid (∀ w : World, Calls Try.prog 89 #[ros x] w fun e w' => e = .returned (.bool false) ∧ Below w.heap.size w w')) (w : World) : Calls Try.prog 100 #[ros x, .bool b] w fun e w' => e = .returned (.tuple #[ros ro0, .int .i64 2]) ∧ Below w.heap.size w w' := by
  have HB := Lib.hid (Below.refl w.heap.size w)
  have tok0 : True := trivial
  have tp0 : True := trivial
  go_enter Try.func100, Try.ntmps100
  go_wp2_with (first
    | (go_skip)
    | (refine rosBox (.tmp 0) rfl rfl HL.out rfl ?_; intro w1 hk hb1 hz1; replace HB := Lib.hid (below_ext HB.out hb1); have K2 := Lib.hid hk; clear hk hb1)
    | (have _t := tok0; refine rosAlloc rfl rfl ?_; intro w2 hk hb2 hz2; replace K2 := Lib.hid (K2.out.below hb2); replace HB := Lib.hid (below_ext HB.out hb2); have K4 := Lib.hid hk; clear hk hb2; have tok1 : True := trivial; clear _t tok0)
    | (refine rosLoad (.tmp 2) rfl K2.out rfl rfl ?_)
    | (have _t := tp0; go_at_call 89; refine (P.out _).mono ?_; rintro e w3 ⟨rfl, hb3⟩; replace K2 := Lib.hid (K2.out.below hb3); replace K4 := Lib.hid (K4.out.below hb3); replace HB := Lib.hid (below_ext HB.out hb3); have hz3 := hb3.size; clear hb3; have tp1 : True := trivial; clear _t tp0)
    | (refine rosBuild0 rfl rfl ?_)
    | (refine rosStore (.tmp 4) (.tmp 9) rfl K4.out rfl rfl zero16_length rfl ?_; intro w4 hk hg; replace HB := Lib.hid (below_at HB.out hg (by omega) K4.out.lt); replace K2 := Lib.hid (K2.out.grown hg (by omega)); replace K4 := Lib.hid hk; have hz4 := hg.size; clear hk hg))
  exact bodyPost_ret (v := .tuple #[ros ro0, .int .i64 2]) (ret_ros rfl _ _ K4.out rfl rfl) rfl ⟨rfl, HB.out⟩
set_option maxRecDepth 100000 in
set_option maxHeartbeats 2000000 in
theorem Gone_B (x : Ro) (HL : Hid (x.st.length = 16)) (b : Bool) 
    (P : Hid (∀ w : World, Calls Try.prog 89 #[ros x] w fun e w' => e = .returned (.bool true) ∧ Below w.heap.size w w')) (w : World) : Calls Try.prog 100 #[ros x, .bool b] w fun e w' => e = .returned (.tuple #[ros { x with go := b }, .int .i64 0]) ∧ Below w.heap.size w w' := by
  have HB := Lib.hid (Below.refl w.heap.size w)
  have tok0 : True := trivial
  have tp0 : True := trivial
  go_enter Try.func100, Try.ntmps100
  go_wp2_with (first
    | (go_skip)
    | (refine rosBox (.tmp 0) rfl rfl HL.out rfl ?_; intro w1 hk hb1 hz1; replace HB := Lib.hid (below_ext HB.out hb1); have K2 := Lib.hid hk; clear hk hb1)
    | (have _t := tok0; refine rosAlloc rfl rfl ?_; intro w2 hk hb2 hz2; replace K2 := Lib.hid (K2.out.below hb2); replace HB := Lib.hid (below_ext HB.out hb2); have K4 := Lib.hid hk; clear hk hb2; have tok1 : True := trivial; clear _t tok0)
    | (refine rosLoad (.tmp 2) rfl K2.out rfl rfl ?_)
    | (have _t := tp0; go_at_call 89; refine (P.out _).mono ?_; rintro e w3 ⟨rfl, hb3⟩; replace K2 := Lib.hid (K2.out.below hb3); replace K4 := Lib.hid (K4.out.below hb3); replace HB := Lib.hid (below_ext HB.out hb3); have hz3 := hb3.size; clear hb3; have tp1 : True := trivial; clear _t tp0)
    | (refine rosSetGo (.tmp 11) (.tmp 10) rfl K2.out rfl _ rfl rfl ?_; intro w4 hk hg; replace HB := Lib.hid (below_at HB.out hg (by omega) K2.out.lt); replace K4 := Lib.hid (K4.out.grown hg (by omega)); replace K2 := Lib.hid hk; have hz4 := hg.size; clear hk hg)
    | (refine rosStore (.tmp 4) (.tmp 12) rfl K4.out rfl rfl HL.out rfl ?_; intro w5 hk hg; replace HB := Lib.hid (below_at HB.out hg (by omega) K4.out.lt); replace K2 := Lib.hid (K2.out.grown hg (by omega)); replace K4 := Lib.hid hk; have hz5 := hg.size; clear hk hg))
  exact bodyPost_ret (v := .tuple #[ros { x with go := b }, .int .i64 0]) (ret_ros rfl _ _ K4.out rfl rfl) rfl ⟨rfl, HB.out⟩
end Go.Proofs.Ytdchcggllcgokaa.Q
