/-
  ashlarref10.member, Has, Gone, New, Lose: the walks.
-/
import Derived.Test.YtdchcggllcgokaaRos9
namespace Go.Proofs.Ytdchcggllcgokaa.Q
open Go.RowKit Go.Proofs.Ytdchcggllcgokaa.L Go.Proofs.Ytdchcggllcgokaa.R Go.Proofs.YtdchcggllcgokaaW.PrintWords
set_option linter.unusedVariables false
set_option linter.unusedSimpArgs false
set_option maxRecDepth 100000 in
set_option maxHeartbeats 2000000 in
theorem rmem_A (x : Ro) (HL : Hid (x.st.length = 16)) (i : Int) (h1 : i < 0)
     (w : World) : Calls Try.prog 134 #[ros x, .int .i64 i] w fun e w' => e = .returned (.bool false) ∧ Below w.heap.size w w' := by
  have HB := Lib.hid (Below.refl w.heap.size w)
  have g1 : decide (0 ≤ i) = false := by simp; omega
  have tok0 : True := trivial
  have tp0 : True := trivial
  go_enter Try.func134, Try.ntmps134
  go_wp2_with (first
    | (go_skip)
    | (refine rosBox (.tmp 0) rfl rfl HL.out rfl ?_; intro w1 hk hb1 hz1; replace HB := Lib.hid (below_ext HB.out hb1); have K2 := Lib.hid hk; clear hk hb1)
    | (refine F.rowCell _ (.tmp 10) rfl K2.out.cm rfl agg_int rfl ?_))
  go_ret
  exact ⟨rfl, HB.out⟩
set_option maxRecDepth 100000 in
set_option maxHeartbeats 2000000 in
theorem rmem_B (x : Ro) (HL : Hid (x.st.length = 16)) (i : Int) (h1 : 0 ≤ i) (b : Bool) (hb : decide (i < x.m) = b)
     (w : World) : Calls Try.prog 134 #[ros x, .int .i64 i] w fun e w' => e = .returned (.bool b) ∧ Below w.heap.size w w' := by
  have HB := Lib.hid (Below.refl w.heap.size w)
  have g1 : decide (0 ≤ i) = true := by simpa using h1
  have tok0 : True := trivial
  have tp0 : True := trivial
  go_enter Try.func134, Try.ntmps134
  go_wp2_with (first
    | (go_skip)
    | (refine rosBox (.tmp 0) rfl rfl HL.out rfl ?_; intro w1 hk hb1 hz1; replace HB := Lib.hid (below_ext HB.out hb1); have K2 := Lib.hid hk; clear hk hb1)
    | (refine F.rowCell _ (.tmp 10) rfl K2.out.cm rfl agg_int rfl ?_))
  go_ret
  exact ⟨rfl, HB.out⟩
def isM (x : Ro) (i : Int) : Bool := decide (0 ≤ i ∧ i < x.m)
theorem rmember_any (x : Ro) (hl : x.st.length = 16) (i : Int) (w : World) : Calls Try.prog 134 #[ros x, .int .i64 i] w fun e w' => e = .returned (.bool (isM x i)) ∧ Below w.heap.size w w' := by
  by_cases h1 : i < 0
  · rw [show isM x i = false by rw [isM, decide_eq_false_iff_not]; omega]
    exact rmem_A x (Lib.hid hl) i h1 w
  · exact rmem_B x (Lib.hid hl) i (by omega) _ (by rw [isM, Bool.eq_iff_iff, decide_eq_true_eq, decide_eq_true_eq]; omega) w
set_option maxRecDepth 100000 in
set_option maxHeartbeats 2000000 in
theorem rGone_A (x : Ro) (HL : Hid (x.st.length = 16)) (b : Bool) 
    (Y : Hid (∀ w : World, Calls Try.prog 90 #[ros x] w fun e w' => e = .returned (.bool false) ∧ Below w.heap.size w w')) (w : World) : Calls Try.prog 101 #[ros x, .bool b] w fun e w' => e = .returned (.tuple #[ros ro0, .int .i64 2]) ∧ Below w.heap.size w w' := by
  have HB := Lib.hid (Below.refl w.heap.size w)
  have tok0 : True := trivial
  have tp0 : True := trivial
  go_enter Try.func101, Try.ntmps101
  go_wp2_with (first
    | (go_skip)
    | (refine rosBox (.tmp 0) rfl rfl HL.out rfl ?_; intro w1 hk hb1 hz1; replace HB := Lib.hid (below_ext HB.out hb1); have K2 := Lib.hid hk; clear hk hb1)
    | (have _t := tok0; refine rosAlloc rfl rfl ?_; intro w2 hk hb2 hz2; replace K2 := Lib.hid (K2.out.below hb2); replace HB := Lib.hid (below_ext HB.out hb2); have K4 := Lib.hid hk; clear hk hb2; have tok1 : True := trivial; clear _t tok0)
    | (refine rosLoad (.tmp 2) rfl K2.out rfl rfl ?_)
    | (have _t := tp0; go_at_call 90; refine (Y.out _).mono ?_; rintro e w3 ⟨rfl, hb3⟩; replace K2 := Lib.hid (K2.out.below hb3); replace K4 := Lib.hid (K4.out.below hb3); replace HB := Lib.hid (below_ext HB.out hb3); have hz3 := hb3.size; clear hb3; have tp1 : True := trivial; clear _t tp0)
    | (refine rosBuild0 rfl rfl ?_)
    | (refine rosStore (.tmp 4) (.tmp 9) rfl K4.out rfl rfl zero16_length rfl ?_; intro w4 hk hg; replace HB := Lib.hid (below_at HB.out hg (by omega) K4.out.lt); replace K2 := Lib.hid (K2.out.grown hg (by omega)); replace K4 := Lib.hid hk; have hz4 := hg.size; clear hk hg))
  exact bodyPost_ret (v := .tuple #[ros ro0, .int .i64 2]) (ret_ros rfl _ _ K4.out rfl rfl) rfl ⟨rfl, HB.out⟩
set_option maxRecDepth 100000 in
set_option maxHeartbeats 2000000 in
theorem rGone_B (x : Ro) (HL : Hid (x.st.length = 16)) (b : Bool) 
    (Y : Hid (∀ w : World, Calls Try.prog 90 #[ros x] w fun e w' => e = .returned (.bool true) ∧ Below w.heap.size w w')) (w : World) : Calls Try.prog 101 #[ros x, .bool b] w fun e w' => e = .returned (.tuple #[ros { x with go := b }, .int .i64 0]) ∧ Below w.heap.size w w' := by
  have HB := Lib.hid (Below.refl w.heap.size w)
  have tok0 : True := trivial
  have tp0 : True := trivial
  go_enter Try.func101, Try.ntmps101
  go_wp2_with (first
    | (go_skip)
    | (refine rosBox (.tmp 0) rfl rfl HL.out rfl ?_; intro w1 hk hb1 hz1; replace HB := Lib.hid (below_ext HB.out hb1); have K2 := Lib.hid hk; clear hk hb1)
    | (have _t := tok0; refine rosAlloc rfl rfl ?_; intro w2 hk hb2 hz2; replace K2 := Lib.hid (K2.out.below hb2); replace HB := Lib.hid (below_ext HB.out hb2); have K4 := Lib.hid hk; clear hk hb2; have tok1 : True := trivial; clear _t tok0)
    | (refine rosLoad (.tmp 2) rfl K2.out rfl rfl ?_)
    | (have _t := tp0; go_at_call 90; refine (Y.out _).mono ?_; rintro e w3 ⟨rfl, hb3⟩; replace K2 := Lib.hid (K2.out.below hb3); replace K4 := Lib.hid (K4.out.below hb3); replace HB := Lib.hid (below_ext HB.out hb3); have hz3 := hb3.size; clear hb3; have tp1 : True := trivial; clear _t tp0)
    | (refine rosSetGo (.tmp 11) (.tmp 10) rfl K2.out rfl _ rfl rfl ?_; intro w4 hk hg; replace HB := Lib.hid (below_at HB.out hg (by omega) K2.out.lt); replace K4 := Lib.hid (K4.out.grown hg (by omega)); replace K2 := Lib.hid hk; have hz4 := hg.size; clear hk hg)
    | (refine rosStore (.tmp 4) (.tmp 12) rfl K4.out rfl rfl HL.out rfl ?_; intro w5 hk hg; replace HB := Lib.hid (below_at HB.out hg (by omega) K4.out.lt); replace K2 := Lib.hid (K2.out.grown hg (by omega)); replace K4 := Lib.hid hk; have hz5 := hg.size; clear hk hg))
  exact bodyPost_ret (v := .tuple #[ros { x with go := b }, .int .i64 0]) (ret_ros rfl _ _ K4.out rfl rfl) rfl ⟨rfl, HB.out⟩
set_option maxRecDepth 100000 in
set_option maxHeartbeats 2000000 in
theorem rHas_A (x : Ro) (HL : Hid (x.st.length = 16)) (i j : Int) 
    (Y : Hid (∀ w : World, Calls Try.prog 90 #[ros x] w fun e w' => e = .returned (.bool false) ∧ Below w.heap.size w w')) (w : World) : Calls Try.prog 91 #[ros x, .int .i64 i, .int .i64 j] w fun e w' => e = .returned (.bool false) ∧ Below w.heap.size w w' := by
  have HB := Lib.hid (Below.refl w.heap.size w)
  have tok0 : True := trivial
  have tp0 : True := trivial
  go_enter Try.func91, Try.ntmps91
  go_wp2_with (first
    | (go_skip)
    | (refine rosBox (.tmp 0) rfl rfl HL.out rfl ?_; intro w1 hk hb1 hz1; replace HB := Lib.hid (below_ext HB.out hb1); have K3 := Lib.hid hk; clear hk hb1)
    | (refine rosLoad (.tmp 3) rfl K3.out rfl rfl ?_)
    | (have _t := tp0; go_at_call 90; refine (Y.out _).mono ?_; rintro e w2 ⟨rfl, hb2⟩; replace K3 := Lib.hid (K3.out.below hb2); replace HB := Lib.hid (below_ext HB.out hb2); have hz2 := hb2.size; clear hb2; have tp1 : True := trivial; clear _t tp0)
    | (have _t := tp1; go_at_call 134; refine (trivial).mono ?_; rintro e w3 ⟨rfl, hb3⟩; replace K3 := Lib.hid (K3.out.below hb3); replace HB := Lib.hid (below_ext HB.out hb3); have hz3 := hb3.size; clear hb3; have tp2 : True := trivial; clear _t tp1)
    | (refine F.rowCell _ (.tmp 23) rfl K3.out.cs rfl agg_int rfl ?_))
  go_ret
  exact ⟨rfl, HB.out⟩
set_option maxRecDepth 100000 in
set_option maxHeartbeats 2000000 in
theorem rHas_B (x : Ro) (HL : Hid (x.st.length = 16)) (i j : Int) 
    (Y : Hid (∀ w : World, Calls Try.prog 90 #[ros x] w fun e w' => e = .returned (.bool true) ∧ Below w.heap.size w w'))
    (P : Hid (∀ w : World, Calls Try.prog 134 #[ros x, .int .i64 i] w fun e w' => e = .returned (.bool false) ∧ Below w.heap.size w w')) (w : World) : Calls Try.prog 91 #[ros x, .int .i64 i, .int .i64 j] w fun e w' => e = .returned (.bool false) ∧ Below w.heap.size w w' := by
  have HB := Lib.hid (Below.refl w.heap.size w)
  have tok0 : True := trivial
  have tp0 : True := trivial
  go_enter Try.func91, Try.ntmps91
  go_wp2_with (first
    | (go_skip)
    | (refine rosBox (.tmp 0) rfl rfl HL.out rfl ?_; intro w1 hk hb1 hz1; replace HB := Lib.hid (below_ext HB.out hb1); have K3 := Lib.hid hk; clear hk hb1)
    | (refine rosLoad (.tmp 3) rfl K3.out rfl rfl ?_)
    | (have _t := tp0; go_at_call 90; refine (Y.out _).mono ?_; rintro e w2 ⟨rfl, hb2⟩; replace K3 := Lib.hid (K3.out.below hb2); replace HB := Lib.hid (below_ext HB.out hb2); have hz2 := hb2.size; clear hb2; have tp1 : True := trivial; clear _t tp0)
    | (have _t := tp1; go_at_call 134; refine (P.out _).mono ?_; rintro e w3 ⟨rfl, hb3⟩; replace K3 := Lib.hid (K3.out.below hb3); replace HB := Lib.hid (below_ext HB.out hb3); have hz3 := hb3.size; clear hb3; have tp2 : True := trivial; clear _t tp1)
    | (refine F.rowCell _ (.tmp 23) rfl K3.out.cs rfl agg_int rfl ?_))
  go_ret
  exact ⟨rfl, HB.out⟩
set_option maxRecDepth 100000 in
set_option maxHeartbeats 2000000 in
theorem rHas_C (x : Ro) (HL : Hid (x.st.length = 16)) (i j : Int) (h1 : j < 0)
    (Y : Hid (∀ w : World, Calls Try.prog 90 #[ros x] w fun e w' => e = .returned (.bool true) ∧ Below w.heap.size w w'))
    (P : Hid (∀ w : World, Calls Try.prog 134 #[ros x, .int .i64 i] w fun e w' => e = .returned (.bool true) ∧ Below w.heap.size w w')) (w : World) : Calls Try.prog 91 #[ros x, .int .i64 i, .int .i64 j] w fun e w' => e = .returned (.bool false) ∧ Below w.heap.size w w' := by
  have HB := Lib.hid (Below.refl w.heap.size w)
  have g1 : decide (j < 0) = true := by simp; omega
  have tok0 : True := trivial
  have tp0 : True := trivial
  go_enter Try.func91, Try.ntmps91
  go_wp2_with (first
    | (go_skip)
    | (refine rosBox (.tmp 0) rfl rfl HL.out rfl ?_; intro w1 hk hb1 hz1; replace HB := Lib.hid (below_ext HB.out hb1); have K3 := Lib.hid hk; clear hk hb1)
    | (refine rosLoad (.tmp 3) rfl K3.out rfl rfl ?_)
    | (have _t := tp0; go_at_call 90; refine (Y.out _).mono ?_; rintro e w2 ⟨rfl, hb2⟩; replace K3 := Lib.hid (K3.out.below hb2); replace HB := Lib.hid (below_ext HB.out hb2); have hz2 := hb2.size; clear hb2; have tp1 : True := trivial; clear _t tp0)
    | (have _t := tp1; go_at_call 134; refine (P.out _).mono ?_; rintro e w3 ⟨rfl, hb3⟩; replace K3 := Lib.hid (K3.out.below hb3); replace HB := Lib.hid (below_ext HB.out hb3); have hz3 := hb3.size; clear hb3; have tp2 : True := trivial; clear _t tp1)
    | (refine F.rowCell _ (.tmp 23) rfl K3.out.cs rfl agg_int rfl ?_))
  go_ret
  exact ⟨rfl, HB.out⟩
set_option maxRecDepth 100000 in
set_option maxHeartbeats 2000000 in
theorem rHas_D (x : Ro) (HL : Hid (x.st.length = 16)) (i j : Int) (h1 : 0 ≤ j) (h2 : x.s ≤ j)
    (Y : Hid (∀ w : World, Calls Try.prog 90 #[ros x] w fun e w' => e = .returned (.bool true) ∧ Below w.heap.size w w'))
    (P : Hid (∀ w : World, Calls Try.prog 134 #[ros x, .int .i64 i] w fun e w' => e = .returned (.bool true) ∧ Below w.heap.size w w')) (w : World) : Calls Try.prog 91 #[ros x, .int .i64 i, .int .i64 j] w fun e w' => e = .returned (.bool false) ∧ Below w.heap.size w w' := by
  have HB := Lib.hid (Below.refl w.heap.size w)
  have g1 : decide (j < 0) = false := by simp; omega
  have g2 : decide (x.s ≤ j) = true := by simp; omega
  have tok0 : True := trivial
  have tp0 : True := trivial
  go_enter Try.func91, Try.ntmps91
  go_wp2_with (first
    | (go_skip)
    | (refine rosBox (.tmp 0) rfl rfl HL.out rfl ?_; intro w1 hk hb1 hz1; replace HB := Lib.hid (below_ext HB.out hb1); have K3 := Lib.hid hk; clear hk hb1)
    | (refine rosLoad (.tmp 3) rfl K3.out rfl rfl ?_)
    | (have _t := tp0; go_at_call 90; refine (Y.out _).mono ?_; rintro e w2 ⟨rfl, hb2⟩; replace K3 := Lib.hid (K3.out.below hb2); replace HB := Lib.hid (below_ext HB.out hb2); have hz2 := hb2.size; clear hb2; have tp1 : True := trivial; clear _t tp0)
    | (have _t := tp1; go_at_call 134; refine (P.out _).mono ?_; rintro e w3 ⟨rfl, hb3⟩; replace K3 := Lib.hid (K3.out.below hb3); replace HB := Lib.hid (below_ext HB.out hb3); have hz3 := hb3.size; clear hb3; have tp2 : True := trivial; clear _t tp1)
    | (refine F.rowCell _ (.tmp 23) rfl K3.out.cs rfl agg_int rfl ?_))
  go_ret
  exact ⟨rfl, HB.out⟩
set_option maxRecDepth 100000 in
set_option maxHeartbeats 2000000 in
theorem rHas_E (x : Ro) (HL : Hid (x.st.length = 16)) (i : Nat) (j : Int) (hi : i < 16) (h1 : 0 ≤ j) (h2 : j < x.s) (h3 : (rd x.st (i : Int) == 0) = true)
    (Y : Hid (∀ w : World, Calls Try.prog 90 #[ros x] w fun e w' => e = .returned (.bool true) ∧ Below w.heap.size w w'))
    (P : Hid (∀ w : World, Calls Try.prog 134 #[ros x, .int .i64 (i : Int)] w fun e w' => e = .returned (.bool true) ∧ Below w.heap.size w w')) (w : World) : Calls Try.prog 91 #[ros x, .int .i64 (i : Int), .int .i64 j] w fun e w' => e = .returned (.bool true) ∧ Below w.heap.size w w' := by
  have HB := Lib.hid (Below.refl w.heap.size w)
  have g1 : decide (j < 0) = false := by simp; omega
  have g2 : decide (x.s ≤ j) = false := by simp; omega
  have hi0 : (0 : Int) ≤ (i : Int) := by omega
  have hi16 : (i : Int) < 16 := by omega
  have tok0 : True := trivial
  have tp0 : True := trivial
  go_enter Try.func91, Try.ntmps91
  go_wp2_with (first
    | (go_skip)
    | (refine rosBox (.tmp 0) rfl rfl HL.out rfl ?_; intro w1 hk hb1 hz1; replace HB := Lib.hid (below_ext HB.out hb1); have K3 := Lib.hid hk; clear hk hb1)
    | (refine rosLoad (.tmp 3) rfl K3.out rfl rfl ?_)
    | (have _t := tp0; go_at_call 90; refine (Y.out _).mono ?_; rintro e w2 ⟨rfl, hb2⟩; replace K3 := Lib.hid (K3.out.below hb2); replace HB := Lib.hid (below_ext HB.out hb2); have hz2 := hb2.size; clear hb2; have tp1 : True := trivial; clear _t tp0)
    | (have _t := tp1; go_at_call 134; refine (P.out _).mono ?_; rintro e w3 ⟨rfl, hb3⟩; replace K3 := Lib.hid (K3.out.below hb3); replace HB := Lib.hid (below_ext HB.out hb3); have hz3 := hb3.size; clear hb3; have tp2 : True := trivial; clear _t tp1)
    | (refine F.rowCell _ (.tmp 23) rfl K3.out.cs rfl agg_int rfl ?_)
    | (refine F.rowCell _ (.tmp 29) rfl (K3.out.ci i hi) rfl R.agg_u8 rfl ?_)
    | (refine F.rowCell _ (.tmp 35) rfl (K3.out.ci i hi) rfl R.agg_u8 rfl ?_)
    | (refine F.rowCell _ (.tmp 40) rfl K3.out.ccu rfl agg_int rfl ?_))
  go_ret
  exact ⟨rfl, HB.out⟩
set_option maxRecDepth 100000 in
set_option maxHeartbeats 2000000 in
theorem rHas_F (x : Ro) (HL : Hid (x.st.length = 16)) (i : Nat) (j : Int) (hi : i < 16) (h1 : 0 ≤ j) (h2 : j < x.s) (h3 : (rd x.st (i : Int) == 0) = false) (h4 : (rd x.st (i : Int) == 2) = true) (b : Bool) (hb : decide (j < x.cu) = b)
    (Y : Hid (∀ w : World, Calls Try.prog 90 #[ros x] w fun e w' => e = .returned (.bool true) ∧ Below w.heap.size w w'))
    (P : Hid (∀ w : World, Calls Try.prog 134 #[ros x, .int .i64 (i : Int)] w fun e w' => e = .returned (.bool true) ∧ Below w.heap.size w w')) (w : World) : Calls Try.prog 91 #[ros x, .int .i64 (i : Int), .int .i64 j] w fun e w' => e = .returned (.bool b) ∧ Below w.heap.size w w' := by
  have HB := Lib.hid (Below.refl w.heap.size w)
  have g1 : decide (j < 0) = false := by simp; omega
  have g2 : decide (x.s ≤ j) = false := by simp; omega
  have hi0 : (0 : Int) ≤ (i : Int) := by omega
  have hi16 : (i : Int) < 16 := by omega
  have tok0 : True := trivial
  have tp0 : True := trivial
  go_enter Try.func91, Try.ntmps91
  go_wp2_with (first
    | (go_skip)
    | (refine rosBox (.tmp 0) rfl rfl HL.out rfl ?_; intro w1 hk hb1 hz1; replace HB := Lib.hid (below_ext HB.out hb1); have K3 := Lib.hid hk; clear hk hb1)
    | (refine rosLoad (.tmp 3) rfl K3.out rfl rfl ?_)
    | (have _t := tp0; go_at_call 90; refine (Y.out _).mono ?_; rintro e w2 ⟨rfl, hb2⟩; replace K3 := Lib.hid (K3.out.below hb2); replace HB := Lib.hid (below_ext HB.out hb2); have hz2 := hb2.size; clear hb2; have tp1 : True := trivial; clear _t tp0)
    | (have _t := tp1; go_at_call 134; refine (P.out _).mono ?_; rintro e w3 ⟨rfl, hb3⟩; replace K3 := Lib.hid (K3.out.below hb3); replace HB := Lib.hid (below_ext HB.out hb3); have hz3 := hb3.size; clear hb3; have tp2 : True := trivial; clear _t tp1)
    | (refine F.rowCell _ (.tmp 23) rfl K3.out.cs rfl agg_int rfl ?_)
    | (refine F.rowCell _ (.tmp 29) rfl (K3.out.ci i hi) rfl R.agg_u8 rfl ?_)
    | (refine F.rowCell _ (.tmp 35) rfl (K3.out.ci i hi) rfl R.agg_u8 rfl ?_)
    | (refine F.rowCell _ (.tmp 40) rfl K3.out.ccu rfl agg_int rfl ?_))
  go_ret
  exact ⟨rfl, HB.out⟩
set_option maxRecDepth 100000 in
set_option maxHeartbeats 2000000 in
theorem rHas_G (x : Ro) (HL : Hid (x.st.length = 16)) (i : Nat) (j : Int) (hi : i < 16) (h1 : 0 ≤ j) (h2 : j < x.s) (h3 : (rd x.st (i : Int) == 0) = false) (h4 : (rd x.st (i : Int) == 2) = false)
    (Y : Hid (∀ w : World, Calls Try.prog 90 #[ros x] w fun e w' => e = .returned (.bool true) ∧ Below w.heap.size w w'))
    (P : Hid (∀ w : World, Calls Try.prog 134 #[ros x, .int .i64 (i : Int)] w fun e w' => e = .returned (.bool true) ∧ Below w.heap.size w w')) (w : World) : Calls Try.prog 91 #[ros x, .int .i64 (i : Int), .int .i64 j] w fun e w' => e = .returned (.bool false) ∧ Below w.heap.size w w' := by
  have HB := Lib.hid (Below.refl w.heap.size w)
  have g1 : decide (j < 0) = false := by simp; omega
  have g2 : decide (x.s ≤ j) = false := by simp; omega
  have hi0 : (0 : Int) ≤ (i : Int) := by omega
  have hi16 : (i : Int) < 16 := by omega
  have tok0 : True := trivial
  have tp0 : True := trivial
  go_enter Try.func91, Try.ntmps91
  go_wp2_with (first
    | (go_skip)
    | (refine rosBox (.tmp 0) rfl rfl HL.out rfl ?_; intro w1 hk hb1 hz1; replace HB := Lib.hid (below_ext HB.out hb1); have K3 := Lib.hid hk; clear hk hb1)
    | (refine rosLoad (.tmp 3) rfl K3.out rfl rfl ?_)
    | (have _t := tp0; go_at_call 90; refine (Y.out _).mono ?_; rintro e w2 ⟨rfl, hb2⟩; replace K3 := Lib.hid (K3.out.below hb2); replace HB := Lib.hid (below_ext HB.out hb2); have hz2 := hb2.size; clear hb2; have tp1 : True := trivial; clear _t tp0)
    | (have _t := tp1; go_at_call 134; refine (P.out _).mono ?_; rintro e w3 ⟨rfl, hb3⟩; replace K3 := Lib.hid (K3.out.below hb3); replace HB := Lib.hid (below_ext HB.out hb3); have hz3 := hb3.size; clear hb3; have tp2 : True := trivial; clear _t tp1)
    | (refine F.rowCell _ (.tmp 23) rfl K3.out.cs rfl agg_int rfl ?_)
    | (refine F.rowCell _ (.tmp 29) rfl (K3.out.ci i hi) rfl R.agg_u8 rfl ?_)
    | (refine F.rowCell _ (.tmp 35) rfl (K3.out.ci i hi) rfl R.agg_u8 rfl ?_)
    | (refine F.rowCell _ (.tmp 40) rfl K3.out.ccu rfl agg_int rfl ?_))
  go_ret
  exact ⟨rfl, HB.out⟩
set_option maxRecDepth 100000 in
set_option maxHeartbeats 2000000 in
theorem rLose_A (x : Ro) (HL : Hid (x.st.length = 16)) (i : Int) 
    (Y : Hid (∀ w : World, Calls Try.prog 90 #[ros x] w fun e w' => e = .returned (.bool false) ∧ Below w.heap.size w w')) (w : World) : Calls Try.prog 97 #[ros x, .int .i64 i] w fun e w' => e = .returned (.tuple #[ros x, .bool false]) ∧ Below w.heap.size w w' := by
  have HB := Lib.hid (Below.refl w.heap.size w)
  have tok0 : True := trivial
  have tp0 : True := trivial
  go_enter Try.func97, Try.ntmps97
  go_wp2_with (first
    | (go_skip)
    | (refine rosBox (.tmp 0) rfl rfl HL.out rfl ?_; intro w1 hk hb1 hz1; replace HB := Lib.hid (below_ext HB.out hb1); have K2 := Lib.hid hk; clear hk hb1)
    | (have _t := tok0; refine rosAlloc rfl rfl ?_; intro w2 hk hb2 hz2; replace K2 := Lib.hid (K2.out.below hb2); replace HB := Lib.hid (below_ext HB.out hb2); have K4 := Lib.hid hk; clear hk hb2; have tok1 : True := trivial; clear _t tok0)
    | (refine rosLoad (.tmp 2) rfl K2.out rfl rfl ?_)
    | (have _t := tp0; go_at_call 90; refine (Y.out _).mono ?_; rintro e w3 ⟨rfl, hb3⟩; replace K2 := Lib.hid (K2.out.below hb3); replace K4 := Lib.hid (K4.out.below hb3); replace HB := Lib.hid (below_ext HB.out hb3); have hz3 := hb3.size; clear hb3; have tp1 : True := trivial; clear _t tp0)
    | (have _t := tp1; go_at_call 134; refine (trivial).mono ?_; rintro e w4 ⟨rfl, hb4⟩; replace K2 := Lib.hid (K2.out.below hb4); replace K4 := Lib.hid (K4.out.below hb4); replace HB := Lib.hid (below_ext HB.out hb4); have hz4 := hb4.size; clear hb4; have tp2 : True := trivial; clear _t tp1)
    | (refine F.rowCell _ (.tmp 18) rfl (K2.out.ci _ _) rfl R.agg_u8 rfl ?_)
    | (refine rosStore (.tmp 4) (.tmp 22) rfl K4.out rfl rfl HL.out rfl ?_; intro w5 hk hg; replace HB := Lib.hid (below_at HB.out hg (by omega) K4.out.lt); replace K2 := Lib.hid (K2.out.grown hg (by omega)); replace K4 := Lib.hid hk; have hz5 := hg.size; clear hk hg))
  exact bodyPost_ret (v := .tuple #[ros x, .bool false]) (ret_ros rfl _ _ K4.out rfl rfl) rfl ⟨rfl, HB.out⟩
set_option maxRecDepth 100000 in
set_option maxHeartbeats 2000000 in
theorem rLose_B (x : Ro) (HL : Hid (x.st.length = 16)) (i : Int) 
    (Y : Hid (∀ w : World, Calls Try.prog 90 #[ros x] w fun e w' => e = .returned (.bool true) ∧ Below w.heap.size w w'))
    (P : Hid (∀ w : World, Calls Try.prog 134 #[ros x, .int .i64 i] w fun e w' => e = .returned (.bool false) ∧ Below w.heap.size w w')) (w : World) : Calls Try.prog 97 #[ros x, .int .i64 i] w fun e w' => e = .returned (.tuple #[ros x, .bool false]) ∧ Below w.heap.size w w' := by
  have HB := Lib.hid (Below.refl w.heap.size w)
  have tok0 : True := trivial
  have tp0 : True := trivial
  go_enter Try.func97, Try.ntmps97
  go_wp2_with (first
    | (go_skip)
    | (refine rosBox (.tmp 0) rfl rfl HL.out rfl ?_; intro w1 hk hb1 hz1; replace HB := Lib.hid (below_ext HB.out hb1); have K2 := Lib.hid hk; clear hk hb1)
    | (have _t := tok0; refine rosAlloc rfl rfl ?_; intro w2 hk hb2 hz2; replace K2 := Lib.hid (K2.out.below hb2); replace HB := Lib.hid (below_ext HB.out hb2); have K4 := Lib.hid hk; clear hk hb2; have tok1 : True := trivial; clear _t tok0)
    | (refine rosLoad (.tmp 2) rfl K2.out rfl rfl ?_)
    | (have _t := tp0; go_at_call 90; refine (Y.out _).mono ?_; rintro e w3 ⟨rfl, hb3⟩; replace K2 := Lib.hid (K2.out.below hb3); replace K4 := Lib.hid (K4.out.below hb3); replace HB := Lib.hid (below_ext HB.out hb3); have hz3 := hb3.size; clear hb3; have tp1 : True := trivial; clear _t tp0)
    | (have _t := tp1; go_at_call 134; refine (P.out _).mono ?_; rintro e w4 ⟨rfl, hb4⟩; replace K2 := Lib.hid (K2.out.below hb4); replace K4 := Lib.hid (K4.out.below hb4); replace HB := Lib.hid (below_ext HB.out hb4); have hz4 := hb4.size; clear hb4; have tp2 : True := trivial; clear _t tp1)
    | (refine F.rowCell _ (.tmp 18) rfl (K2.out.ci _ _) rfl R.agg_u8 rfl ?_)
    | (refine rosStore (.tmp 4) (.tmp 22) rfl K4.out rfl rfl HL.out rfl ?_; intro w5 hk hg; replace HB := Lib.hid (below_at HB.out hg (by omega) K4.out.lt); replace K2 := Lib.hid (K2.out.grown hg (by omega)); replace K4 := Lib.hid hk; have hz5 := hg.size; clear hk hg))
  exact bodyPost_ret (v := .tuple #[ros x, .bool false]) (ret_ros rfl _ _ K4.out rfl rfl) rfl ⟨rfl, HB.out⟩
set_option maxRecDepth 100000 in
set_option maxHeartbeats 2000000 in
theorem rLose_C (x : Ro) (HL : Hid (x.st.length = 16)) (i : Nat) (hi : i < 16) (h1 : (rd x.st (i : Int) == 1) = true)
    (Y : Hid (∀ w : World, Calls Try.prog 90 #[ros x] w fun e w' => e = .returned (.bool true) ∧ Below w.heap.size w w'))
    (P : Hid (∀ w : World, Calls Try.prog 134 #[ros x, .int .i64 (i : Int)] w fun e w' => e = .returned (.bool true) ∧ Below w.heap.size w w')) (w : World) : Calls Try.prog 97 #[ros x, .int .i64 (i : Int)] w fun e w' => e = .returned (.tuple #[ros x, .bool false]) ∧ Below w.heap.size w w' := by
  have HB := Lib.hid (Below.refl w.heap.size w)
  have hi0 : (0 : Int) ≤ (i : Int) := by omega
  have hi16 : (i : Int) < 16 := by omega
  have tok0 : True := trivial
  have tp0 : True := trivial
  go_enter Try.func97, Try.ntmps97
  go_wp2_with (first
    | (go_skip)
    | (refine rosBox (.tmp 0) rfl rfl HL.out rfl ?_; intro w1 hk hb1 hz1; replace HB := Lib.hid (below_ext HB.out hb1); have K2 := Lib.hid hk; clear hk hb1)
    | (have _t := tok0; refine rosAlloc rfl rfl ?_; intro w2 hk hb2 hz2; replace K2 := Lib.hid (K2.out.below hb2); replace HB := Lib.hid (below_ext HB.out hb2); have K4 := Lib.hid hk; clear hk hb2; have tok1 : True := trivial; clear _t tok0)
    | (refine rosLoad (.tmp 2) rfl K2.out rfl rfl ?_)
    | (have _t := tp0; go_at_call 90; refine (Y.out _).mono ?_; rintro e w3 ⟨rfl, hb3⟩; replace K2 := Lib.hid (K2.out.below hb3); replace K4 := Lib.hid (K4.out.below hb3); replace HB := Lib.hid (below_ext HB.out hb3); have hz3 := hb3.size; clear hb3; have tp1 : True := trivial; clear _t tp0)
    | (have _t := tp1; go_at_call 134; refine (P.out _).mono ?_; rintro e w4 ⟨rfl, hb4⟩; replace K2 := Lib.hid (K2.out.below hb4); replace K4 := Lib.hid (K4.out.below hb4); replace HB := Lib.hid (below_ext HB.out hb4); have hz4 := hb4.size; clear hb4; have tp2 : True := trivial; clear _t tp1)
    | (refine F.rowCell _ (.tmp 18) rfl (K2.out.ci i hi) rfl R.agg_u8 rfl ?_)
    | (refine rosStore (.tmp 4) (.tmp 22) rfl K4.out rfl rfl HL.out rfl ?_; intro w5 hk hg; replace HB := Lib.hid (below_at HB.out hg (by omega) K4.out.lt); replace K2 := Lib.hid (K2.out.grown hg (by omega)); replace K4 := Lib.hid hk; have hz5 := hg.size; clear hk hg))
  exact bodyPost_ret (v := .tuple #[ros x, .bool false]) (ret_ros rfl _ _ K4.out rfl rfl) rfl ⟨rfl, HB.out⟩
set_option maxRecDepth 100000 in
set_option maxHeartbeats 2000000 in
theorem rLose_D (x : Ro) (HL : Hid (x.st.length = 16)) (i : Nat) (hi : i < 16) (h1 : (rd x.st (i : Int) == 1) = false) (h2 : (rd x.st (i : Int) == 2) = true)
    (Y : Hid (∀ w : World, Calls Try.prog 90 #[ros x] w fun e w' => e = .returned (.bool true) ∧ Below w.heap.size w w'))
    (P : Hid (∀ w : World, Calls Try.prog 134 #[ros x, .int .i64 (i : Int)] w fun e w' => e = .returned (.bool true) ∧ Below w.heap.size w w')) (w : World) : Calls Try.prog 97 #[ros x, .int .i64 (i : Int)] w fun e w' => e = .returned (.tuple #[ros { x with cu := 0, st := x.st.set i 1 }, .bool true]) ∧ Below w.heap.size w w' := by
  have HB := Lib.hid (Below.refl w.heap.size w)
  have hi0 : (0 : Int) ≤ (i : Int) := by omega
  have hi16 : (i : Int) < 16 := by omega
  have tok0 : True := trivial
  have tp0 : True := trivial
  go_enter Try.func97, Try.ntmps97
  go_wp2_with (first
    | (go_skip)
    | (refine rosBox (.tmp 0) rfl rfl HL.out rfl ?_; intro w1 hk hb1 hz1; replace HB := Lib.hid (below_ext HB.out hb1); have K2 := Lib.hid hk; clear hk hb1)
    | (have _t := tok0; refine rosAlloc rfl rfl ?_; intro w2 hk hb2 hz2; replace K2 := Lib.hid (K2.out.below hb2); replace HB := Lib.hid (below_ext HB.out hb2); have K4 := Lib.hid hk; clear hk hb2; have tok1 : True := trivial; clear _t tok0)
    | (refine rosLoad (.tmp 2) rfl K2.out rfl rfl ?_)
    | (have _t := tp0; go_at_call 90; refine (Y.out _).mono ?_; rintro e w3 ⟨rfl, hb3⟩; replace K2 := Lib.hid (K2.out.below hb3); replace K4 := Lib.hid (K4.out.below hb3); replace HB := Lib.hid (below_ext HB.out hb3); have hz3 := hb3.size; clear hb3; have tp1 : True := trivial; clear _t tp0)
    | (have _t := tp1; go_at_call 134; refine (P.out _).mono ?_; rintro e w4 ⟨rfl, hb4⟩; replace K2 := Lib.hid (K2.out.below hb4); replace K4 := Lib.hid (K4.out.below hb4); replace HB := Lib.hid (below_ext HB.out hb4); have hz4 := hb4.size; clear hb4; have tp2 : True := trivial; clear _t tp1)
    | (refine F.rowCell _ (.tmp 18) rfl (K2.out.ci i hi) rfl R.agg_u8 rfl ?_)
    | (refine F.rowCell _ (.tmp 25) rfl (K2.out.ci i hi) rfl R.agg_u8 rfl ?_)
    | (refine rosSetCu (.tmp 28) (.const (.int .i64 0)) rfl K2.out rfl _ rfl rfl ?_; intro w5 hk hg; replace HB := Lib.hid (below_at HB.out hg (by omega) K2.out.lt); replace K4 := Lib.hid (K4.out.grown hg (by omega)); replace K2 := Lib.hid hk; have hz5 := hg.size; clear hk hg)
    | (refine rosSetSt (.tmp 31) (.const (.int .u8 1)) rfl K2.out i hi rfl _ rfl rfl ?_; intro w6 hk hg; replace HB := Lib.hid (below_at HB.out hg (by omega) K2.out.lt); replace K4 := Lib.hid (K4.out.grown hg (by omega)); replace K2 := Lib.hid hk; have hz6 := hg.size; clear hk hg)
    | (refine rosStore (.tmp 4) (.tmp 32) rfl K4.out rfl rfl (by simpa using HL.out) rfl ?_; intro w7 hk hg; replace HB := Lib.hid (below_at HB.out hg (by omega) K4.out.lt); replace K2 := Lib.hid (K2.out.grown hg (by omega)); replace K4 := Lib.hid hk; have hz7 := hg.size; clear hk hg))
  exact bodyPost_ret (v := .tuple #[ros { x with cu := 0, st := x.st.set i 1 }, .bool true]) (ret_ros rfl _ _ K4.out rfl rfl) rfl ⟨rfl, HB.out⟩
set_option maxRecDepth 100000 in
set_option maxHeartbeats 2000000 in
theorem rLose_E (x : Ro) (HL : Hid (x.st.length = 16)) (i : Nat) (hi : i < 16) (h1 : (rd x.st (i : Int) == 1) = false) (h2 : (rd x.st (i : Int) == 2) = false)
    (Y : Hid (∀ w : World, Calls Try.prog 90 #[ros x] w fun e w' => e = .returned (.bool true) ∧ Below w.heap.size w w'))
    (P : Hid (∀ w : World, Calls Try.prog 134 #[ros x, .int .i64 (i : Int)] w fun e w' => e = .returned (.bool true) ∧ Below w.heap.size w w')) (w : World) : Calls Try.prog 97 #[ros x, .int .i64 (i : Int)] w fun e w' => e = .returned (.tuple #[ros { x with st := x.st.set i 1 }, .bool true]) ∧ Below w.heap.size w w' := by
  have HB := Lib.hid (Below.refl w.heap.size w)
  have hi0 : (0 : Int) ≤ (i : Int) := by omega
  have hi16 : (i : Int) < 16 := by omega
  have tok0 : True := trivial
  have tp0 : True := trivial
  go_enter Try.func97, Try.ntmps97
  go_wp2_with (first
    | (go_skip)
    | (refine rosBox (.tmp 0) rfl rfl HL.out rfl ?_; intro w1 hk hb1 hz1; replace HB := Lib.hid (below_ext HB.out hb1); have K2 := Lib.hid hk; clear hk hb1)
    | (have _t := tok0; refine rosAlloc rfl rfl ?_; intro w2 hk hb2 hz2; replace K2 := Lib.hid (K2.out.below hb2); replace HB := Lib.hid (below_ext HB.out hb2); have K4 := Lib.hid hk; clear hk hb2; have tok1 : True := trivial; clear _t tok0)
    | (refine rosLoad (.tmp 2) rfl K2.out rfl rfl ?_)
    | (have _t := tp0; go_at_call 90; refine (Y.out _).mono ?_; rintro e w3 ⟨rfl, hb3⟩; replace K2 := Lib.hid (K2.out.below hb3); replace K4 := Lib.hid (K4.out.below hb3); replace HB := Lib.hid (below_ext HB.out hb3); have hz3 := hb3.size; clear hb3; have tp1 : True := trivial; clear _t tp0)
    | (have _t := tp1; go_at_call 134; refine (P.out _).mono ?_; rintro e w4 ⟨rfl, hb4⟩; replace K2 := Lib.hid (K2.out.below hb4); replace K4 := Lib.hid (K4.out.below hb4); replace HB := Lib.hid (below_ext HB.out hb4); have hz4 := hb4.size; clear hb4; have tp2 : True := trivial; clear _t tp1)
    | (refine F.rowCell _ (.tmp 18) rfl (K2.out.ci i hi) rfl R.agg_u8 rfl ?_)
    | (refine F.rowCell _ (.tmp 25) rfl (K2.out.ci i hi) rfl R.agg_u8 rfl ?_)
    | (refine rosSetSt (.tmp 31) (.const (.int .u8 1)) rfl K2.out i hi rfl _ rfl rfl ?_; intro w5 hk hg; replace HB := Lib.hid (below_at HB.out hg (by omega) K2.out.lt); replace K4 := Lib.hid (K4.out.grown hg (by omega)); replace K2 := Lib.hid hk; have hz5 := hg.size; clear hk hg)
    | (refine rosStore (.tmp 4) (.tmp 32) rfl K4.out rfl rfl (by simpa using HL.out) rfl ?_; intro w6 hk hg; replace HB := Lib.hid (below_at HB.out hg (by omega) K4.out.lt); replace K2 := Lib.hid (K2.out.grown hg (by omega)); replace K4 := Lib.hid hk; have hz6 := hg.size; clear hk hg))
  exact bodyPost_ret (v := .tuple #[ros { x with st := x.st.set i 1 }, .bool true]) (ret_ros rfl _ _ K4.out rfl rfl) rfl ⟨rfl, HB.out⟩
end Go.Proofs.Ytdchcggllcgokaa.Q
