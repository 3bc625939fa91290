/-
  roster.Has, Missing, Gone: the walks. roster.New, Lose, Begin, Next: the walks. roster.Heals, New, Next: the walks. roster.State, New: the walks. ashlarref10.member, Has, Gone, New, Lose: the walks. ashlarref10.Begin, Next, New: the walks. ashlarref10.Heals, Missing, State: the walks.
-/
import Derived.Test.YtdchcggllcgokaaSpF
namespace Go.Proofs.Ytdchcggllcgokaa.Q
open Go.RowKit Go.Proofs.Ytdchcggllcgokaa.L Go.Proofs.Ytdchcggllcgokaa.R Go.Proofs.YtdchcggllcgokaaW.PrintWords
set_option linter.unusedVariables false
set_option linter.unusedSimpArgs false
set_option maxRecDepth 100000 in
set_option maxHeartbeats 2000000 in
theorem Has_A (x : Ro) (HL : Hid (x.st.length = 16)) (i j : Int) 
    (P : Hid (∀ w : World, Calls Try.prog 127 #[ros x, .int .i64 i] w fun e w' => e = .returned (.bool false) ∧ Below w.heap.size w w')) (w : World) : Calls Try.prog 70 #[ros x, .int .i64 i, .int .i64 j] w fun e w' => e = .returned (.bool false) ∧ Below w.heap.size w w' := by
  have HB := Lib.hid (Below.refl w.heap.size w)
  have tok0 : True := trivial
  have tp0 : True := trivial
  go_enter Try.func70, Try.ntmps70
  go_wp2_with (first
    | (go_skip)
    | (refine rosBox (.tmp 0) rfl rfl HL.out rfl ?_; intro w1 hk hb1 hz1; replace HB := Lib.hid (below_ext HB.out hb1); have K3 := Lib.hid hk; clear hk hb1)
    | (refine rosLoad (.tmp 3) rfl K3.out rfl rfl ?_)
    | (have _t := tp0; go_at_call 127; refine (P.out _).mono ?_; rintro e w2 ⟨rfl, hb2⟩; replace K3 := Lib.hid (K3.out.below hb2); replace HB := Lib.hid (below_ext HB.out hb2); have hz2 := hb2.size; clear hb2; have tp1 : True := trivial; clear _t tp0)
    | (refine F.rowCell _ (.tmp 18) rfl K3.out.cs rfl agg_int rfl ?_))
  go_ret
  exact ⟨rfl, HB.out⟩
set_option maxRecDepth 100000 in
set_option maxHeartbeats 2000000 in
theorem Has_B (x : Ro) (HL : Hid (x.st.length = 16)) (i j : Int) (h1 : j < 0)
    (P : Hid (∀ w : World, Calls Try.prog 127 #[ros x, .int .i64 i] w fun e w' => e = .returned (.bool true) ∧ Below w.heap.size w w')) (w : World) : Calls Try.prog 70 #[ros x, .int .i64 i, .int .i64 j] w fun e w' => e = .returned (.bool false) ∧ Below w.heap.size w w' := by
  have HB := Lib.hid (Below.refl w.heap.size w)
  have g1 : decide (j < 0) = true := by simp; omega
  have tok0 : True := trivial
  have tp0 : True := trivial
  go_enter Try.func70, Try.ntmps70
  go_wp2_with (first
    | (go_skip)
    | (refine rosBox (.tmp 0) rfl rfl HL.out rfl ?_; intro w1 hk hb1 hz1; replace HB := Lib.hid (below_ext HB.out hb1); have K3 := Lib.hid hk; clear hk hb1)
    | (refine rosLoad (.tmp 3) rfl K3.out rfl rfl ?_)
    | (have _t := tp0; go_at_call 127; refine (P.out _).mono ?_; rintro e w2 ⟨rfl, hb2⟩; replace K3 := Lib.hid (K3.out.below hb2); replace HB := Lib.hid (below_ext HB.out hb2); have hz2 := hb2.size; clear hb2; have tp1 : True := trivial; clear _t tp0)
    | (refine F.rowCell _ (.tmp 18) rfl K3.out.cs rfl agg_int rfl ?_))
  go_ret
  exact ⟨rfl, HB.out⟩
set_option maxRecDepth 100000 in
set_option maxHeartbeats 2000000 in
theorem Has_C (x : Ro) (HL : Hid (x.st.length = 16)) (i j : Int) (h1 : 0 ≤ j) (h2 : x.s ≤ j)
    (P : Hid (∀ w : World, Calls Try.prog 127 #[ros x, .int .i64 i] w fun e w' => e = .returned (.bool true) ∧ Below w.heap.size w w')) (w : World) : Calls Try.prog 70 #[ros x, .int .i64 i, .int .i64 j] w fun e w' => e = .returned (.bool false) ∧ Below w.heap.size w w' := by
  have HB := Lib.hid (Below.refl w.heap.size w)
  have g1 : decide (j < 0) = false := by simp; omega
  have g2 : decide (x.s ≤ j) = true := by simp; omega
  have tok0 : True := trivial
  have tp0 : True := trivial
  go_enter Try.func70, Try.ntmps70
  go_wp2_with (first
    | (go_skip)
    | (refine rosBox (.tmp 0) rfl rfl HL.out rfl ?_; intro w1 hk hb1 hz1; replace HB := Lib.hid (below_ext HB.out hb1); have K3 := Lib.hid hk; clear hk hb1)
    | (refine rosLoad (.tmp 3) rfl K3.out rfl rfl ?_)
    | (have _t := tp0; go_at_call 127; refine (P.out _).mono ?_; rintro e w2 ⟨rfl, hb2⟩; replace K3 := Lib.hid (K3.out.below hb2); replace HB := Lib.hid (below_ext HB.out hb2); have hz2 := hb2.size; clear hb2; have tp1 : True := trivial; clear _t tp0)
    | (refine F.rowCell _ (.tmp 18) rfl K3.out.cs rfl agg_int rfl ?_))
  go_ret
  exact ⟨rfl, HB.out⟩
set_option maxRecDepth 100000 in
set_option maxHeartbeats 2000000 in
theorem Has_D (x : Ro) (HL : Hid (x.st.length = 16)) (i : Nat) (j : Int) (hi : i < 16) (h1 : 0 ≤ j) (h2 : j < x.s) (h3 : (rd x.st (i : Int) == 0) = true)
    (P : Hid (∀ w : World, Calls Try.prog 127 #[ros x, .int .i64 (i : Int)] w fun e w' => e = .returned (.bool true) ∧ Below w.heap.size w w')) (w : World) : Calls Try.prog 70 #[ros x, .int .i64 (i : Int), .int .i64 j] w fun e w' => e = .returned (.bool true) ∧ Below w.heap.size w w' := by
  have HB := Lib.hid (Below.refl w.heap.size w)
  have g1 : decide (j < 0) = false := by simp; omega
  have g2 : decide (x.s ≤ j) = false := by simp; omega
  have hi0 : (0 : Int) ≤ (i : Int) := by omega
  have hi16 : (i : Int) < 16 := by omega
  have tok0 : True := trivial
  have tp0 : True := trivial
  go_enter Try.func70, Try.ntmps70
  go_wp2_with (first
    | (go_skip)
    | (refine rosBox (.tmp 0) rfl rfl HL.out rfl ?_; intro w1 hk hb1 hz1; replace HB := Lib.hid (below_ext HB.out hb1); have K3 := Lib.hid hk; clear hk hb1)
    | (refine rosLoad (.tmp 3) rfl K3.out rfl rfl ?_)
    | (have _t := tp0; go_at_call 127; refine (P.out _).mono ?_; rintro e w2 ⟨rfl, hb2⟩; replace K3 := Lib.hid (K3.out.below hb2); replace HB := Lib.hid (below_ext HB.out hb2); have hz2 := hb2.size; clear hb2; have tp1 : True := trivial; clear _t tp0)
    | (refine F.rowCell _ (.tmp 18) rfl K3.out.cs rfl agg_int rfl ?_)
    | (refine F.rowCell _ (.tmp 24) rfl (K3.out.ci i hi) rfl R.agg_u8 rfl ?_))
  go_ret
  exact ⟨rfl, HB.out⟩
set_option maxRecDepth 100000 in
set_option maxHeartbeats 2000000 in
theorem Has_E (x : Ro) (HL : Hid (x.st.length = 16)) (i : Nat) (j : Int) (hi : i < 16) (h1 : 0 ≤ j) (h2 : j < x.s) (h3 : (rd x.st (i : Int) == 0) = false) (h4 : (rd x.st (i : Int) == 2) = true) (b : Bool) (hb : decide (j < x.cu) = b)
    (P : Hid (∀ w : World, Calls Try.prog 127 #[ros x, .int .i64 (i : Int)] w fun e w' => e = .returned (.bool true) ∧ Below w.heap.size w w')) (w : World) : Calls Try.prog 70 #[ros x, .int .i64 (i : Int), .int .i64 j] w fun e w' => e = .returned (.bool b) ∧ Below w.heap.size w w' := by
  have HB := Lib.hid (Below.refl w.heap.size w)
  have g1 : decide (j < 0) = false := by simp; omega
  have g2 : decide (x.s ≤ j) = false := by simp; omega
  have hi0 : (0 : Int) ≤ (i : Int) := by omega
  have hi16 : (i : Int) < 16 := by omega
  have tok0 : True := trivial
  have tp0 : True := trivial
  go_enter Try.func70, Try.ntmps70
  go_wp2_with (first
    | (go_skip)
    | (refine rosBox (.tmp 0) rfl rfl HL.out rfl ?_; intro w1 hk hb1 hz1; replace HB := Lib.hid (below_ext HB.out hb1); have K3 := Lib.hid hk; clear hk hb1)
    | (refine rosLoad (.tmp 3) rfl K3.out rfl rfl ?_)
    | (have _t := tp0; go_at_call 127; refine (P.out _).mono ?_; rintro e w2 ⟨rfl, hb2⟩; replace K3 := Lib.hid (K3.out.below hb2); replace HB := Lib.hid (below_ext HB.out hb2); have hz2 := hb2.size; clear hb2; have tp1 : True := trivial; clear _t tp0)
    | (refine F.rowCell _ (.tmp 18) rfl K3.out.cs rfl agg_int rfl ?_)
    | (refine F.rowCell _ (.tmp 24) rfl (K3.out.ci i hi) rfl R.agg_u8 rfl ?_)
    | (refine F.rowCell _ (.tmp 31) rfl K3.out.ccu rfl agg_int rfl ?_))
  go_ret
  exact ⟨rfl, HB.out⟩
set_option maxRecDepth 100000 in
set_option maxHeartbeats 2000000 in
theorem Has_F (x : Ro) (HL : Hid (x.st.length = 16)) (i : Nat) (j : Int) (hi : i < 16) (h1 : 0 ≤ j) (h2 : j < x.s) (h3 : (rd x.st (i : Int) == 0) = false) (h4 : (rd x.st (i : Int) == 2) = false)
    (P : Hid (∀ w : World, Calls Try.prog 127 #[ros x, .int .i64 (i : Int)] w fun e w' => e = .returned (.bool true) ∧ Below w.heap.size w w')) (w : World) : Calls Try.prog 70 #[ros x, .int .i64 (i : Int), .int .i64 j] w fun e w' => e = .returned (.bool false) ∧ Below w.heap.size w w' := by
  have HB := Lib.hid (Below.refl w.heap.size w)
  have g1 : decide (j < 0) = false := by simp; omega
  have g2 : decide (x.s ≤ j) = false := by simp; omega
  have hi0 : (0 : Int) ≤ (i : Int) := by omega
  have hi16 : (i : Int) < 16 := by omega
  have tok0 : True := trivial
  have tp0 : True := trivial
  go_enter Try.func70, Try.ntmps70
  go_wp2_with (first
    | (go_skip)
    | (refine rosBox (.tmp 0) rfl rfl HL.out rfl ?_; intro w1 hk hb1 hz1; replace HB := Lib.hid (below_ext HB.out hb1); have K3 := Lib.hid hk; clear hk hb1)
    | (refine rosLoad (.tmp 3) rfl K3.out rfl rfl ?_)
    | (have _t := tp0; go_at_call 127; refine (P.out _).mono ?_; rintro e w2 ⟨rfl, hb2⟩; replace K3 := Lib.hid (K3.out.below hb2); replace HB := Lib.hid (below_ext HB.out hb2); have hz2 := hb2.size; clear hb2; have tp1 : True := trivial; clear _t tp0)
    | (refine F.rowCell _ (.tmp 18) rfl K3.out.cs rfl agg_int rfl ?_)
    | (refine F.rowCell _ (.tmp 24) rfl (K3.out.ci i hi) rfl R.agg_u8 rfl ?_))
  go_ret
  exact ⟨rfl, HB.out⟩
set_option maxRecDepth 100000 in
set_option maxHeartbeats 2000000 in
theorem Missing_A (x : Ro) (HL : Hid (x.st.length = 16))  
    (P : Hid (∀ w : World, Calls Try.prog 89 #[ros x] w fun e w' => e = .returned (.bool false) ∧ Below w.heap.size w w')) (w : World) : Calls Try.prog 92 #[ros x] w fun e w' => e = .returned (.int .i64 0) ∧ Below w.heap.size w w' := by
  have HB := Lib.hid (Below.refl w.heap.size w)
  have tok0 : True := trivial
  have tp0 : True := trivial
  go_enter Try.func92, Try.ntmps92
  go_wp2_with (first
    | (go_skip)
    | (refine rosBox (.tmp 0) rfl rfl HL.out rfl ?_; intro w1 hk hb1 hz1; replace HB := Lib.hid (below_ext HB.out hb1); have K1 := Lib.hid hk; clear hk hb1)
    | (refine rosLoad (.tmp 1) rfl K1.out rfl rfl ?_)
    | (have _t := tp0; go_at_call 89; refine (P.out _).mono ?_; rintro e w2 ⟨rfl, hb2⟩; replace K1 := Lib.hid (K1.out.below hb2); replace HB := Lib.hid (below_ext HB.out hb2); have hz2 := hb2.size; clear hb2; have tp1 : True := trivial; clear _t tp0))
  go_ret
  exact ⟨rfl, HB.out⟩
set_option maxRecDepth 100000 in
set_option maxHeartbeats 2000000 in
theorem Missing_B (x : Ro) (HL : Hid (x.st.length = 16)) (c : Nat) (hc : c ≤ 16) 
    (P : Hid (∀ w : World, Calls Try.prog 89 #[ros x] w fun e w' => e = .returned (.bool true) ∧ Below w.heap.size w w'))
    (C : Hid (∀ w : World, Calls Try.prog 133 #[ros x, .int .u8 0] w fun e w' => e = .returned (.int .i64 (c : Int)) ∧ Below w.heap.size w w')) (w : World) : Calls Try.prog 92 #[ros x] w fun e w' => e = .returned (.int .i64 (16 - (c : Int))) ∧ Below w.heap.size w w' := by
  have HB := Lib.hid (Below.refl w.heap.size w)
  have tok0 : True := trivial
  have tp0 : True := trivial
  go_enter Try.func92, Try.ntmps92
  go_wp2_with (first
    | (go_skip)
    | (refine rosBox (.tmp 0) rfl rfl HL.out rfl ?_; intro w1 hk hb1 hz1; replace HB := Lib.hid (below_ext HB.out hb1); have K1 := Lib.hid hk; clear hk hb1)
    | (refine rosLoad (.tmp 1) rfl K1.out rfl rfl ?_)
    | (have _t := tp0; go_at_call 89; refine (P.out _).mono ?_; rintro e w2 ⟨rfl, hb2⟩; replace K1 := Lib.hid (K1.out.below hb2); replace HB := Lib.hid (below_ext HB.out hb2); have hz2 := hb2.size; clear hb2; have tp1 : True := trivial; clear _t tp0)
    | (have _t := tp1; go_at_call 133; refine (C.out _).mono ?_; rintro e w3 ⟨rfl, hb3⟩; replace K1 := Lib.hid (K1.out.below hb3); replace HB := Lib.hid (below_ext HB.out hb3); have hz3 := hb3.size; clear hb3; have tp2 : True := trivial; clear _t tp1))
  go_ret
  exact ⟨rfl, HB.out⟩
set_option maxRecDepth 100000 in
set_option maxHeartbeats 2000000 in
theorem Gone_A (x : Ro) (HL : Hid (x.st.length = 16)) (b : Bool) 
    (P : Hid (∀ w : World, Calls Try.prog 89 #[ros x] w fun e w' => e = .returned (.bool false) ∧ Below w.heap.size w w')) (w : World) : Calls Try.prog 100 #[ros x, .bool b] w fun e w' => e = .returned (.tuple #[ros ro0, .int .i64 2]) ∧ Below w.heap.size w w' := by
  have HB := Lib.hid (Below.refl w.heap.size w)
  have tok0 : True := trivial
  have tp0 : True := trivial
  go_enter Try.func100, Try.ntmps100
  go_wp2_with (first
    | (go_skip)
    | (refine rosBox (.tmp 0) rfl rfl HL.out rfl ?_; intro w1 hk hb1 hz1; replace HB := Lib.hid (below_ext HB.out hb1); have K2 := Lib.hid hk; clear hk hb1)
    | (have _t := tok0; refine rosAlloc rfl rfl ?_; intro w2 hk hb2 hz2; replace K2 := Lib.hid (K2.out.below hb2); replace HB := Lib.hid (below_ext HB.out hb2); have K4 := Lib.hid hk; clear hk hb2; have tok1 : True := trivial; clear _t tok0)
    | (refine rosLoad (.tmp 2) rfl K2.out rfl rfl ?_)
    | (have _t := tp0; go_at_call 89; refine (P.out _).mono ?_; rintro e w3 ⟨rfl, hb3⟩; replace K2 := Lib.hid (K2.out.below hb3); replace K4 := Lib.hid (K4.out.below hb3); replace HB := Lib.hid (below_ext HB.out hb3); have hz3 := hb3.size; clear hb3; have tp1 : True := trivial; clear _t tp0)
    | (refine rosBuild0 rfl rfl ?_)
    | (refine rosStore (.tmp 4) (.tmp 9) rfl K4.out rfl rfl zero16_length rfl ?_; intro w4 hk hg; replace HB := Lib.hid (below_at HB.out hg (by omega) K4.out.lt); replace K2 := Lib.hid (K2.out.grown hg (by omega)); replace K4 := Lib.hid hk; have hz4 := hg.size; clear hk hg))
  exact bodyPost_ret (v := .tuple #[ros ro0, .int .i64 2]) (ret_ros rfl _ _ K4.out rfl rfl) rfl ⟨rfl, HB.out⟩
set_option maxRecDepth 100000 in
set_option maxHeartbeats 2000000 in
theorem Gone_B (x : Ro) (HL : Hid (x.st.length = 16)) (b : Bool) 
    (P : Hid (∀ w : World, Calls Try.prog 89 #[ros x] w fun e w' => e = .returned (.bool true) ∧ Below w.heap.size w w')) (w : World) : Calls Try.prog 100 #[ros x, .bool b] w fun e w' => e = .returned (.tuple #[ros { x with go := b }, .int .i64 0]) ∧ Below w.heap.size w w' := by
  have HB := Lib.hid (Below.refl w.heap.size w)
  have tok0 : True := trivial
  have tp0 : True := trivial
  go_enter Try.func100, Try.ntmps100
  go_wp2_with (first
    | (go_skip)
    | (refine rosBox (.tmp 0) rfl rfl HL.out rfl ?_; intro w1 hk hb1 hz1; replace HB := Lib.hid (below_ext HB.out hb1); have K2 := Lib.hid hk; clear hk hb1)
    | (have _t := tok0; refine rosAlloc rfl rfl ?_; intro w2 hk hb2 hz2; replace K2 := Lib.hid (K2.out.below hb2); replace HB := Lib.hid (below_ext HB.out hb2); have K4 := Lib.hid hk; clear hk hb2; have tok1 : True := trivial; clear _t tok0)
    | (refine rosLoad (.tmp 2) rfl K2.out rfl rfl ?_)
    | (have _t := tp0; go_at_call 89; refine (P.out _).mono ?_; rintro e w3 ⟨rfl, hb3⟩; replace K2 := Lib.hid (K2.out.below hb3); replace K4 := Lib.hid (K4.out.below hb3); replace HB := Lib.hid (below_ext HB.out hb3); have hz3 := hb3.size; clear hb3; have tp1 : True := trivial; clear _t tp0)
    | (refine rosSetGo (.tmp 11) (.tmp 10) rfl K2.out rfl _ rfl rfl ?_; intro w4 hk hg; replace HB := Lib.hid (below_at HB.out hg (by omega) K2.out.lt); replace K4 := Lib.hid (K4.out.grown hg (by omega)); replace K2 := Lib.hid hk; have hz4 := hg.size; clear hk hg)
    | (refine rosStore (.tmp 4) (.tmp 12) rfl K4.out rfl rfl HL.out rfl ?_; intro w5 hk hg; replace HB := Lib.hid (below_at HB.out hg (by omega) K4.out.lt); replace K2 := Lib.hid (K2.out.grown hg (by omega)); replace K4 := Lib.hid hk; have hz5 := hg.size; clear hk hg))
  exact bodyPost_ret (v := .tuple #[ros { x with go := b }, .int .i64 0]) (ret_ros rfl _ _ K4.out rfl rfl) rfl ⟨rfl, HB.out⟩
end Go.Proofs.Ytdchcggllcgokaa.Q

namespace Go.Proofs.Ytdchcggllcgokaa.Q
open Go.RowKit Go.Proofs.Ytdchcggllcgokaa.L Go.Proofs.Ytdchcggllcgokaa.R Go.Proofs.YtdchcggllcgokaaW.PrintWords
set_option linter.unusedVariables false
set_option linter.unusedSimpArgs false
set_option maxRecDepth 100000 in
set_option maxHeartbeats 2000000 in
theorem Lose_A (x : Ro) (HL : Hid (x.st.length = 16)) (i : Int) 
    (P : Hid (∀ w : World, Calls Try.prog 127 #[ros x, .int .i64 i] w fun e w' => e = .returned (.bool false) ∧ Below w.heap.size w w')) (w : World) : Calls Try.prog 66 #[ros x, .int .i64 i] w fun e w' => e = .returned (.tuple #[ros x, .bool false]) ∧ Below w.heap.size w w' := by
  have HB := Lib.hid (Below.refl w.heap.size w)
  have tok0 : True := trivial
  have tp0 : True := trivial
  go_enter Try.func66, Try.ntmps66
  go_wp2_with (first
    | (go_skip)
    | (refine rosBox (.tmp 0) rfl rfl HL.out rfl ?_; intro w1 hk hb1 hz1; replace HB := Lib.hid (below_ext HB.out hb1); have K2 := Lib.hid hk; clear hk hb1)
    | (have _t := tok0; refine rosAlloc rfl rfl ?_; intro w2 hk hb2 hz2; replace K2 := Lib.hid (K2.out.below hb2); replace HB := Lib.hid (below_ext HB.out hb2); have K4 := Lib.hid hk; clear hk hb2; have tok1 : True := trivial; clear _t tok0)
    | (refine rosLoad (.tmp 2) rfl K2.out rfl rfl ?_)
    | (have _t := tp0; go_at_call 127; refine (P.out _).mono ?_; rintro e w3 ⟨rfl, hb3⟩; replace K2 := Lib.hid (K2.out.below hb3); replace K4 := Lib.hid (K4.out.below hb3); replace HB := Lib.hid (below_ext HB.out hb3); have hz3 := hb3.size; clear hb3; have tp1 : True := trivial; clear _t tp0)
    | (refine rosStore (.tmp 4) (.tmp 11) rfl K4.out rfl rfl HL.out rfl ?_; intro w4 hk hg; replace HB := Lib.hid (below_at HB.out hg (by omega) K4.out.lt); replace K2 := Lib.hid (K2.out.grown hg (by omega)); replace K4 := Lib.hid hk; have hz4 := hg.size; clear hk hg))
  exact bodyPost_ret (v := .tuple #[ros x, .bool false]) (ret_ros rfl _ _ K4.out rfl rfl) rfl ⟨rfl, HB.out⟩
set_option maxRecDepth 100000 in
set_option maxHeartbeats 2000000 in
theorem Lose_B (x : Ro) (HL : Hid (x.st.length = 16)) (i : Nat) (hi : i < 16) (h2 : rd x.st (i : Int) = 2)
    (P : Hid (∀ w : World, Calls Try.prog 127 #[ros x, .int .i64 (i : Int)] w fun e w' => e = .returned (.bool true) ∧ Below w.heap.size w w')) (w : World) : Calls Try.prog 66 #[ros x, .int .i64 (i : Int)] w fun e w' => e = .returned (.tuple #[ros { x with cu := 0, st := x.st.set i 1 }, .bool true]) ∧ Below w.heap.size w w' := by
  have HB := Lib.hid (Below.refl w.heap.size w)
  have hi0 : (0 : Int) ≤ (i : Int) := by omega
  have hi16 : (i : Int) < 16 := by omega
  have g1 : (rd x.st (i : Int) == 2) = true := by simpa using h2
  have g2 : (rd x.st (i : Int) != 1) = true := by simp [h2]
  clear h2
  have tok0 : True := trivial
  have tp0 : True := trivial
  go_enter Try.func66, Try.ntmps66
  go_wp2_with (first
    | (go_skip)
    | (refine rosBox (.tmp 0) rfl rfl HL.out rfl ?_; intro w1 hk hb1 hz1; replace HB := Lib.hid (below_ext HB.out hb1); have K2 := Lib.hid hk; clear hk hb1)
    | (have _t := tok0; refine rosAlloc rfl rfl ?_; intro w2 hk hb2 hz2; replace K2 := Lib.hid (K2.out.below hb2); replace HB := Lib.hid (below_ext HB.out hb2); have K4 := Lib.hid hk; clear hk hb2; have tok1 : True := trivial; clear _t tok0)
    | (refine rosLoad (.tmp 2) rfl K2.out rfl rfl ?_)
    | (have _t := tp0; go_at_call 127; refine (P.out _).mono ?_; rintro e w3 ⟨rfl, hb3⟩; replace K2 := Lib.hid (K2.out.below hb3); replace K4 := Lib.hid (K4.out.below hb3); replace HB := Lib.hid (below_ext HB.out hb3); have hz3 := hb3.size; clear hb3; have tp1 : True := trivial; clear _t tp0)
    | (refine F.rowCell _ (.tmp 14) rfl (K2.out.ci i hi) rfl R.agg_u8 rfl ?_)
    | (refine rosSetCu (.tmp 18) (.const (.int .i64 0)) rfl K2.out rfl _ rfl rfl ?_; intro w4 hk hg; replace HB := Lib.hid (below_at HB.out hg (by omega) K2.out.lt); replace K4 := Lib.hid (K4.out.grown hg (by omega)); replace K2 := Lib.hid hk; have hz4 := hg.size; clear hk hg)
    | (refine rosSetSt (.tmp 21) (.const (.int .u8 1)) rfl K2.out i hi rfl _ rfl rfl ?_; intro w5 hk hg; replace HB := Lib.hid (below_at HB.out hg (by omega) K2.out.lt); replace K4 := Lib.hid (K4.out.grown hg (by omega)); replace K2 := Lib.hid hk; have hz5 := hg.size; clear hk hg)
    | (refine rosStore (.tmp 4) (.tmp 22) rfl K4.out rfl rfl (by simpa using HL.out) rfl ?_; intro w6 hk hg; replace HB := Lib.hid (below_at HB.out hg (by omega) K4.out.lt); replace K2 := Lib.hid (K2.out.grown hg (by omega)); replace K4 := Lib.hid hk; have hz6 := hg.size; clear hk hg))
  exact bodyPost_ret (v := .tuple #[ros { x with cu := 0, st := x.st.set i 1 }, .bool true]) (ret_ros rfl _ _ K4.out rfl rfl) rfl ⟨rfl, HB.out⟩
set_option maxRecDepth 100000 in
set_option maxHeartbeats 2000000 in
theorem Lose_C (x : Ro) (HL : Hid (x.st.length = 16)) (i : Nat) (hi : i < 16) (h2 : (rd x.st (i : Int) == 2) = false) (b : Bool) (hb : (rd x.st (i : Int) != 1) = b)
    (P : Hid (∀ w : World, Calls Try.prog 127 #[ros x, .int .i64 (i : Int)] w fun e w' => e = .returned (.bool true) ∧ Below w.heap.size w w')) (w : World) : Calls Try.prog 66 #[ros x, .int .i64 (i : Int)] w fun e w' => e = .returned (.tuple #[ros { x with st := x.st.set i 1 }, .bool b]) ∧ Below w.heap.size w w' := by
  have HB := Lib.hid (Below.refl w.heap.size w)
  have hi0 : (0 : Int) ≤ (i : Int) := by omega
  have hi16 : (i : Int) < 16 := by omega
  have tok0 : True := trivial
  have tp0 : True := trivial
  go_enter Try.func66, Try.ntmps66
  go_wp2_with (first
    | (go_skip)
    | (refine rosBox (.tmp 0) rfl rfl HL.out rfl ?_; intro w1 hk hb1 hz1; replace HB := Lib.hid (below_ext HB.out hb1); have K2 := Lib.hid hk; clear hk hb1)
    | (have _t := tok0; refine rosAlloc rfl rfl ?_; intro w2 hk hb2 hz2; replace K2 := Lib.hid (K2.out.below hb2); replace HB := Lib.hid (below_ext HB.out hb2); have K4 := Lib.hid hk; clear hk hb2; have tok1 : True := trivial; clear _t tok0)
    | (refine rosLoad (.tmp 2) rfl K2.out rfl rfl ?_)
    | (have _t := tp0; go_at_call 127; refine (P.out _).mono ?_; rintro e w3 ⟨rfl, hb3⟩; replace K2 := Lib.hid (K2.out.below hb3); replace K4 := Lib.hid (K4.out.below hb3); replace HB := Lib.hid (below_ext HB.out hb3); have hz3 := hb3.size; clear hb3; have tp1 : True := trivial; clear _t tp0)
    | (refine F.rowCell _ (.tmp 14) rfl (K2.out.ci i hi) rfl R.agg_u8 rfl ?_)
    | (refine rosSetSt (.tmp 21) (.const (.int .u8 1)) rfl K2.out i hi rfl _ rfl rfl ?_; intro w4 hk hg; replace HB := Lib.hid (below_at HB.out hg (by omega) K2.out.lt); replace K4 := Lib.hid (K4.out.grown hg (by omega)); replace K2 := Lib.hid hk; have hz4 := hg.size; clear hk hg)
    | (refine rosStore (.tmp 4) (.tmp 22) rfl K4.out rfl rfl (by simpa using HL.out) rfl ?_; intro w5 hk hg; replace HB := Lib.hid (below_at HB.out hg (by omega) K4.out.lt); replace K2 := Lib.hid (K2.out.grown hg (by omega)); replace K4 := Lib.hid hk; have hz5 := hg.size; clear hk hg))
  exact bodyPost_ret (v := .tuple #[ros { x with st := x.st.set i 1 }, .bool b]) (ret_ros rfl _ _ K4.out rfl rfl) rfl ⟨rfl, HB.out⟩
set_option maxRecDepth 100000 in
set_option maxHeartbeats 2000000 in
theorem Begin_A (x : Ro) (HL : Hid (x.st.length = 16)) (i : Int) 
    (P : Hid (∀ w : World, Calls Try.prog 127 #[ros x, .int .i64 i] w fun e w' => e = .returned (.bool false) ∧ Below w.heap.size w w')) (w : World) : Calls Try.prog 67 #[ros x, .int .i64 i] w fun e w' => e = .returned (.tuple #[ros ro0, .int .i64 2]) ∧ Below w.heap.size w w' := by
  have HB := Lib.hid (Below.refl w.heap.size w)
  have tok0 : True := trivial
  have tp0 : True := trivial
  go_enter Try.func67, Try.ntmps67
  go_wp2_with (first
    | (go_skip)
    | (refine rosBox (.tmp 0) rfl rfl HL.out rfl ?_; intro w1 hk hb1 hz1; replace HB := Lib.hid (below_ext HB.out hb1); have K2 := Lib.hid hk; clear hk hb1)
    | (have _t := tok0; refine rosAlloc rfl rfl ?_; intro w2 hk hb2 hz2; replace K2 := Lib.hid (K2.out.below hb2); replace HB := Lib.hid (below_ext HB.out hb2); have K4 := Lib.hid hk; clear hk hb2; have tok1 : True := trivial; clear _t tok0)
    | (refine rosLoad (.tmp 2) rfl K2.out rfl rfl ?_)
    | (have _t := tp0; go_at_call 127; refine (P.out _).mono ?_; rintro e w3 ⟨rfl, hb3⟩; replace K2 := Lib.hid (K2.out.below hb3); replace K4 := Lib.hid (K4.out.below hb3); replace HB := Lib.hid (below_ext HB.out hb3); have hz3 := hb3.size; clear hb3; have tp1 : True := trivial; clear _t tp0)
    | (refine rosBuild0 rfl rfl ?_)
    | (refine rosStore (.tmp 4) (.tmp 11) rfl K4.out rfl rfl zero16_length rfl ?_; intro w4 hk hg; replace HB := Lib.hid (below_at HB.out hg (by omega) K4.out.lt); replace K2 := Lib.hid (K2.out.grown hg (by omega)); replace K4 := Lib.hid hk; have hz4 := hg.size; clear hk hg))
  exact bodyPost_ret (v := .tuple #[ros ro0, .int .i64 2]) (ret_ros rfl _ _ K4.out rfl rfl) rfl ⟨rfl, HB.out⟩
set_option maxRecDepth 100000 in
set_option maxHeartbeats 2000000 in
theorem Begin_B (x : Ro) (HL : Hid (x.st.length = 16)) (i : Nat) (hi : i < 16) (h : (rd x.st (i : Int) != 1) = true)
    (P : Hid (∀ w : World, Calls Try.prog 127 #[ros x, .int .i64 (i : Int)] w fun e w' => e = .returned (.bool true) ∧ Below w.heap.size w w')) (w : World) : Calls Try.prog 67 #[ros x, .int .i64 (i : Int)] w fun e w' => e = .returned (.tuple #[ros ro0, .int .i64 17]) ∧ Below w.heap.size w w' := by
  have HB := Lib.hid (Below.refl w.heap.size w)
  have hi0 : (0 : Int) ≤ (i : Int) := by omega
  have hi16 : (i : Int) < 16 := by omega
  have tok0 : True := trivial
  have tp0 : True := trivial
  go_enter Try.func67, Try.ntmps67
  go_wp2_with (first
    | (go_skip)
    | (refine rosBox (.tmp 0) rfl rfl HL.out rfl ?_; intro w1 hk hb1 hz1; replace HB := Lib.hid (below_ext HB.out hb1); have K2 := Lib.hid hk; clear hk hb1)
    | (have _t := tok0; refine rosAlloc rfl rfl ?_; intro w2 hk hb2 hz2; replace K2 := Lib.hid (K2.out.below hb2); replace HB := Lib.hid (below_ext HB.out hb2); have K4 := Lib.hid hk; clear hk hb2; have tok1 : True := trivial; clear _t tok0)
    | (refine rosLoad (.tmp 2) rfl K2.out rfl rfl ?_)
    | (have _t := tp0; go_at_call 127; refine (P.out _).mono ?_; rintro e w3 ⟨rfl, hb3⟩; replace K2 := Lib.hid (K2.out.below hb3); replace K4 := Lib.hid (K4.out.below hb3); replace HB := Lib.hid (below_ext HB.out hb3); have hz3 := hb3.size; clear hb3; have tp1 : True := trivial; clear _t tp0)
    | (refine F.rowCell _ (.tmp 15) rfl (K2.out.ci i hi) rfl R.agg_u8 rfl ?_)
    | (refine rosBuild0 rfl rfl ?_)
    | (refine rosStore (.tmp 4) (.tmp 23) rfl K4.out rfl rfl zero16_length rfl ?_; intro w4 hk hg; replace HB := Lib.hid (below_at HB.out hg (by omega) K4.out.lt); replace K2 := Lib.hid (K2.out.grown hg (by omega)); replace K4 := Lib.hid hk; have hz4 := hg.size; clear hk hg))
  exact bodyPost_ret (v := .tuple #[ros ro0, .int .i64 17]) (ret_ros rfl _ _ K4.out rfl rfl) rfl ⟨rfl, HB.out⟩
set_option maxRecDepth 100000 in
set_option maxHeartbeats 2000000 in
theorem Begin_C (x : Ro) (HL : Hid (x.st.length = 16)) (i : Nat) (hi : i < 16) (h : (rd x.st (i : Int) != 1) = false) (c : Int) (hc : 1 < c)
    (P : Hid (∀ w : World, Calls Try.prog 127 #[ros x, .int .i64 (i : Int)] w fun e w' => e = .returned (.bool true) ∧ Below w.heap.size w w'))
    (M : Hid (∀ w : World, Calls Try.prog 92 #[ros x] w fun e w' => e = .returned (.int .i64 c) ∧ Below w.heap.size w w')) (w : World) : Calls Try.prog 67 #[ros x, .int .i64 (i : Int)] w fun e w' => e = .returned (.tuple #[ros ro0, .int .i64 17]) ∧ Below w.heap.size w w' := by
  have HB := Lib.hid (Below.refl w.heap.size w)
  have hi0 : (0 : Int) ≤ (i : Int) := by omega
  have hi16 : (i : Int) < 16 := by omega
  have g1 : decide (1 < c) = true := by simpa using hc
  have tok0 : True := trivial
  have tp0 : True := trivial
  go_enter Try.func67, Try.ntmps67
  go_wp2_with (first
    | (go_skip)
    | (refine rosBox (.tmp 0) rfl rfl HL.out rfl ?_; intro w1 hk hb1 hz1; replace HB := Lib.hid (below_ext HB.out hb1); have K2 := Lib.hid hk; clear hk hb1)
    | (have _t := tok0; refine rosAlloc rfl rfl ?_; intro w2 hk hb2 hz2; replace K2 := Lib.hid (K2.out.below hb2); replace HB := Lib.hid (below_ext HB.out hb2); have K4 := Lib.hid hk; clear hk hb2; have tok1 : True := trivial; clear _t tok0)
    | (refine rosLoad (.tmp 2) rfl K2.out rfl rfl ?_)
    | (have _t := tp0; go_at_call 127; refine (P.out _).mono ?_; rintro e w3 ⟨rfl, hb3⟩; replace K2 := Lib.hid (K2.out.below hb3); replace K4 := Lib.hid (K4.out.below hb3); replace HB := Lib.hid (below_ext HB.out hb3); have hz3 := hb3.size; clear hb3; have tp1 : True := trivial; clear _t tp0)
    | (refine F.rowCell _ (.tmp 15) rfl (K2.out.ci i hi) rfl R.agg_u8 rfl ?_)
    | (have _t := tp1; go_at_call 92; refine (M.out _).mono ?_; rintro e w4 ⟨rfl, hb4⟩; replace K2 := Lib.hid (K2.out.below hb4); replace K4 := Lib.hid (K4.out.below hb4); replace HB := Lib.hid (below_ext HB.out hb4); have hz4 := hb4.size; clear hb4; have tp2 : True := trivial; clear _t tp1)
    | (refine rosBuild0 rfl rfl ?_)
    | (refine rosStore (.tmp 4) (.tmp 23) rfl K4.out rfl rfl zero16_length rfl ?_; intro w5 hk hg; replace HB := Lib.hid (below_at HB.out hg (by omega) K4.out.lt); replace K2 := Lib.hid (K2.out.grown hg (by omega)); replace K4 := Lib.hid hk; have hz5 := hg.size; clear hk hg))
  exact bodyPost_ret (v := .tuple #[ros ro0, .int .i64 17]) (ret_ros rfl _ _ K4.out rfl rfl) rfl ⟨rfl, HB.out⟩
set_option maxRecDepth 100000 in
set_option maxHeartbeats 2000000 in
theorem Begin_D (x : Ro) (HL : Hid (x.st.length = 16)) (i : Nat) (hi : i < 16) (h : (rd x.st (i : Int) != 1) = false) (c : Int) (hc : ¬ 1 < c) (hg : x.go = true)
    (P : Hid (∀ w : World, Calls Try.prog 127 #[ros x, .int .i64 (i : Int)] w fun e w' => e = .returned (.bool true) ∧ Below w.heap.size w w'))
    (M : Hid (∀ w : World, Calls Try.prog 92 #[ros x] w fun e w' => e = .returned (.int .i64 c) ∧ Below w.heap.size w w')) (w : World) : Calls Try.prog 67 #[ros x, .int .i64 (i : Int)] w fun e w' => e = .returned (.tuple #[ros ro0, .int .i64 17]) ∧ Below w.heap.size w w' := by
  have HB := Lib.hid (Below.refl w.heap.size w)
  have hi0 : (0 : Int) ≤ (i : Int) := by omega
  have hi16 : (i : Int) < 16 := by omega
  have g1 : decide (1 < c) = false := by simpa using hc
  have tok0 : True := trivial
  have tp0 : True := trivial
  go_enter Try.func67, Try.ntmps67
  go_wp2_with (first
    | (go_skip)
    | (refine rosBox (.tmp 0) rfl rfl HL.out rfl ?_; intro w1 hk hb1 hz1; replace HB := Lib.hid (below_ext HB.out hb1); have K2 := Lib.hid hk; clear hk hb1)
    | (have _t := tok0; refine rosAlloc rfl rfl ?_; intro w2 hk hb2 hz2; replace K2 := Lib.hid (K2.out.below hb2); replace HB := Lib.hid (below_ext HB.out hb2); have K4 := Lib.hid hk; clear hk hb2; have tok1 : True := trivial; clear _t tok0)
    | (refine rosLoad (.tmp 2) rfl K2.out rfl rfl ?_)
    | (have _t := tp0; go_at_call 127; refine (P.out _).mono ?_; rintro e w3 ⟨rfl, hb3⟩; replace K2 := Lib.hid (K2.out.below hb3); replace K4 := Lib.hid (K4.out.below hb3); replace HB := Lib.hid (below_ext HB.out hb3); have hz3 := hb3.size; clear hb3; have tp1 : True := trivial; clear _t tp0)
    | (refine F.rowCell _ (.tmp 15) rfl (K2.out.ci i hi) rfl R.agg_u8 rfl ?_)
    | (have _t := tp1; go_at_call 92; refine (M.out _).mono ?_; rintro e w4 ⟨rfl, hb4⟩; replace K2 := Lib.hid (K2.out.below hb4); replace K4 := Lib.hid (K4.out.below hb4); replace HB := Lib.hid (below_ext HB.out hb4); have hz4 := hb4.size; clear hb4; have tp2 : True := trivial; clear _t tp1)
    | (refine F.rowCell _ (.tmp 21) rfl K2.out.cgo rfl agg_bool rfl ?_)
    | (refine rosBuild0 rfl rfl ?_)
    | (refine rosStore (.tmp 4) (.tmp 23) rfl K4.out rfl rfl zero16_length rfl ?_; intro w5 hk hg; replace HB := Lib.hid (below_at HB.out hg (by omega) K4.out.lt); replace K2 := Lib.hid (K2.out.grown hg (by omega)); replace K4 := Lib.hid hk; have hz5 := hg.size; clear hk hg))
  exact bodyPost_ret (v := .tuple #[ros ro0, .int .i64 17]) (ret_ros rfl _ _ K4.out rfl rfl) rfl ⟨rfl, HB.out⟩
set_option maxRecDepth 100000 in
set_option maxHeartbeats 2000000 in
theorem Begin_E (x : Ro) (HL : Hid (x.st.length = 16)) (i : Nat) (hi : i < 16) (h : (rd x.st (i : Int) != 1) = false) (c : Int) (hc : ¬ 1 < c) (hg : x.go = false)
    (P : Hid (∀ w : World, Calls Try.prog 127 #[ros x, .int .i64 (i : Int)] w fun e w' => e = .returned (.bool true) ∧ Below w.heap.size w w'))
    (M : Hid (∀ w : World, Calls Try.prog 92 #[ros x] w fun e w' => e = .returned (.int .i64 c) ∧ Below w.heap.size w w')) (w : World) : Calls Try.prog 67 #[ros x, .int .i64 (i : Int)] w fun e w' => e = .returned (.tuple #[ros { x with st := x.st.set i 2, cu := 0 }, .int .i64 0]) ∧ Below w.heap.size w w' := by
  have HB := Lib.hid (Below.refl w.heap.size w)
  have hi0 : (0 : Int) ≤ (i : Int) := by omega
  have hi16 : (i : Int) < 16 := by omega
  have g1 : decide (1 < c) = false := by simpa using hc
  have tok0 : True := trivial
  have tp0 : True := trivial
  go_enter Try.func67, Try.ntmps67
  go_wp2_with (first
    | (go_skip)
    | (refine rosBox (.tmp 0) rfl rfl HL.out rfl ?_; intro w1 hk hb1 hz1; replace HB := Lib.hid (below_ext HB.out hb1); have K2 := Lib.hid hk; clear hk hb1)
    | (have _t := tok0; refine rosAlloc rfl rfl ?_; intro w2 hk hb2 hz2; replace K2 := Lib.hid (K2.out.below hb2); replace HB := Lib.hid (below_ext HB.out hb2); have K4 := Lib.hid hk; clear hk hb2; have tok1 : True := trivial; clear _t tok0)
    | (refine rosLoad (.tmp 2) rfl K2.out rfl rfl ?_)
    | (have _t := tp0; go_at_call 127; refine (P.out _).mono ?_; rintro e w3 ⟨rfl, hb3⟩; replace K2 := Lib.hid (K2.out.below hb3); replace K4 := Lib.hid (K4.out.below hb3); replace HB := Lib.hid (below_ext HB.out hb3); have hz3 := hb3.size; clear hb3; have tp1 : True := trivial; clear _t tp0)
    | (refine F.rowCell _ (.tmp 15) rfl (K2.out.ci i hi) rfl R.agg_u8 rfl ?_)
    | (have _t := tp1; go_at_call 92; refine (M.out _).mono ?_; rintro e w4 ⟨rfl, hb4⟩; replace K2 := Lib.hid (K2.out.below hb4); replace K4 := Lib.hid (K4.out.below hb4); replace HB := Lib.hid (below_ext HB.out hb4); have hz4 := hb4.size; clear hb4; have tp2 : True := trivial; clear _t tp1)
    | (refine F.rowCell _ (.tmp 21) rfl K2.out.cgo rfl agg_bool rfl ?_)
    | (refine rosSetSt (.tmp 26) (.const (.int .u8 2)) rfl K2.out i hi rfl _ rfl rfl ?_; intro w5 hk hg; replace HB := Lib.hid (below_at HB.out hg (by omega) K2.out.lt); replace K4 := Lib.hid (K4.out.grown hg (by omega)); replace K2 := Lib.hid hk; have hz5 := hg.size; clear hk hg)
    | (refine rosSetCu (.tmp 27) (.const (.int .i64 0)) rfl K2.out rfl _ rfl rfl ?_; intro w6 hk hg; replace HB := Lib.hid (below_at HB.out hg (by omega) K2.out.lt); replace K4 := Lib.hid (K4.out.grown hg (by omega)); replace K2 := Lib.hid hk; have hz6 := hg.size; clear hk hg)
    | (refine rosStore (.tmp 4) (.tmp 28) rfl K4.out rfl rfl (by simpa using HL.out) rfl ?_; intro w7 hk hg; replace HB := Lib.hid (below_at HB.out hg (by omega) K4.out.lt); replace K2 := Lib.hid (K2.out.grown hg (by omega)); replace K4 := Lib.hid hk; have hz7 := hg.size; clear hk hg))
  exact bodyPost_ret (v := .tuple #[ros { x with st := x.st.set i 2, cu := 0 }, .int .i64 0]) (ret_ros rfl _ _ K4.out rfl rfl) rfl ⟨by rw [hg], HB.out⟩
end Go.Proofs.Ytdchcggllcgokaa.Q

namespace Go.Proofs.Ytdchcggllcgokaa.Q
open Go.RowKit Go.Proofs.Ytdchcggllcgokaa.L Go.Proofs.Ytdchcggllcgokaa.R Go.Proofs.YtdchcggllcgokaaW.PrintWords
set_option linter.unusedVariables false
set_option linter.unusedSimpArgs false
set_option maxRecDepth 100000 in
set_option maxHeartbeats 2000000 in
theorem Heals_A (x : Ro) (HL : Hid (x.st.length = 16))  
    (P : Hid (∀ w : World, Calls Try.prog 89 #[ros x] w fun e w' => e = .returned (.bool false) ∧ Below w.heap.size w w')) (w : World) : Calls Try.prog 68 #[ros x] w fun e w' => e = .returned (.tuple #[.int .i64 0, .bool false]) ∧ Below w.heap.size w w' := by
  have HB := Lib.hid (Below.refl w.heap.size w)
  have tok0 : True := trivial
  have tp0 : True := trivial
  go_enter Try.func68, Try.ntmps68
  go_wp2_with (first
    | (go_skip)
    | (refine rosBox (.tmp 0) rfl rfl HL.out rfl ?_; intro w1 hk hb1 hz1; replace HB := Lib.hid (below_ext HB.out hb1); have K1 := Lib.hid hk; clear hk hb1)
    | (refine rosLoad (.tmp 1) rfl K1.out rfl rfl ?_)
    | (have _t := tp0; go_at_call 89; refine (P.out _).mono ?_; rintro e w2 ⟨rfl, hb2⟩; replace K1 := Lib.hid (K1.out.below hb2); replace HB := Lib.hid (below_ext HB.out hb2); have hz2 := hb2.size; clear hb2; have tp1 : True := trivial; clear _t tp0))
  go_ret2
  exact ⟨rfl, HB.out⟩
set_option maxRecDepth 100000 in
set_option maxHeartbeats 2000000 in
theorem Heals_B (x : Ro) (HL : Hid (x.st.length = 16))  (hz : Hid (∀ j : Nat, j < 16 → rd x.st (j : Int) ≠ 2))
    (P : Hid (∀ w : World, Calls Try.prog 89 #[ros x] w fun e w' => e = .returned (.bool true) ∧ Below w.heap.size w w')) (w : World) : Calls Try.prog 68 #[ros x] w fun e w' => e = .returned (.tuple #[.int .i64 0, .bool false]) ∧ Below w.heap.size w w' := by
  have HB := Lib.hid (Below.refl w.heap.size w)
  have tok0 : True := trivial
  have tp0 : True := trivial
  go_enter Try.func68, Try.ntmps68
  go_wp2_with (first
    | (go_skip)
    | (refine rosBox (.tmp 0) rfl rfl HL.out rfl ?_; intro w1 hk hb1 hz1; replace HB := Lib.hid (below_ext HB.out hb1); have K1 := Lib.hid hk; clear hk hb1)
    | (refine rosLoad (.tmp 1) rfl K1.out rfl rfl ?_)
    | (have _t := tp0; go_at_call 89; refine (P.out _).mono ?_; rintro e w2 ⟨rfl, hb2⟩; replace K1 := Lib.hid (K1.out.below hb2); replace HB := Lib.hid (below_ext HB.out hb2); have hz2 := hb2.size; clear hb2; have tp1 : True := trivial; clear _t tp0)
    | (refine stsLoad (.tmp 9) rfl K1.out rfl rfl ?_))
  go_loopw [11] (fun i wr => ∃ q : Nat, q ≤ 16 ∧ i = .int .i64 (q : Int) ∧ Hid (∀ j : Nat, j < q → rd x.st (j : Int) ≠ 2) ∧ Hid (Below w.heap.size w wr)) (fun i _ => 16 - (intOf i).toNat)
  case atStart => exact ⟨0, by omega, rfl, Lib.hid (fun j h => absurd h (by omega)), HB⟩
  case round =>
    clear HB K1
    obtain ⟨q, hq, rfl, HA, HB⟩ := hrel
    by_cases hlt : q < 16
    · by_cases he : rd x.st (q : Int) = 2
      · exact absurd he (hz.out q hlt)
      · have g1 : (rd x.st (q : Int) == 2) = false := by simpa using he
        have HE := Lib.hid he
        clear he
        go_wp2_with (first
          | (refine F.aggIndex (i := q) (n := 16) 70 (.tmp 10) (.tmp 11) rfl rfl rfl Try.underlying70 hlt R.agg_u8 size_u8s (st_at (by rw [HL.out]; exact hlt)) rfl ?_))
        go_roundw
        case rel =>
          refine ⟨q + 1, by omega, by go_num, Lib.hid (fun j h1 => ?_), HB⟩
          rcases Nat.lt_or_ge j q with h | h
          · exact HA.out j h
          · obtain rfl : j = q := by omega
            exact HE.out
        case measure => simp [intOf]; omega
    · obtain rfl : q = 16 := by omega
      go_wp2
      go_ret2
      exact ⟨rfl, HB.out⟩
set_option maxRecDepth 100000 in
set_option maxHeartbeats 2000000 in
theorem Heals_C (x : Ro) (HL : Hid (x.st.length = 16)) (k : Nat) (hk : k < 16) (h2 : Hid (rd x.st (k : Int) = 2)) (hz : Hid (∀ j : Nat, j < k → rd x.st (j : Int) ≠ 2))
    (P : Hid (∀ w : World, Calls Try.prog 89 #[ros x] w fun e w' => e = .returned (.bool true) ∧ Below w.heap.size w w')) (w : World) : Calls Try.prog 68 #[ros x] w fun e w' => e = .returned (.tuple #[.int .i64 (k : Int), .bool true]) ∧ Below w.heap.size w w' := by
  have HB := Lib.hid (Below.refl w.heap.size w)
  have tok0 : True := trivial
  have tp0 : True := trivial
  go_enter Try.func68, Try.ntmps68
  go_wp2_with (first
    | (go_skip)
    | (refine rosBox (.tmp 0) rfl rfl HL.out rfl ?_; intro w1 hk hb1 hz1; replace HB := Lib.hid (below_ext HB.out hb1); have K1 := Lib.hid hk; clear hk hb1)
    | (refine rosLoad (.tmp 1) rfl K1.out rfl rfl ?_)
    | (have _t := tp0; go_at_call 89; refine (P.out _).mono ?_; rintro e w2 ⟨rfl, hb2⟩; replace K1 := Lib.hid (K1.out.below hb2); replace HB := Lib.hid (below_ext HB.out hb2); have hz2 := hb2.size; clear hb2; have tp1 : True := trivial; clear _t tp0)
    | (refine stsLoad (.tmp 9) rfl K1.out rfl rfl ?_))
  go_loopw [11] (fun i wr => ∃ q : Nat, q ≤ 16 ∧ i = .int .i64 (q : Int) ∧ Hid (∀ j : Nat, j < q → rd x.st (j : Int) ≠ 2) ∧ Hid (Below w.heap.size w wr)) (fun i _ => 16 - (intOf i).toNat)
  case atStart => exact ⟨0, by omega, rfl, Lib.hid (fun j h => absurd h (by omega)), HB⟩
  case round =>
    clear HB K1
    obtain ⟨q, hq, rfl, HA, HB⟩ := hrel
    by_cases hlt : q < 16
    · by_cases he : rd x.st (q : Int) = 2
      · have hqk : q = k := by
          rcases Nat.lt_trichotomy q k with h | h | h
          · exact absurd he (hz.out q h)
          · exact h
          · exact absurd h2.out (HA.out k h)
        subst hqk
        have g1 : (rd x.st (q : Int) == 2) = true := by simpa using he
        clear he
        go_wp2_with (first
          | (refine F.aggIndex (i := q) (n := 16) 70 (.tmp 10) (.tmp 11) rfl rfl rfl Try.underlying70 hlt R.agg_u8 size_u8s (st_at (by rw [HL.out]; exact hlt)) rfl ?_))
        go_ret2
        exact ⟨rfl, HB.out⟩
      · have g1 : (rd x.st (q : Int) == 2) = false := by simpa using he
        have HE := Lib.hid he
        clear he
        go_wp2_with (first
          | (refine F.aggIndex (i := q) (n := 16) 70 (.tmp 10) (.tmp 11) rfl rfl rfl Try.underlying70 hlt R.agg_u8 size_u8s (st_at (by rw [HL.out]; exact hlt)) rfl ?_))
        go_roundw
        case rel =>
          refine ⟨q + 1, by omega, by go_num, Lib.hid (fun j h1 => ?_), HB⟩
          rcases Nat.lt_or_ge j q with h | h
          · exact HA.out j h
          · obtain rfl : j = q := by omega
            exact HE.out
        case measure => simp [intOf]; omega
    · obtain rfl : q = 16 := by omega
      exact absurd h2.out (HA.out k hk)
set_option maxRecDepth 100000 in
set_option maxHeartbeats 2000000 in
theorem Next_A (x : Ro) (HL : Hid (x.st.length = 16)) (k : Int) (b : Bool) 
    (P : Hid (∀ w : World, Calls Try.prog 89 #[ros x] w fun e w' => e = .returned (.bool false) ∧ Below w.heap.size w w'))
    (H : Hid (∀ w : World, Calls Try.prog 68 #[ros x] w fun e w' => e = .returned (.tuple #[.int .i64 k, .bool b]) ∧ Below w.heap.size w w')) (w : World) : Calls Try.prog 69 #[ros x] w fun e w' => e = .returned (.tuple #[ros ro0, .int .i64 2]) ∧ Below w.heap.size w w' := by
  have HB := Lib.hid (Below.refl w.heap.size w)
  have tok0 : True := trivial
  have tp0 : True := trivial
  go_enter Try.func69, Try.ntmps69
  go_wp2_with (first
    | (go_skip)
    | (refine rosBox (.tmp 0) rfl rfl HL.out rfl ?_; intro w1 hk hb1 hz1; replace HB := Lib.hid (below_ext HB.out hb1); have K1 := Lib.hid hk; clear hk hb1)
    | (have _t := tok0; refine rosAlloc rfl rfl ?_; intro w2 hk hb2 hz2; replace K1 := Lib.hid (K1.out.below hb2); replace HB := Lib.hid (below_ext HB.out hb2); have K2 := Lib.hid hk; clear hk hb2; have tok1 : True := trivial; clear _t tok0)
    | (refine rosLoad (.tmp 1) rfl K1.out rfl rfl ?_)
    | (have _t := tp0; go_at_call 68; refine (H.out _).mono ?_; rintro e w3 ⟨rfl, hb3⟩; replace K1 := Lib.hid (K1.out.below hb3); replace K2 := Lib.hid (K2.out.below hb3); replace HB := Lib.hid (below_ext HB.out hb3); have hz3 := hb3.size; clear hb3; have tp1 : True := trivial; clear _t tp0)
    | (have _t := tp1; go_at_call 89; refine (P.out _).mono ?_; rintro e w4 ⟨rfl, hb4⟩; replace K1 := Lib.hid (K1.out.below hb4); replace K2 := Lib.hid (K2.out.below hb4); replace HB := Lib.hid (below_ext HB.out hb4); have hz4 := hb4.size; clear hb4; have tp2 : True := trivial; clear _t tp1)
    | (refine rosBuild0 rfl rfl ?_)
    | (refine rosStore (.tmp 2) (.tmp 15) rfl K2.out rfl rfl zero16_length rfl ?_; intro w5 hk hg; replace HB := Lib.hid (below_at HB.out hg (by omega) K2.out.lt); replace K1 := Lib.hid (K1.out.grown hg (by omega)); replace K2 := Lib.hid hk; have hz5 := hg.size; clear hk hg))
  exact bodyPost_ret (v := .tuple #[ros ro0, .int .i64 2]) (ret_ros rfl _ _ K2.out rfl rfl) rfl ⟨rfl, HB.out⟩
set_option maxRecDepth 100000 in
set_option maxHeartbeats 2000000 in
theorem Next_B (x : Ro) (HL : Hid (x.st.length = 16)) (k : Int) 
    (P : Hid (∀ w : World, Calls Try.prog 89 #[ros x] w fun e w' => e = .returned (.bool true) ∧ Below w.heap.size w w'))
    (H : Hid (∀ w : World, Calls Try.prog 68 #[ros x] w fun e w' => e = .returned (.tuple #[.int .i64 k, .bool false]) ∧ Below w.heap.size w w')) (w : World) : Calls Try.prog 69 #[ros x] w fun e w' => e = .returned (.tuple #[ros ro0, .int .i64 17]) ∧ Below w.heap.size w w' := by
  have HB := Lib.hid (Below.refl w.heap.size w)
  have tok0 : True := trivial
  have tp0 : True := trivial
  go_enter Try.func69, Try.ntmps69
  go_wp2_with (first
    | (go_skip)
    | (refine rosBox (.tmp 0) rfl rfl HL.out rfl ?_; intro w1 hk hb1 hz1; replace HB := Lib.hid (below_ext HB.out hb1); have K1 := Lib.hid hk; clear hk hb1)
    | (have _t := tok0; refine rosAlloc rfl rfl ?_; intro w2 hk hb2 hz2; replace K1 := Lib.hid (K1.out.below hb2); replace HB := Lib.hid (below_ext HB.out hb2); have K2 := Lib.hid hk; clear hk hb2; have tok1 : True := trivial; clear _t tok0)
    | (refine rosLoad (.tmp 1) rfl K1.out rfl rfl ?_)
    | (have _t := tp0; go_at_call 68; refine (H.out _).mono ?_; rintro e w3 ⟨rfl, hb3⟩; replace K1 := Lib.hid (K1.out.below hb3); replace K2 := Lib.hid (K2.out.below hb3); replace HB := Lib.hid (below_ext HB.out hb3); have hz3 := hb3.size; clear hb3; have tp1 : True := trivial; clear _t tp0)
    | (have _t := tp1; go_at_call 89; refine (P.out _).mono ?_; rintro e w4 ⟨rfl, hb4⟩; replace K1 := Lib.hid (K1.out.below hb4); replace K2 := Lib.hid (K2.out.below hb4); replace HB := Lib.hid (below_ext HB.out hb4); have hz4 := hb4.size; clear hb4; have tp2 : True := trivial; clear _t tp1)
    | (refine rosBuild0 rfl rfl ?_)
    | (refine rosStore (.tmp 2) (.tmp 19) rfl K2.out rfl rfl zero16_length rfl ?_; intro w5 hk hg; replace HB := Lib.hid (below_at HB.out hg (by omega) K2.out.lt); replace K1 := Lib.hid (K1.out.grown hg (by omega)); replace K2 := Lib.hid hk; have hz5 := hg.size; clear hk hg))
  exact bodyPost_ret (v := .tuple #[ros ro0, .int .i64 17]) (ret_ros rfl _ _ K2.out rfl rfl) rfl ⟨rfl, HB.out⟩
set_option maxRecDepth 100000 in
set_option maxHeartbeats 2000000 in
theorem Next_C (x : Ro) (HL : Hid (x.st.length = 16)) (k : Nat) (hk : k < 16) (h0 : 0 ≤ x.cu) (h1 : x.cu < 64) (he : (x.cu + 1 == x.s) = true)
    (P : Hid (∀ w : World, Calls Try.prog 89 #[ros x] w fun e w' => e = .returned (.bool true) ∧ Below w.heap.size w w'))
    (H : Hid (∀ w : World, Calls Try.prog 68 #[ros x] w fun e w' => e = .returned (.tuple #[.int .i64 (k : Int), .bool true]) ∧ Below w.heap.size w w')) (w : World) : Calls Try.prog 69 #[ros x] w fun e w' => e = .returned (.tuple #[ros { x with st := x.st.set k 0, cu := 0 }, .int .i64 0]) ∧ Below w.heap.size w w' := by
  have HB := Lib.hid (Below.refl w.heap.size w)
  have hi0 : (0 : Int) ≤ (k : Int) := by omega
  have hi16 : (k : Int) < 16 := by omega
  have tok0 : True := trivial
  have tp0 : True := trivial
  go_enter Try.func69, Try.ntmps69
  go_wp2_with (first
    | (go_skip)
    | (refine rosBox (.tmp 0) rfl rfl HL.out rfl ?_; intro w1 hk hb1 hz1; replace HB := Lib.hid (below_ext HB.out hb1); have K1 := Lib.hid hk; clear hk hb1)
    | (have _t := tok0; refine rosAlloc rfl rfl ?_; intro w2 hk hb2 hz2; replace K1 := Lib.hid (K1.out.below hb2); replace HB := Lib.hid (below_ext HB.out hb2); have K2 := Lib.hid hk; clear hk hb2; have tok1 : True := trivial; clear _t tok0)
    | (refine rosLoad (.tmp 1) rfl K1.out rfl rfl ?_)
    | (have _t := tp0; go_at_call 68; refine (H.out _).mono ?_; rintro e w3 ⟨rfl, hb3⟩; replace K1 := Lib.hid (K1.out.below hb3); replace K2 := Lib.hid (K2.out.below hb3); replace HB := Lib.hid (below_ext HB.out hb3); have hz3 := hb3.size; clear hb3; have tp1 : True := trivial; clear _t tp0)
    | (have _t := tp1; go_at_call 89; refine (P.out _).mono ?_; rintro e w4 ⟨rfl, hb4⟩; replace K1 := Lib.hid (K1.out.below hb4); replace K2 := Lib.hid (K2.out.below hb4); replace HB := Lib.hid (below_ext HB.out hb4); have hz4 := hb4.size; clear hb4; have tp2 : True := trivial; clear _t tp1)
    | (refine F.rowCell _ (.tmp 20) rfl K1.out.ccu rfl agg_int rfl ?_)
    | (refine rosSetCu (.tmp 23) (.tmp 22) rfl K1.out rfl _ rfl rfl ?_; intro w5 hk hg; replace HB := Lib.hid (below_at HB.out hg (by omega) K1.out.lt); replace K2 := Lib.hid (K2.out.grown hg (by omega)); replace K1 := Lib.hid hk; have hz5 := hg.size; clear hk hg)
    | (refine F.rowCell _ (.tmp 24) rfl K1.out.ccu rfl agg_int rfl ?_)
    | (refine F.rowCell _ (.tmp 27) rfl K1.out.cs rfl agg_int rfl ?_)
    | (refine rosSetSt (.tmp 32) (.const (.int .u8 0)) rfl K1.out k hk rfl _ rfl rfl ?_; intro w6 hk hg; replace HB := Lib.hid (below_at HB.out hg (by omega) K1.out.lt); replace K2 := Lib.hid (K2.out.grown hg (by omega)); replace K1 := Lib.hid hk; have hz6 := hg.size; clear hk hg)
    | (refine rosSetCu (.tmp 33) (.const (.int .i64 0)) rfl K1.out rfl _ rfl rfl ?_; intro w7 hk hg; replace HB := Lib.hid (below_at HB.out hg (by omega) K1.out.lt); replace K2 := Lib.hid (K2.out.grown hg (by omega)); replace K1 := Lib.hid hk; have hz7 := hg.size; clear hk hg)
    | (refine rosStore (.tmp 2) (.tmp 34) rfl K2.out rfl rfl (by simpa using HL.out) rfl ?_; intro w8 hk hg; replace HB := Lib.hid (below_at HB.out hg (by omega) K2.out.lt); replace K1 := Lib.hid (K1.out.grown hg (by omega)); replace K2 := Lib.hid hk; have hz8 := hg.size; clear hk hg))
  exact bodyPost_ret (v := .tuple #[ros { x with st := x.st.set k 0, cu := 0 }, .int .i64 0]) (ret_ros rfl _ _ K2.out rfl rfl) rfl ⟨rfl, HB.out⟩
set_option maxRecDepth 100000 in
set_option maxHeartbeats 2000000 in
theorem Next_D (x : Ro) (HL : Hid (x.st.length = 16)) (k : Nat) (hk : k < 16) (h0 : 0 ≤ x.cu) (h1 : x.cu < 64) (he : (x.cu + 1 == x.s) = false)
    (P : Hid (∀ w : World, Calls Try.prog 89 #[ros x] w fun e w' => e = .returned (.bool true) ∧ Below w.heap.size w w'))
    (H : Hid (∀ w : World, Calls Try.prog 68 #[ros x] w fun e w' => e = .returned (.tuple #[.int .i64 (k : Int), .bool true]) ∧ Below w.heap.size w w')) (w : World) : Calls Try.prog 69 #[ros x] w fun e w' => e = .returned (.tuple #[ros { x with cu := x.cu + 1 }, .int .i64 0]) ∧ Below w.heap.size w w' := by
  have HB := Lib.hid (Below.refl w.heap.size w)
  have hi0 : (0 : Int) ≤ (k : Int) := by omega
  have hi16 : (k : Int) < 16 := by omega
  have tok0 : True := trivial
  have tp0 : True := trivial
  go_enter Try.func69, Try.ntmps69
  go_wp2_with (first
    | (go_skip)
    | (refine rosBox (.tmp 0) rfl rfl HL.out rfl ?_; intro w1 hk hb1 hz1; replace HB := Lib.hid (below_ext HB.out hb1); have K1 := Lib.hid hk; clear hk hb1)
    | (have _t := tok0; refine rosAlloc rfl rfl ?_; intro w2 hk hb2 hz2; replace K1 := Lib.hid (K1.out.below hb2); replace HB := Lib.hid (below_ext HB.out hb2); have K2 := Lib.hid hk; clear hk hb2; have tok1 : True := trivial; clear _t tok0)
    | (refine rosLoad (.tmp 1) rfl K1.out rfl rfl ?_)
    | (have _t := tp0; go_at_call 68; refine (H.out _).mono ?_; rintro e w3 ⟨rfl, hb3⟩; replace K1 := Lib.hid (K1.out.below hb3); replace K2 := Lib.hid (K2.out.below hb3); replace HB := Lib.hid (below_ext HB.out hb3); have hz3 := hb3.size; clear hb3; have tp1 : True := trivial; clear _t tp0)
    | (have _t := tp1; go_at_call 89; refine (P.out _).mono ?_; rintro e w4 ⟨rfl, hb4⟩; replace K1 := Lib.hid (K1.out.below hb4); replace K2 := Lib.hid (K2.out.below hb4); replace HB := Lib.hid (below_ext HB.out hb4); have hz4 := hb4.size; clear hb4; have tp2 : True := trivial; clear _t tp1)
    | (refine F.rowCell _ (.tmp 20) rfl K1.out.ccu rfl agg_int rfl ?_)
    | (refine rosSetCu (.tmp 23) (.tmp 22) rfl K1.out rfl _ rfl rfl ?_; intro w5 hk hg; replace HB := Lib.hid (below_at HB.out hg (by omega) K1.out.lt); replace K2 := Lib.hid (K2.out.grown hg (by omega)); replace K1 := Lib.hid hk; have hz5 := hg.size; clear hk hg)
    | (refine F.rowCell _ (.tmp 24) rfl K1.out.ccu rfl agg_int rfl ?_)
    | (refine F.rowCell _ (.tmp 27) rfl K1.out.cs rfl agg_int rfl ?_)
    | (refine rosStore (.tmp 2) (.tmp 34) rfl K2.out rfl rfl HL.out rfl ?_; intro w6 hk hg; replace HB := Lib.hid (below_at HB.out hg (by omega) K2.out.lt); replace K1 := Lib.hid (K1.out.grown hg (by omega)); replace K2 := Lib.hid hk; have hz6 := hg.size; clear hk hg))
  exact bodyPost_ret (v := .tuple #[ros { x with cu := x.cu + 1 }, .int .i64 0]) (ret_ros rfl _ _ K2.out rfl rfl) rfl ⟨rfl, HB.out⟩
end Go.Proofs.Ytdchcggllcgokaa.Q

namespace Go.Proofs.Ytdchcggllcgokaa.Q
open Go.RowKit Go.Proofs.Ytdchcggllcgokaa.L Go.Proofs.Ytdchcggllcgokaa.R Go.Proofs.YtdchcggllcgokaaW.PrintWords
set_option linter.unusedVariables false
set_option linter.unusedSimpArgs false
set_option maxRecDepth 100000 in
set_option maxHeartbeats 2000000 in
theorem State_A (x : Ro) (HL : Hid (x.st.length = 16)) (k c : Int) (b : Bool) 
    (H : Hid (∀ w : World, Calls Try.prog 68 #[ros x] w fun e w' => e = .returned (.tuple #[.int .i64 k, .bool b]) ∧ Below w.heap.size w w'))
    (M : Hid (∀ w : World, Calls Try.prog 92 #[ros x] w fun e w' => e = .returned (.int .i64 c) ∧ Below w.heap.size w w'))
    (Y : Hid (∀ w : World, Calls Try.prog 89 #[ros x] w fun e w' => e = .returned (.bool false) ∧ Below w.heap.size w w')) (w : World) : Calls Try.prog 94 #[ros x] w fun e w' => e = .returned (.int .i64 0) ∧ Below w.heap.size w w' := by
  have HB := Lib.hid (Below.refl w.heap.size w)
  have tok0 : True := trivial
  have tp0 : True := trivial
  go_enter Try.func94, Try.ntmps94
  go_wp2_with (first
    | (go_skip)
    | (refine rosBox (.tmp 0) rfl rfl HL.out rfl ?_; intro w1 hk hb1 hz1; replace HB := Lib.hid (below_ext HB.out hb1); have K1 := Lib.hid hk; clear hk hb1)
    | (refine rosLoad (.tmp 1) rfl K1.out rfl rfl ?_)
    | (have _t := tp0; go_at_call 68; refine (H.out _).mono ?_; rintro e w2 ⟨rfl, hb2⟩; replace K1 := Lib.hid (K1.out.below hb2); replace HB := Lib.hid (below_ext HB.out hb2); have hz2 := hb2.size; clear hb2; have tp1 : True := trivial; clear _t tp0)
    | (have _t := tp1; go_at_call 92; refine (M.out _).mono ?_; rintro e w3 ⟨rfl, hb3⟩; replace K1 := Lib.hid (K1.out.below hb3); replace HB := Lib.hid (below_ext HB.out hb3); have hz3 := hb3.size; clear hb3; have tp2 : True := trivial; clear _t tp1)
    | (have _t := tp2; go_at_call 89; refine (Y.out _).mono ?_; rintro e w4 ⟨rfl, hb4⟩; replace K1 := Lib.hid (K1.out.below hb4); replace HB := Lib.hid (below_ext HB.out hb4); have hz4 := hb4.size; clear hb4; have tp3 : True := trivial; clear _t tp2))
  go_ret
  exact ⟨rfl, HB.out⟩
set_option maxRecDepth 100000 in
set_option maxHeartbeats 2000000 in
theorem State_B (x : Ro) (HL : Hid (x.st.length = 16)) (k c : Int) (b : Bool) (h : 1 < c)
    (H : Hid (∀ w : World, Calls Try.prog 68 #[ros x] w fun e w' => e = .returned (.tuple #[.int .i64 k, .bool b]) ∧ Below w.heap.size w w'))
    (M : Hid (∀ w : World, Calls Try.prog 92 #[ros x] w fun e w' => e = .returned (.int .i64 c) ∧ Below w.heap.size w w'))
    (Y : Hid (∀ w : World, Calls Try.prog 89 #[ros x] w fun e w' => e = .returned (.bool true) ∧ Below w.heap.size w w')) (w : World) : Calls Try.prog 94 #[ros x] w fun e w' => e = .returned (.int .i64 5) ∧ Below w.heap.size w w' := by
  have HB := Lib.hid (Below.refl w.heap.size w)
  have g1 : decide (1 < c) = true := by simpa using h
  have tok0 : True := trivial
  have tp0 : True := trivial
  go_enter Try.func94, Try.ntmps94
  go_wp2_with (first
    | (go_skip)
    | (refine rosBox (.tmp 0) rfl rfl HL.out rfl ?_; intro w1 hk hb1 hz1; replace HB := Lib.hid (below_ext HB.out hb1); have K1 := Lib.hid hk; clear hk hb1)
    | (refine rosLoad (.tmp 1) rfl K1.out rfl rfl ?_)
    | (have _t := tp0; go_at_call 68; refine (H.out _).mono ?_; rintro e w2 ⟨rfl, hb2⟩; replace K1 := Lib.hid (K1.out.below hb2); replace HB := Lib.hid (below_ext HB.out hb2); have hz2 := hb2.size; clear hb2; have tp1 : True := trivial; clear _t tp0)
    | (have _t := tp1; go_at_call 92; refine (M.out _).mono ?_; rintro e w3 ⟨rfl, hb3⟩; replace K1 := Lib.hid (K1.out.below hb3); replace HB := Lib.hid (below_ext HB.out hb3); have hz3 := hb3.size; clear hb3; have tp2 : True := trivial; clear _t tp1)
    | (have _t := tp2; go_at_call 89; refine (Y.out _).mono ?_; rintro e w4 ⟨rfl, hb4⟩; replace K1 := Lib.hid (K1.out.below hb4); replace HB := Lib.hid (below_ext HB.out hb4); have hz4 := hb4.size; clear hb4; have tp3 : True := trivial; clear _t tp2))
  go_ret
  exact ⟨rfl, HB.out⟩
set_option maxRecDepth 100000 in
set_option maxHeartbeats 2000000 in
theorem State_C (x : Ro) (HL : Hid (x.st.length = 16)) (k c : Int) (b : Bool) (h : c = 1) (hg : x.go = true)
    (H : Hid (∀ w : World, Calls Try.prog 68 #[ros x] w fun e w' => e = .returned (.tuple #[.int .i64 k, .bool b]) ∧ Below w.heap.size w w'))
    (M : Hid (∀ w : World, Calls Try.prog 92 #[ros x] w fun e w' => e = .returned (.int .i64 c) ∧ Below w.heap.size w w'))
    (Y : Hid (∀ w : World, Calls Try.prog 89 #[ros x] w fun e w' => e = .returned (.bool true) ∧ Below w.heap.size w w')) (w : World) : Calls Try.prog 94 #[ros x] w fun e w' => e = .returned (.int .i64 5) ∧ Below w.heap.size w w' := by
  have HB := Lib.hid (Below.refl w.heap.size w)
  have g1 : decide (1 < c) = false := by simp; omega
  have g2 : (c == 1) = true := by rw [beq_iff_eq]; omega
  clear h
  have tok0 : True := trivial
  have tp0 : True := trivial
  go_enter Try.func94, Try.ntmps94
  go_wp2_with (first
    | (go_skip)
    | (refine rosBox (.tmp 0) rfl rfl HL.out rfl ?_; intro w1 hk hb1 hz1; replace HB := Lib.hid (below_ext HB.out hb1); have K1 := Lib.hid hk; clear hk hb1)
    | (refine rosLoad (.tmp 1) rfl K1.out rfl rfl ?_)
    | (have _t := tp0; go_at_call 68; refine (H.out _).mono ?_; rintro e w2 ⟨rfl, hb2⟩; replace K1 := Lib.hid (K1.out.below hb2); replace HB := Lib.hid (below_ext HB.out hb2); have hz2 := hb2.size; clear hb2; have tp1 : True := trivial; clear _t tp0)
    | (have _t := tp1; go_at_call 92; refine (M.out _).mono ?_; rintro e w3 ⟨rfl, hb3⟩; replace K1 := Lib.hid (K1.out.below hb3); replace HB := Lib.hid (below_ext HB.out hb3); have hz3 := hb3.size; clear hb3; have tp2 : True := trivial; clear _t tp1)
    | (have _t := tp2; go_at_call 89; refine (Y.out _).mono ?_; rintro e w4 ⟨rfl, hb4⟩; replace K1 := Lib.hid (K1.out.below hb4); replace HB := Lib.hid (below_ext HB.out hb4); have hz4 := hb4.size; clear hb4; have tp3 : True := trivial; clear _t tp2)
    | (refine F.rowCell _ (.tmp 23) rfl K1.out.cgo rfl agg_bool rfl ?_))
  go_ret
  exact ⟨rfl, HB.out⟩
set_option maxRecDepth 100000 in
set_option maxHeartbeats 2000000 in
theorem State_D (x : Ro) (HL : Hid (x.st.length = 16)) (k c : Int)  (h : c = 1) (hg : x.go = false)
    (H : Hid (∀ w : World, Calls Try.prog 68 #[ros x] w fun e w' => e = .returned (.tuple #[.int .i64 k, .bool true]) ∧ Below w.heap.size w w'))
    (M : Hid (∀ w : World, Calls Try.prog 92 #[ros x] w fun e w' => e = .returned (.int .i64 c) ∧ Below w.heap.size w w'))
    (Y : Hid (∀ w : World, Calls Try.prog 89 #[ros x] w fun e w' => e = .returned (.bool true) ∧ Below w.heap.size w w')) (w : World) : Calls Try.prog 94 #[ros x] w fun e w' => e = .returned (.int .i64 3) ∧ Below w.heap.size w w' := by
  have HB := Lib.hid (Below.refl w.heap.size w)
  have g1 : decide (1 < c) = false := by simp; omega
  have g2 : (c == 1) = true := by rw [beq_iff_eq]; omega
  clear h
  have tok0 : True := trivial
  have tp0 : True := trivial
  go_enter Try.func94, Try.ntmps94
  go_wp2_with (first
    | (go_skip)
    | (refine rosBox (.tmp 0) rfl rfl HL.out rfl ?_; intro w1 hk hb1 hz1; replace HB := Lib.hid (below_ext HB.out hb1); have K1 := Lib.hid hk; clear hk hb1)
    | (refine rosLoad (.tmp 1) rfl K1.out rfl rfl ?_)
    | (have _t := tp0; go_at_call 68; refine (H.out _).mono ?_; rintro e w2 ⟨rfl, hb2⟩; replace K1 := Lib.hid (K1.out.below hb2); replace HB := Lib.hid (below_ext HB.out hb2); have hz2 := hb2.size; clear hb2; have tp1 : True := trivial; clear _t tp0)
    | (have _t := tp1; go_at_call 92; refine (M.out _).mono ?_; rintro e w3 ⟨rfl, hb3⟩; replace K1 := Lib.hid (K1.out.below hb3); replace HB := Lib.hid (below_ext HB.out hb3); have hz3 := hb3.size; clear hb3; have tp2 : True := trivial; clear _t tp1)
    | (have _t := tp2; go_at_call 89; refine (Y.out _).mono ?_; rintro e w4 ⟨rfl, hb4⟩; replace K1 := Lib.hid (K1.out.below hb4); replace HB := Lib.hid (below_ext HB.out hb4); have hz4 := hb4.size; clear hb4; have tp3 : True := trivial; clear _t tp2)
    | (refine F.rowCell _ (.tmp 23) rfl K1.out.cgo rfl agg_bool rfl ?_)
    | (refine F.rowCell _ (.tmp 27) rfl K1.out.cgo rfl agg_bool rfl ?_))
  go_ret
  exact ⟨rfl, HB.out⟩
set_option maxRecDepth 100000 in
set_option maxHeartbeats 2000000 in
theorem State_E (x : Ro) (HL : Hid (x.st.length = 16)) (k c : Int)  (h : c = 1) (hg : x.go = false)
    (H : Hid (∀ w : World, Calls Try.prog 68 #[ros x] w fun e w' => e = .returned (.tuple #[.int .i64 k, .bool false]) ∧ Below w.heap.size w w'))
    (M : Hid (∀ w : World, Calls Try.prog 92 #[ros x] w fun e w' => e = .returned (.int .i64 c) ∧ Below w.heap.size w w'))
    (Y : Hid (∀ w : World, Calls Try.prog 89 #[ros x] w fun e w' => e = .returned (.bool true) ∧ Below w.heap.size w w')) (w : World) : Calls Try.prog 94 #[ros x] w fun e w' => e = .returned (.int .i64 2) ∧ Below w.heap.size w w' := by
  have HB := Lib.hid (Below.refl w.heap.size w)
  have g1 : decide (1 < c) = false := by simp; omega
  have g2 : (c == 1) = true := by rw [beq_iff_eq]; omega
  clear h
  have tok0 : True := trivial
  have tp0 : True := trivial
  go_enter Try.func94, Try.ntmps94
  go_wp2_with (first
    | (go_skip)
    | (refine rosBox (.tmp 0) rfl rfl HL.out rfl ?_; intro w1 hk hb1 hz1; replace HB := Lib.hid (below_ext HB.out hb1); have K1 := Lib.hid hk; clear hk hb1)
    | (refine rosLoad (.tmp 1) rfl K1.out rfl rfl ?_)
    | (have _t := tp0; go_at_call 68; refine (H.out _).mono ?_; rintro e w2 ⟨rfl, hb2⟩; replace K1 := Lib.hid (K1.out.below hb2); replace HB := Lib.hid (below_ext HB.out hb2); have hz2 := hb2.size; clear hb2; have tp1 : True := trivial; clear _t tp0)
    | (have _t := tp1; go_at_call 92; refine (M.out _).mono ?_; rintro e w3 ⟨rfl, hb3⟩; replace K1 := Lib.hid (K1.out.below hb3); replace HB := Lib.hid (below_ext HB.out hb3); have hz3 := hb3.size; clear hb3; have tp2 : True := trivial; clear _t tp1)
    | (have _t := tp2; go_at_call 89; refine (Y.out _).mono ?_; rintro e w4 ⟨rfl, hb4⟩; replace K1 := Lib.hid (K1.out.below hb4); replace HB := Lib.hid (below_ext HB.out hb4); have hz4 := hb4.size; clear hb4; have tp3 : True := trivial; clear _t tp2)
    | (refine F.rowCell _ (.tmp 23) rfl K1.out.cgo rfl agg_bool rfl ?_)
    | (refine F.rowCell _ (.tmp 27) rfl K1.out.cgo rfl agg_bool rfl ?_))
  go_ret
  exact ⟨rfl, HB.out⟩
set_option maxRecDepth 100000 in
set_option maxHeartbeats 2000000 in
theorem State_F (x : Ro) (HL : Hid (x.st.length = 16)) (k c : Int) (b : Bool) (h : c < 1) (hg : x.go = true)
    (H : Hid (∀ w : World, Calls Try.prog 68 #[ros x] w fun e w' => e = .returned (.tuple #[.int .i64 k, .bool b]) ∧ Below w.heap.size w w'))
    (M : Hid (∀ w : World, Calls Try.prog 92 #[ros x] w fun e w' => e = .returned (.int .i64 c) ∧ Below w.heap.size w w'))
    (Y : Hid (∀ w : World, Calls Try.prog 89 #[ros x] w fun e w' => e = .returned (.bool true) ∧ Below w.heap.size w w')) (w : World) : Calls Try.prog 94 #[ros x] w fun e w' => e = .returned (.int .i64 4) ∧ Below w.heap.size w w' := by
  have HB := Lib.hid (Below.refl w.heap.size w)
  have g1 : decide (1 < c) = false := by simp; omega
  have g2 : (c == 1) = false := by rw [beq_eq_false_iff_ne]; omega
  have tok0 : True := trivial
  have tp0 : True := trivial
  go_enter Try.func94, Try.ntmps94
  go_wp2_with (first
    | (go_skip)
    | (refine rosBox (.tmp 0) rfl rfl HL.out rfl ?_; intro w1 hk hb1 hz1; replace HB := Lib.hid (below_ext HB.out hb1); have K1 := Lib.hid hk; clear hk hb1)
    | (refine rosLoad (.tmp 1) rfl K1.out rfl rfl ?_)
    | (have _t := tp0; go_at_call 68; refine (H.out _).mono ?_; rintro e w2 ⟨rfl, hb2⟩; replace K1 := Lib.hid (K1.out.below hb2); replace HB := Lib.hid (below_ext HB.out hb2); have hz2 := hb2.size; clear hb2; have tp1 : True := trivial; clear _t tp0)
    | (have _t := tp1; go_at_call 92; refine (M.out _).mono ?_; rintro e w3 ⟨rfl, hb3⟩; replace K1 := Lib.hid (K1.out.below hb3); replace HB := Lib.hid (below_ext HB.out hb3); have hz3 := hb3.size; clear hb3; have tp2 : True := trivial; clear _t tp1)
    | (have _t := tp2; go_at_call 89; refine (Y.out _).mono ?_; rintro e w4 ⟨rfl, hb4⟩; replace K1 := Lib.hid (K1.out.below hb4); replace HB := Lib.hid (below_ext HB.out hb4); have hz4 := hb4.size; clear hb4; have tp3 : True := trivial; clear _t tp2)
    | (refine F.rowCell _ (.tmp 23) rfl K1.out.cgo rfl agg_bool rfl ?_)
    | (refine F.rowCell _ (.tmp 27) rfl K1.out.cgo rfl agg_bool rfl ?_))
  go_ret
  exact ⟨rfl, HB.out⟩
set_option maxRecDepth 100000 in
set_option maxHeartbeats 2000000 in
theorem State_G (x : Ro) (HL : Hid (x.st.length = 16)) (k c : Int)  (h : c < 1) (hg : x.go = false)
    (H : Hid (∀ w : World, Calls Try.prog 68 #[ros x] w fun e w' => e = .returned (.tuple #[.int .i64 k, .bool true]) ∧ Below w.heap.size w w'))
    (M : Hid (∀ w : World, Calls Try.prog 92 #[ros x] w fun e w' => e = .returned (.int .i64 c) ∧ Below w.heap.size w w'))
    (Y : Hid (∀ w : World, Calls Try.prog 89 #[ros x] w fun e w' => e = .returned (.bool true) ∧ Below w.heap.size w w')) (w : World) : Calls Try.prog 94 #[ros x] w fun e w' => e = .returned (.int .i64 3) ∧ Below w.heap.size w w' := by
  have HB := Lib.hid (Below.refl w.heap.size w)
  have g1 : decide (1 < c) = false := by simp; omega
  have g2 : (c == 1) = false := by rw [beq_eq_false_iff_ne]; omega
  have tok0 : True := trivial
  have tp0 : True := trivial
  go_enter Try.func94, Try.ntmps94
  go_wp2_with (first
    | (go_skip)
    | (refine rosBox (.tmp 0) rfl rfl HL.out rfl ?_; intro w1 hk hb1 hz1; replace HB := Lib.hid (below_ext HB.out hb1); have K1 := Lib.hid hk; clear hk hb1)
    | (refine rosLoad (.tmp 1) rfl K1.out rfl rfl ?_)
    | (have _t := tp0; go_at_call 68; refine (H.out _).mono ?_; rintro e w2 ⟨rfl, hb2⟩; replace K1 := Lib.hid (K1.out.below hb2); replace HB := Lib.hid (below_ext HB.out hb2); have hz2 := hb2.size; clear hb2; have tp1 : True := trivial; clear _t tp0)
    | (have _t := tp1; go_at_call 92; refine (M.out _).mono ?_; rintro e w3 ⟨rfl, hb3⟩; replace K1 := Lib.hid (K1.out.below hb3); replace HB := Lib.hid (below_ext HB.out hb3); have hz3 := hb3.size; clear hb3; have tp2 : True := trivial; clear _t tp1)
    | (have _t := tp2; go_at_call 89; refine (Y.out _).mono ?_; rintro e w4 ⟨rfl, hb4⟩; replace K1 := Lib.hid (K1.out.below hb4); replace HB := Lib.hid (below_ext HB.out hb4); have hz4 := hb4.size; clear hb4; have tp3 : True := trivial; clear _t tp2)
    | (refine F.rowCell _ (.tmp 23) rfl K1.out.cgo rfl agg_bool rfl ?_)
    | (refine F.rowCell _ (.tmp 27) rfl K1.out.cgo rfl agg_bool rfl ?_))
  go_ret
  exact ⟨rfl, HB.out⟩
set_option maxRecDepth 100000 in
set_option maxHeartbeats 2000000 in
theorem State_H_ (x : Ro) (HL : Hid (x.st.length = 16)) (k c : Int)  (h : c < 1) (hg : x.go = false)
    (H : Hid (∀ w : World, Calls Try.prog 68 #[ros x] w fun e w' => e = .returned (.tuple #[.int .i64 k, .bool false]) ∧ Below w.heap.size w w'))
    (M : Hid (∀ w : World, Calls Try.prog 92 #[ros x] w fun e w' => e = .returned (.int .i64 c) ∧ Below w.heap.size w w'))
    (Y : Hid (∀ w : World, Calls Try.prog 89 #[ros x] w fun e w' => e = .returned (.bool true) ∧ Below w.heap.size w w')) (w : World) : Calls Try.prog 94 #[ros x] w fun e w' => e = .returned (.int .i64 1) ∧ Below w.heap.size w w' := by
  have HB := Lib.hid (Below.refl w.heap.size w)
  have g1 : decide (1 < c) = false := by simp; omega
  have g2 : (c == 1) = false := by rw [beq_eq_false_iff_ne]; omega
  have tok0 : True := trivial
  have tp0 : True := trivial
  go_enter Try.func94, Try.ntmps94
  go_wp2_with (first
    | (go_skip)
    | (refine rosBox (.tmp 0) rfl rfl HL.out rfl ?_; intro w1 hk hb1 hz1; replace HB := Lib.hid (below_ext HB.out hb1); have K1 := Lib.hid hk; clear hk hb1)
    | (refine rosLoad (.tmp 1) rfl K1.out rfl rfl ?_)
    | (have _t := tp0; go_at_call 68; refine (H.out _).mono ?_; rintro e w2 ⟨rfl, hb2⟩; replace K1 := Lib.hid (K1.out.below hb2); replace HB := Lib.hid (below_ext HB.out hb2); have hz2 := hb2.size; clear hb2; have tp1 : True := trivial; clear _t tp0)
    | (have _t := tp1; go_at_call 92; refine (M.out _).mono ?_; rintro e w3 ⟨rfl, hb3⟩; replace K1 := Lib.hid (K1.out.below hb3); replace HB := Lib.hid (below_ext HB.out hb3); have hz3 := hb3.size; clear hb3; have tp2 : True := trivial; clear _t tp1)
    | (have _t := tp2; go_at_call 89; refine (Y.out _).mono ?_; rintro e w4 ⟨rfl, hb4⟩; replace K1 := Lib.hid (K1.out.below hb4); replace HB := Lib.hid (below_ext HB.out hb4); have hz4 := hb4.size; clear hb4; have tp3 : True := trivial; clear _t tp2)
    | (refine F.rowCell _ (.tmp 23) rfl K1.out.cgo rfl agg_bool rfl ?_)
    | (refine F.rowCell _ (.tmp 27) rfl K1.out.cgo rfl agg_bool rfl ?_))
  go_ret
  exact ⟨rfl, HB.out⟩
set_option maxRecDepth 100000 in
set_option maxHeartbeats 2000000 in
theorem New_A (m s r : Int) (P : Hid (∀ w : World, Calls Try.prog 126 #[geo m s r] w fun e w' => e = .returned (.bool false) ∧ Below w.heap.size w w')) (w : World) : Calls Try.prog 65 #[geo m s r] w fun e w' => e = .returned (.tuple #[ros ro0, .int .i64 2]) ∧ Below w.heap.size w w' := by
  have HB := Lib.hid (Below.refl w.heap.size w)
  unfold geo
  have tok0 : True := trivial
  have tp0 : True := trivial
  go_enter Try.func65, Try.ntmps65
  go_wp2_with (first
    | (go_skip)
    | (refine F.rowBox 68 (.tmp 0) rfl rfl rfl ?_; intro w1 hk hb1 hz1; replace HB := Lib.hid (below_ext HB.out hb1); have K1 := Lib.hid hk; clear hk hb1)
    | (have _t := tok0; refine rosAlloc rfl rfl ?_; intro w2 hk hb2 hz2; replace K1 := Lib.hid (K1.out.below hb2); replace HB := Lib.hid (below_ext HB.out hb2); have K2 := Lib.hid hk; clear hk hb2; have tok1 : True := trivial; clear _t tok0)
    | (refine F.rowLoad 68 (.tmp 1) rfl K1.out rfl Try.underlying68 rfl info_geo rfl ?_)
    | (have _t := tp0; go_at_call 126; refine (P.out _).mono ?_; rintro e w3 ⟨rfl, hb3⟩; replace K1 := Lib.hid (K1.out.below hb3); replace K2 := Lib.hid (K2.out.below hb3); replace HB := Lib.hid (below_ext HB.out hb3); have hz3 := hb3.size; clear hb3; have tp1 : True := trivial; clear _t tp0)
    | (refine rosBuild0 rfl rfl ?_)
    | (refine rosStore (.tmp 2) (.tmp 7) rfl K2.out rfl rfl zero16_length rfl ?_; intro w4 hk hg; replace HB := Lib.hid (below_at HB.out hg (by omega) K2.out.lt); replace K1 := Lib.hid (K1.out.grown hg (by omega)); replace K2 := Lib.hid hk; have hz4 := hg.size; clear hk hg))
  exact bodyPost_ret (v := .tuple #[ros ro0, .int .i64 2]) (ret_ros rfl _ _ K2.out rfl rfl) rfl ⟨rfl, HB.out⟩
set_option maxRecDepth 100000 in
set_option maxHeartbeats 2000000 in
theorem New_B (m s r : Int) (P : Hid (∀ w : World, Calls Try.prog 126 #[geo m s r] w fun e w' => e = .returned (.bool true) ∧ Below w.heap.size w w')) (w : World) : Calls Try.prog 65 #[geo m s r] w fun e w' => e = .returned (.tuple #[ros { ro0 with m := m, s := s, r := r }, .int .i64 0]) ∧ Below w.heap.size w w' := by
  have HB := Lib.hid (Below.refl w.heap.size w)
  unfold geo
  have tok0 : True := trivial
  have tp0 : True := trivial
  go_enter Try.func65, Try.ntmps65
  go_wp2_with (first
    | (go_skip)
    | (refine F.rowBox 68 (.tmp 0) rfl rfl rfl ?_; intro w1 hk hb1 hz1; replace HB := Lib.hid (below_ext HB.out hb1); have K1 := Lib.hid hk; clear hk hb1)
    | (have _t := tok0; refine rosAlloc rfl rfl ?_; intro w2 hk hb2 hz2; replace K1 := Lib.hid (K1.out.below hb2); replace HB := Lib.hid (below_ext HB.out hb2); have K2 := Lib.hid hk; clear hk hb2; have tok1 : True := trivial; clear _t tok0)
    | (refine F.rowLoad 68 (.tmp 1) rfl K1.out rfl Try.underlying68 rfl info_geo rfl ?_)
    | (have _t := tp0; go_at_call 126; refine (P.out _).mono ?_; rintro e w3 ⟨rfl, hb3⟩; replace K1 := Lib.hid (K1.out.below hb3); replace K2 := Lib.hid (K2.out.below hb3); replace HB := Lib.hid (below_ext HB.out hb3); have hz3 := hb3.size; clear hb3; have tp1 : True := trivial; clear _t tp0)
    | (refine rosBuildG (.tmp 8) rfl rfl rfl ?_)
    | (refine rosStore (.tmp 2) (.tmp 9) rfl K2.out rfl rfl zero16_length rfl ?_; intro w4 hk hg; replace HB := Lib.hid (below_at HB.out hg (by omega) K2.out.lt); replace K1 := Lib.hid (K1.out.grown hg (by omega)); replace K2 := Lib.hid hk; have hz4 := hg.size; clear hk hg))
  exact bodyPost_ret (v := .tuple #[ros { ro0 with m := m, s := s, r := r }, .int .i64 0]) (ret_ros rfl _ _ K2.out rfl rfl) rfl ⟨rfl, HB.out⟩
end Go.Proofs.Ytdchcggllcgokaa.Q

namespace Go.Proofs.Ytdchcggllcgokaa.Q
open Go.RowKit Go.Proofs.Ytdchcggllcgokaa.L Go.Proofs.Ytdchcggllcgokaa.R Go.Proofs.YtdchcggllcgokaaW.PrintWords
set_option linter.unusedVariables false
set_option linter.unusedSimpArgs false
set_option maxRecDepth 100000 in
set_option maxHeartbeats 2000000 in
theorem rmem_A (x : Ro) (HL : Hid (x.st.length = 16)) (i : Int) (h1 : i < 0)
     (w : World) : Calls Try.prog 134 #[ros x, .int .i64 i] w fun e w' => e = .returned (.bool false) ∧ Below w.heap.size w w' := by
  have HB := Lib.hid (Below.refl w.heap.size w)
  have g1 : decide (0 ≤ i) = false := by simp; omega
  have tok0 : True := trivial
  have tp0 : True := trivial
  go_enter Try.func134, Try.ntmps134
  go_wp2_with (first
    | (go_skip)
    | (refine rosBox (.tmp 0) rfl rfl HL.out rfl ?_; intro w1 hk hb1 hz1; replace HB := Lib.hid (below_ext HB.out hb1); have K2 := Lib.hid hk; clear hk hb1)
    | (refine F.rowCell _ (.tmp 10) rfl K2.out.cm rfl agg_int rfl ?_))
  go_ret
  exact ⟨rfl, HB.out⟩
set_option maxRecDepth 100000 in
set_option maxHeartbeats 2000000 in
theorem rmem_B (x : Ro) (HL : Hid (x.st.length = 16)) (i : Int) (h1 : 0 ≤ i) (b : Bool) (hb : decide (i < x.m) = b)
     (w : World) : Calls Try.prog 134 #[ros x, .int .i64 i] w fun e w' => e = .returned (.bool b) ∧ Below w.heap.size w w' := by
  have HB := Lib.hid (Below.refl w.heap.size w)
  have g1 : decide (0 ≤ i) = true := by simpa using h1
  have tok0 : True := trivial
  have tp0 : True := trivial
  go_enter Try.func134, Try.ntmps134
  go_wp2_with (first
    | (go_skip)
    | (refine rosBox (.tmp 0) rfl rfl HL.out rfl ?_; intro w1 hk hb1 hz1; replace HB := Lib.hid (below_ext HB.out hb1); have K2 := Lib.hid hk; clear hk hb1)
    | (refine F.rowCell _ (.tmp 10) rfl K2.out.cm rfl agg_int rfl ?_))
  go_ret
  exact ⟨rfl, HB.out⟩
def isM (x : Ro) (i : Int) : Bool := decide (0 ≤ i ∧ i < x.m)
theorem rmember_any (x : Ro) (hl : x.st.length = 16) (i : Int) (w : World) : Calls Try.prog 134 #[ros x, .int .i64 i] w fun e w' => e = .returned (.bool (isM x i)) ∧ Below w.heap.size w w' := by
  by_cases h1 : i < 0
  · rw [show isM x i = false by rw [isM, decide_eq_false_iff_not]; omega]
    exact rmem_A x (Lib.hid hl) i h1 w
  · exact rmem_B x (Lib.hid hl) i (by omega) _ (by rw [isM, Bool.eq_iff_iff, decide_eq_true_eq, decide_eq_true_eq]; omega) w
set_option maxRecDepth 100000 in
set_option maxHeartbeats 2000000 in
theorem rGone_A (x : Ro) (HL : Hid (x.st.length = 16)) (b : Bool) 
    (Y : Hid (∀ w : World, Calls Try.prog 90 #[ros x] w fun e w' => e = .returned (.bool false) ∧ Below w.heap.size w w')) (w : World) : Calls Try.prog 101 #[ros x, .bool b] w fun e w' => e = .returned (.tuple #[ros ro0, .int .i64 2]) ∧ Below w.heap.size w w' := by
  have HB := Lib.hid (Below.refl w.heap.size w)
  have tok0 : True := trivial
  have tp0 : True := trivial
  go_enter Try.func101, Try.ntmps101
  go_wp2_with (first
    | (go_skip)
    | (refine rosBox (.tmp 0) rfl rfl HL.out rfl ?_; intro w1 hk hb1 hz1; replace HB := Lib.hid (below_ext HB.out hb1); have K2 := Lib.hid hk; clear hk hb1)
    | (have _t := tok0; refine rosAlloc rfl rfl ?_; intro w2 hk hb2 hz2; replace K2 := Lib.hid (K2.out.below hb2); replace HB := Lib.hid (below_ext HB.out hb2); have K4 := Lib.hid hk; clear hk hb2; have tok1 : True := trivial; clear _t tok0)
    | (refine rosLoad (.tmp 2) rfl K2.out rfl rfl ?_)
    | (have _t := tp0; go_at_call 90; refine (Y.out _).mono ?_; rintro e w3 ⟨rfl, hb3⟩; replace K2 := Lib.hid (K2.out.below hb3); replace K4 := Lib.hid (K4.out.below hb3); replace HB := Lib.hid (below_ext HB.out hb3); have hz3 := hb3.size; clear hb3; have tp1 : True := trivial; clear _t tp0)
    | (refine rosBuild0 rfl rfl ?_)
    | (refine rosStore (.tmp 4) (.tmp 9) rfl K4.out rfl rfl zero16_length rfl ?_; intro w4 hk hg; replace HB := Lib.hid (below_at HB.out hg (by omega) K4.out.lt); replace K2 := Lib.hid (K2.out.grown hg (by omega)); replace K4 := Lib.hid hk; have hz4 := hg.size; clear hk hg))
  exact bodyPost_ret (v := .tuple #[ros ro0, .int .i64 2]) (ret_ros rfl _ _ K4.out rfl rfl) rfl ⟨rfl, HB.out⟩
set_option maxRecDepth 100000 in
set_option maxHeartbeats 2000000 in
theorem rGone_B (x : Ro) (HL : Hid (x.st.length = 16)) (b : Bool) 
    (Y : Hid (∀ w : World, Calls Try.prog 90 #[ros x] w fun e w' => e = .returned (.bool true) ∧ Below w.heap.size w w')) (w : World) : Calls Try.prog 101 #[ros x, .bool b] w fun e w' => e = .returned (.tuple #[ros { x with go := b }, .int .i64 0]) ∧ Below w.heap.size w w' := by
  have HB := Lib.hid (Below.refl w.heap.size w)
  have tok0 : True := trivial
  have tp0 : True := trivial
  go_enter Try.func101, Try.ntmps101
  go_wp2_with (first
    | (go_skip)
    | (refine rosBox (.tmp 0) rfl rfl HL.out rfl ?_; intro w1 hk hb1 hz1; replace HB := Lib.hid (below_ext HB.out hb1); have K2 := Lib.hid hk; clear hk hb1)
    | (have _t := tok0; refine rosAlloc rfl rfl ?_; intro w2 hk hb2 hz2; replace K2 := Lib.hid (K2.out.below hb2); replace HB := Lib.hid (below_ext HB.out hb2); have K4 := Lib.hid hk; clear hk hb2; have tok1 : True := trivial; clear _t tok0)
    | (refine rosLoad (.tmp 2) rfl K2.out rfl rfl ?_)
    | (have _t := tp0; go_at_call 90; refine (Y.out _).mono ?_; rintro e w3 ⟨rfl, hb3⟩; replace K2 := Lib.hid (K2.out.below hb3); replace K4 := Lib.hid (K4.out.below hb3); replace HB := Lib.hid (below_ext HB.out hb3); have hz3 := hb3.size; clear hb3; have tp1 : True := trivial; clear _t tp0)
    | (refine rosSetGo (.tmp 11) (.tmp 10) rfl K2.out rfl _ rfl rfl ?_; intro w4 hk hg; replace HB := Lib.hid (below_at HB.out hg (by omega) K2.out.lt); replace K4 := Lib.hid (K4.out.grown hg (by omega)); replace K2 := Lib.hid hk; have hz4 := hg.size; clear hk hg)
    | (refine rosStore (.tmp 4) (.tmp 12) rfl K4.out rfl rfl HL.out rfl ?_; intro w5 hk hg; replace HB := Lib.hid (below_at HB.out hg (by omega) K4.out.lt); replace K2 := Lib.hid (K2.out.grown hg (by omega)); replace K4 := Lib.hid hk; have hz5 := hg.size; clear hk hg))
  exact bodyPost_ret (v := .tuple #[ros { x with go := b }, .int .i64 0]) (ret_ros rfl _ _ K4.out rfl rfl) rfl ⟨rfl, HB.out⟩
set_option maxRecDepth 100000 in
set_option maxHeartbeats 2000000 in
theorem rHas_A (x : Ro) (HL : Hid (x.st.length = 16)) (i j : Int) 
    (Y : Hid (∀ w : World, Calls Try.prog 90 #[ros x] w fun e w' => e = .returned (.bool false) ∧ Below w.heap.size w w')) (w : World) : Calls Try.prog 91 #[ros x, .int .i64 i, .int .i64 j] w fun e w' => e = .returned (.bool false) ∧ Below w.heap.size w w' := by
  have HB := Lib.hid (Below.refl w.heap.size w)
  have tok0 : True := trivial
  have tp0 : True := trivial
  go_enter Try.func91, Try.ntmps91
  go_wp2_with (first
    | (go_skip)
    | (refine rosBox (.tmp 0) rfl rfl HL.out rfl ?_; intro w1 hk hb1 hz1; replace HB := Lib.hid (below_ext HB.out hb1); have K3 := Lib.hid hk; clear hk hb1)
    | (refine rosLoad (.tmp 3) rfl K3.out rfl rfl ?_)
    | (have _t := tp0; go_at_call 90; refine (Y.out _).mono ?_; rintro e w2 ⟨rfl, hb2⟩; replace K3 := Lib.hid (K3.out.below hb2); replace HB := Lib.hid (below_ext HB.out hb2); have hz2 := hb2.size; clear hb2; have tp1 : True := trivial; clear _t tp0)
    | (have _t := tp1; go_at_call 134; refine (trivial).mono ?_; rintro e w3 ⟨rfl, hb3⟩; replace K3 := Lib.hid (K3.out.below hb3); replace HB := Lib.hid (below_ext HB.out hb3); have hz3 := hb3.size; clear hb3; have tp2 : True := trivial; clear _t tp1)
    | (refine F.rowCell _ (.tmp 23) rfl K3.out.cs rfl agg_int rfl ?_))
  go_ret
  exact ⟨rfl, HB.out⟩
set_option maxRecDepth 100000 in
set_option maxHeartbeats 2000000 in
theorem rHas_B (x : Ro) (HL : Hid (x.st.length = 16)) (i j : Int) 
    (Y : Hid (∀ w : World, Calls Try.prog 90 #[ros x] w fun e w' => e = .returned (.bool true) ∧ Below w.heap.size w w'))
    (P : Hid (∀ w : World, Calls Try.prog 134 #[ros x, .int .i64 i] w fun e w' => e = .returned (.bool false) ∧ Below w.heap.size w w')) (w : World) : Calls Try.prog 91 #[ros x, .int .i64 i, .int .i64 j] w fun e w' => e = .returned (.bool false) ∧ Below w.heap.size w w' := by
  have HB := Lib.hid (Below.refl w.heap.size w)
  have tok0 : True := trivial
  have tp0 : True := trivial
  go_enter Try.func91, Try.ntmps91
  go_wp2_with (first
    | (go_skip)
    | (refine rosBox (.tmp 0) rfl rfl HL.out rfl ?_; intro w1 hk hb1 hz1; replace HB := Lib.hid (below_ext HB.out hb1); have K3 := Lib.hid hk; clear hk hb1)
    | (refine rosLoad (.tmp 3) rfl K3.out rfl rfl ?_)
    | (have _t := tp0; go_at_call 90; refine (Y.out _).mono ?_; rintro e w2 ⟨rfl, hb2⟩; replace K3 := Lib.hid (K3.out.below hb2); replace HB := Lib.hid (below_ext HB.out hb2); have hz2 := hb2.size; clear hb2; have tp1 : True := trivial; clear _t tp0)
    | (have _t := tp1; go_at_call 134; refine (P.out _).mono ?_; rintro e w3 ⟨rfl, hb3⟩; replace K3 := Lib.hid (K3.out.below hb3); replace HB := Lib.hid (below_ext HB.out hb3); have hz3 := hb3.size; clear hb3; have tp2 : True := trivial; clear _t tp1)
    | (refine F.rowCell _ (.tmp 23) rfl K3.out.cs rfl agg_int rfl ?_))
  go_ret
  exact ⟨rfl, HB.out⟩
set_option maxRecDepth 100000 in
set_option maxHeartbeats 2000000 in
theorem rHas_C (x : Ro) (HL : Hid (x.st.length = 16)) (i j : Int) (h1 : j < 0)
    (Y : Hid (∀ w : World, Calls Try.prog 90 #[ros x] w fun e w' => e = .returned (.bool true) ∧ Below w.heap.size w w'))
    (P : Hid (∀ w : World, Calls Try.prog 134 #[ros x, .int .i64 i] w fun e w' => e = .returned (.bool true) ∧ Below w.heap.size w w')) (w : World) : Calls Try.prog 91 #[ros x, .int .i64 i, .int .i64 j] w fun e w' => e = .returned (.bool false) ∧ Below w.heap.size w w' := by
  have HB := Lib.hid (Below.refl w.heap.size w)
  have g1 : decide (j < 0) = true := by simp; omega
  have tok0 : True := trivial
  have tp0 : True := trivial
  go_enter Try.func91, Try.ntmps91
  go_wp2_with (first
    | (go_skip)
    | (refine rosBox (.tmp 0) rfl rfl HL.out rfl ?_; intro w1 hk hb1 hz1; replace HB := Lib.hid (below_ext HB.out hb1); have K3 := Lib.hid hk; clear hk hb1)
    | (refine rosLoad (.tmp 3) rfl K3.out rfl rfl ?_)
    | (have _t := tp0; go_at_call 90; refine (Y.out _).mono ?_; rintro e w2 ⟨rfl, hb2⟩; replace K3 := Lib.hid (K3.out.below hb2); replace HB := Lib.hid (below_ext HB.out hb2); have hz2 := hb2.size; clear hb2; have tp1 : True := trivial; clear _t tp0)
    | (have _t := tp1; go_at_call 134; refine (P.out _).mono ?_; rintro e w3 ⟨rfl, hb3⟩; replace K3 := Lib.hid (K3.out.below hb3); replace HB := Lib.hid (below_ext HB.out hb3); have hz3 := hb3.size; clear hb3; have tp2 : True := trivial; clear _t tp1)
    | (refine F.rowCell _ (.tmp 23) rfl K3.out.cs rfl agg_int rfl ?_))
  go_ret
  exact ⟨rfl, HB.out⟩
set_option maxRecDepth 100000 in
set_option maxHeartbeats 2000000 in
theorem rHas_D (x : Ro) (HL : Hid (x.st.length = 16)) (i j : Int) (h1 : 0 ≤ j) (h2 : x.s ≤ j)
    (Y : Hid (∀ w : World, Calls Try.prog 90 #[ros x] w fun e w' => e = .returned (.bool true) ∧ Below w.heap.size w w'))
    (P : Hid (∀ w : World, Calls Try.prog 134 #[ros x, .int .i64 i] w fun e w' => e = .returned (.bool true) ∧ Below w.heap.size w w')) (w : World) : Calls Try.prog 91 #[ros x, .int .i64 i, .int .i64 j] w fun e w' => e = .returned (.bool false) ∧ Below w.heap.size w w' := by
  have HB := Lib.hid (Below.refl w.heap.size w)
  have g1 : decide (j < 0) = false := by simp; omega
  have g2 : decide (x.s ≤ j) = true := by simp; omega
  have tok0 : True := trivial
  have tp0 : True := trivial
  go_enter Try.func91, Try.ntmps91
  go_wp2_with (first
    | (go_skip)
    | (refine rosBox (.tmp 0) rfl rfl HL.out rfl ?_; intro w1 hk hb1 hz1; replace HB := Lib.hid (below_ext HB.out hb1); have K3 := Lib.hid hk; clear hk hb1)
    | (refine rosLoad (.tmp 3) rfl K3.out rfl rfl ?_)
    | (have _t := tp0; go_at_call 90; refine (Y.out _).mono ?_; rintro e w2 ⟨rfl, hb2⟩; replace K3 := Lib.hid (K3.out.below hb2); replace HB := Lib.hid (below_ext HB.out hb2); have hz2 := hb2.size; clear hb2; have tp1 : True := trivial; clear _t tp0)
    | (have _t := tp1; go_at_call 134; refine (P.out _).mono ?_; rintro e w3 ⟨rfl, hb3⟩; replace K3 := Lib.hid (K3.out.below hb3); replace HB := Lib.hid (below_ext HB.out hb3); have hz3 := hb3.size; clear hb3; have tp2 : True := trivial; clear _t tp1)
    | (refine F.rowCell _ (.tmp 23) rfl K3.out.cs rfl agg_int rfl ?_))
  go_ret
  exact ⟨rfl, HB.out⟩
set_option maxRecDepth 100000 in
set_option maxHeartbeats 2000000 in
theorem rHas_E (x : Ro) (HL : Hid (x.st.length = 16)) (i : Nat) (j : Int) (hi : i < 16) (h1 : 0 ≤ j) (h2 : j < x.s) (h3 : (rd x.st (i : Int) == 0) = true)
    (Y : Hid (∀ w : World, Calls Try.prog 90 #[ros x] w fun e w' => e = .returned (.bool true) ∧ Below w.heap.size w w'))
    (P : Hid (∀ w : World, Calls Try.prog 134 #[ros x, .int .i64 (i : Int)] w fun e w' => e = .returned (.bool true) ∧ Below w.heap.size w w')) (w : World) : Calls Try.prog 91 #[ros x, .int .i64 (i : Int), .int .i64 j] w fun e w' => e = .returned (.bool true) ∧ Below w.heap.size w w' := by
  have HB := Lib.hid (Below.refl w.heap.size w)
  have g1 : decide (j < 0) = false := by simp; omega
  have g2 : decide (x.s ≤ j) = false := by simp; omega
  have hi0 : (0 : Int) ≤ (i : Int) := by omega
  have hi16 : (i : Int) < 16 := by omega
  have tok0 : True := trivial
  have tp0 : True := trivial
  go_enter Try.func91, Try.ntmps91
  go_wp2_with (first
    | (go_skip)
    | (refine rosBox (.tmp 0) rfl rfl HL.out rfl ?_; intro w1 hk hb1 hz1; replace HB := Lib.hid (below_ext HB.out hb1); have K3 := Lib.hid hk; clear hk hb1)
    | (refine rosLoad (.tmp 3) rfl K3.out rfl rfl ?_)
    | (have _t := tp0; go_at_call 90; refine (Y.out _).mono ?_; rintro e w2 ⟨rfl, hb2⟩; replace K3 := Lib.hid (K3.out.below hb2); replace HB := Lib.hid (below_ext HB.out hb2); have hz2 := hb2.size; clear hb2; have tp1 : True := trivial; clear _t tp0)
    | (have _t := tp1; go_at_call 134; refine (P.out _).mono ?_; rintro e w3 ⟨rfl, hb3⟩; replace K3 := Lib.hid (K3.out.below hb3); replace HB := Lib.hid (below_ext HB.out hb3); have hz3 := hb3.size; clear hb3; have tp2 : True := trivial; clear _t tp1)
    | (refine F.rowCell _ (.tmp 23) rfl K3.out.cs rfl agg_int rfl ?_)
    | (refine F.rowCell _ (.tmp 29) rfl (K3.out.ci i hi) rfl R.agg_u8 rfl ?_)
    | (refine F.rowCell _ (.tmp 35) rfl (K3.out.ci i hi) rfl R.agg_u8 rfl ?_)
    | (refine F.rowCell _ (.tmp 40) rfl K3.out.ccu rfl agg_int rfl ?_))
  go_ret
  exact ⟨rfl, HB.out⟩
set_option maxRecDepth 100000 in
set_option maxHeartbeats 2000000 in
theorem rHas_F (x : Ro) (HL : Hid (x.st.length = 16)) (i : Nat) (j : Int) (hi : i < 16) (h1 : 0 ≤ j) (h2 : j < x.s) (h3 : (rd x.st (i : Int) == 0) = false) (h4 : (rd x.st (i : Int) == 2) = true) (b : Bool) (hb : decide (j < x.cu) = b)
    (Y : Hid (∀ w : World, Calls Try.prog 90 #[ros x] w fun e w' => e = .returned (.bool true) ∧ Below w.heap.size w w'))
    (P : Hid (∀ w : World, Calls Try.prog 134 #[ros x, .int .i64 (i : Int)] w fun e w' => e = .returned (.bool true) ∧ Below w.heap.size w w')) (w : World) : Calls Try.prog 91 #[ros x, .int .i64 (i : Int), .int .i64 j] w fun e w' => e = .returned (.bool b) ∧ Below w.heap.size w w' := by
  have HB := Lib.hid (Below.refl w.heap.size w)
  have g1 : decide (j < 0) = false := by simp; omega
  have g2 : decide (x.s ≤ j) = false := by simp; omega
  have hi0 : (0 : Int) ≤ (i : Int) := by omega
  have hi16 : (i : Int) < 16 := by omega
  have tok0 : True := trivial
  have tp0 : True := trivial
  go_enter Try.func91, Try.ntmps91
  go_wp2_with (first
    | (go_skip)
    | (refine rosBox (.tmp 0) rfl rfl HL.out rfl ?_; intro w1 hk hb1 hz1; replace HB := Lib.hid (below_ext HB.out hb1); have K3 := Lib.hid hk; clear hk hb1)
    | (refine rosLoad (.tmp 3) rfl K3.out rfl rfl ?_)
    | (have _t := tp0; go_at_call 90; refine (Y.out _).mono ?_; rintro e w2 ⟨rfl, hb2⟩; replace K3 := Lib.hid (K3.out.below hb2); replace HB := Lib.hid (below_ext HB.out hb2); have hz2 := hb2.size; clear hb2; have tp1 : True := trivial; clear _t tp0)
    | (have _t := tp1; go_at_call 134; refine (P.out _).mono ?_; rintro e w3 ⟨rfl, hb3⟩; replace K3 := Lib.hid (K3.out.below hb3); replace HB := Lib.hid (below_ext HB.out hb3); have hz3 := hb3.size; clear hb3; have tp2 : True := trivial; clear _t tp1)
    | (refine F.rowCell _ (.tmp 23) rfl K3.out.cs rfl agg_int rfl ?_)
    | (refine F.rowCell _ (.tmp 29) rfl (K3.out.ci i hi) rfl R.agg_u8 rfl ?_)
    | (refine F.rowCell _ (.tmp 35) rfl (K3.out.ci i hi) rfl R.agg_u8 rfl ?_)
    | (refine F.rowCell _ (.tmp 40) rfl K3.out.ccu rfl agg_int rfl ?_))
  go_ret
  exact ⟨rfl, HB.out⟩
set_option maxRecDepth 100000 in
set_option maxHeartbeats 2000000 in
theorem rHas_G (x : Ro) (HL : Hid (x.st.length = 16)) (i : Nat) (j : Int) (hi : i < 16) (h1 : 0 ≤ j) (h2 : j < x.s) (h3 : (rd x.st (i : Int) == 0) = false) (h4 : (rd x.st (i : Int) == 2) = false)
    (Y : Hid (∀ w : World, Calls Try.prog 90 #[ros x] w fun e w' => e = .returned (.bool true) ∧ Below w.heap.size w w'))
    (P : Hid (∀ w : World, Calls Try.prog 134 #[ros x, .int .i64 (i : Int)] w fun e w' => e = .returned (.bool true) ∧ Below w.heap.size w w')) (w : World) : Calls Try.prog 91 #[ros x, .int .i64 (i : Int), .int .i64 j] w fun e w' => e = .returned (.bool false) ∧ Below w.heap.size w w' := by
  have HB := Lib.hid (Below.refl w.heap.size w)
  have g1 : decide (j < 0) = false := by simp; omega
  have g2 : decide (x.s ≤ j) = false := by simp; omega
  have hi0 : (0 : Int) ≤ (i : Int) := by omega
  have hi16 : (i : Int) < 16 := by omega
  have tok0 : True := trivial
  have tp0 : True := trivial
  go_enter Try.func91, Try.ntmps91
  go_wp2_with (first
    | (go_skip)
    | (refine rosBox (.tmp 0) rfl rfl HL.out rfl ?_; intro w1 hk hb1 hz1; replace HB := Lib.hid (below_ext HB.out hb1); have K3 := Lib.hid hk; clear hk hb1)
    | (refine rosLoad (.tmp 3) rfl K3.out rfl rfl ?_)
    | (have _t := tp0; go_at_call 90; refine (Y.out _).mono ?_; rintro e w2 ⟨rfl, hb2⟩; replace K3 := Lib.hid (K3.out.below hb2); replace HB := Lib.hid (below_ext HB.out hb2); have hz2 := hb2.size; clear hb2; have tp1 : True := trivial; clear _t tp0)
    | (have _t := tp1; go_at_call 134; refine (P.out _).mono ?_; rintro e w3 ⟨rfl, hb3⟩; replace K3 := Lib.hid (K3.out.below hb3); replace HB := Lib.hid (below_ext HB.out hb3); have hz3 := hb3.size; clear hb3; have tp2 : True := trivial; clear _t tp1)
    | (refine F.rowCell _ (.tmp 23) rfl K3.out.cs rfl agg_int rfl ?_)
    | (refine F.rowCell _ (.tmp 29) rfl (K3.out.ci i hi) rfl R.agg_u8 rfl ?_)
    | (refine F.rowCell _ (.tmp 35) rfl (K3.out.ci i hi) rfl R.agg_u8 rfl ?_)
    | (refine F.rowCell _ (.tmp 40) rfl K3.out.ccu rfl agg_int rfl ?_))
  go_ret
  exact ⟨rfl, HB.out⟩
set_option maxRecDepth 100000 in
set_option maxHeartbeats 2000000 in
theorem rLose_A (x : Ro) (HL : Hid (x.st.length = 16)) (i : Int) 
    (Y : Hid (∀ w : World, Calls Try.prog 90 #[ros x] w fun e w' => e = .returned (.bool false) ∧ Below w.heap.size w w')) (w : World) : Calls Try.prog 97 #[ros x, .int .i64 i] w fun e w' => e = .returned (.tuple #[ros x, .bool false]) ∧ Below w.heap.size w w' := by
  have HB := Lib.hid (Below.refl w.heap.size w)
  have tok0 : True := trivial
  have tp0 : True := trivial
  go_enter Try.func97, Try.ntmps97
  go_wp2_with (first
    | (go_skip)
    | (refine rosBox (.tmp 0) rfl rfl HL.out rfl ?_; intro w1 hk hb1 hz1; replace HB := Lib.hid (below_ext HB.out hb1); have K2 := Lib.hid hk; clear hk hb1)
    | (have _t := tok0; refine rosAlloc rfl rfl ?_; intro w2 hk hb2 hz2; replace K2 := Lib.hid (K2.out.below hb2); replace HB := Lib.hid (below_ext HB.out hb2); have K4 := Lib.hid hk; clear hk hb2; have tok1 : True := trivial; clear _t tok0)
    | (refine rosLoad (.tmp 2) rfl K2.out rfl rfl ?_)
    | (have _t := tp0; go_at_call 90; refine (Y.out _).mono ?_; rintro e w3 ⟨rfl, hb3⟩; replace K2 := Lib.hid (K2.out.below hb3); replace K4 := Lib.hid (K4.out.below hb3); replace HB := Lib.hid (below_ext HB.out hb3); have hz3 := hb3.size; clear hb3; have tp1 : True := trivial; clear _t tp0)
    | (have _t := tp1; go_at_call 134; refine (trivial).mono ?_; rintro e w4 ⟨rfl, hb4⟩; replace K2 := Lib.hid (K2.out.below hb4); replace K4 := Lib.hid (K4.out.below hb4); replace HB := Lib.hid (below_ext HB.out hb4); have hz4 := hb4.size; clear hb4; have tp2 : True := trivial; clear _t tp1)
    | (refine F.rowCell _ (.tmp 18) rfl (K2.out.ci _ _) rfl R.agg_u8 rfl ?_)
    | (refine rosStore (.tmp 4) (.tmp 22) rfl K4.out rfl rfl HL.out rfl ?_; intro w5 hk hg; replace HB := Lib.hid (below_at HB.out hg (by omega) K4.out.lt); replace K2 := Lib.hid (K2.out.grown hg (by omega)); replace K4 := Lib.hid hk; have hz5 := hg.size; clear hk hg))
  exact bodyPost_ret (v := .tuple #[ros x, .bool false]) (ret_ros rfl _ _ K4.out rfl rfl) rfl ⟨rfl, HB.out⟩
set_option maxRecDepth 100000 in
set_option maxHeartbeats 2000000 in
theorem rLose_B (x : Ro) (HL : Hid (x.st.length = 16)) (i : Int) 
    (Y : Hid (∀ w : World, Calls Try.prog 90 #[ros x] w fun e w' => e = .returned (.bool true) ∧ Below w.heap.size w w'))
    (P : Hid (∀ w : World, Calls Try.prog 134 #[ros x, .int .i64 i] w fun e w' => e = .returned (.bool false) ∧ Below w.heap.size w w')) (w : World) : Calls Try.prog 97 #[ros x, .int .i64 i] w fun e w' => e = .returned (.tuple #[ros x, .bool false]) ∧ Below w.heap.size w w' := by
  have HB := Lib.hid (Below.refl w.heap.size w)
  have tok0 : True := trivial
  have tp0 : True := trivial
  go_enter Try.func97, Try.ntmps97
  go_wp2_with (first
    | (go_skip)
    | (refine rosBox (.tmp 0) rfl rfl HL.out rfl ?_; intro w1 hk hb1 hz1; replace HB := Lib.hid (below_ext HB.out hb1); have K2 := Lib.hid hk; clear hk hb1)
    | (have _t := tok0; refine rosAlloc rfl rfl ?_; intro w2 hk hb2 hz2; replace K2 := Lib.hid (K2.out.below hb2); replace HB := Lib.hid (below_ext HB.out hb2); have K4 := Lib.hid hk; clear hk hb2; have tok1 : True := trivial; clear _t tok0)
    | (refine rosLoad (.tmp 2) rfl K2.out rfl rfl ?_)
    | (have _t := tp0; go_at_call 90; refine (Y.out _).mono ?_; rintro e w3 ⟨rfl, hb3⟩; replace K2 := Lib.hid (K2.out.below hb3); replace K4 := Lib.hid (K4.out.below hb3); replace HB := Lib.hid (below_ext HB.out hb3); have hz3 := hb3.size; clear hb3; have tp1 : True := trivial; clear _t tp0)
    | (have _t := tp1; go_at_call 134; refine (P.out _).mono ?_; rintro e w4 ⟨rfl, hb4⟩; replace K2 := Lib.hid (K2.out.below hb4); replace K4 := Lib.hid (K4.out.below hb4); replace HB := Lib.hid (below_ext HB.out hb4); have hz4 := hb4.size; clear hb4; have tp2 : True := trivial; clear _t tp1)
    | (refine F.rowCell _ (.tmp 18) rfl (K2.out.ci _ _) rfl R.agg_u8 rfl ?_)
    | (refine rosStore (.tmp 4) (.tmp 22) rfl K4.out rfl rfl HL.out rfl ?_; intro w5 hk hg; replace HB := Lib.hid (below_at HB.out hg (by omega) K4.out.lt); replace K2 := Lib.hid (K2.out.grown hg (by omega)); replace K4 := Lib.hid hk; have hz5 := hg.size; clear hk hg))
  exact bodyPost_ret (v := .tuple #[ros x, .bool false]) (ret_ros rfl _ _ K4.out rfl rfl) rfl ⟨rfl, HB.out⟩
set_option maxRecDepth 100000 in
set_option maxHeartbeats 2000000 in
theorem rLose_C (x : Ro) (HL : Hid (x.st.length = 16)) (i : Nat) (hi : i < 16) (h1 : (rd x.st (i : Int) == 1) = true)
    (Y : Hid (∀ w : World, Calls Try.prog 90 #[ros x] w fun e w' => e = .returned (.bool true) ∧ Below w.heap.size w w'))
    (P : Hid (∀ w : World, Calls Try.prog 134 #[ros x, .int .i64 (i : Int)] w fun e w' => e = .returned (.bool true) ∧ Below w.heap.size w w')) (w : World) : Calls Try.prog 97 #[ros x, .int .i64 (i : Int)] w fun e w' => e = .returned (.tuple #[ros x, .bool false]) ∧ Below w.heap.size w w' := by
  have HB := Lib.hid (Below.refl w.heap.size w)
  have hi0 : (0 : Int) ≤ (i : Int) := by omega
  have hi16 : (i : Int) < 16 := by omega
  have tok0 : True := trivial
  have tp0 : True := trivial
  go_enter Try.func97, Try.ntmps97
  go_wp2_with (first
    | (go_skip)
    | (refine rosBox (.tmp 0) rfl rfl HL.out rfl ?_; intro w1 hk hb1 hz1; replace HB := Lib.hid (below_ext HB.out hb1); have K2 := Lib.hid hk; clear hk hb1)
    | (have _t := tok0; refine rosAlloc rfl rfl ?_; intro w2 hk hb2 hz2; replace K2 := Lib.hid (K2.out.below hb2); replace HB := Lib.hid (below_ext HB.out hb2); have K4 := Lib.hid hk; clear hk hb2; have tok1 : True := trivial; clear _t tok0)
    | (refine rosLoad (.tmp 2) rfl K2.out rfl rfl ?_)
    | (have _t := tp0; go_at_call 90; refine (Y.out _).mono ?_; rintro e w3 ⟨rfl, hb3⟩; replace K2 := Lib.hid (K2.out.below hb3); replace K4 := Lib.hid (K4.out.below hb3); replace HB := Lib.hid (below_ext HB.out hb3); have hz3 := hb3.size; clear hb3; have tp1 : True := trivial; clear _t tp0)
    | (have _t := tp1; go_at_call 134; refine (P.out _).mono ?_; rintro e w4 ⟨rfl, hb4⟩; replace K2 := Lib.hid (K2.out.below hb4); replace K4 := Lib.hid (K4.out.below hb4); replace HB := Lib.hid (below_ext HB.out hb4); have hz4 := hb4.size; clear hb4; have tp2 : True := trivial; clear _t tp1)
    | (refine F.rowCell _ (.tmp 18) rfl (K2.out.ci i hi) rfl R.agg_u8 rfl ?_)
    | (refine rosStore (.tmp 4) (.tmp 22) rfl K4.out rfl rfl HL.out rfl ?_; intro w5 hk hg; replace HB := Lib.hid (below_at HB.out hg (by omega) K4.out.lt); replace K2 := Lib.hid (K2.out.grown hg (by omega)); replace K4 := Lib.hid hk; have hz5 := hg.size; clear hk hg))
  exact bodyPost_ret (v := .tuple #[ros x, .bool false]) (ret_ros rfl _ _ K4.out rfl rfl) rfl ⟨rfl, HB.out⟩
set_option maxRecDepth 100000 in
set_option maxHeartbeats 2000000 in
theorem rLose_D (x : Ro) (HL : Hid (x.st.length = 16)) (i : Nat) (hi : i < 16) (h1 : (rd x.st (i : Int) == 1) = false) (h2 : (rd x.st (i : Int) == 2) = true)
    (Y : Hid (∀ w : World, Calls Try.prog 90 #[ros x] w fun e w' => e = .returned (.bool true) ∧ Below w.heap.size w w'))
    (P : Hid (∀ w : World, Calls Try.prog 134 #[ros x, .int .i64 (i : Int)] w fun e w' => e = .returned (.bool true) ∧ Below w.heap.size w w')) (w : World) : Calls Try.prog 97 #[ros x, .int .i64 (i : Int)] w fun e w' => e = .returned (.tuple #[ros { x with cu := 0, st := x.st.set i 1 }, .bool true]) ∧ Below w.heap.size w w' := by
  have HB := Lib.hid (Below.refl w.heap.size w)
  have hi0 : (0 : Int) ≤ (i : Int) := by omega
  have hi16 : (i : Int) < 16 := by omega
  have tok0 : True := trivial
  have tp0 : True := trivial
  go_enter Try.func97, Try.ntmps97
  go_wp2_with (first
    | (go_skip)
    | (refine rosBox (.tmp 0) rfl rfl HL.out rfl ?_; intro w1 hk hb1 hz1; replace HB := Lib.hid (below_ext HB.out hb1); have K2 := Lib.hid hk; clear hk hb1)
    | (have _t := tok0; refine rosAlloc rfl rfl ?_; intro w2 hk hb2 hz2; replace K2 := Lib.hid (K2.out.below hb2); replace HB := Lib.hid (below_ext HB.out hb2); have K4 := Lib.hid hk; clear hk hb2; have tok1 : True := trivial; clear _t tok0)
    | (refine rosLoad (.tmp 2) rfl K2.out rfl rfl ?_)
    | (have _t := tp0; go_at_call 90; refine (Y.out _).mono ?_; rintro e w3 ⟨rfl, hb3⟩; replace K2 := Lib.hid (K2.out.below hb3); replace K4 := Lib.hid (K4.out.below hb3); replace HB := Lib.hid (below_ext HB.out hb3); have hz3 := hb3.size; clear hb3; have tp1 : True := trivial; clear _t tp0)
    | (have _t := tp1; go_at_call 134; refine (P.out _).mono ?_; rintro e w4 ⟨rfl, hb4⟩; replace K2 := Lib.hid (K2.out.below hb4); replace K4 := Lib.hid (K4.out.below hb4); replace HB := Lib.hid (below_ext HB.out hb4); have hz4 := hb4.size; clear hb4; have tp2 : True := trivial; clear _t tp1)
    | (refine F.rowCell _ (.tmp 18) rfl (K2.out.ci i hi) rfl R.agg_u8 rfl ?_)
    | (refine F.rowCell _ (.tmp 25) rfl (K2.out.ci i hi) rfl R.agg_u8 rfl ?_)
    | (refine rosSetCu (.tmp 28) (.const (.int .i64 0)) rfl K2.out rfl _ rfl rfl ?_; intro w5 hk hg; replace HB := Lib.hid (below_at HB.out hg (by omega) K2.out.lt); replace K4 := Lib.hid (K4.out.grown hg (by omega)); replace K2 := Lib.hid hk; have hz5 := hg.size; clear hk hg)
    | (refine rosSetSt (.tmp 31) (.const (.int .u8 1)) rfl K2.out i hi rfl _ rfl rfl ?_; intro w6 hk hg; replace HB := Lib.hid (below_at HB.out hg (by omega) K2.out.lt); replace K4 := Lib.hid (K4.out.grown hg (by omega)); replace K2 := Lib.hid hk; have hz6 := hg.size; clear hk hg)
    | (refine rosStore (.tmp 4) (.tmp 32) rfl K4.out rfl rfl (by simpa using HL.out) rfl ?_; intro w7 hk hg; replace HB := Lib.hid (below_at HB.out hg (by omega) K4.out.lt); replace K2 := Lib.hid (K2.out.grown hg (by omega)); replace K4 := Lib.hid hk; have hz7 := hg.size; clear hk hg))
  exact bodyPost_ret (v := .tuple #[ros { x with cu := 0, st := x.st.set i 1 }, .bool true]) (ret_ros rfl _ _ K4.out rfl rfl) rfl ⟨rfl, HB.out⟩
set_option maxRecDepth 100000 in
set_option maxHeartbeats 2000000 in
theorem rLose_E (x : Ro) (HL : Hid (x.st.length = 16)) (i : Nat) (hi : i < 16) (h1 : (rd x.st (i : Int) == 1) = false) (h2 : (rd x.st (i : Int) == 2) = false)
    (Y : Hid (∀ w : World, Calls Try.prog 90 #[ros x] w fun e w' => e = .returned (.bool true) ∧ Below w.heap.size w w'))
    (P : Hid (∀ w : World, Calls Try.prog 134 #[ros x, .int .i64 (i : Int)] w fun e w' => e = .returned (.bool true) ∧ Below w.heap.size w w')) (w : World) : Calls Try.prog 97 #[ros x, .int .i64 (i : Int)] w fun e w' => e = .returned (.tuple #[ros { x with st := x.st.set i 1 }, .bool true]) ∧ Below w.heap.size w w' := by
  have HB := Lib.hid (Below.refl w.heap.size w)
  have hi0 : (0 : Int) ≤ (i : Int) := by omega
  have hi16 : (i : Int) < 16 := by omega
  have tok0 : True := trivial
  have tp0 : True := trivial
  go_enter Try.func97, Try.ntmps97
  go_wp2_with (first
    | (go_skip)
    | (refine rosBox (.tmp 0) rfl rfl HL.out rfl ?_; intro w1 hk hb1 hz1; replace HB := Lib.hid (below_ext HB.out hb1); have K2 := Lib.hid hk; clear hk hb1)
    | (have _t := tok0; refine rosAlloc rfl rfl ?_; intro w2 hk hb2 hz2; replace K2 := Lib.hid (K2.out.below hb2); replace HB := Lib.hid (below_ext HB.out hb2); have K4 := Lib.hid hk; clear hk hb2; have tok1 : True := trivial; clear _t tok0)
    | (refine rosLoad (.tmp 2) rfl K2.out rfl rfl ?_)
    | (have _t := tp0; go_at_call 90; refine (Y.out _).mono ?_; rintro e w3 ⟨rfl, hb3⟩; replace K2 := Lib.hid (K2.out.below hb3); replace K4 := Lib.hid (K4.out.below hb3); replace HB := Lib.hid (below_ext HB.out hb3); have hz3 := hb3.size; clear hb3; have tp1 : True := trivial; clear _t tp0)
    | (have _t := tp1; go_at_call 134; refine (P.out _).mono ?_; rintro e w4 ⟨rfl, hb4⟩; replace K2 := Lib.hid (K2.out.below hb4); replace K4 := Lib.hid (K4.out.below hb4); replace HB := Lib.hid (below_ext HB.out hb4); have hz4 := hb4.size; clear hb4; have tp2 : True := trivial; clear _t tp1)
    | (refine F.rowCell _ (.tmp 18) rfl (K2.out.ci i hi) rfl R.agg_u8 rfl ?_)
    | (refine F.rowCell _ (.tmp 25) rfl (K2.out.ci i hi) rfl R.agg_u8 rfl ?_)
    | (refine rosSetSt (.tmp 31) (.const (.int .u8 1)) rfl K2.out i hi rfl _ rfl rfl ?_; intro w5 hk hg; replace HB := Lib.hid (below_at HB.out hg (by omega) K2.out.lt); replace K4 := Lib.hid (K4.out.grown hg (by omega)); replace K2 := Lib.hid hk; have hz5 := hg.size; clear hk hg)
    | (refine rosStore (.tmp 4) (.tmp 32) rfl K4.out rfl rfl (by simpa using HL.out) rfl ?_; intro w6 hk hg; replace HB := Lib.hid (below_at HB.out hg (by omega) K4.out.lt); replace K2 := Lib.hid (K2.out.grown hg (by omega)); replace K4 := Lib.hid hk; have hz6 := hg.size; clear hk hg))
  exact bodyPost_ret (v := .tuple #[ros { x with st := x.st.set i 1 }, .bool true]) (ret_ros rfl _ _ K4.out rfl rfl) rfl ⟨rfl, HB.out⟩
end Go.Proofs.Ytdchcggllcgokaa.Q

namespace Go.Proofs.Ytdchcggllcgokaa.Q
open Go.RowKit Go.Proofs.Ytdchcggllcgokaa.L Go.Proofs.Ytdchcggllcgokaa.R Go.Proofs.YtdchcggllcgokaaW.PrintWords
set_option linter.unusedVariables false
set_option linter.unusedSimpArgs false
set_option maxRecDepth 100000 in
set_option maxHeartbeats 2000000 in
theorem rBegin_A (x : Ro) (HL : Hid (x.st.length = 16)) (i : Int) 
    (Y : Hid (∀ w : World, Calls Try.prog 90 #[ros x] w fun e w' => e = .returned (.bool false) ∧ Below w.heap.size w w')) (w : World) : Calls Try.prog 98 #[ros x, .int .i64 i] w fun e w' => e = .returned (.tuple #[ros ro0, .int .i64 2]) ∧ Below w.heap.size w w' := by
  have HB := Lib.hid (Below.refl w.heap.size w)
  have tok0 : True := trivial
  have tp0 : True := trivial
  go_enter Try.func98, Try.ntmps98
  go_wp2_with (first
    | (go_skip)
    | (refine rosBox (.tmp 0) rfl rfl HL.out rfl ?_; intro w1 hk hb1 hz1; replace HB := Lib.hid (below_ext HB.out hb1); have K2 := Lib.hid hk; clear hk hb1)
    | (have _t := tok0; refine rosAlloc rfl rfl ?_; intro w2 hk hb2 hz2; replace K2 := Lib.hid (K2.out.below hb2); replace HB := Lib.hid (below_ext HB.out hb2); have K4 := Lib.hid hk; clear hk hb2; have tok1 : True := trivial; clear _t tok0)
    | (refine rosLoad (.tmp 2) rfl K2.out rfl rfl ?_)
    | (have _t := tp0; go_at_call 90; refine (Y.out _).mono ?_; rintro e w3 ⟨rfl, hb3⟩; replace K2 := Lib.hid (K2.out.below hb3); replace K4 := Lib.hid (K4.out.below hb3); replace HB := Lib.hid (below_ext HB.out hb3); have hz3 := hb3.size; clear hb3; have tp1 : True := trivial; clear _t tp0)
    | (have _t := tp1; go_at_call 134; refine (trivial).mono ?_; rintro e w4 ⟨rfl, hb4⟩; replace K2 := Lib.hid (K2.out.below hb4); replace K4 := Lib.hid (K4.out.below hb4); replace HB := Lib.hid (below_ext HB.out hb4); have hz4 := hb4.size; clear hb4; have tp2 : True := trivial; clear _t tp1)
    | (refine rosBuild0 rfl rfl ?_)
    | (refine rosStore (.tmp 4) (.tmp 15) rfl K4.out rfl rfl zero16_length rfl ?_; intro w5 hk hg; replace HB := Lib.hid (below_at HB.out hg (by omega) K4.out.lt); replace K2 := Lib.hid (K2.out.grown hg (by omega)); replace K4 := Lib.hid hk; have hz5 := hg.size; clear hk hg))
  exact bodyPost_ret (v := .tuple #[ros ro0, .int .i64 2]) (ret_ros rfl _ _ K4.out rfl rfl) rfl ⟨rfl, HB.out⟩
set_option maxRecDepth 100000 in
set_option maxHeartbeats 2000000 in
theorem rBegin_B (x : Ro) (HL : Hid (x.st.length = 16)) (i : Int) 
    (Y : Hid (∀ w : World, Calls Try.prog 90 #[ros x] w fun e w' => e = .returned (.bool true) ∧ Below w.heap.size w w'))
    (P : Hid (∀ w : World, Calls Try.prog 134 #[ros x, .int .i64 i] w fun e w' => e = .returned (.bool false) ∧ Below w.heap.size w w')) (w : World) : Calls Try.prog 98 #[ros x, .int .i64 i] w fun e w' => e = .returned (.tuple #[ros ro0, .int .i64 2]) ∧ Below w.heap.size w w' := by
  have HB := Lib.hid (Below.refl w.heap.size w)
  have tok0 : True := trivial
  have tp0 : True := trivial
  go_enter Try.func98, Try.ntmps98
  go_wp2_with (first
    | (go_skip)
    | (refine rosBox (.tmp 0) rfl rfl HL.out rfl ?_; intro w1 hk hb1 hz1; replace HB := Lib.hid (below_ext HB.out hb1); have K2 := Lib.hid hk; clear hk hb1)
    | (have _t := tok0; refine rosAlloc rfl rfl ?_; intro w2 hk hb2 hz2; replace K2 := Lib.hid (K2.out.below hb2); replace HB := Lib.hid (below_ext HB.out hb2); have K4 := Lib.hid hk; clear hk hb2; have tok1 : True := trivial; clear _t tok0)
    | (refine rosLoad (.tmp 2) rfl K2.out rfl rfl ?_)
    | (have _t := tp0; go_at_call 90; refine (Y.out _).mono ?_; rintro e w3 ⟨rfl, hb3⟩; replace K2 := Lib.hid (K2.out.below hb3); replace K4 := Lib.hid (K4.out.below hb3); replace HB := Lib.hid (below_ext HB.out hb3); have hz3 := hb3.size; clear hb3; have tp1 : True := trivial; clear _t tp0)
    | (have _t := tp1; go_at_call 134; refine (P.out _).mono ?_; rintro e w4 ⟨rfl, hb4⟩; replace K2 := Lib.hid (K2.out.below hb4); replace K4 := Lib.hid (K4.out.below hb4); replace HB := Lib.hid (below_ext HB.out hb4); have hz4 := hb4.size; clear hb4; have tp2 : True := trivial; clear _t tp1)
    | (refine rosBuild0 rfl rfl ?_)
    | (refine rosStore (.tmp 4) (.tmp 15) rfl K4.out rfl rfl zero16_length rfl ?_; intro w5 hk hg; replace HB := Lib.hid (below_at HB.out hg (by omega) K4.out.lt); replace K2 := Lib.hid (K2.out.grown hg (by omega)); replace K4 := Lib.hid hk; have hz5 := hg.size; clear hk hg))
  exact bodyPost_ret (v := .tuple #[ros ro0, .int .i64 2]) (ret_ros rfl _ _ K4.out rfl rfl) rfl ⟨rfl, HB.out⟩
set_option maxRecDepth 100000 in
set_option maxHeartbeats 2000000 in
theorem rBegin_C (x : Ro) (HL : Hid (x.st.length = 16)) (i : Nat) (hi : i < 16) (h : (rd x.st (i : Int) != 1) = true)
    (Y : Hid (∀ w : World, Calls Try.prog 90 #[ros x] w fun e w' => e = .returned (.bool true) ∧ Below w.heap.size w w'))
    (P : Hid (∀ w : World, Calls Try.prog 134 #[ros x, .int .i64 (i : Int)] w fun e w' => e = .returned (.bool true) ∧ Below w.heap.size w w'))
     (w : World) : Calls Try.prog 98 #[ros x, .int .i64 (i : Int)] w fun e w' => e = .returned (.tuple #[ros ro0, .int .i64 17]) ∧ Below w.heap.size w w' := by
  have HB := Lib.hid (Below.refl w.heap.size w)
  have hi0 : (0 : Int) ≤ (i : Int) := by omega
  have hi16 : (i : Int) < 16 := by omega
  have tok0 : True := trivial
  have tp0 : True := trivial
  go_enter Try.func98, Try.ntmps98
  go_wp2_with (first
    | (go_skip)
    | (refine rosBox (.tmp 0) rfl rfl HL.out rfl ?_; intro w1 hk hb1 hz1; replace HB := Lib.hid (below_ext HB.out hb1); have K2 := Lib.hid hk; clear hk hb1)
    | (have _t := tok0; refine rosAlloc rfl rfl ?_; intro w2 hk hb2 hz2; replace K2 := Lib.hid (K2.out.below hb2); replace HB := Lib.hid (below_ext HB.out hb2); have K4 := Lib.hid hk; clear hk hb2; have tok1 : True := trivial; clear _t tok0)
    | (refine rosLoad (.tmp 2) rfl K2.out rfl rfl ?_)
    | (have _t := tp0; go_at_call 90; refine (Y.out _).mono ?_; rintro e w3 ⟨rfl, hb3⟩; replace K2 := Lib.hid (K2.out.below hb3); replace K4 := Lib.hid (K4.out.below hb3); replace HB := Lib.hid (below_ext HB.out hb3); have hz3 := hb3.size; clear hb3; have tp1 : True := trivial; clear _t tp0)
    | (have _t := tp1; go_at_call 134; refine (P.out _).mono ?_; rintro e w4 ⟨rfl, hb4⟩; replace K2 := Lib.hid (K2.out.below hb4); replace K4 := Lib.hid (K4.out.below hb4); replace HB := Lib.hid (below_ext HB.out hb4); have hz4 := hb4.size; clear hb4; have tp2 : True := trivial; clear _t tp1)
    | (refine F.rowCell _ (.tmp 18) rfl (K2.out.ci i hi) rfl R.agg_u8 rfl ?_)
    | (have _t := tp2; go_at_call 93; refine (trivial).mono ?_; rintro e w5 ⟨rfl, hb5⟩; replace K2 := Lib.hid (K2.out.below hb5); replace K4 := Lib.hid (K4.out.below hb5); replace HB := Lib.hid (below_ext HB.out hb5); have hz5 := hb5.size; clear hb5; have tp3 : True := trivial; clear _t tp2)
    | (refine F.rowCell _ (.tmp 27) rfl K2.out.cgo rfl agg_bool rfl ?_)
    | (refine rosBuild0 rfl rfl ?_)
    | (refine rosStore (.tmp 4) (.tmp 30) rfl K4.out rfl rfl zero16_length rfl ?_; intro w6 hk hg; replace HB := Lib.hid (below_at HB.out hg (by omega) K4.out.lt); replace K2 := Lib.hid (K2.out.grown hg (by omega)); replace K4 := Lib.hid hk; have hz6 := hg.size; clear hk hg))
  exact bodyPost_ret (v := .tuple #[ros ro0, .int .i64 17]) (ret_ros rfl _ _ K4.out rfl rfl) rfl ⟨rfl, HB.out⟩
set_option maxRecDepth 100000 in
set_option maxHeartbeats 2000000 in
theorem rBegin_D (x : Ro) (HL : Hid (x.st.length = 16)) (i : Nat) (hi : i < 16) (h : (rd x.st (i : Int) != 1) = false) (c : Int) (hc : 1 < c)
    (Y : Hid (∀ w : World, Calls Try.prog 90 #[ros x] w fun e w' => e = .returned (.bool true) ∧ Below w.heap.size w w'))
    (P : Hid (∀ w : World, Calls Try.prog 134 #[ros x, .int .i64 (i : Int)] w fun e w' => e = .returned (.bool true) ∧ Below w.heap.size w w'))
    (M : Hid (∀ w : World, Calls Try.prog 93 #[ros x] w fun e w' => e = .returned (.int .i64 c) ∧ Below w.heap.size w w')) (w : World) : Calls Try.prog 98 #[ros x, .int .i64 (i : Int)] w fun e w' => e = .returned (.tuple #[ros ro0, .int .i64 17]) ∧ Below w.heap.size w w' := by
  have HB := Lib.hid (Below.refl w.heap.size w)
  have hi0 : (0 : Int) ≤ (i : Int) := by omega
  have hi16 : (i : Int) < 16 := by omega
  have g1 : decide (1 < c) = true := by simpa using hc
  have tok0 : True := trivial
  have tp0 : True := trivial
  go_enter Try.func98, Try.ntmps98
  go_wp2_with (first
    | (go_skip)
    | (refine rosBox (.tmp 0) rfl rfl HL.out rfl ?_; intro w1 hk hb1 hz1; replace HB := Lib.hid (below_ext HB.out hb1); have K2 := Lib.hid hk; clear hk hb1)
    | (have _t := tok0; refine rosAlloc rfl rfl ?_; intro w2 hk hb2 hz2; replace K2 := Lib.hid (K2.out.below hb2); replace HB := Lib.hid (below_ext HB.out hb2); have K4 := Lib.hid hk; clear hk hb2; have tok1 : True := trivial; clear _t tok0)
    | (refine rosLoad (.tmp 2) rfl K2.out rfl rfl ?_)
    | (have _t := tp0; go_at_call 90; refine (Y.out _).mono ?_; rintro e w3 ⟨rfl, hb3⟩; replace K2 := Lib.hid (K2.out.below hb3); replace K4 := Lib.hid (K4.out.below hb3); replace HB := Lib.hid (below_ext HB.out hb3); have hz3 := hb3.size; clear hb3; have tp1 : True := trivial; clear _t tp0)
    | (have _t := tp1; go_at_call 134; refine (P.out _).mono ?_; rintro e w4 ⟨rfl, hb4⟩; replace K2 := Lib.hid (K2.out.below hb4); replace K4 := Lib.hid (K4.out.below hb4); replace HB := Lib.hid (below_ext HB.out hb4); have hz4 := hb4.size; clear hb4; have tp2 : True := trivial; clear _t tp1)
    | (refine F.rowCell _ (.tmp 18) rfl (K2.out.ci i hi) rfl R.agg_u8 rfl ?_)
    | (have _t := tp2; go_at_call 93; refine (M.out _).mono ?_; rintro e w5 ⟨rfl, hb5⟩; replace K2 := Lib.hid (K2.out.below hb5); replace K4 := Lib.hid (K4.out.below hb5); replace HB := Lib.hid (below_ext HB.out hb5); have hz5 := hb5.size; clear hb5; have tp3 : True := trivial; clear _t tp2)
    | (refine F.rowCell _ (.tmp 27) rfl K2.out.cgo rfl agg_bool rfl ?_)
    | (refine rosBuild0 rfl rfl ?_)
    | (refine rosStore (.tmp 4) (.tmp 30) rfl K4.out rfl rfl zero16_length rfl ?_; intro w6 hk hg; replace HB := Lib.hid (below_at HB.out hg (by omega) K4.out.lt); replace K2 := Lib.hid (K2.out.grown hg (by omega)); replace K4 := Lib.hid hk; have hz6 := hg.size; clear hk hg))
  exact bodyPost_ret (v := .tuple #[ros ro0, .int .i64 17]) (ret_ros rfl _ _ K4.out rfl rfl) rfl ⟨rfl, HB.out⟩
set_option maxRecDepth 100000 in
set_option maxHeartbeats 2000000 in
theorem rBegin_E (x : Ro) (HL : Hid (x.st.length = 16)) (i : Nat) (hi : i < 16) (h : (rd x.st (i : Int) != 1) = false) (c : Int) (hc : ¬ 1 < c) (hg : x.go = true)
    (Y : Hid (∀ w : World, Calls Try.prog 90 #[ros x] w fun e w' => e = .returned (.bool true) ∧ Below w.heap.size w w'))
    (P : Hid (∀ w : World, Calls Try.prog 134 #[ros x, .int .i64 (i : Int)] w fun e w' => e = .returned (.bool true) ∧ Below w.heap.size w w'))
    (M : Hid (∀ w : World, Calls Try.prog 93 #[ros x] w fun e w' => e = .returned (.int .i64 c) ∧ Below w.heap.size w w')) (w : World) : Calls Try.prog 98 #[ros x, .int .i64 (i : Int)] w fun e w' => e = .returned (.tuple #[ros ro0, .int .i64 17]) ∧ Below w.heap.size w w' := by
  have HB := Lib.hid (Below.refl w.heap.size w)
  have hi0 : (0 : Int) ≤ (i : Int) := by omega
  have hi16 : (i : Int) < 16 := by omega
  have g1 : decide (1 < c) = false := by simpa using hc
  have tok0 : True := trivial
  have tp0 : True := trivial
  go_enter Try.func98, Try.ntmps98
  go_wp2_with (first
    | (go_skip)
    | (refine rosBox (.tmp 0) rfl rfl HL.out rfl ?_; intro w1 hk hb1 hz1; replace HB := Lib.hid (below_ext HB.out hb1); have K2 := Lib.hid hk; clear hk hb1)
    | (have _t := tok0; refine rosAlloc rfl rfl ?_; intro w2 hk hb2 hz2; replace K2 := Lib.hid (K2.out.below hb2); replace HB := Lib.hid (below_ext HB.out hb2); have K4 := Lib.hid hk; clear hk hb2; have tok1 : True := trivial; clear _t tok0)
    | (refine rosLoad (.tmp 2) rfl K2.out rfl rfl ?_)
    | (have _t := tp0; go_at_call 90; refine (Y.out _).mono ?_; rintro e w3 ⟨rfl, hb3⟩; replace K2 := Lib.hid (K2.out.below hb3); replace K4 := Lib.hid (K4.out.below hb3); replace HB := Lib.hid (below_ext HB.out hb3); have hz3 := hb3.size; clear hb3; have tp1 : True := trivial; clear _t tp0)
    | (have _t := tp1; go_at_call 134; refine (P.out _).mono ?_; rintro e w4 ⟨rfl, hb4⟩; replace K2 := Lib.hid (K2.out.below hb4); replace K4 := Lib.hid (K4.out.below hb4); replace HB := Lib.hid (below_ext HB.out hb4); have hz4 := hb4.size; clear hb4; have tp2 : True := trivial; clear _t tp1)
    | (refine F.rowCell _ (.tmp 18) rfl (K2.out.ci i hi) rfl R.agg_u8 rfl ?_)
    | (have _t := tp2; go_at_call 93; refine (M.out _).mono ?_; rintro e w5 ⟨rfl, hb5⟩; replace K2 := Lib.hid (K2.out.below hb5); replace K4 := Lib.hid (K4.out.below hb5); replace HB := Lib.hid (below_ext HB.out hb5); have hz5 := hb5.size; clear hb5; have tp3 : True := trivial; clear _t tp2)
    | (refine F.rowCell _ (.tmp 27) rfl K2.out.cgo rfl agg_bool rfl ?_)
    | (refine rosBuild0 rfl rfl ?_)
    | (refine rosStore (.tmp 4) (.tmp 30) rfl K4.out rfl rfl zero16_length rfl ?_; intro w6 hk hg; replace HB := Lib.hid (below_at HB.out hg (by omega) K4.out.lt); replace K2 := Lib.hid (K2.out.grown hg (by omega)); replace K4 := Lib.hid hk; have hz6 := hg.size; clear hk hg))
  exact bodyPost_ret (v := .tuple #[ros ro0, .int .i64 17]) (ret_ros rfl _ _ K4.out rfl rfl) rfl ⟨rfl, HB.out⟩
set_option maxRecDepth 100000 in
set_option maxHeartbeats 2000000 in
theorem rBegin_F (x : Ro) (HL : Hid (x.st.length = 16)) (i : Nat) (hi : i < 16) (h : (rd x.st (i : Int) != 1) = false) (c : Int) (hc : ¬ 1 < c) (hg : x.go = false)
    (Y : Hid (∀ w : World, Calls Try.prog 90 #[ros x] w fun e w' => e = .returned (.bool true) ∧ Below w.heap.size w w'))
    (P : Hid (∀ w : World, Calls Try.prog 134 #[ros x, .int .i64 (i : Int)] w fun e w' => e = .returned (.bool true) ∧ Below w.heap.size w w'))
    (M : Hid (∀ w : World, Calls Try.prog 93 #[ros x] w fun e w' => e = .returned (.int .i64 c) ∧ Below w.heap.size w w')) (w : World) : Calls Try.prog 98 #[ros x, .int .i64 (i : Int)] w fun e w' => e = .returned (.tuple #[ros { x with st := x.st.set i 2, cu := 0 }, .int .i64 0]) ∧ Below w.heap.size w w' := by
  have HB := Lib.hid (Below.refl w.heap.size w)
  have hi0 : (0 : Int) ≤ (i : Int) := by omega
  have hi16 : (i : Int) < 16 := by omega
  have g1 : decide (1 < c) = false := by simpa using hc
  have tok0 : True := trivial
  have tp0 : True := trivial
  go_enter Try.func98, Try.ntmps98
  go_wp2_with (first
    | (go_skip)
    | (refine rosBox (.tmp 0) rfl rfl HL.out rfl ?_; intro w1 hk hb1 hz1; replace HB := Lib.hid (below_ext HB.out hb1); have K2 := Lib.hid hk; clear hk hb1)
    | (have _t := tok0; refine rosAlloc rfl rfl ?_; intro w2 hk hb2 hz2; replace K2 := Lib.hid (K2.out.below hb2); replace HB := Lib.hid (below_ext HB.out hb2); have K4 := Lib.hid hk; clear hk hb2; have tok1 : True := trivial; clear _t tok0)
    | (refine rosLoad (.tmp 2) rfl K2.out rfl rfl ?_)
    | (have _t := tp0; go_at_call 90; refine (Y.out _).mono ?_; rintro e w3 ⟨rfl, hb3⟩; replace K2 := Lib.hid (K2.out.below hb3); replace K4 := Lib.hid (K4.out.below hb3); replace HB := Lib.hid (below_ext HB.out hb3); have hz3 := hb3.size; clear hb3; have tp1 : True := trivial; clear _t tp0)
    | (have _t := tp1; go_at_call 134; refine (P.out _).mono ?_; rintro e w4 ⟨rfl, hb4⟩; replace K2 := Lib.hid (K2.out.below hb4); replace K4 := Lib.hid (K4.out.below hb4); replace HB := Lib.hid (below_ext HB.out hb4); have hz4 := hb4.size; clear hb4; have tp2 : True := trivial; clear _t tp1)
    | (refine F.rowCell _ (.tmp 18) rfl (K2.out.ci i hi) rfl R.agg_u8 rfl ?_)
    | (have _t := tp2; go_at_call 93; refine (M.out _).mono ?_; rintro e w5 ⟨rfl, hb5⟩; replace K2 := Lib.hid (K2.out.below hb5); replace K4 := Lib.hid (K4.out.below hb5); replace HB := Lib.hid (below_ext HB.out hb5); have hz5 := hb5.size; clear hb5; have tp3 : True := trivial; clear _t tp2)
    | (refine F.rowCell _ (.tmp 27) rfl K2.out.cgo rfl agg_bool rfl ?_)
    | (refine rosSetSt (.tmp 33) (.const (.int .u8 2)) rfl K2.out i hi rfl _ rfl rfl ?_; intro w6 hk hg; replace HB := Lib.hid (below_at HB.out hg (by omega) K2.out.lt); replace K4 := Lib.hid (K4.out.grown hg (by omega)); replace K2 := Lib.hid hk; have hz6 := hg.size; clear hk hg)
    | (refine rosSetCu (.tmp 34) (.const (.int .i64 0)) rfl K2.out rfl _ rfl rfl ?_; intro w7 hk hg; replace HB := Lib.hid (below_at HB.out hg (by omega) K2.out.lt); replace K4 := Lib.hid (K4.out.grown hg (by omega)); replace K2 := Lib.hid hk; have hz7 := hg.size; clear hk hg)
    | (refine rosStore (.tmp 4) (.tmp 35) rfl K4.out rfl rfl (by simpa using HL.out) rfl ?_; intro w8 hk hg; replace HB := Lib.hid (below_at HB.out hg (by omega) K4.out.lt); replace K2 := Lib.hid (K2.out.grown hg (by omega)); replace K4 := Lib.hid hk; have hz8 := hg.size; clear hk hg))
  exact bodyPost_ret (v := .tuple #[ros { x with st := x.st.set i 2, cu := 0 }, .int .i64 0]) (ret_ros rfl _ _ K4.out rfl rfl) rfl ⟨by rw [hg], HB.out⟩
set_option maxRecDepth 100000 in
set_option maxHeartbeats 2000000 in
theorem rNext_A (x : Ro) (HL : Hid (x.st.length = 16))  
    (Y : Hid (∀ w : World, Calls Try.prog 90 #[ros x] w fun e w' => e = .returned (.bool false) ∧ Below w.heap.size w w')) (w : World) : Calls Try.prog 99 #[ros x] w fun e w' => e = .returned (.tuple #[ros ro0, .int .i64 2]) ∧ Below w.heap.size w w' := by
  have HB := Lib.hid (Below.refl w.heap.size w)
  have tok0 : True := trivial
  have tp0 : True := trivial
  go_enter Try.func99, Try.ntmps99
  go_wp2_with (first
    | (go_skip)
    | (refine rosBox (.tmp 0) rfl rfl HL.out rfl ?_; intro w1 hk hb1 hz1; replace HB := Lib.hid (below_ext HB.out hb1); have K1 := Lib.hid hk; clear hk hb1)
    | (have _t := tok0; refine rosAlloc rfl rfl ?_; intro w2 hk hb2 hz2; replace K1 := Lib.hid (K1.out.below hb2); replace HB := Lib.hid (below_ext HB.out hb2); have K2 := Lib.hid hk; clear hk hb2; have tok1 : True := trivial; clear _t tok0)
    | (refine rosLoad (.tmp 1) rfl K1.out rfl rfl ?_)
    | (have _t := tp0; go_at_call 90; refine (Y.out _).mono ?_; rintro e w3 ⟨rfl, hb3⟩; replace K1 := Lib.hid (K1.out.below hb3); replace K2 := Lib.hid (K2.out.below hb3); replace HB := Lib.hid (below_ext HB.out hb3); have hz3 := hb3.size; clear hb3; have tp1 : True := trivial; clear _t tp0)
    | (refine rosBuild0 rfl rfl ?_)
    | (refine rosStore (.tmp 2) (.tmp 9) rfl K2.out rfl rfl zero16_length rfl ?_; intro w4 hk hg; replace HB := Lib.hid (below_at HB.out hg (by omega) K2.out.lt); replace K1 := Lib.hid (K1.out.grown hg (by omega)); replace K2 := Lib.hid hk; have hz4 := hg.size; clear hk hg))
  exact bodyPost_ret (v := .tuple #[ros ro0, .int .i64 2]) (ret_ros rfl _ _ K2.out rfl rfl) rfl ⟨rfl, HB.out⟩
set_option maxRecDepth 100000 in
set_option maxHeartbeats 2000000 in
theorem rNext_B (x : Ro) (HL : Hid (x.st.length = 16)) (k : Int) 
    (Y : Hid (∀ w : World, Calls Try.prog 90 #[ros x] w fun e w' => e = .returned (.bool true) ∧ Below w.heap.size w w'))
    (H : Hid (∀ w : World, Calls Try.prog 96 #[ros x] w fun e w' => e = .returned (.tuple #[.int .i64 k, .bool false]) ∧ Below w.heap.size w w')) (w : World) : Calls Try.prog 99 #[ros x] w fun e w' => e = .returned (.tuple #[ros ro0, .int .i64 17]) ∧ Below w.heap.size w w' := by
  have HB := Lib.hid (Below.refl w.heap.size w)
  have tok0 : True := trivial
  have tp0 : True := trivial
  go_enter Try.func99, Try.ntmps99
  go_wp2_with (first
    | (go_skip)
    | (refine rosBox (.tmp 0) rfl rfl HL.out rfl ?_; intro w1 hk hb1 hz1; replace HB := Lib.hid (below_ext HB.out hb1); have K1 := Lib.hid hk; clear hk hb1)
    | (have _t := tok0; refine rosAlloc rfl rfl ?_; intro w2 hk hb2 hz2; replace K1 := Lib.hid (K1.out.below hb2); replace HB := Lib.hid (below_ext HB.out hb2); have K2 := Lib.hid hk; clear hk hb2; have tok1 : True := trivial; clear _t tok0)
    | (refine rosLoad (.tmp 1) rfl K1.out rfl rfl ?_)
    | (have _t := tp0; go_at_call 90; refine (Y.out _).mono ?_; rintro e w3 ⟨rfl, hb3⟩; replace K1 := Lib.hid (K1.out.below hb3); replace K2 := Lib.hid (K2.out.below hb3); replace HB := Lib.hid (below_ext HB.out hb3); have hz3 := hb3.size; clear hb3; have tp1 : True := trivial; clear _t tp0)
    | (have _t := tp1; go_at_call 96; refine (H.out _).mono ?_; rintro e w4 ⟨rfl, hb4⟩; replace K1 := Lib.hid (K1.out.below hb4); replace K2 := Lib.hid (K2.out.below hb4); replace HB := Lib.hid (below_ext HB.out hb4); have hz4 := hb4.size; clear hb4; have tp2 : True := trivial; clear _t tp1)
    | (refine rosBuild0 rfl rfl ?_)
    | (refine rosStore (.tmp 2) (.tmp 17) rfl K2.out rfl rfl zero16_length rfl ?_; intro w5 hk hg; replace HB := Lib.hid (below_at HB.out hg (by omega) K2.out.lt); replace K1 := Lib.hid (K1.out.grown hg (by omega)); replace K2 := Lib.hid hk; have hz5 := hg.size; clear hk hg))
  exact bodyPost_ret (v := .tuple #[ros ro0, .int .i64 17]) (ret_ros rfl _ _ K2.out rfl rfl) rfl ⟨rfl, HB.out⟩
set_option maxRecDepth 100000 in
set_option maxHeartbeats 2000000 in
theorem rNext_C (x : Ro) (HL : Hid (x.st.length = 16)) (k : Nat) (hk : k < 16) (h0 : 0 ≤ x.cu) (h1 : x.cu < 64) (he : (x.cu + 1 == x.s) = true)
    (Y : Hid (∀ w : World, Calls Try.prog 90 #[ros x] w fun e w' => e = .returned (.bool true) ∧ Below w.heap.size w w'))
    (H : Hid (∀ w : World, Calls Try.prog 96 #[ros x] w fun e w' => e = .returned (.tuple #[.int .i64 (k : Int), .bool true]) ∧ Below w.heap.size w w')) (w : World) : Calls Try.prog 99 #[ros x] w fun e w' => e = .returned (.tuple #[ros { x with st := x.st.set k 0, cu := 0 }, .int .i64 0]) ∧ Below w.heap.size w w' := by
  have HB := Lib.hid (Below.refl w.heap.size w)
  have hi0 : (0 : Int) ≤ (k : Int) := by omega
  have hi16 : (k : Int) < 16 := by omega
  have tok0 : True := trivial
  have tp0 : True := trivial
  go_enter Try.func99, Try.ntmps99
  go_wp2_with (first
    | (go_skip)
    | (refine rosBox (.tmp 0) rfl rfl HL.out rfl ?_; intro w1 hk hb1 hz1; replace HB := Lib.hid (below_ext HB.out hb1); have K1 := Lib.hid hk; clear hk hb1)
    | (have _t := tok0; refine rosAlloc rfl rfl ?_; intro w2 hk hb2 hz2; replace K1 := Lib.hid (K1.out.below hb2); replace HB := Lib.hid (below_ext HB.out hb2); have K2 := Lib.hid hk; clear hk hb2; have tok1 : True := trivial; clear _t tok0)
    | (refine rosLoad (.tmp 1) rfl K1.out rfl rfl ?_)
    | (have _t := tp0; go_at_call 90; refine (Y.out _).mono ?_; rintro e w3 ⟨rfl, hb3⟩; replace K1 := Lib.hid (K1.out.below hb3); replace K2 := Lib.hid (K2.out.below hb3); replace HB := Lib.hid (below_ext HB.out hb3); have hz3 := hb3.size; clear hb3; have tp1 : True := trivial; clear _t tp0)
    | (have _t := tp1; go_at_call 96; refine (H.out _).mono ?_; rintro e w4 ⟨rfl, hb4⟩; replace K1 := Lib.hid (K1.out.below hb4); replace K2 := Lib.hid (K2.out.below hb4); replace HB := Lib.hid (below_ext HB.out hb4); have hz4 := hb4.size; clear hb4; have tp2 : True := trivial; clear _t tp1)
    | (refine F.rowCell _ (.tmp 18) rfl K1.out.ccu rfl agg_int rfl ?_)
    | (refine rosSetCu (.tmp 21) (.tmp 20) rfl K1.out rfl _ rfl rfl ?_; intro w5 hk hg; replace HB := Lib.hid (below_at HB.out hg (by omega) K1.out.lt); replace K2 := Lib.hid (K2.out.grown hg (by omega)); replace K1 := Lib.hid hk; have hz5 := hg.size; clear hk hg)
    | (refine F.rowCell _ (.tmp 22) rfl K1.out.ccu rfl agg_int rfl ?_)
    | (refine F.rowCell _ (.tmp 25) rfl K1.out.cs rfl agg_int rfl ?_)
    | (refine rosSetSt (.tmp 30) (.const (.int .u8 0)) rfl K1.out k hk rfl _ rfl rfl ?_; intro w6 hk hg; replace HB := Lib.hid (below_at HB.out hg (by omega) K1.out.lt); replace K2 := Lib.hid (K2.out.grown hg (by omega)); replace K1 := Lib.hid hk; have hz6 := hg.size; clear hk hg)
    | (refine rosSetCu (.tmp 31) (.const (.int .i64 0)) rfl K1.out rfl _ rfl rfl ?_; intro w7 hk hg; replace HB := Lib.hid (below_at HB.out hg (by omega) K1.out.lt); replace K2 := Lib.hid (K2.out.grown hg (by omega)); replace K1 := Lib.hid hk; have hz7 := hg.size; clear hk hg)
    | (refine rosStore (.tmp 2) (.tmp 32) rfl K2.out rfl rfl (by simpa using HL.out) rfl ?_; intro w8 hk hg; replace HB := Lib.hid (below_at HB.out hg (by omega) K2.out.lt); replace K1 := Lib.hid (K1.out.grown hg (by omega)); replace K2 := Lib.hid hk; have hz8 := hg.size; clear hk hg))
  exact bodyPost_ret (v := .tuple #[ros { x with st := x.st.set k 0, cu := 0 }, .int .i64 0]) (ret_ros rfl _ _ K2.out rfl rfl) rfl ⟨rfl, HB.out⟩
set_option maxRecDepth 100000 in
set_option maxHeartbeats 2000000 in
theorem rNext_D (x : Ro) (HL : Hid (x.st.length = 16)) (k : Nat) (hk : k < 16) (h0 : 0 ≤ x.cu) (h1 : x.cu < 64) (he : (x.cu + 1 == x.s) = false)
    (Y : Hid (∀ w : World, Calls Try.prog 90 #[ros x] w fun e w' => e = .returned (.bool true) ∧ Below w.heap.size w w'))
    (H : Hid (∀ w : World, Calls Try.prog 96 #[ros x] w fun e w' => e = .returned (.tuple #[.int .i64 (k : Int), .bool true]) ∧ Below w.heap.size w w')) (w : World) : Calls Try.prog 99 #[ros x] w fun e w' => e = .returned (.tuple #[ros { x with cu := x.cu + 1 }, .int .i64 0]) ∧ Below w.heap.size w w' := by
  have HB := Lib.hid (Below.refl w.heap.size w)
  have hi0 : (0 : Int) ≤ (k : Int) := by omega
  have hi16 : (k : Int) < 16 := by omega
  have tok0 : True := trivial
  have tp0 : True := trivial
  go_enter Try.func99, Try.ntmps99
  go_wp2_with (first
    | (go_skip)
    | (refine rosBox (.tmp 0) rfl rfl HL.out rfl ?_; intro w1 hk hb1 hz1; replace HB := Lib.hid (below_ext HB.out hb1); have K1 := Lib.hid hk; clear hk hb1)
    | (have _t := tok0; refine rosAlloc rfl rfl ?_; intro w2 hk hb2 hz2; replace K1 := Lib.hid (K1.out.below hb2); replace HB := Lib.hid (below_ext HB.out hb2); have K2 := Lib.hid hk; clear hk hb2; have tok1 : True := trivial; clear _t tok0)
    | (refine rosLoad (.tmp 1) rfl K1.out rfl rfl ?_)
    | (have _t := tp0; go_at_call 90; refine (Y.out _).mono ?_; rintro e w3 ⟨rfl, hb3⟩; replace K1 := Lib.hid (K1.out.below hb3); replace K2 := Lib.hid (K2.out.below hb3); replace HB := Lib.hid (below_ext HB.out hb3); have hz3 := hb3.size; clear hb3; have tp1 : True := trivial; clear _t tp0)
    | (have _t := tp1; go_at_call 96; refine (H.out _).mono ?_; rintro e w4 ⟨rfl, hb4⟩; replace K1 := Lib.hid (K1.out.below hb4); replace K2 := Lib.hid (K2.out.below hb4); replace HB := Lib.hid (below_ext HB.out hb4); have hz4 := hb4.size; clear hb4; have tp2 : True := trivial; clear _t tp1)
    | (refine F.rowCell _ (.tmp 18) rfl K1.out.ccu rfl agg_int rfl ?_)
    | (refine rosSetCu (.tmp 21) (.tmp 20) rfl K1.out rfl _ rfl rfl ?_; intro w5 hk hg; replace HB := Lib.hid (below_at HB.out hg (by omega) K1.out.lt); replace K2 := Lib.hid (K2.out.grown hg (by omega)); replace K1 := Lib.hid hk; have hz5 := hg.size; clear hk hg)
    | (refine F.rowCell _ (.tmp 22) rfl K1.out.ccu rfl agg_int rfl ?_)
    | (refine F.rowCell _ (.tmp 25) rfl K1.out.cs rfl agg_int rfl ?_)
    | (refine rosStore (.tmp 2) (.tmp 32) rfl K2.out rfl rfl HL.out rfl ?_; intro w6 hk hg; replace HB := Lib.hid (below_at HB.out hg (by omega) K2.out.lt); replace K1 := Lib.hid (K1.out.grown hg (by omega)); replace K2 := Lib.hid hk; have hz6 := hg.size; clear hk hg))
  exact bodyPost_ret (v := .tuple #[ros { x with cu := x.cu + 1 }, .int .i64 0]) (ret_ros rfl _ _ K2.out rfl rfl) rfl ⟨rfl, HB.out⟩
set_option maxRecDepth 100000 in
set_option maxHeartbeats 2000000 in
theorem rNew_A (m s r : Int) (P : Hid (∀ w : World, Calls Try.prog 132 #[ros { ro0 with m := m, s := s, r := r }] w fun e w' => e = .returned (.bool false) ∧ Below w.heap.size w w')) (w : World) : Calls Try.prog 88 #[geo m s r] w fun e w' => e = .returned (.tuple #[ros ro0, .int .i64 2]) ∧ Below w.heap.size w w' := by
  have HB := Lib.hid (Below.refl w.heap.size w)
  unfold geo
  have tok0 : True := trivial
  have tp0 : True := trivial
  go_enter Try.func88, Try.ntmps88
  go_wp2_with (first
    | (go_skip)
    | (refine F.rowBox 68 (.tmp 0) rfl rfl rfl ?_; intro w1 hk hb1 hz1; replace HB := Lib.hid (below_ext HB.out hb1); have K1 := Lib.hid hk; clear hk hb1)
    | (have _t := tok0; refine rosAlloc rfl rfl ?_; intro w2 hk hb2 hz2; replace K1 := Lib.hid (K1.out.below hb2); replace HB := Lib.hid (below_ext HB.out hb2); have K2 := Lib.hid hk; clear hk hb2; have tok1 : True := trivial; clear _t tok0)
    | (refine F.rowLoad 68 (.tmp 1) rfl K1.out rfl Try.underlying68 rfl info_geo rfl ?_)
    | (refine rosBuildG (.tmp 5) rfl rfl rfl ?_)
    | (have _t := tok1; refine rosAlloc rfl rfl ?_; intro w3 hk hb3 hz3; replace K1 := Lib.hid (K1.out.below hb3); replace K2 := Lib.hid (K2.out.below hb3); replace HB := Lib.hid (below_ext HB.out hb3); have K4 := Lib.hid hk; clear hk hb3; have tok2 : True := trivial; clear _t tok1)
    | (refine rosStore (.tmp 4) (.tmp 6) rfl K4.out rfl rfl zero16_length rfl ?_; intro w4 hk hg; replace HB := Lib.hid (below_at HB.out hg (by omega) K4.out.lt); replace K1 := Lib.hid (K1.out.grown hg (by omega)); replace K2 := Lib.hid (K2.out.grown hg (by omega)); replace K4 := Lib.hid hk; have hz4 := hg.size; clear hk hg)
    | (refine rosLoad (.tmp 4) rfl K4.out rfl rfl ?_)
    | (have _t := tp0; go_at_call 132; refine (P.out _).mono ?_; rintro e w5 ⟨rfl, hb5⟩; replace K1 := Lib.hid (K1.out.below hb5); replace K2 := Lib.hid (K2.out.below hb5); replace K4 := Lib.hid (K4.out.below hb5); replace HB := Lib.hid (below_ext HB.out hb5); have hz5 := hb5.size; clear hb5; have tp1 : True := trivial; clear _t tp0)
    | (refine rosBuild0 rfl rfl ?_)
    | (refine rosStore (.tmp 2) (.tmp 10) rfl K2.out rfl rfl zero16_length rfl ?_; intro w6 hk hg; replace HB := Lib.hid (below_at HB.out hg (by omega) K2.out.lt); replace K1 := Lib.hid (K1.out.grown hg (by omega)); replace K4 := Lib.hid (K4.out.grown hg (by omega)); replace K2 := Lib.hid hk; have hz6 := hg.size; clear hk hg))
  exact bodyPost_ret (v := .tuple #[ros ro0, .int .i64 2]) (ret_ros rfl _ _ K2.out rfl rfl) rfl ⟨rfl, HB.out⟩
set_option maxRecDepth 100000 in
set_option maxHeartbeats 2000000 in
theorem rNew_B (m s r : Int) (P : Hid (∀ w : World, Calls Try.prog 132 #[ros { ro0 with m := m, s := s, r := r }] w fun e w' => e = .returned (.bool true) ∧ Below w.heap.size w w')) (w : World) : Calls Try.prog 88 #[geo m s r] w fun e w' => e = .returned (.tuple #[ros { ro0 with m := m, s := s, r := r }, .int .i64 0]) ∧ Below w.heap.size w w' := by
  have HB := Lib.hid (Below.refl w.heap.size w)
  unfold geo
  have tok0 : True := trivial
  have tp0 : True := trivial
  go_enter Try.func88, Try.ntmps88
  go_wp2_with (first
    | (go_skip)
    | (refine F.rowBox 68 (.tmp 0) rfl rfl rfl ?_; intro w1 hk hb1 hz1; replace HB := Lib.hid (below_ext HB.out hb1); have K1 := Lib.hid hk; clear hk hb1)
    | (have _t := tok0; refine rosAlloc rfl rfl ?_; intro w2 hk hb2 hz2; replace K1 := Lib.hid (K1.out.below hb2); replace HB := Lib.hid (below_ext HB.out hb2); have K2 := Lib.hid hk; clear hk hb2; have tok1 : True := trivial; clear _t tok0)
    | (refine F.rowLoad 68 (.tmp 1) rfl K1.out rfl Try.underlying68 rfl info_geo rfl ?_)
    | (refine rosBuildG (.tmp 5) rfl rfl rfl ?_)
    | (have _t := tok1; refine rosAlloc rfl rfl ?_; intro w3 hk hb3 hz3; replace K1 := Lib.hid (K1.out.below hb3); replace K2 := Lib.hid (K2.out.below hb3); replace HB := Lib.hid (below_ext HB.out hb3); have K4 := Lib.hid hk; clear hk hb3; have tok2 : True := trivial; clear _t tok1)
    | (refine rosStore (.tmp 4) (.tmp 6) rfl K4.out rfl rfl zero16_length rfl ?_; intro w4 hk hg; replace HB := Lib.hid (below_at HB.out hg (by omega) K4.out.lt); replace K1 := Lib.hid (K1.out.grown hg (by omega)); replace K2 := Lib.hid (K2.out.grown hg (by omega)); replace K4 := Lib.hid hk; have hz4 := hg.size; clear hk hg)
    | (refine rosLoad (.tmp 4) rfl K4.out rfl rfl ?_)
    | (have _t := tp0; go_at_call 132; refine (P.out _).mono ?_; rintro e w5 ⟨rfl, hb5⟩; replace K1 := Lib.hid (K1.out.below hb5); replace K2 := Lib.hid (K2.out.below hb5); replace K4 := Lib.hid (K4.out.below hb5); replace HB := Lib.hid (below_ext HB.out hb5); have hz5 := hb5.size; clear hb5; have tp1 : True := trivial; clear _t tp0)
    | (refine rosStore (.tmp 2) (.tmp 11) rfl K2.out rfl rfl zero16_length rfl ?_; intro w6 hk hg; replace HB := Lib.hid (below_at HB.out hg (by omega) K2.out.lt); replace K1 := Lib.hid (K1.out.grown hg (by omega)); replace K4 := Lib.hid (K4.out.grown hg (by omega)); replace K2 := Lib.hid hk; have hz6 := hg.size; clear hk hg))
  exact bodyPost_ret (v := .tuple #[ros { ro0 with m := m, s := s, r := r }, .int .i64 0]) (ret_ros rfl _ _ K2.out rfl rfl) rfl ⟨rfl, HB.out⟩
end Go.Proofs.Ytdchcggllcgokaa.Q

namespace Go.Proofs.Ytdchcggllcgokaa.Q
open Go.RowKit Go.Proofs.Ytdchcggllcgokaa.L Go.Proofs.Ytdchcggllcgokaa.R Go.Proofs.YtdchcggllcgokaaW.PrintWords
set_option linter.unusedVariables false
set_option linter.unusedSimpArgs false
set_option maxRecDepth 100000 in
set_option maxHeartbeats 2000000 in
theorem rHeals_A (x : Ro) (HL : Hid (x.st.length = 16))  
    (Y : Hid (∀ w : World, Calls Try.prog 90 #[ros x] w fun e w' => e = .returned (.bool false) ∧ Below w.heap.size w w')) (w : World) : Calls Try.prog 96 #[ros x] w fun e w' => e = .returned (.tuple #[.int .i64 0, .bool false]) ∧ Below w.heap.size w w' := by
  have HB := Lib.hid (Below.refl w.heap.size w)
  have tok0 : True := trivial
  have tp0 : True := trivial
  go_enter Try.func96, Try.ntmps96
  go_wp2_with (first
    | (go_skip)
    | (refine rosBox (.tmp 0) rfl rfl HL.out rfl ?_; intro w1 hk hb1 hz1; replace HB := Lib.hid (below_ext HB.out hb1); have K1 := Lib.hid hk; clear hk hb1))
  go_loopw [4] (fun i wr => ∃ q : Nat, q ≤ 16 ∧ i = .int .i64 (q : Int) ∧ Hid (q = 0) ∧ Hid (Ros wr w.heap.size x) ∧ Hid (Below w.heap.size w wr)) (fun i _ => 16 - (intOf i).toNat)
  case atStart => exact ⟨0, by omega, rfl, Lib.hid rfl, K1, HB⟩
  case round =>
    clear K1 HB
    obtain ⟨q, hq, rfl, hq0, K1, HB⟩ := hrel
    obtain rfl := hq0.out
    clear hq0
    go_wp2_with (first
      | (go_skip)
      | (refine rosLoad (.tmp 1) rfl K1.out rfl rfl ?_)
      | (go_at_call 90; refine (Y.out _).mono ?_; rintro e w3 ⟨rfl, hb⟩; replace K1 := Lib.hid (K1.out.below hb); replace HB := Lib.hid (below_ext HB.out hb); clear hb))
    go_ret2
    exact ⟨rfl, HB.out⟩
set_option maxRecDepth 100000 in
set_option maxHeartbeats 2000000 in
theorem rHeals_B (x : Ro) (HL : Hid (x.st.length = 16))  (hz : Hid (∀ j : Nat, j < 16 → rd x.st (j : Int) ≠ 2))
    (Y : Hid (∀ w : World, Calls Try.prog 90 #[ros x] w fun e w' => e = .returned (.bool true) ∧ Below w.heap.size w w')) (w : World) : Calls Try.prog 96 #[ros x] w fun e w' => e = .returned (.tuple #[.int .i64 0, .bool false]) ∧ Below w.heap.size w w' := by
  have HB := Lib.hid (Below.refl w.heap.size w)
  have tok0 : True := trivial
  have tp0 : True := trivial
  go_enter Try.func96, Try.ntmps96
  go_wp2_with (first
    | (go_skip)
    | (refine rosBox (.tmp 0) rfl rfl HL.out rfl ?_; intro w1 hk hb1 hz1; replace HB := Lib.hid (below_ext HB.out hb1); have K1 := Lib.hid hk; clear hk hb1))
  go_loopw [4] (fun i wr => ∃ q : Nat, q ≤ 16 ∧ i = .int .i64 (q : Int) ∧ Hid (∀ j : Nat, j < q → rd x.st (j : Int) ≠ 2) ∧ Hid (Ros wr w.heap.size x) ∧ Hid (Below w.heap.size w wr)) (fun i _ => 16 - (intOf i).toNat)
  case atStart => exact ⟨0, by omega, rfl, Lib.hid (fun j h => absurd h (by omega)), K1, HB⟩
  case round =>
    clear K1 HB
    obtain ⟨q, hq, rfl, HA, K1, HB⟩ := hrel
    have hi0 : (0 : Int) ≤ (q : Int) := by omega
    by_cases hlt : q < 16
    · have hlt2 : (q : Int) < 16 := by omega
      by_cases he : rd x.st (q : Int) = 2
      · exact absurd he (hz.out q hlt)
      · have g1 : (rd x.st (q : Int) == 2) = false := by simpa using he
        have HE := Lib.hid he
        clear he
        go_wp2_with (first
          | (go_skip)
          | (refine rosLoad (.tmp 1) rfl K1.out rfl rfl ?_)
          | (go_at_call 90; refine (Y.out _).mono ?_; rintro e w3 ⟨rfl, hb⟩; replace K1 := Lib.hid (K1.out.below hb); replace HB := Lib.hid (below_ext HB.out hb); clear hb)
          | (refine F.rowCell _ (.tmp 15) rfl (K1.out.ci q hlt) rfl R.agg_u8 rfl ?_))
        go_roundw
        case rel =>
          refine ⟨q + 1, by omega, by go_num, Lib.hid (fun j h1 => ?_), K1, HB⟩
          rcases Nat.lt_or_ge j q with h | h
          · exact HA.out j h
          · obtain rfl : j = q := by omega
            exact HE.out
        case measure => simp [intOf]; omega
    · obtain rfl : q = 16 := by omega
      go_wp2
      go_ret2
      exact ⟨rfl, HB.out⟩
set_option maxRecDepth 100000 in
set_option maxHeartbeats 2000000 in
theorem rHeals_C (x : Ro) (HL : Hid (x.st.length = 16)) (k : Nat) (hk : k < 16) (h2 : Hid (rd x.st (k : Int) = 2)) (hz : Hid (∀ j : Nat, j < k → rd x.st (j : Int) ≠ 2))
    (Y : Hid (∀ w : World, Calls Try.prog 90 #[ros x] w fun e w' => e = .returned (.bool true) ∧ Below w.heap.size w w')) (w : World) : Calls Try.prog 96 #[ros x] w fun e w' => e = .returned (.tuple #[.int .i64 (k : Int), .bool true]) ∧ Below w.heap.size w w' := by
  have HB := Lib.hid (Below.refl w.heap.size w)
  have tok0 : True := trivial
  have tp0 : True := trivial
  go_enter Try.func96, Try.ntmps96
  go_wp2_with (first
    | (go_skip)
    | (refine rosBox (.tmp 0) rfl rfl HL.out rfl ?_; intro w1 hk hb1 hz1; replace HB := Lib.hid (below_ext HB.out hb1); have K1 := Lib.hid hk; clear hk hb1))
  go_loopw [4] (fun i wr => ∃ q : Nat, q ≤ 16 ∧ i = .int .i64 (q : Int) ∧ Hid (∀ j : Nat, j < q → rd x.st (j : Int) ≠ 2) ∧ Hid (Ros wr w.heap.size x) ∧ Hid (Below w.heap.size w wr)) (fun i _ => 16 - (intOf i).toNat)
  case atStart => exact ⟨0, by omega, rfl, Lib.hid (fun j h => absurd h (by omega)), K1, HB⟩
  case round =>
    clear K1 HB
    obtain ⟨q, hq, rfl, HA, K1, HB⟩ := hrel
    have hi0 : (0 : Int) ≤ (q : Int) := by omega
    by_cases hlt : q < 16
    · have hlt2 : (q : Int) < 16 := by omega
      by_cases he : rd x.st (q : Int) = 2
      · have hqk : q = k := by
          rcases Nat.lt_trichotomy q k with h | h | h
          · exact absurd he (hz.out q h)
          · exact h
          · exact absurd h2.out (HA.out k h)
        subst hqk
        have g1 : (rd x.st (q : Int) == 2) = true := by simpa using he
        clear he
        go_wp2_with (first
          | (go_skip)
          | (refine rosLoad (.tmp 1) rfl K1.out rfl rfl ?_)
          | (go_at_call 90; refine (Y.out _).mono ?_; rintro e w3 ⟨rfl, hb⟩; replace K1 := Lib.hid (K1.out.below hb); replace HB := Lib.hid (below_ext HB.out hb); clear hb)
          | (refine F.rowCell _ (.tmp 15) rfl (K1.out.ci q hlt) rfl R.agg_u8 rfl ?_))
        go_ret2
        exact ⟨rfl, HB.out⟩
      · have g1 : (rd x.st (q : Int) == 2) = false := by simpa using he
        have HE := Lib.hid he
        clear he
        go_wp2_with (first
          | (go_skip)
          | (refine rosLoad (.tmp 1) rfl K1.out rfl rfl ?_)
          | (go_at_call 90; refine (Y.out _).mono ?_; rintro e w3 ⟨rfl, hb⟩; replace K1 := Lib.hid (K1.out.below hb); replace HB := Lib.hid (below_ext HB.out hb); clear hb)
          | (refine F.rowCell _ (.tmp 15) rfl (K1.out.ci q hlt) rfl R.agg_u8 rfl ?_))
        go_roundw
        case rel =>
          refine ⟨q + 1, by omega, by go_num, Lib.hid (fun j h1 => ?_), K1, HB⟩
          rcases Nat.lt_or_ge j q with h | h
          · exact HA.out j h
          · obtain rfl : j = q := by omega
            exact HE.out
        case measure => simp [intOf]; omega
    · obtain rfl : q = 16 := by omega
      exact absurd h2.out (HA.out k hk)
set_option maxRecDepth 100000 in
set_option maxHeartbeats 2000000 in
theorem rMissing_A (x : Ro) (HL : Hid (x.st.length = 16))  
    (Y : Hid (∀ w : World, Calls Try.prog 90 #[ros x] w fun e w' => e = .returned (.bool false) ∧ Below w.heap.size w w')) (w : World) : Calls Try.prog 93 #[ros x] w fun e w' => e = .returned (.int .i64 0) ∧ Below w.heap.size w w' := by
  have HB := Lib.hid (Below.refl w.heap.size w)
  have tok0 : True := trivial
  have tp0 : True := trivial
  go_enter Try.func93, Try.ntmps93
  go_wp2_with (first
    | (go_skip)
    | (refine rosBox (.tmp 0) rfl rfl HL.out rfl ?_; intro w1 hk hb1 hz1; replace HB := Lib.hid (below_ext HB.out hb1); have K1 := Lib.hid hk; clear hk hb1))
  go_loopw [3, 4] (fun n i wr => ∃ q : Nat, q ≤ 16 ∧ i = .int .i64 (q : Int) ∧ Hid (q = 0) ∧ n = .int .i64 0 ∧ Hid (Ros wr w.heap.size x) ∧ Hid (Below w.heap.size w wr)) (fun n i _ => 16 - (intOf i).toNat)
  case atStart => exact ⟨0, by omega, rfl, Lib.hid rfl, rfl, K1, HB⟩
  case round =>
    clear K1 HB
    obtain ⟨q, hq, rfl, hq0, rfl, K1, HB⟩ := hrel
    obtain rfl := hq0.out
    clear hq0
    go_wp2_with (first
      | (go_skip)
      | (refine rosLoad (.tmp 1) rfl K1.out rfl rfl ?_)
      | (go_at_call 90; refine (Y.out _).mono ?_; rintro e w3 ⟨rfl, hb⟩; replace K1 := Lib.hid (K1.out.below hb); replace HB := Lib.hid (below_ext HB.out hb); clear hb))
    go_ret
    exact ⟨rfl, HB.out⟩
set_option maxRecDepth 100000 in
set_option maxHeartbeats 2000000 in
theorem rMissing_B (x : Ro) (HL : Hid (x.st.length = 16))  
    (Y : Hid (∀ w : World, Calls Try.prog 90 #[ros x] w fun e w' => e = .returned (.bool true) ∧ Below w.heap.size w w')) (w : World) : Calls Try.prog 93 #[ros x] w fun e w' => e = .returned (.int .i64 ((16 - cnt x.st 0 16 : Nat) : Int)) ∧ Below w.heap.size w w' := by
  have HB := Lib.hid (Below.refl w.heap.size w)
  have tok0 : True := trivial
  have tp0 : True := trivial
  go_enter Try.func93, Try.ntmps93
  go_wp2_with (first
    | (go_skip)
    | (refine rosBox (.tmp 0) rfl rfl HL.out rfl ?_; intro w1 hk hb1 hz1; replace HB := Lib.hid (below_ext HB.out hb1); have K1 := Lib.hid hk; clear hk hb1))
  go_loopw [3, 4] (fun n i wr => ∃ q : Nat, q ≤ 16 ∧ i = .int .i64 (q : Int) ∧ n = .int .i64 ((q - cnt x.st 0 q : Nat) : Int) ∧ Hid (Ros wr w.heap.size x) ∧ Hid (Below w.heap.size w wr)) (fun n i _ => 16 - (intOf i).toNat)
  case atStart => exact ⟨0, by omega, rfl, by rw [cnt_0]; rfl, K1, HB⟩
  case round =>
    clear K1 HB
    obtain ⟨q, hq, rfl, rfl, K1, HB⟩ := hrel
    have hi0 : (0 : Int) ≤ (q : Int) := by omega
    have hc := cnt_le x.st 0 q
    have hs := cnt_succ x.st 0 q
    by_cases hlt : q < 16
    · have hlt2 : (q : Int) < 16 := by omega
      have hd : q - cnt x.st 0 q ≤ 16 := by omega
      by_cases he : rd x.st (q : Int) = 0
      · have g1 : (rd x.st (q : Int) != 0) = false := by simpa using he
        rw [if_pos he] at hs
        clear he
        go_wp2_with (first
          | (go_skip)
          | (refine rosLoad (.tmp 1) rfl K1.out rfl rfl ?_)
          | (go_at_call 90; refine (Y.out _).mono ?_; rintro e w3 ⟨rfl, hb⟩; replace K1 := Lib.hid (K1.out.below hb); replace HB := Lib.hid (below_ext HB.out hb); clear hb)
          | (refine F.rowCell _ (.tmp 15) rfl (K1.out.ci q hlt) rfl R.agg_u8 rfl ?_))
        go_roundw
        case rel => exact ⟨q + 1, by omega, by go_num, by rw [hs, show q + 1 - (cnt x.st 0 q + 1) = q - cnt x.st 0 q by omega], K1, HB⟩
        case measure => simp [intOf]; omega
      · have g1 : (rd x.st (q : Int) != 0) = true := by simpa using he
        rw [if_neg he] at hs
        clear he
        go_wp2_with (first
          | (go_skip)
          | (refine rosLoad (.tmp 1) rfl K1.out rfl rfl ?_)
          | (go_at_call 90; refine (Y.out _).mono ?_; rintro e w3 ⟨rfl, hb⟩; replace K1 := Lib.hid (K1.out.below hb); replace HB := Lib.hid (below_ext HB.out hb); clear hb)
          | (refine F.rowCell _ (.tmp 15) rfl (K1.out.ci q hlt) rfl R.agg_u8 rfl ?_))
        go_roundw
        case rel => exact ⟨q + 1, by omega, by go_num, by rw [hs, show q + 1 - (cnt x.st 0 q + 0) = (q - cnt x.st 0 q) + 1 by omega]; go_num, K1, HB⟩
        case measure => simp [intOf]; omega
    · obtain rfl : q = 16 := by omega
      go_wp2
      go_ret
      exact ⟨rfl, HB.out⟩
set_option maxRecDepth 100000 in
set_option maxHeartbeats 2000000 in
theorem rState_A (x : Ro) (HL : Hid (x.st.length = 16))  
    (Y : Hid (∀ w : World, Calls Try.prog 90 #[ros x] w fun e w' => e = .returned (.bool false) ∧ Below w.heap.size w w')) (w : World) : Calls Try.prog 95 #[ros x] w fun e w' => e = .returned (.int .i64 0) ∧ Below w.heap.size w w' := by
  have HB := Lib.hid (Below.refl w.heap.size w)
  have tok0 : True := trivial
  have tp0 : True := trivial
  go_enter Try.func95, Try.ntmps95
  go_wp2_with (first
    | (go_skip)
    | (refine rosBox (.tmp 0) rfl rfl HL.out rfl ?_; intro w1 hk hb1 hz1; replace HB := Lib.hid (below_ext HB.out hb1); have K1 := Lib.hid hk; clear hk hb1)
    | (refine rosLoad (.tmp 1) rfl K1.out rfl rfl ?_)
    | (have _t := tp0; go_at_call 90; refine (Y.out _).mono ?_; rintro e w2 ⟨rfl, hb2⟩; replace K1 := Lib.hid (K1.out.below hb2); replace HB := Lib.hid (below_ext HB.out hb2); have hz2 := hb2.size; clear hb2; have tp1 : True := trivial; clear _t tp0))
  go_ret
  exact ⟨rfl, HB.out⟩
set_option maxRecDepth 100000 in
set_option maxHeartbeats 2000000 in
theorem rState_B (x : Ro) (HL : Hid (x.st.length = 16)) (k c : Int) (b : Bool) (h : 2 ≤ c)
    (Y : Hid (∀ w : World, Calls Try.prog 90 #[ros x] w fun e w' => e = .returned (.bool true) ∧ Below w.heap.size w w'))
    (M : Hid (∀ w : World, Calls Try.prog 93 #[ros x] w fun e w' => e = .returned (.int .i64 c) ∧ Below w.heap.size w w'))
    (H : Hid (∀ w : World, Calls Try.prog 96 #[ros x] w fun e w' => e = .returned (.tuple #[.int .i64 k, .bool b]) ∧ Below w.heap.size w w')) (w : World) : Calls Try.prog 95 #[ros x] w fun e w' => e = .returned (.int .i64 5) ∧ Below w.heap.size w w' := by
  have HB := Lib.hid (Below.refl w.heap.size w)
  have g1 : decide (2 ≤ c) = true := by simpa using h
  have tok0 : True := trivial
  have tp0 : True := trivial
  go_enter Try.func95, Try.ntmps95
  go_wp2_with (first
    | (go_skip)
    | (refine rosBox (.tmp 0) rfl rfl HL.out rfl ?_; intro w1 hk hb1 hz1; replace HB := Lib.hid (below_ext HB.out hb1); have K1 := Lib.hid hk; clear hk hb1)
    | (refine rosLoad (.tmp 1) rfl K1.out rfl rfl ?_)
    | (have _t := tp0; go_at_call 90; refine (Y.out _).mono ?_; rintro e w2 ⟨rfl, hb2⟩; replace K1 := Lib.hid (K1.out.below hb2); replace HB := Lib.hid (below_ext HB.out hb2); have hz2 := hb2.size; clear hb2; have tp1 : True := trivial; clear _t tp0)
    | (have _t := tp1; go_at_call 93; refine (M.out _).mono ?_; rintro e w3 ⟨rfl, hb3⟩; replace K1 := Lib.hid (K1.out.below hb3); replace HB := Lib.hid (below_ext HB.out hb3); have hz3 := hb3.size; clear hb3; have tp2 : True := trivial; clear _t tp1)
    | (have _t := tp2; go_at_call 96; refine (H.out _).mono ?_; rintro e w4 ⟨rfl, hb4⟩; replace K1 := Lib.hid (K1.out.below hb4); replace HB := Lib.hid (below_ext HB.out hb4); have hz4 := hb4.size; clear hb4; have tp3 : True := trivial; clear _t tp2)
    | (refine F.rowCell (v := .bool false) _ (.tmp 22) rfl (by have h := K1.out.cgo; rw [hg] at h; exact h) rfl agg_bool rfl ?_))
  go_ret
  exact ⟨rfl, HB.out⟩
set_option maxRecDepth 100000 in
set_option maxHeartbeats 2000000 in
theorem rState_C (x : Ro) (HL : Hid (x.st.length = 16)) (k c : Int) (b : Bool) (h : c = 1) (hg : x.go = true)
    (Y : Hid (∀ w : World, Calls Try.prog 90 #[ros x] w fun e w' => e = .returned (.bool true) ∧ Below w.heap.size w w'))
    (M : Hid (∀ w : World, Calls Try.prog 93 #[ros x] w fun e w' => e = .returned (.int .i64 c) ∧ Below w.heap.size w w'))
    (H : Hid (∀ w : World, Calls Try.prog 96 #[ros x] w fun e w' => e = .returned (.tuple #[.int .i64 k, .bool b]) ∧ Below w.heap.size w w')) (w : World) : Calls Try.prog 95 #[ros x] w fun e w' => e = .returned (.int .i64 5) ∧ Below w.heap.size w w' := by
  have HB := Lib.hid (Below.refl w.heap.size w)
  have g1 : decide (2 ≤ c) = false := by simp; omega
  have g2 : (c == 1) = true := by rw [beq_iff_eq]; omega
  clear h
  have tok0 : True := trivial
  have tp0 : True := trivial
  go_enter Try.func95, Try.ntmps95
  go_wp2_with (first
    | (go_skip)
    | (refine rosBox (.tmp 0) rfl rfl HL.out rfl ?_; intro w1 hk hb1 hz1; replace HB := Lib.hid (below_ext HB.out hb1); have K1 := Lib.hid hk; clear hk hb1)
    | (refine rosLoad (.tmp 1) rfl K1.out rfl rfl ?_)
    | (have _t := tp0; go_at_call 90; refine (Y.out _).mono ?_; rintro e w2 ⟨rfl, hb2⟩; replace K1 := Lib.hid (K1.out.below hb2); replace HB := Lib.hid (below_ext HB.out hb2); have hz2 := hb2.size; clear hb2; have tp1 : True := trivial; clear _t tp0)
    | (have _t := tp1; go_at_call 93; refine (M.out _).mono ?_; rintro e w3 ⟨rfl, hb3⟩; replace K1 := Lib.hid (K1.out.below hb3); replace HB := Lib.hid (below_ext HB.out hb3); have hz3 := hb3.size; clear hb3; have tp2 : True := trivial; clear _t tp1)
    | (have _t := tp2; go_at_call 96; refine (H.out _).mono ?_; rintro e w4 ⟨rfl, hb4⟩; replace K1 := Lib.hid (K1.out.below hb4); replace HB := Lib.hid (below_ext HB.out hb4); have hz4 := hb4.size; clear hb4; have tp3 : True := trivial; clear _t tp2)
    | (refine F.rowCell (v := .bool true) _ (.tmp 22) rfl (by have h := K1.out.cgo; rw [hg] at h; exact h) rfl agg_bool rfl ?_))
  go_ret
  exact ⟨rfl, HB.out⟩
set_option maxRecDepth 100000 in
set_option maxHeartbeats 2000000 in
theorem rState_D (x : Ro) (HL : Hid (x.st.length = 16)) (k c : Int)  (h : c = 1) (hg : x.go = false)
    (Y : Hid (∀ w : World, Calls Try.prog 90 #[ros x] w fun e w' => e = .returned (.bool true) ∧ Below w.heap.size w w'))
    (M : Hid (∀ w : World, Calls Try.prog 93 #[ros x] w fun e w' => e = .returned (.int .i64 c) ∧ Below w.heap.size w w'))
    (H : Hid (∀ w : World, Calls Try.prog 96 #[ros x] w fun e w' => e = .returned (.tuple #[.int .i64 k, .bool true]) ∧ Below w.heap.size w w')) (w : World) : Calls Try.prog 95 #[ros x] w fun e w' => e = .returned (.int .i64 3) ∧ Below w.heap.size w w' := by
  have HB := Lib.hid (Below.refl w.heap.size w)
  have g1 : decide (2 ≤ c) = false := by simp; omega
  have g2 : (c == 1) = true := by rw [beq_iff_eq]; omega
  clear h
  have tok0 : True := trivial
  have tp0 : True := trivial
  go_enter Try.func95, Try.ntmps95
  go_wp2_with (first
    | (go_skip)
    | (refine rosBox (.tmp 0) rfl rfl HL.out rfl ?_; intro w1 hk hb1 hz1; replace HB := Lib.hid (below_ext HB.out hb1); have K1 := Lib.hid hk; clear hk hb1)
    | (refine rosLoad (.tmp 1) rfl K1.out rfl rfl ?_)
    | (have _t := tp0; go_at_call 90; refine (Y.out _).mono ?_; rintro e w2 ⟨rfl, hb2⟩; replace K1 := Lib.hid (K1.out.below hb2); replace HB := Lib.hid (below_ext HB.out hb2); have hz2 := hb2.size; clear hb2; have tp1 : True := trivial; clear _t tp0)
    | (have _t := tp1; go_at_call 93; refine (M.out _).mono ?_; rintro e w3 ⟨rfl, hb3⟩; replace K1 := Lib.hid (K1.out.below hb3); replace HB := Lib.hid (below_ext HB.out hb3); have hz3 := hb3.size; clear hb3; have tp2 : True := trivial; clear _t tp1)
    | (have _t := tp2; go_at_call 96; refine (H.out _).mono ?_; rintro e w4 ⟨rfl, hb4⟩; replace K1 := Lib.hid (K1.out.below hb4); replace HB := Lib.hid (below_ext HB.out hb4); have hz4 := hb4.size; clear hb4; have tp3 : True := trivial; clear _t tp2)
    | (refine F.rowCell (v := .bool false) _ (.tmp 22) rfl (by have h := K1.out.cgo; rw [hg] at h; exact h) rfl agg_bool rfl ?_)
    | (refine F.rowCell (v := .bool false) _ (.tmp 26) rfl (by have h := K1.out.cgo; rw [hg] at h; exact h) rfl agg_bool rfl ?_))
  go_ret
  exact ⟨rfl, HB.out⟩
set_option maxRecDepth 100000 in
set_option maxHeartbeats 2000000 in
theorem rState_E (x : Ro) (HL : Hid (x.st.length = 16)) (k c : Int)  (h : c = 1) (hg : x.go = false)
    (Y : Hid (∀ w : World, Calls Try.prog 90 #[ros x] w fun e w' => e = .returned (.bool true) ∧ Below w.heap.size w w'))
    (M : Hid (∀ w : World, Calls Try.prog 93 #[ros x] w fun e w' => e = .returned (.int .i64 c) ∧ Below w.heap.size w w'))
    (H : Hid (∀ w : World, Calls Try.prog 96 #[ros x] w fun e w' => e = .returned (.tuple #[.int .i64 k, .bool false]) ∧ Below w.heap.size w w')) (w : World) : Calls Try.prog 95 #[ros x] w fun e w' => e = .returned (.int .i64 2) ∧ Below w.heap.size w w' := by
  have HB := Lib.hid (Below.refl w.heap.size w)
  have g1 : decide (2 ≤ c) = false := by simp; omega
  have g2 : (c == 1) = true := by rw [beq_iff_eq]; omega
  clear h
  have tok0 : True := trivial
  have tp0 : True := trivial
  go_enter Try.func95, Try.ntmps95
  go_wp2_with (first
    | (go_skip)
    | (refine rosBox (.tmp 0) rfl rfl HL.out rfl ?_; intro w1 hk hb1 hz1; replace HB := Lib.hid (below_ext HB.out hb1); have K1 := Lib.hid hk; clear hk hb1)
    | (refine rosLoad (.tmp 1) rfl K1.out rfl rfl ?_)
    | (have _t := tp0; go_at_call 90; refine (Y.out _).mono ?_; rintro e w2 ⟨rfl, hb2⟩; replace K1 := Lib.hid (K1.out.below hb2); replace HB := Lib.hid (below_ext HB.out hb2); have hz2 := hb2.size; clear hb2; have tp1 : True := trivial; clear _t tp0)
    | (have _t := tp1; go_at_call 93; refine (M.out _).mono ?_; rintro e w3 ⟨rfl, hb3⟩; replace K1 := Lib.hid (K1.out.below hb3); replace HB := Lib.hid (below_ext HB.out hb3); have hz3 := hb3.size; clear hb3; have tp2 : True := trivial; clear _t tp1)
    | (have _t := tp2; go_at_call 96; refine (H.out _).mono ?_; rintro e w4 ⟨rfl, hb4⟩; replace K1 := Lib.hid (K1.out.below hb4); replace HB := Lib.hid (below_ext HB.out hb4); have hz4 := hb4.size; clear hb4; have tp3 : True := trivial; clear _t tp2)
    | (refine F.rowCell (v := .bool false) _ (.tmp 22) rfl (by have h := K1.out.cgo; rw [hg] at h; exact h) rfl agg_bool rfl ?_)
    | (refine F.rowCell (v := .bool false) _ (.tmp 26) rfl (by have h := K1.out.cgo; rw [hg] at h; exact h) rfl agg_bool rfl ?_))
  go_ret
  exact ⟨rfl, HB.out⟩
set_option maxRecDepth 100000 in
set_option maxHeartbeats 2000000 in
theorem rState_F (x : Ro) (HL : Hid (x.st.length = 16)) (k c : Int) (b : Bool) (h : c < 1) (hg : x.go = true)
    (Y : Hid (∀ w : World, Calls Try.prog 90 #[ros x] w fun e w' => e = .returned (.bool true) ∧ Below w.heap.size w w'))
    (M : Hid (∀ w : World, Calls Try.prog 93 #[ros x] w fun e w' => e = .returned (.int .i64 c) ∧ Below w.heap.size w w'))
    (H : Hid (∀ w : World, Calls Try.prog 96 #[ros x] w fun e w' => e = .returned (.tuple #[.int .i64 k, .bool b]) ∧ Below w.heap.size w w')) (w : World) : Calls Try.prog 95 #[ros x] w fun e w' => e = .returned (.int .i64 4) ∧ Below w.heap.size w w' := by
  have HB := Lib.hid (Below.refl w.heap.size w)
  have g1 : decide (2 ≤ c) = false := by simp; omega
  have g2 : (c == 1) = false := by rw [beq_eq_false_iff_ne]; omega
  have tok0 : True := trivial
  have tp0 : True := trivial
  go_enter Try.func95, Try.ntmps95
  go_wp2_with (first
    | (go_skip)
    | (refine rosBox (.tmp 0) rfl rfl HL.out rfl ?_; intro w1 hk hb1 hz1; replace HB := Lib.hid (below_ext HB.out hb1); have K1 := Lib.hid hk; clear hk hb1)
    | (refine rosLoad (.tmp 1) rfl K1.out rfl rfl ?_)
    | (have _t := tp0; go_at_call 90; refine (Y.out _).mono ?_; rintro e w2 ⟨rfl, hb2⟩; replace K1 := Lib.hid (K1.out.below hb2); replace HB := Lib.hid (below_ext HB.out hb2); have hz2 := hb2.size; clear hb2; have tp1 : True := trivial; clear _t tp0)
    | (have _t := tp1; go_at_call 93; refine (M.out _).mono ?_; rintro e w3 ⟨rfl, hb3⟩; replace K1 := Lib.hid (K1.out.below hb3); replace HB := Lib.hid (below_ext HB.out hb3); have hz3 := hb3.size; clear hb3; have tp2 : True := trivial; clear _t tp1)
    | (have _t := tp2; go_at_call 96; refine (H.out _).mono ?_; rintro e w4 ⟨rfl, hb4⟩; replace K1 := Lib.hid (K1.out.below hb4); replace HB := Lib.hid (below_ext HB.out hb4); have hz4 := hb4.size; clear hb4; have tp3 : True := trivial; clear _t tp2)
    | (refine F.rowCell (v := .bool true) _ (.tmp 22) rfl (by have h := K1.out.cgo; rw [hg] at h; exact h) rfl agg_bool rfl ?_)
    | (refine F.rowCell (v := .bool true) _ (.tmp 26) rfl (by have h := K1.out.cgo; rw [hg] at h; exact h) rfl agg_bool rfl ?_))
  go_ret
  exact ⟨rfl, HB.out⟩
set_option maxRecDepth 100000 in
set_option maxHeartbeats 2000000 in
theorem rState_G (x : Ro) (HL : Hid (x.st.length = 16)) (k c : Int)  (h : c < 1) (hg : x.go = false)
    (Y : Hid (∀ w : World, Calls Try.prog 90 #[ros x] w fun e w' => e = .returned (.bool true) ∧ Below w.heap.size w w'))
    (M : Hid (∀ w : World, Calls Try.prog 93 #[ros x] w fun e w' => e = .returned (.int .i64 c) ∧ Below w.heap.size w w'))
    (H : Hid (∀ w : World, Calls Try.prog 96 #[ros x] w fun e w' => e = .returned (.tuple #[.int .i64 k, .bool true]) ∧ Below w.heap.size w w')) (w : World) : Calls Try.prog 95 #[ros x] w fun e w' => e = .returned (.int .i64 3) ∧ Below w.heap.size w w' := by
  have HB := Lib.hid (Below.refl w.heap.size w)
  have g1 : decide (2 ≤ c) = false := by simp; omega
  have g2 : (c == 1) = false := by rw [beq_eq_false_iff_ne]; omega
  have tok0 : True := trivial
  have tp0 : True := trivial
  go_enter Try.func95, Try.ntmps95
  go_wp2_with (first
    | (go_skip)
    | (refine rosBox (.tmp 0) rfl rfl HL.out rfl ?_; intro w1 hk hb1 hz1; replace HB := Lib.hid (below_ext HB.out hb1); have K1 := Lib.hid hk; clear hk hb1)
    | (refine rosLoad (.tmp 1) rfl K1.out rfl rfl ?_)
    | (have _t := tp0; go_at_call 90; refine (Y.out _).mono ?_; rintro e w2 ⟨rfl, hb2⟩; replace K1 := Lib.hid (K1.out.below hb2); replace HB := Lib.hid (below_ext HB.out hb2); have hz2 := hb2.size; clear hb2; have tp1 : True := trivial; clear _t tp0)
    | (have _t := tp1; go_at_call 93; refine (M.out _).mono ?_; rintro e w3 ⟨rfl, hb3⟩; replace K1 := Lib.hid (K1.out.below hb3); replace HB := Lib.hid (below_ext HB.out hb3); have hz3 := hb3.size; clear hb3; have tp2 : True := trivial; clear _t tp1)
    | (have _t := tp2; go_at_call 96; refine (H.out _).mono ?_; rintro e w4 ⟨rfl, hb4⟩; replace K1 := Lib.hid (K1.out.below hb4); replace HB := Lib.hid (below_ext HB.out hb4); have hz4 := hb4.size; clear hb4; have tp3 : True := trivial; clear _t tp2)
    | (refine F.rowCell (v := .bool false) _ (.tmp 22) rfl (by have h := K1.out.cgo; rw [hg] at h; exact h) rfl agg_bool rfl ?_)
    | (refine F.rowCell (v := .bool false) _ (.tmp 26) rfl (by have h := K1.out.cgo; rw [hg] at h; exact h) rfl agg_bool rfl ?_))
  go_ret
  exact ⟨rfl, HB.out⟩
set_option maxRecDepth 100000 in
set_option maxHeartbeats 2000000 in
theorem rState_H_ (x : Ro) (HL : Hid (x.st.length = 16)) (k c : Int)  (h : c < 1) (hg : x.go = false)
    (Y : Hid (∀ w : World, Calls Try.prog 90 #[ros x] w fun e w' => e = .returned (.bool true) ∧ Below w.heap.size w w'))
    (M : Hid (∀ w : World, Calls Try.prog 93 #[ros x] w fun e w' => e = .returned (.int .i64 c) ∧ Below w.heap.size w w'))
    (H : Hid (∀ w : World, Calls Try.prog 96 #[ros x] w fun e w' => e = .returned (.tuple #[.int .i64 k, .bool false]) ∧ Below w.heap.size w w')) (w : World) : Calls Try.prog 95 #[ros x] w fun e w' => e = .returned (.int .i64 1) ∧ Below w.heap.size w w' := by
  have HB := Lib.hid (Below.refl w.heap.size w)
  have g1 : decide (2 ≤ c) = false := by simp; omega
  have g2 : (c == 1) = false := by rw [beq_eq_false_iff_ne]; omega
  have tok0 : True := trivial
  have tp0 : True := trivial
  go_enter Try.func95, Try.ntmps95
  go_wp2_with (first
    | (go_skip)
    | (refine rosBox (.tmp 0) rfl rfl HL.out rfl ?_; intro w1 hk hb1 hz1; replace HB := Lib.hid (below_ext HB.out hb1); have K1 := Lib.hid hk; clear hk hb1)
    | (refine rosLoad (.tmp 1) rfl K1.out rfl rfl ?_)
    | (have _t := tp0; go_at_call 90; refine (Y.out _).mono ?_; rintro e w2 ⟨rfl, hb2⟩; replace K1 := Lib.hid (K1.out.below hb2); replace HB := Lib.hid (below_ext HB.out hb2); have hz2 := hb2.size; clear hb2; have tp1 : True := trivial; clear _t tp0)
    | (have _t := tp1; go_at_call 93; refine (M.out _).mono ?_; rintro e w3 ⟨rfl, hb3⟩; replace K1 := Lib.hid (K1.out.below hb3); replace HB := Lib.hid (below_ext HB.out hb3); have hz3 := hb3.size; clear hb3; have tp2 : True := trivial; clear _t tp1)
    | (have _t := tp2; go_at_call 96; refine (H.out _).mono ?_; rintro e w4 ⟨rfl, hb4⟩; replace K1 := Lib.hid (K1.out.below hb4); replace HB := Lib.hid (below_ext HB.out hb4); have hz4 := hb4.size; clear hb4; have tp3 : True := trivial; clear _t tp2)
    | (refine F.rowCell (v := .bool false) _ (.tmp 22) rfl (by have h := K1.out.cgo; rw [hg] at h; exact h) rfl agg_bool rfl ?_)
    | (refine F.rowCell (v := .bool false) _ (.tmp 26) rfl (by have h := K1.out.cgo; rw [hg] at h; exact h) rfl agg_bool rfl ?_))
  go_ret
  exact ⟨rfl, HB.out⟩
end Go.Proofs.Ytdchcggllcgokaa.Q
