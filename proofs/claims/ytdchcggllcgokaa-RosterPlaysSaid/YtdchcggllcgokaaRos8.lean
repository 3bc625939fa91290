/-
  roster.Heals, New, Next: the walks.
-/
import Derived.Test.YtdchcggllcgokaaRos7
namespace Go.Proofs.Ytdchcggllcgokaa.Q
open Go.RowKit Go.Proofs.Ytdchcggllcgokaa.L Go.Proofs.Ytdchcggllcgokaa.R Go.Proofs.YtdchcggllcgokaaW.PrintWords
set_option linter.unusedVariables false
set_option linter.unusedSimpArgs false
set_option maxRecDepth 100000 in
set_option maxHeartbeats 2000000 in
theorem Heals_A (x : Ro) (HL : Hid (x.st.length = 16))  
    (P : Hid (∀ w : World, Calls Try.prog 89 #[ros x] w fun e w' => e = .returned (.bool false) ∧ Below w.heap.size w w')) (w : World) : Calls Try.prog 68 #[ros x] w fun e w' => e = .returned (.tuple #[.int .i64 0, .bool false]) ∧ Below w.heap.size w w' := by
  have HB := Lib.hid (Below.refl w.heap.size w)
  have tok0 : True := trivial
  have tp0 : True := trivial
  go_enter Try.func68, Try.ntmps68
  go_wp2_with (first
    | (go_skip)
    | (refine rosBox (.tmp 0) rfl rfl HL.out rfl ?_; intro w1 hk hb1 hz1; replace HB := Lib.hid (below_ext HB.out hb1); have K1 := Lib.hid hk; clear hk hb1)
    | (refine rosLoad (.tmp 1) rfl K1.out rfl rfl ?_)
    | (have _t := tp0; go_at_call 89; refine (P.out _).mono ?_; rintro e w2 ⟨rfl, hb2⟩; replace K1 := Lib.hid (K1.out.below hb2); replace HB := Lib.hid (below_ext HB.out hb2); have hz2 := hb2.size; clear hb2; have tp1 : True := trivial; clear _t tp0))
  go_ret2
  exact ⟨rfl, HB.out⟩
set_option maxRecDepth 100000 in
set_option maxHeartbeats 2000000 in
theorem Heals_B (x : Ro) (HL : Hid (x.st.length = 16))  (hz : Hid (∀ j : Nat, j < 16 → rd x.st (j : Int) ≠ 2))
    (P : Hid (∀ w : World, Calls Try.prog 89 #[ros x] w fun e w' => e = .returned (.bool true) ∧ Below w.heap.size w w')) (w : World) : Calls Try.prog 68 #[ros x] w fun e w' => e = .returned (.tuple #[.int .i64 0, .bool false]) ∧ Below w.heap.size w w' := by
  have HB := Lib.hid (Below.refl w.heap.size w)
  have tok0 : True := trivial
  have tp0 : True := trivial
  go_enter Try.func68, Try.ntmps68
  go_wp2_with (first
    | (go_skip)
    | (refine rosBox (.tmp 0) rfl rfl HL.out rfl ?_; intro w1 hk hb1 hz1; replace HB := Lib.hid (below_ext HB.out hb1); have K1 := Lib.hid hk; clear hk hb1)
    | (refine rosLoad (.tmp 1) rfl K1.out rfl rfl ?_)
    | (have _t := tp0; go_at_call 89; refine (P.out _).mono ?_; rintro e w2 ⟨rfl, hb2⟩; replace K1 := Lib.hid (K1.out.below hb2); replace HB := Lib.hid (below_ext HB.out hb2); have hz2 := hb2.size; clear hb2; have tp1 : True := trivial; clear _t tp0)
    | (refine stsLoad (.tmp 9) rfl K1.out rfl rfl ?_))
  go_loopw [11] (fun i wr => ∃ q : Nat, q ≤ 16 ∧ i = .int .i64 (q : Int) ∧ Hid (∀ j : Nat, j < q → rd x.st (j : Int) ≠ 2) ∧ Hid (Below w.heap.size w wr)) (fun i _ => 16 - (intOf i).toNat)
  case atStart => exact ⟨0, by omega, rfl, Lib.hid (fun j h => absurd h (by omega)), HB⟩
  case round =>
    clear HB K1
    obtain ⟨q, hq, rfl, HA, HB⟩ := hrel
    by_cases hlt : q < 16
    · by_cases he : rd x.st (q : Int) = 2
      · exact absurd he (hz.out q hlt)
      · have g1 : (rd x.st (q : Int) == 2) = false := by simpa using he
        have HE := Lib.hid he
        clear he
        go_wp2_with (first
          | (refine F.aggIndex (i := q) (n := 16) 70 (.tmp 10) (.tmp 11) rfl rfl rfl Try.underlying70 hlt R.agg_u8 size_u8s (st_at (by rw [HL.out]; exact hlt)) rfl ?_))
        go_roundw
        case rel =>
          refine ⟨q + 1, by omega, by go_num, Lib.hid (fun j h1 => ?_), HB⟩
          rcases Nat.lt_or_ge j q with h | h
          · exact HA.out j h
          · obtain rfl : j = q := by omega
            exact HE.out
        case measure => simp [intOf]; omega
    · obtain rfl : q = 16 := by omega
      go_wp2
      go_ret2
      exact ⟨rfl, HB.out⟩
set_option maxRecDepth 100000 in
set_option maxHeartbeats 2000000 in
theorem Heals_C (x : Ro) (HL : Hid (x.st.length = 16)) (k : Nat) (hk : k < 16) (h2 : Hid (rd x.st (k : Int) = 2)) (hz : Hid (∀ j : Nat, j < k → rd x.st (j : Int) ≠ 2))
    (P : Hid (∀ w : World, Calls Try.prog 89 #[ros x] w fun e w' => e = .returned (.bool true) ∧ Below w.heap.size w w')) (w : World) : Calls Try.prog 68 #[ros x] w fun e w' => e = .returned (.tuple #[.int .i64 (k : Int), .bool true]) ∧ Below w.heap.size w w' := by
  have HB := Lib.hid (Below.refl w.heap.size w)
  have tok0 : True := trivial
  have tp0 : True := trivial
  go_enter Try.func68, Try.ntmps68
  go_wp2_with (first
    | (go_skip)
    | (refine rosBox (.tmp 0) rfl rfl HL.out rfl ?_; intro w1 hk hb1 hz1; replace HB := Lib.hid (below_ext HB.out hb1); have K1 := Lib.hid hk; clear hk hb1)
    | (refine rosLoad (.tmp 1) rfl K1.out rfl rfl ?_)
    | (have _t := tp0; go_at_call 89; refine (P.out _).mono ?_; rintro e w2 ⟨rfl, hb2⟩; replace K1 := Lib.hid (K1.out.below hb2); replace HB := Lib.hid (below_ext HB.out hb2); have hz2 := hb2.size; clear hb2; have tp1 : True := trivial; clear _t tp0)
    | (refine stsLoad (.tmp 9) rfl K1.out rfl rfl ?_))
  go_loopw [11] (fun i wr => ∃ q : Nat, q ≤ 16 ∧ i = .int .i64 (q : Int) ∧ Hid (∀ j : Nat, j < q → rd x.st (j : Int) ≠ 2) ∧ Hid (Below w.heap.size w wr)) (fun i _ => 16 - (intOf i).toNat)
  case atStart => exact ⟨0, by omega, rfl, Lib.hid (fun j h => absurd h (by omega)), HB⟩
  case round =>
    clear HB K1
    obtain ⟨q, hq, rfl, HA, HB⟩ := hrel
    by_cases hlt : q < 16
    · by_cases he : rd x.st (q : Int) = 2
      · have hqk : q = k := by
          rcases Nat.lt_trichotomy q k with h | h | h
          · exact absurd he (hz.out q h)
          · exact h
          · exact absurd h2.out (HA.out k h)
        subst hqk
        have g1 : (rd x.st (q : Int) == 2) = true := by simpa using he
        clear he
        go_wp2_with (first
          | (refine F.aggIndex (i := q) (n := 16) 70 (.tmp 10) (.tmp 11) rfl rfl rfl Try.underlying70 hlt R.agg_u8 size_u8s (st_at (by rw [HL.out]; exact hlt)) rfl ?_))
        go_ret2
        exact ⟨rfl, HB.out⟩
      · have g1 : (rd x.st (q : Int) == 2) = false := by simpa using he
        have HE := Lib.hid he
        clear he
        go_wp2_with (first
          | (refine F.aggIndex (i := q) (n := 16) 70 (.tmp 10) (.tmp 11) rfl rfl rfl Try.underlying70 hlt R.agg_u8 size_u8s (st_at (by rw [HL.out]; exact hlt)) rfl ?_))
        go_roundw
        case rel =>
          refine ⟨q + 1, by omega, by go_num, Lib.hid (fun j h1 => ?_), HB⟩
          rcases Nat.lt_or_ge j q with h | h
          · exact HA.out j h
          · obtain rfl : j = q := by omega
            exact HE.out
        case measure => simp [intOf]; omega
    · obtain rfl : q = 16 := by omega
      exact absurd h2.out (HA.out k hk)
set_option maxRecDepth 100000 in
set_option maxHeartbeats 2000000 in
theorem Next_A (x : Ro) (HL : Hid (x.st.length = 16)) (k : Int) (b : Bool) 
    (P : Hid (∀ w : World, Calls Try.prog 89 #[ros x] w fun e w' => e = .returned (.bool false) ∧ Below w.heap.size w w'))
    (H : Hid (∀ w : World, Calls Try.prog 68 #[ros x] w fun e w' => e = .returned (.tuple #[.int .i64 k, .bool b]) ∧ Below w.heap.size w w')) (w : World) : Calls Try.prog 69 #[ros x] w fun e w' => e = .returned (.tuple #[ros ro0, .int .i64 2]) ∧ Below w.heap.size w w' := by
  have HB := Lib.hid (Below.refl w.heap.size w)
  have tok0 : True := trivial
  have tp0 : True := trivial
  go_enter Try.func69, Try.ntmps69
  go_wp2_with (first
    | (go_skip)
    | (refine rosBox (.tmp 0) rfl rfl HL.out rfl ?_; intro w1 hk hb1 hz1; replace HB := Lib.hid (below_ext HB.out hb1); have K1 := Lib.hid hk; clear hk hb1)
    | (have _t := tok0; refine rosAlloc rfl rfl ?_; intro w2 hk hb2 hz2; replace K1 := Lib.hid (K1.out.below hb2); replace HB := Lib.hid (below_ext HB.out hb2); have K2 := Lib.hid hk; clear hk hb2; have tok1 : True := trivial; clear _t tok0)
    | (refine rosLoad (.tmp 1) rfl K1.out rfl rfl ?_)
    | (have _t := tp0; go_at_call 68; refine (H.out _).mono ?_; rintro e w3 ⟨rfl, hb3⟩; replace K1 := Lib.hid (K1.out.below hb3); replace K2 := Lib.hid (K2.out.below hb3); replace HB := Lib.hid (below_ext HB.out hb3); have hz3 := hb3.size; clear hb3; have tp1 : True := trivial; clear _t tp0)
    | (have _t := tp1; go_at_call 89; refine (P.out _).mono ?_; rintro e w4 ⟨rfl, hb4⟩; replace K1 := Lib.hid (K1.out.below hb4); replace K2 := Lib.hid (K2.out.below hb4); replace HB := Lib.hid (below_ext HB.out hb4); have hz4 := hb4.size; clear hb4; have tp2 : True := trivial; clear _t tp1)
    | (refine rosBuild0 rfl rfl ?_)
    | (refine rosStore (.tmp 2) (.tmp 15) rfl K2.out rfl rfl zero16_length rfl ?_; intro w5 hk hg; replace HB := Lib.hid (below_at HB.out hg (by omega) K2.out.lt); replace K1 := Lib.hid (K1.out.grown hg (by omega)); replace K2 := Lib.hid hk; have hz5 := hg.size; clear hk hg))
  exact bodyPost_ret (v := .tuple #[ros ro0, .int .i64 2]) (ret_ros rfl _ _ K2.out rfl rfl) rfl ⟨rfl, HB.out⟩
set_option maxRecDepth 100000 in
set_option maxHeartbeats 2000000 in
theorem Next_B (x : Ro) (HL : Hid (x.st.length = 16)) (k : Int) 
    (P : Hid (∀ w : World, Calls Try.prog 89 #[ros x] w fun e w' => e = .returned (.bool true) ∧ Below w.heap.size w w'))
    (H : Hid (∀ w : World, Calls Try.prog 68 #[ros x] w fun e w' => e = .returned (.tuple #[.int .i64 k, .bool false]) ∧ Below w.heap.size w w')) (w : World) : Calls Try.prog 69 #[ros x] w fun e w' => e = .returned (.tuple #[ros ro0, .int .i64 17]) ∧ Below w.heap.size w w' := by
  have HB := Lib.hid (Below.refl w.heap.size w)
  have tok0 : True := trivial
  have tp0 : True := trivial
  go_enter Try.func69, Try.ntmps69
  go_wp2_with (first
    | (go_skip)
    | (refine rosBox (.tmp 0) rfl rfl HL.out rfl ?_; intro w1 hk hb1 hz1; replace HB := Lib.hid (below_ext HB.out hb1); have K1 := Lib.hid hk; clear hk hb1)
    | (have _t := tok0; refine rosAlloc rfl rfl ?_; intro w2 hk hb2 hz2; replace K1 := Lib.hid (K1.out.below hb2); replace HB := Lib.hid (below_ext HB.out hb2); have K2 := Lib.hid hk; clear hk hb2; have tok1 : True := trivial; clear _t tok0)
    | (refine rosLoad (.tmp 1) rfl K1.out rfl rfl ?_)
    | (have _t := tp0; go_at_call 68; refine (H.out _).mono ?_; rintro e w3 ⟨rfl, hb3⟩; replace K1 := Lib.hid (K1.out.below hb3); replace K2 := Lib.hid (K2.out.below hb3); replace HB := Lib.hid (below_ext HB.out hb3); have hz3 := hb3.size; clear hb3; have tp1 : True := trivial; clear _t tp0)
    | (have _t := tp1; go_at_call 89; refine (P.out _).mono ?_; rintro e w4 ⟨rfl, hb4⟩; replace K1 := Lib.hid (K1.out.below hb4); replace K2 := Lib.hid (K2.out.below hb4); replace HB := Lib.hid (below_ext HB.out hb4); have hz4 := hb4.size; clear hb4; have tp2 : True := trivial; clear _t tp1)
    | (refine rosBuild0 rfl rfl ?_)
    | (refine rosStore (.tmp 2) (.tmp 19) rfl K2.out rfl rfl zero16_length rfl ?_; intro w5 hk hg; replace HB := Lib.hid (below_at HB.out hg (by omega) K2.out.lt); replace K1 := Lib.hid (K1.out.grown hg (by omega)); replace K2 := Lib.hid hk; have hz5 := hg.size; clear hk hg))
  exact bodyPost_ret (v := .tuple #[ros ro0, .int .i64 17]) (ret_ros rfl _ _ K2.out rfl rfl) rfl ⟨rfl, HB.out⟩
set_option maxRecDepth 100000 in
set_option maxHeartbeats 2000000 in
theorem Next_C (x : Ro) (HL : Hid (x.st.length = 16)) (k : Nat) (hk : k < 16) (h0 : 0 ≤ x.cu) (h1 : x.cu < 64) (he : (x.cu + 1 == x.s) = true)
    (P : Hid (∀ w : World, Calls Try.prog 89 #[ros x] w fun e w' => e = .returned (.bool true) ∧ Below w.heap.size w w'))
    (H : Hid (∀ w : World, Calls Try.prog 68 #[ros x] w fun e w' => e = .returned (.tuple #[.int .i64 (k : Int), .bool true]) ∧ Below w.heap.size w w')) (w : World) : Calls Try.prog 69 #[ros x] w fun e w' => e = .returned (.tuple #[ros { x with st := x.st.set k 0, cu := 0 }, .int .i64 0]) ∧ Below w.heap.size w w' := by
  have HB := Lib.hid (Below.refl w.heap.size w)
  have hi0 : (0 : Int) ≤ (k : Int) := by omega
  have hi16 : (k : Int) < 16 := by omega
  have tok0 : True := trivial
  have tp0 : True := trivial
  go_enter Try.func69, Try.ntmps69
  go_wp2_with (first
    | (go_skip)
    | (refine rosBox (.tmp 0) rfl rfl HL.out rfl ?_; intro w1 hk hb1 hz1; replace HB := Lib.hid (below_ext HB.out hb1); have K1 := Lib.hid hk; clear hk hb1)
    | (have _t := tok0; refine rosAlloc rfl rfl ?_; intro w2 hk hb2 hz2; replace K1 := Lib.hid (K1.out.below hb2); replace HB := Lib.hid (below_ext HB.out hb2); have K2 := Lib.hid hk; clear hk hb2; have tok1 : True := trivial; clear _t tok0)
    | (refine rosLoad (.tmp 1) rfl K1.out rfl rfl ?_)
    | (have _t := tp0; go_at_call 68; refine (H.out _).mono ?_; rintro e w3 ⟨rfl, hb3⟩; replace K1 := Lib.hid (K1.out.below hb3); replace K2 := Lib.hid (K2.out.below hb3); replace HB := Lib.hid (below_ext HB.out hb3); have hz3 := hb3.size; clear hb3; have tp1 : True := trivial; clear _t tp0)
    | (have _t := tp1; go_at_call 89; refine (P.out _).mono ?_; rintro e w4 ⟨rfl, hb4⟩; replace K1 := Lib.hid (K1.out.below hb4); replace K2 := Lib.hid (K2.out.below hb4); replace HB := Lib.hid (below_ext HB.out hb4); have hz4 := hb4.size; clear hb4; have tp2 : True := trivial; clear _t tp1)
    | (refine F.rowCell _ (.tmp 20) rfl K1.out.ccu rfl agg_int rfl ?_)
    | (refine rosSetCu (.tmp 23) (.tmp 22) rfl K1.out rfl _ rfl rfl ?_; intro w5 hk hg; replace HB := Lib.hid (below_at HB.out hg (by omega) K1.out.lt); replace K2 := Lib.hid (K2.out.grown hg (by omega)); replace K1 := Lib.hid hk; have hz5 := hg.size; clear hk hg)
    | (refine F.rowCell _ (.tmp 24) rfl K1.out.ccu rfl agg_int rfl ?_)
    | (refine F.rowCell _ (.tmp 27) rfl K1.out.cs rfl agg_int rfl ?_)
    | (refine rosSetSt (.tmp 32) (.const (.int .u8 0)) rfl K1.out k hk rfl _ rfl rfl ?_; intro w6 hk hg; replace HB := Lib.hid (below_at HB.out hg (by omega) K1.out.lt); replace K2 := Lib.hid (K2.out.grown hg (by omega)); replace K1 := Lib.hid hk; have hz6 := hg.size; clear hk hg)
    | (refine rosSetCu (.tmp 33) (.const (.int .i64 0)) rfl K1.out rfl _ rfl rfl ?_; intro w7 hk hg; replace HB := Lib.hid (below_at HB.out hg (by omega) K1.out.lt); replace K2 := Lib.hid (K2.out.grown hg (by omega)); replace K1 := Lib.hid hk; have hz7 := hg.size; clear hk hg)
    | (refine rosStore (.tmp 2) (.tmp 34) rfl K2.out rfl rfl (by simpa using HL.out) rfl ?_; intro w8 hk hg; replace HB := Lib.hid (below_at HB.out hg (by omega) K2.out.lt); replace K1 := Lib.hid (K1.out.grown hg (by omega)); replace K2 := Lib.hid hk; have hz8 := hg.size; clear hk hg))
  exact bodyPost_ret (v := .tuple #[ros { x with st := x.st.set k 0, cu := 0 }, .int .i64 0]) (ret_ros rfl _ _ K2.out rfl rfl) rfl ⟨rfl, HB.out⟩
set_option maxRecDepth 100000 in
set_option maxHeartbeats 2000000 in
theorem Next_D (x : Ro) (HL : Hid (x.st.length = 16)) (k : Nat) (hk : k < 16) (h0 : 0 ≤ x.cu) (h1 : x.cu < 64) (he : (x.cu + 1 == x.s) = false)
    (P : Hid (∀ w : World, Calls Try.prog 89 #[ros x] w fun e w' => e = .returned (.bool true) ∧ Below w.heap.size w w'))
    (H : Hid (∀ w : World, Calls Try.prog 68 #[ros x] w fun e w' => e = .returned (.tuple #[.int .i64 (k : Int), .bool true]) ∧ Below w.heap.size w w')) (w : World) : Calls Try.prog 69 #[ros x] w fun e w' => e = .returned (.tuple #[ros { x with cu := x.cu + 1 }, .int .i64 0]) ∧ Below w.heap.size w w' := by
  have HB := Lib.hid (Below.refl w.heap.size w)
  have hi0 : (0 : Int) ≤ (k : Int) := by omega
  have hi16 : (k : Int) < 16 := by omega
  have tok0 : True := trivial
  have tp0 : True := trivial
  go_enter Try.func69, Try.ntmps69
  go_wp2_with (first
    | (go_skip)
    | (refine rosBox (.tmp 0) rfl rfl HL.out rfl ?_; intro w1 hk hb1 hz1; replace HB := Lib.hid (below_ext HB.out hb1); have K1 := Lib.hid hk; clear hk hb1)
    | (have _t := tok0; refine rosAlloc rfl rfl ?_; intro w2 hk hb2 hz2; replace K1 := Lib.hid (K1.out.below hb2); replace HB := Lib.hid (below_ext HB.out hb2); have K2 := Lib.hid hk; clear hk hb2; have tok1 : True := trivial; clear _t tok0)
    | (refine rosLoad (.tmp 1) rfl K1.out rfl rfl ?_)
    | (have _t := tp0; go_at_call 68; refine (H.out _).mono ?_; rintro e w3 ⟨rfl, hb3⟩; replace K1 := Lib.hid (K1.out.below hb3); replace K2 := Lib.hid (K2.out.below hb3); replace HB := Lib.hid (below_ext HB.out hb3); have hz3 := hb3.size; clear hb3; have tp1 : True := trivial; clear _t tp0)
    | (have _t := tp1; go_at_call 89; refine (P.out _).mono ?_; rintro e w4 ⟨rfl, hb4⟩; replace K1 := Lib.hid (K1.out.below hb4); replace K2 := Lib.hid (K2.out.below hb4); replace HB := Lib.hid (below_ext HB.out hb4); have hz4 := hb4.size; clear hb4; have tp2 : True := trivial; clear _t tp1)
    | (refine F.rowCell _ (.tmp 20) rfl K1.out.ccu rfl agg_int rfl ?_)
    | (refine rosSetCu (.tmp 23) (.tmp 22) rfl K1.out rfl _ rfl rfl ?_; intro w5 hk hg; replace HB := Lib.hid (below_at HB.out hg (by omega) K1.out.lt); replace K2 := Lib.hid (K2.out.grown hg (by omega)); replace K1 := Lib.hid hk; have hz5 := hg.size; clear hk hg)
    | (refine F.rowCell _ (.tmp 24) rfl K1.out.ccu rfl agg_int rfl ?_)
    | (refine F.rowCell _ (.tmp 27) rfl K1.out.cs rfl agg_int rfl ?_)
    | (refine rosStore (.tmp 2) (.tmp 34) rfl K2.out rfl rfl HL.out rfl ?_; intro w6 hk hg; replace HB := Lib.hid (below_at HB.out hg (by omega) K2.out.lt); replace K1 := Lib.hid (K1.out.grown hg (by omega)); replace K2 := Lib.hid hk; have hz6 := hg.size; clear hk hg))
  exact bodyPost_ret (v := .tuple #[ros { x with cu := x.cu + 1 }, .int .i64 0]) (ret_ros rfl _ _ K2.out rfl rfl) rfl ⟨rfl, HB.out⟩
end Go.Proofs.Ytdchcggllcgokaa.Q
