/-
  ashlarref10.Heals, Missing, State: the walks.
-/
import Derived.Test.YtdchcggllcgokaaRos11
namespace Go.Proofs.Ytdchcggllcgokaa.Q
open Go.RowKit Go.Proofs.Ytdchcggllcgokaa.L Go.Proofs.Ytdchcggllcgokaa.R Go.Proofs.YtdchcggllcgokaaW.PrintWords
set_option linter.unusedVariables false
set_option linter.unusedSimpArgs false
set_option maxRecDepth 100000 in
set_option maxHeartbeats 2000000 in
theorem rHeals_A (x : Ro) (HL : Hid (x.st.length = 16))  
    (Y : Hid (∀ w : World, Calls Try.prog 90 #[ros x] w fun e w' => e = .returned (.bool false) ∧ Below w.heap.size w w')) (w : World) : Calls Try.prog 96 #[ros x] w fun e w' => e = .returned (.tuple #[.int .i64 0, .bool false]) ∧ Below w.heap.size w w' := by
  have HB := Lib.hid (Below.refl w.heap.size w)
  have tok0 : True := trivial
  have tp0 : True := trivial
  go_enter Try.func96, Try.ntmps96
  go_wp2_with (first
    | (go_skip)
    | (refine rosBox (.tmp 0) rfl rfl HL.out rfl ?_; intro w1 hk hb1 hz1; replace HB := Lib.hid (below_ext HB.out hb1); have K1 := Lib.hid hk; clear hk hb1))
  go_loopw [4] (fun i wr => ∃ q : Nat, q ≤ 16 ∧ i = .int .i64 (q : Int) ∧ Hid (q = 0) ∧ Hid (Ros wr w.heap.size x) ∧ Hid (Below w.heap.size w wr)) (fun i _ => 16 - (intOf i).toNat)
  case atStart => exact ⟨0, by omega, rfl, Lib.hid rfl, K1, HB⟩
  case round =>
    clear K1 HB
    obtain ⟨q, hq, rfl, hq0, K1, HB⟩ := hrel
    obtain rfl := hq0.out
    clear hq0
    go_wp2_with (first
      | (go_skip)
      | (refine rosLoad (.tmp 1) rfl K1.out rfl rfl ?_)
      | (go_at_call 90; refine (Y.out _).mono ?_; rintro e w3 ⟨rfl, hb⟩; replace K1 := Lib.hid (K1.out.below hb); replace HB := Lib.hid (below_ext HB.out hb); clear hb))
    go_ret2
    exact ⟨rfl, HB.out⟩
set_option maxRecDepth 100000 in
set_option maxHeartbeats 2000000 in
theorem rHeals_B (x : Ro) (HL : Hid (x.st.length = 16))  (hz : Hid (∀ j : Nat, j < 16 → rd x.st (j : Int) ≠ 2))
    (Y : Hid (∀ w : World, Calls Try.prog 90 #[ros x] w fun e w' => e = .returned (.bool true) ∧ Below w.heap.size w w')) (w : World) : Calls Try.prog 96 #[ros x] w fun e w' => e = .returned (.tuple #[.int .i64 0, .bool false]) ∧ Below w.heap.size w w' := by
  have HB := Lib.hid (Below.refl w.heap.size w)
  have tok0 : True := trivial
  have tp0 : True := trivial
  go_enter Try.func96, Try.ntmps96
  go_wp2_with (first
    | (go_skip)
    | (refine rosBox (.tmp 0) rfl rfl HL.out rfl ?_; intro w1 hk hb1 hz1; replace HB := Lib.hid (below_ext HB.out hb1); have K1 := Lib.hid hk; clear hk hb1))
  go_loopw [4] (fun i wr => ∃ q : Nat, q ≤ 16 ∧ i = .int .i64 (q : Int) ∧ Hid (∀ j : Nat, j < q → rd x.st (j : Int) ≠ 2) ∧ Hid (Ros wr w.heap.size x) ∧ Hid (Below w.heap.size w wr)) (fun i _ => 16 - (intOf i).toNat)
  case atStart => exact ⟨0, by omega, rfl, Lib.hid (fun j h => absurd h (by omega)), K1, HB⟩
  case round =>
    clear K1 HB
    obtain ⟨q, hq, rfl, HA, K1, HB⟩ := hrel
    have hi0 : (0 : Int) ≤ (q : Int) := by omega
    by_cases hlt : q < 16
    · have hlt2 : (q : Int) < 16 := by omega
      by_cases he : rd x.st (q : Int) = 2
      · exact absurd he (hz.out q hlt)
      · have g1 : (rd x.st (q : Int) == 2) = false := by simpa using he
        have HE := Lib.hid he
        clear he
        go_wp2_with (first
          | (go_skip)
          | (refine rosLoad (.tmp 1) rfl K1.out rfl rfl ?_)
          | (go_at_call 90; refine (Y.out _).mono ?_; rintro e w3 ⟨rfl, hb⟩; replace K1 := Lib.hid (K1.out.below hb); replace HB := Lib.hid (below_ext HB.out hb); clear hb)
          | (refine F.rowCell _ (.tmp 15) rfl (K1.out.ci q hlt) rfl R.agg_u8 rfl ?_))
        go_roundw
        case rel =>
          refine ⟨q + 1, by omega, by go_num, Lib.hid (fun j h1 => ?_), K1, HB⟩
          rcases Nat.lt_or_ge j q with h | h
          · exact HA.out j h
          · obtain rfl : j = q := by omega
            exact HE.out
        case measure => simp [intOf]; omega
    · obtain rfl : q = 16 := by omega
      go_wp2
      go_ret2
      exact ⟨rfl, HB.out⟩
set_option maxRecDepth 100000 in
set_option maxHeartbeats 2000000 in
theorem rHeals_C (x : Ro) (HL : Hid (x.st.length = 16)) (k : Nat) (hk : k < 16) (h2 : Hid (rd x.st (k : Int) = 2)) (hz : Hid (∀ j : Nat, j < k → rd x.st (j : Int) ≠ 2))
    (Y : Hid (∀ w : World, Calls Try.prog 90 #[ros x] w fun e w' => e = .returned (.bool true) ∧ Below w.heap.size w w')) (w : World) : Calls Try.prog 96 #[ros x] w fun e w' => e = .returned (.tuple #[.int .i64 (k : Int), .bool true]) ∧ Below w.heap.size w w' := by
  have HB := Lib.hid (Below.refl w.heap.size w)
  have tok0 : True := trivial
  have tp0 : True := trivial
  go_enter Try.func96, Try.ntmps96
  go_wp2_with (first
    | (go_skip)
    | (refine rosBox (.tmp 0) rfl rfl HL.out rfl ?_; intro w1 hk hb1 hz1; replace HB := Lib.hid (below_ext HB.out hb1); have K1 := Lib.hid hk; clear hk hb1))
  go_loopw [4] (fun i wr => ∃ q : Nat, q ≤ 16 ∧ i = .int .i64 (q : Int) ∧ Hid (∀ j : Nat, j < q → rd x.st (j : Int) ≠ 2) ∧ Hid (Ros wr w.heap.size x) ∧ Hid (Below w.heap.size w wr)) (fun i _ => 16 - (intOf i).toNat)
  case atStart => exact ⟨0, by omega, rfl, Lib.hid (fun j h => absurd h (by omega)), K1, HB⟩
  case round =>
    clear K1 HB
    obtain ⟨q, hq, rfl, HA, K1, HB⟩ := hrel
    have hi0 : (0 : Int) ≤ (q : Int) := by omega
    by_cases hlt : q < 16
    · have hlt2 : (q : Int) < 16 := by omega
      by_cases he : rd x.st (q : Int) = 2
      · have hqk : q = k := by
          rcases Nat.lt_trichotomy q k with h | h | h
          · exact absurd he (hz.out q h)
          · exact h
          · exact absurd h2.out (HA.out k h)
        subst hqk
        have g1 : (rd x.st (q : Int) == 2) = true := by simpa using he
        clear he
        go_wp2_with (first
          | (go_skip)
          | (refine rosLoad (.tmp 1) rfl K1.out rfl rfl ?_)
          | (go_at_call 90; refine (Y.out _).mono ?_; rintro e w3 ⟨rfl, hb⟩; replace K1 := Lib.hid (K1.out.below hb); replace HB := Lib.hid (below_ext HB.out hb); clear hb)
          | (refine F.rowCell _ (.tmp 15) rfl (K1.out.ci q hlt) rfl R.agg_u8 rfl ?_))
        go_ret2
        exact ⟨rfl, HB.out⟩
      · have g1 : (rd x.st (q : Int) == 2) = false := by simpa using he
        have HE := Lib.hid he
        clear he
        go_wp2_with (first
          | (go_skip)
          | (refine rosLoad (.tmp 1) rfl K1.out rfl rfl ?_)
          | (go_at_call 90; refine (Y.out _).mono ?_; rintro e w3 ⟨rfl, hb⟩; replace K1 := Lib.hid (K1.out.below hb); replace HB := Lib.hid (below_ext HB.out hb); clear hb)
          | (refine F.rowCell _ (.tmp 15) rfl (K1.out.ci q hlt) rfl R.agg_u8 rfl ?_))
        go_roundw
        case rel =>
          refine ⟨q + 1, by omega, by go_num, Lib.hid (fun j h1 => ?_), K1, HB⟩
          rcases Nat.lt_or_ge j q with h | h
          · exact HA.out j h
          · obtain rfl : j = q := by omega
            exact HE.out
        case measure => simp [intOf]; omega
    · obtain rfl : q = 16 := by omega
      exact absurd h2.out (HA.out k hk)
set_option maxRecDepth 100000 in
set_option maxHeartbeats 2000000 in
theorem rMissing_A (x : Ro) (HL : Hid (x.st.length = 16))  
    (Y : Hid (∀ w : World, Calls Try.prog 90 #[ros x] w fun e w' => e = .returned (.bool false) ∧ Below w.heap.size w w')) (w : World) : Calls Try.prog 93 #[ros x] w fun e w' => e = .returned (.int .i64 0) ∧ Below w.heap.size w w' := by
  have HB := Lib.hid (Below.refl w.heap.size w)
  have tok0 : True := trivial
  have tp0 : True := trivial
  go_enter Try.func93, Try.ntmps93
  go_wp2_with (first
    | (go_skip)
    | (refine rosBox (.tmp 0) rfl rfl HL.out rfl ?_; intro w1 hk hb1 hz1; replace HB := Lib.hid (below_ext HB.out hb1); have K1 := Lib.hid hk; clear hk hb1))
  go_loopw [3, 4] (fun n i wr => ∃ q : Nat, q ≤ 16 ∧ i = .int .i64 (q : Int) ∧ Hid (q = 0) ∧ n = .int .i64 0 ∧ Hid (Ros wr w.heap.size x) ∧ Hid (Below w.heap.size w wr)) (fun n i _ => 16 - (intOf i).toNat)
  case atStart => exact ⟨0, by omega, rfl, Lib.hid rfl, rfl, K1, HB⟩
  case round =>
    clear K1 HB
    obtain ⟨q, hq, rfl, hq0, rfl, K1, HB⟩ := hrel
    obtain rfl := hq0.out
    clear hq0
    go_wp2_with (first
      | (go_skip)
      | (refine rosLoad (.tmp 1) rfl K1.out rfl rfl ?_)
      | (go_at_call 90; refine (Y.out _).mono ?_; rintro e w3 ⟨rfl, hb⟩; replace K1 := Lib.hid (K1.out.below hb); replace HB := Lib.hid (below_ext HB.out hb); clear hb))
    go_ret
    exact ⟨rfl, HB.out⟩
set_option maxRecDepth 100000 in
set_option maxHeartbeats 2000000 in
theorem rMissing_B (x : Ro) (HL : Hid (x.st.length = 16))  
    (Y : Hid (∀ w : World, Calls Try.prog 90 #[ros x] w fun e w' => e = .returned (.bool true) ∧ Below w.heap.size w w')) (w : World) : Calls Try.prog 93 #[ros x] w fun e w' => e = .returned (.int .i64 ((16 - cnt x.st 0 16 : Nat) : Int)) ∧ Below w.heap.size w w' := by
  have HB := Lib.hid (Below.refl w.heap.size w)
  have tok0 : True := trivial
  have tp0 : True := trivial
  go_enter Try.func93, Try.ntmps93
  go_wp2_with (first
    | (go_skip)
    | (refine rosBox (.tmp 0) rfl rfl HL.out rfl ?_; intro w1 hk hb1 hz1; replace HB := Lib.hid (below_ext HB.out hb1); have K1 := Lib.hid hk; clear hk hb1))
  go_loopw [3, 4] (fun n i wr => ∃ q : Nat, q ≤ 16 ∧ i = .int .i64 (q : Int) ∧ n = .int .i64 ((q - cnt x.st 0 q : Nat) : Int) ∧ Hid (Ros wr w.heap.size x) ∧ Hid (Below w.heap.size w wr)) (fun n i _ => 16 - (intOf i).toNat)
  case atStart => exact ⟨0, by omega, rfl, by rw [cnt_0]; rfl, K1, HB⟩
  case round =>
    clear K1 HB
    obtain ⟨q, hq, rfl, rfl, K1, HB⟩ := hrel
    have hi0 : (0 : Int) ≤ (q : Int) := by omega
    have hc := cnt_le x.st 0 q
    have hs := cnt_succ x.st 0 q
    by_cases hlt : q < 16
    · have hlt2 : (q : Int) < 16 := by omega
      have hd : q - cnt x.st 0 q ≤ 16 := by omega
      by_cases he : rd x.st (q : Int) = 0
      · have g1 : (rd x.st (q : Int) != 0) = false := by simpa using he
        rw [if_pos he] at hs
        clear he
        go_wp2_with (first
          | (go_skip)
          | (refine rosLoad (.tmp 1) rfl K1.out rfl rfl ?_)
          | (go_at_call 90; refine (Y.out _).mono ?_; rintro e w3 ⟨rfl, hb⟩; replace K1 := Lib.hid (K1.out.below hb); replace HB := Lib.hid (below_ext HB.out hb); clear hb)
          | (refine F.rowCell _ (.tmp 15) rfl (K1.out.ci q hlt) rfl R.agg_u8 rfl ?_))
        go_roundw
        case rel => exact ⟨q + 1, by omega, by go_num, by rw [hs, show q + 1 - (cnt x.st 0 q + 1) = q - cnt x.st 0 q by omega], K1, HB⟩
        case measure => simp [intOf]; omega
      · have g1 : (rd x.st (q : Int) != 0) = true := by simpa using he
        rw [if_neg he] at hs
        clear he
        go_wp2_with (first
          | (go_skip)
          | (refine rosLoad (.tmp 1) rfl K1.out rfl rfl ?_)
          | (go_at_call 90; refine (Y.out _).mono ?_; rintro e w3 ⟨rfl, hb⟩; replace K1 := Lib.hid (K1.out.below hb); replace HB := Lib.hid (below_ext HB.out hb); clear hb)
          | (refine F.rowCell _ (.tmp 15) rfl (K1.out.ci q hlt) rfl R.agg_u8 rfl ?_))
        go_roundw
        case rel => exact ⟨q + 1, by omega, by go_num, by rw [hs, show q + 1 - (cnt x.st 0 q + 0) = (q - cnt x.st 0 q) + 1 by omega]; go_num, K1, HB⟩
        case measure => simp [intOf]; omega
    · obtain rfl : q = 16 := by omega
      go_wp2
      go_ret
      exact ⟨rfl, HB.out⟩
set_option maxRecDepth 100000 in
set_option maxHeartbeats 2000000 in
theorem rState_A (x : Ro) (HL : Hid (x.st.length = 16))  
    (Y : Hid (∀ w : World, Calls Try.prog 90 #[ros x] w fun e w' => e = .returned (.bool false) ∧ Below w.heap.size w w')) (w : World) : Calls Try.prog 95 #[ros x] w fun e w' => e = .returned (.int .i64 0) ∧ Below w.heap.size w w' := by
  have HB := Lib.hid (Below.refl w.heap.size w)
  have tok0 : True := trivial
  have tp0 : True := trivial
  go_enter Try.func95, Try.ntmps95
  go_wp2_with (first
    | (go_skip)
    | (refine rosBox (.tmp 0) rfl rfl HL.out rfl ?_; intro w1 hk hb1 hz1; replace HB := Lib.hid (below_ext HB.out hb1); have K1 := Lib.hid hk; clear hk hb1)
    | (refine rosLoad (.tmp 1) rfl K1.out rfl rfl ?_)
    | (have _t := tp0; go_at_call 90; refine (Y.out _).mono ?_; rintro e w2 ⟨rfl, hb2⟩; replace K1 := Lib.hid (K1.out.below hb2); replace HB := Lib.hid (below_ext HB.out hb2); have hz2 := hb2.size; clear hb2; have tp1 : True := trivial; clear _t tp0))
  go_ret
  exact ⟨rfl, HB.out⟩
set_option maxRecDepth 100000 in
set_option maxHeartbeats 2000000 in
theorem rState_B (x : Ro) (HL : Hid (x.st.length = 16)) (k c : Int) (b : Bool) (h : 2 ≤ c)
    (Y : Hid (∀ w : World, Calls Try.prog 90 #[ros x] w fun e w' => e = .returned (.bool true) ∧ Below w.heap.size w w'))
    (M : Hid (∀ w : World, Calls Try.prog 93 #[ros x] w fun e w' => e = .returned (.int .i64 c) ∧ Below w.heap.size w w'))
    (H : Hid (∀ w : World, Calls Try.prog 96 #[ros x] w fun e w' => e = .returned (.tuple #[.int .i64 k, .bool b]) ∧ Below w.heap.size w w')) (w : World) : Calls Try.prog 95 #[ros x] w fun e w' => e = .returned (.int .i64 5) ∧ Below w.heap.size w w' := by
  have HB := Lib.hid (Below.refl w.heap.size w)
  have g1 : decide (2 ≤ c) = true := by simpa using h
  have tok0 : True := trivial
  have tp0 : True := trivial
  go_enter Try.func95, Try.ntmps95
  go_wp2_with (first
    | (go_skip)
    | (refine rosBox (.tmp 0) rfl rfl HL.out rfl ?_; intro w1 hk hb1 hz1; replace HB := Lib.hid (below_ext HB.out hb1); have K1 := Lib.hid hk; clear hk hb1)
    | (refine rosLoad (.tmp 1) rfl K1.out rfl rfl ?_)
    | (have _t := tp0; go_at_call 90; refine (Y.out _).mono ?_; rintro e w2 ⟨rfl, hb2⟩; replace K1 := Lib.hid (K1.out.below hb2); replace HB := Lib.hid (below_ext HB.out hb2); have hz2 := hb2.size; clear hb2; have tp1 : True := trivial; clear _t tp0)
    | (have _t := tp1; go_at_call 93; refine (M.out _).mono ?_; rintro e w3 ⟨rfl, hb3⟩; replace K1 := Lib.hid (K1.out.below hb3); replace HB := Lib.hid (below_ext HB.out hb3); have hz3 := hb3.size; clear hb3; have tp2 : True := trivial; clear _t tp1)
    | (have _t := tp2; go_at_call 96; refine (H.out _).mono ?_; rintro e w4 ⟨rfl, hb4⟩; replace K1 := Lib.hid (K1.out.below hb4); replace HB := Lib.hid (below_ext HB.out hb4); have hz4 := hb4.size; clear hb4; have tp3 : True := trivial; clear _t tp2)
    | (refine F.rowCell (v := .bool false) _ (.tmp 22) rfl (by have h := K1.out.cgo; rw [hg] at h; exact h) rfl agg_bool rfl ?_))
  go_ret
  exact ⟨rfl, HB.out⟩
set_option maxRecDepth 100000 in
set_option maxHeartbeats 2000000 in
theorem rState_C (x : Ro) (HL : Hid (x.st.length = 16)) (k c : Int) (b : Bool) (h : c = 1) (hg : x.go = true)
    (Y : Hid (∀ w : World, Calls Try.prog 90 #[ros x] w fun e w' => e = .returned (.bool true) ∧ Below w.heap.size w w'))
    (M : Hid (∀ w : World, Calls Try.prog 93 #[ros x] w fun e w' => e = .returned (.int .i64 c) ∧ Below w.heap.size w w'))
    (H : Hid (∀ w : World, Calls Try.prog 96 #[ros x] w fun e w' => e = .returned (.tuple #[.int .i64 k, .bool b]) ∧ Below w.heap.size w w')) (w : World) : Calls Try.prog 95 #[ros x] w fun e w' => e = .returned (.int .i64 5) ∧ Below w.heap.size w w' := by
  have HB := Lib.hid (Below.refl w.heap.size w)
  have g1 : decide (2 ≤ c) = false := by simp; omega
  have g2 : (c == 1) = true := by rw [beq_iff_eq]; omega
  clear h
  have tok0 : True := trivial
  have tp0 : True := trivial
  go_enter Try.func95, Try.ntmps95
  go_wp2_with (first
    | (go_skip)
    | (refine rosBox (.tmp 0) rfl rfl HL.out rfl ?_; intro w1 hk hb1 hz1; replace HB := Lib.hid (below_ext HB.out hb1); have K1 := Lib.hid hk; clear hk hb1)
    | (refine rosLoad (.tmp 1) rfl K1.out rfl rfl ?_)
    | (have _t := tp0; go_at_call 90; refine (Y.out _).mono ?_; rintro e w2 ⟨rfl, hb2⟩; replace K1 := Lib.hid (K1.out.below hb2); replace HB := Lib.hid (below_ext HB.out hb2); have hz2 := hb2.size; clear hb2; have tp1 : True := trivial; clear _t tp0)
    | (have _t := tp1; go_at_call 93; refine (M.out _).mono ?_; rintro e w3 ⟨rfl, hb3⟩; replace K1 := Lib.hid (K1.out.below hb3); replace HB := Lib.hid (below_ext HB.out hb3); have hz3 := hb3.size; clear hb3; have tp2 : True := trivial; clear _t tp1)
    | (have _t := tp2; go_at_call 96; refine (H.out _).mono ?_; rintro e w4 ⟨rfl, hb4⟩; replace K1 := Lib.hid (K1.out.below hb4); replace HB := Lib.hid (below_ext HB.out hb4); have hz4 := hb4.size; clear hb4; have tp3 : True := trivial; clear _t tp2)
    | (refine F.rowCell (v := .bool true) _ (.tmp 22) rfl (by have h := K1.out.cgo; rw [hg] at h; exact h) rfl agg_bool rfl ?_))
  go_ret
  exact ⟨rfl, HB.out⟩
set_option maxRecDepth 100000 in
set_option maxHeartbeats 2000000 in
theorem rState_D (x : Ro) (HL : Hid (x.st.length = 16)) (k c : Int)  (h : c = 1) (hg : x.go = false)
    (Y : Hid (∀ w : World, Calls Try.prog 90 #[ros x] w fun e w' => e = .returned (.bool true) ∧ Below w.heap.size w w'))
    (M : Hid (∀ w : World, Calls Try.prog 93 #[ros x] w fun e w' => e = .returned (.int .i64 c) ∧ Below w.heap.size w w'))
    (H : Hid (∀ w : World, Calls Try.prog 96 #[ros x] w fun e w' => e = .returned (.tuple #[.int .i64 k, .bool true]) ∧ Below w.heap.size w w')) (w : World) : Calls Try.prog 95 #[ros x] w fun e w' => e = .returned (.int .i64 3) ∧ Below w.heap.size w w' := by
  have HB := Lib.hid (Below.refl w.heap.size w)
  have g1 : decide (2 ≤ c) = false := by simp; omega
  have g2 : (c == 1) = true := by rw [beq_iff_eq]; omega
  clear h
  have tok0 : True := trivial
  have tp0 : True := trivial
  go_enter Try.func95, Try.ntmps95
  go_wp2_with (first
    | (go_skip)
    | (refine rosBox (.tmp 0) rfl rfl HL.out rfl ?_; intro w1 hk hb1 hz1; replace HB := Lib.hid (below_ext HB.out hb1); have K1 := Lib.hid hk; clear hk hb1)
    | (refine rosLoad (.tmp 1) rfl K1.out rfl rfl ?_)
    | (have _t := tp0; go_at_call 90; refine (Y.out _).mono ?_; rintro e w2 ⟨rfl, hb2⟩; replace K1 := Lib.hid (K1.out.below hb2); replace HB := Lib.hid (below_ext HB.out hb2); have hz2 := hb2.size; clear hb2; have tp1 : True := trivial; clear _t tp0)
    | (have _t := tp1; go_at_call 93; refine (M.out _).mono ?_; rintro e w3 ⟨rfl, hb3⟩; replace K1 := Lib.hid (K1.out.below hb3); replace HB := Lib.hid (below_ext HB.out hb3); have hz3 := hb3.size; clear hb3; have tp2 : True := trivial; clear _t tp1)
    | (have _t := tp2; go_at_call 96; refine (H.out _).mono ?_; rintro e w4 ⟨rfl, hb4⟩; replace K1 := Lib.hid (K1.out.below hb4); replace HB := Lib.hid (below_ext HB.out hb4); have hz4 := hb4.size; clear hb4; have tp3 : True := trivial; clear _t tp2)
    | (refine F.rowCell (v := .bool false) _ (.tmp 22) rfl (by have h := K1.out.cgo; rw [hg] at h; exact h) rfl agg_bool rfl ?_)
    | (refine F.rowCell (v := .bool false) _ (.tmp 26) rfl (by have h := K1.out.cgo; rw [hg] at h; exact h) rfl agg_bool rfl ?_))
  go_ret
  exact ⟨rfl, HB.out⟩
set_option maxRecDepth 100000 in
set_option maxHeartbeats 2000000 in
theorem rState_E (x : Ro) (HL : Hid (x.st.length = 16)) (k c : Int)  (h : c = 1) (hg : x.go = false)
    (Y : Hid (∀ w : World, Calls Try.prog 90 #[ros x] w fun e w' => e = .returned (.bool true) ∧ Below w.heap.size w w'))
    (M : Hid (∀ w : World, Calls Try.prog 93 #[ros x] w fun e w' => e = .returned (.int .i64 c) ∧ Below w.heap.size w w'))
    (H : Hid (∀ w : World, Calls Try.prog 96 #[ros x] w fun e w' => e = .returned (.tuple #[.int .i64 k, .bool false]) ∧ Below w.heap.size w w')) (w : World) : Calls Try.prog 95 #[ros x] w fun e w' => e = .returned (.int .i64 2) ∧ Below w.heap.size w w' := by
  have HB := Lib.hid (Below.refl w.heap.size w)
  have g1 : decide (2 ≤ c) = false := by simp; omega
  have g2 : (c == 1) = true := by rw [beq_iff_eq]; omega
  clear h
  have tok0 : True := trivial
  have tp0 : True := trivial
  go_enter Try.func95, Try.ntmps95
  go_wp2_with (first
    | (go_skip)
    | (refine rosBox (.tmp 0) rfl rfl HL.out rfl ?_; intro w1 hk hb1 hz1; replace HB := Lib.hid (below_ext HB.out hb1); have K1 := Lib.hid hk; clear hk hb1)
    | (refine rosLoad (.tmp 1) rfl K1.out rfl rfl ?_)
    | (have _t := tp0; go_at_call 90; refine (Y.out _).mono ?_; rintro e w2 ⟨rfl, hb2⟩; replace K1 := Lib.hid (K1.out.below hb2); replace HB := Lib.hid (below_ext HB.out hb2); have hz2 := hb2.size; clear hb2; have tp1 : True := trivial; clear _t tp0)
    | (have _t := tp1; go_at_call 93; refine (M.out _).mono ?_; rintro e w3 ⟨rfl, hb3⟩; replace K1 := Lib.hid (K1.out.below hb3); replace HB := Lib.hid (below_ext HB.out hb3); have hz3 := hb3.size; clear hb3; have tp2 : True := trivial; clear _t tp1)
    | (have _t := tp2; go_at_call 96; refine (H.out _).mono ?_; rintro e w4 ⟨rfl, hb4⟩; replace K1 := Lib.hid (K1.out.below hb4); replace HB := Lib.hid (below_ext HB.out hb4); have hz4 := hb4.size; clear hb4; have tp3 : True := trivial; clear _t tp2)
    | (refine F.rowCell (v := .bool false) _ (.tmp 22) rfl (by have h := K1.out.cgo; rw [hg] at h; exact h) rfl agg_bool rfl ?_)
    | (refine F.rowCell (v := .bool false) _ (.tmp 26) rfl (by have h := K1.out.cgo; rw [hg] at h; exact h) rfl agg_bool rfl ?_))
  go_ret
  exact ⟨rfl, HB.out⟩
set_option maxRecDepth 100000 in
set_option maxHeartbeats 2000000 in
theorem rState_F (x : Ro) (HL : Hid (x.st.length = 16)) (k c : Int) (b : Bool) (h : c < 1) (hg : x.go = true)
    (Y : Hid (∀ w : World, Calls Try.prog 90 #[ros x] w fun e w' => e = .returned (.bool true) ∧ Below w.heap.size w w'))
    (M : Hid (∀ w : World, Calls Try.prog 93 #[ros x] w fun e w' => e = .returned (.int .i64 c) ∧ Below w.heap.size w w'))
    (H : Hid (∀ w : World, Calls Try.prog 96 #[ros x] w fun e w' => e = .returned (.tuple #[.int .i64 k, .bool b]) ∧ Below w.heap.size w w')) (w : World) : Calls Try.prog 95 #[ros x] w fun e w' => e = .returned (.int .i64 4) ∧ Below w.heap.size w w' := by
  have HB := Lib.hid (Below.refl w.heap.size w)
  have g1 : decide (2 ≤ c) = false := by simp; omega
  have g2 : (c == 1) = false := by rw [beq_eq_false_iff_ne]; omega
  have tok0 : True := trivial
  have tp0 : True := trivial
  go_enter Try.func95, Try.ntmps95
  go_wp2_with (first
    | (go_skip)
    | (refine rosBox (.tmp 0) rfl rfl HL.out rfl ?_; intro w1 hk hb1 hz1; replace HB := Lib.hid (below_ext HB.out hb1); have K1 := Lib.hid hk; clear hk hb1)
    | (refine rosLoad (.tmp 1) rfl K1.out rfl rfl ?_)
    | (have _t := tp0; go_at_call 90; refine (Y.out _).mono ?_; rintro e w2 ⟨rfl, hb2⟩; replace K1 := Lib.hid (K1.out.below hb2); replace HB := Lib.hid (below_ext HB.out hb2); have hz2 := hb2.size; clear hb2; have tp1 : True := trivial; clear _t tp0)
    | (have _t := tp1; go_at_call 93; refine (M.out _).mono ?_; rintro e w3 ⟨rfl, hb3⟩; replace K1 := Lib.hid (K1.out.below hb3); replace HB := Lib.hid (below_ext HB.out hb3); have hz3 := hb3.size; clear hb3; have tp2 : True := trivial; clear _t tp1)
    | (have _t := tp2; go_at_call 96; refine (H.out _).mono ?_; rintro e w4 ⟨rfl, hb4⟩; replace K1 := Lib.hid (K1.out.below hb4); replace HB := Lib.hid (below_ext HB.out hb4); have hz4 := hb4.size; clear hb4; have tp3 : True := trivial; clear _t tp2)
    | (refine F.rowCell (v := .bool true) _ (.tmp 22) rfl (by have h := K1.out.cgo; rw [hg] at h; exact h) rfl agg_bool rfl ?_)
    | (refine F.rowCell (v := .bool true) _ (.tmp 26) rfl (by have h := K1.out.cgo; rw [hg] at h; exact h) rfl agg_bool rfl ?_))
  go_ret
  exact ⟨rfl, HB.out⟩
set_option maxRecDepth 100000 in
set_option maxHeartbeats 2000000 in
theorem rState_G (x : Ro) (HL : Hid (x.st.length = 16)) (k c : Int)  (h : c < 1) (hg : x.go = false)
    (Y : Hid (∀ w : World, Calls Try.prog 90 #[ros x] w fun e w' => e = .returned (.bool true) ∧ Below w.heap.size w w'))
    (M : Hid (∀ w : World, Calls Try.prog 93 #[ros x] w fun e w' => e = .returned (.int .i64 c) ∧ Below w.heap.size w w'))
    (H : Hid (∀ w : World, Calls Try.prog 96 #[ros x] w fun e w' => e = .returned (.tuple #[.int .i64 k, .bool true]) ∧ Below w.heap.size w w')) (w : World) : Calls Try.prog 95 #[ros x] w fun e w' => e = .returned (.int .i64 3) ∧ Below w.heap.size w w' := by
  have HB := Lib.hid (Below.refl w.heap.size w)
  have g1 : decide (2 ≤ c) = false := by simp; omega
  have g2 : (c == 1) = false := by rw [beq_eq_false_iff_ne]; omega
  have tok0 : True := trivial
  have tp0 : True := trivial
  go_enter Try.func95, Try.ntmps95
  go_wp2_with (first
    | (go_skip)
    | (refine rosBox (.tmp 0) rfl rfl HL.out rfl ?_; intro w1 hk hb1 hz1; replace HB := Lib.hid (below_ext HB.out hb1); have K1 := Lib.hid hk; clear hk hb1)
    | (refine rosLoad (.tmp 1) rfl K1.out rfl rfl ?_)
    | (have _t := tp0; go_at_call 90; refine (Y.out _).mono ?_; rintro e w2 ⟨rfl, hb2⟩; replace K1 := Lib.hid (K1.out.below hb2); replace HB := Lib.hid (below_ext HB.out hb2); have hz2 := hb2.size; clear hb2; have tp1 : True := trivial; clear _t tp0)
    | (have _t := tp1; go_at_call 93; refine (M.out _).mono ?_; rintro e w3 ⟨rfl, hb3⟩; replace K1 := Lib.hid (K1.out.below hb3); replace HB := Lib.hid (below_ext HB.out hb3); have hz3 := hb3.size; clear hb3; have tp2 : True := trivial; clear _t tp1)
    | (have _t := tp2; go_at_call 96; refine (H.out _).mono ?_; rintro e w4 ⟨rfl, hb4⟩; replace K1 := Lib.hid (K1.out.below hb4); replace HB := Lib.hid (below_ext HB.out hb4); have hz4 := hb4.size; clear hb4; have tp3 : True := trivial; clear _t tp2)
    | (refine F.rowCell (v := .bool false) _ (.tmp 22) rfl (by have h := K1.out.cgo; rw [hg] at h; exact h) rfl agg_bool rfl ?_)
    | (refine F.rowCell (v := .bool false) _ (.tmp 26) rfl (by have h := K1.out.cgo; rw [hg] at h; exact h) rfl agg_bool rfl ?_))
  go_ret
  exact ⟨rfl, HB.out⟩
set_option maxRecDepth 100000 in
set_option maxHeartbeats 2000000 in
theorem rState_H_ (x : Ro) (HL : Hid (x.st.length = 16)) (k c : Int)  (h : c < 1) (hg : x.go = false)
    (Y : Hid (∀ w : World, Calls Try.prog 90 #[ros x] w fun e w' => e = .returned (.bool true) ∧ Below w.heap.size w w'))
    (M : Hid (∀ w : World, Calls Try.prog 93 #[ros x] w fun e w' => e = .returned (.int .i64 c) ∧ Below w.heap.size w w'))
    (H : Hid (∀ w : World, Calls Try.prog 96 #[ros x] w fun e w' => e = .returned (.tuple #[.int .i64 k, .bool false]) ∧ Below w.heap.size w w')) (w : World) : Calls Try.prog 95 #[ros x] w fun e w' => e = .returned (.int .i64 1) ∧ Below w.heap.size w w' := by
  have HB := Lib.hid (Below.refl w.heap.size w)
  have g1 : decide (2 ≤ c) = false := by simp; omega
  have g2 : (c == 1) = false := by rw [beq_eq_false_iff_ne]; omega
  have tok0 : True := trivial
  have tp0 : True := trivial
  go_enter Try.func95, Try.ntmps95
  go_wp2_with (first
    | (go_skip)
    | (refine rosBox (.tmp 0) rfl rfl HL.out rfl ?_; intro w1 hk hb1 hz1; replace HB := Lib.hid (below_ext HB.out hb1); have K1 := Lib.hid hk; clear hk hb1)
    | (refine rosLoad (.tmp 1) rfl K1.out rfl rfl ?_)
    | (have _t := tp0; go_at_call 90; refine (Y.out _).mono ?_; rintro e w2 ⟨rfl, hb2⟩; replace K1 := Lib.hid (K1.out.below hb2); replace HB := Lib.hid (below_ext HB.out hb2); have hz2 := hb2.size; clear hb2; have tp1 : True := trivial; clear _t tp0)
    | (have _t := tp1; go_at_call 93; refine (M.out _).mono ?_; rintro e w3 ⟨rfl, hb3⟩; replace K1 := Lib.hid (K1.out.below hb3); replace HB := Lib.hid (below_ext HB.out hb3); have hz3 := hb3.size; clear hb3; have tp2 : True := trivial; clear _t tp1)
    | (have _t := tp2; go_at_call 96; refine (H.out _).mono ?_; rintro e w4 ⟨rfl, hb4⟩; replace K1 := Lib.hid (K1.out.below hb4); replace HB := Lib.hid (below_ext HB.out hb4); have hz4 := hb4.size; clear hb4; have tp3 : True := trivial; clear _t tp2)
    | (refine F.rowCell (v := .bool false) _ (.tmp 22) rfl (by have h := K1.out.cgo; rw [hg] at h; exact h) rfl agg_bool rfl ?_)
    | (refine F.rowCell (v := .bool false) _ (.tmp 26) rfl (by have h := K1.out.cgo; rw [hg] at h; exact h) rfl agg_bool rfl ?_))
  go_ret
  exact ⟨rfl, HB.out⟩
end Go.Proofs.Ytdchcggllcgokaa.Q
