/-
  super.fine: the walks.
-/
import Derived.Test.YtdchcggllcgokaaSqE
namespace Go.Proofs.Ytdchcggllcgokaa.Q
open Go.RowKit Go.Proofs.Ytdchcggllcgokaa.L Go.Proofs.Ytdchcggllcgokaa.R Go.Proofs.YtdchcggllcgokaaW.PrintWords
set_option linter.unusedVariables false
set_option linter.unusedSimpArgs false
set_option maxRecDepth 100000 in
set_option maxHeartbeats 2000000 in
theorem sFine_A (m s r : Int) (st : List Int) (cu : Int) (go : Bool) (HL : Hid (st.length = 16)) (HW : Hid (∀ i : Nat, 0 ≤ rd st (i : Int) ∧ rd st (i : Int) < 256)) 
    (PG : Hid (∀ w : World, Calls Try.prog 126 #[geo m s r] w fun e w' => e = .returned (.bool false) ∧ Below w.heap.size w w')) (w : World) : Calls Try.prog 144 #[ros ⟨m, s, r, st, cu, go⟩] w fun e w' => e = .returned (.bool false) ∧ Below w.heap.size w w' := by
  have HB := Lib.hid (Below.refl w.heap.size w)
  go_enter Try.func144, Try.ntmps144
  go_wp2_with (first
    | (go_skip)
    | (refine rosBox (.tmp 0) rfl rfl HL.out rfl ?_; intro w1 hk hb hz1; have K1 := Lib.hid hk; replace HB := Lib.hid (below_ext HB.out hb); clear hk hb)
    | (refine geoLoad (.tmp 6) rfl K1.out rfl rfl ?_)
    | (go_at_call 126; refine (PG.out _).mono ?_; rintro e w2 ⟨rfl, hb⟩; replace K1 := Lib.hid (K1.out.below hb); replace HB := Lib.hid (below_ext HB.out hb); have hz2 := hb.size; clear hb)
    | (refine stsLoad (.tmp 10) rfl K1.out rfl rfl ?_))
  go_ret
  exact ⟨rfl, HB.out⟩
set_option maxRecDepth 100000 in
set_option maxHeartbeats 2000000 in
theorem sFine_B (m s r : Int) (st : List Int) (cu : Int) (go : Bool) (HL : Hid (st.length = 16)) (HW : Hid (∀ i : Nat, 0 ≤ rd st (i : Int) ∧ rd st (i : Int) < 256)) (hz : Hid (¬ (∀ j : Nat, j < 16 → (rd st (j : Int) ≤ 2 ∧ (m ≤ (j : Int) → rd st (j : Int) = 0)))))
    (PG : Hid (∀ w : World, Calls Try.prog 126 #[geo m s r] w fun e w' => e = .returned (.bool true) ∧ Below w.heap.size w w')) (w : World) : Calls Try.prog 144 #[ros ⟨m, s, r, st, cu, go⟩] w fun e w' => e = .returned (.bool false) ∧ Below w.heap.size w w' := by
  have HB := Lib.hid (Below.refl w.heap.size w)
  go_enter Try.func144, Try.ntmps144
  go_wp2_with (first
    | (go_skip)
    | (refine rosBox (.tmp 0) rfl rfl HL.out rfl ?_; intro w1 hk hb hz1; have K1 := Lib.hid hk; replace HB := Lib.hid (below_ext HB.out hb); clear hk hb)
    | (refine geoLoad (.tmp 6) rfl K1.out rfl rfl ?_)
    | (go_at_call 126; refine (PG.out _).mono ?_; rintro e w2 ⟨rfl, hb⟩; replace K1 := Lib.hid (K1.out.below hb); replace HB := Lib.hid (below_ext HB.out hb); have hz2 := hb.size; clear hb)
    | (refine stsLoad (.tmp 10) rfl K1.out rfl rfl ?_))
  go_loopw [3, 12] (fun n i wr => ∃ q : Nat, q ≤ 16 ∧ i = .int .i64 (q : Int) ∧ n = .int .i64 (cnt st 2 q : Int) ∧ Hid (∀ j : Nat, j < q → (rd st (j : Int) ≤ 2 ∧ (m ≤ (j : Int) → rd st (j : Int) = 0))) ∧ Hid (Ros wr w.heap.size ⟨m, s, r, st, cu, go⟩) ∧ Hid (Below w.heap.size w wr)) (fun _ i _ => 16 - (intOf i).toNat)
  case atStart => exact ⟨0, by omega, rfl, rfl, Lib.hid (fun j h => absurd h (by omega)), K1, HB⟩
  case round =>
    clear K1 HB
    obtain ⟨q, hq, rfl, rfl, HA, K1, HB⟩ := hrel
    have hi0 : (0 : Int) ≤ (q : Int) := by omega
    have hc := cnt_le st 2 q
    have hs := cnt_succ st 2 q
    have hv := HW.out q
    by_cases hlt : q < 16
    · have hlt2 : (q : Int) < 16 := by omega
      by_cases e2 : rd st (q : Int) = 2
      · have g1 : decide (2 < rd st (q : Int)) = false := by simp; omega
        have g3 : (rd st (q : Int) == 2) = true := by simpa using e2
        have g4 : (rd st (q : Int) != 0) = true := by simp; omega
        rw [if_pos e2] at hs
        by_cases hm : m ≤ (q : Int)
        · have g2 : decide (m ≤ (q : Int)) = true := by simpa using hm
          have HE := Lib.hid (show ¬ (rd st (q : Int) ≤ 2 ∧ (m ≤ (q : Int) → rd st (q : Int) = 0)) from fun h => by have := h.2 hm; omega)
          clear e2
          go_wp2_with (first
            | (go_skip)
            | (refine F.aggIndex (i := q) (n := 16) 70 (.tmp 11) (.tmp 12) rfl rfl rfl Try.underlying70 hlt R.agg_u8 size_u8s (st_at (by rw [HL.out]; exact hlt)) rfl ?_)
            | (refine F.rowCell _ (.tmp 21) rfl K1.out.m_ rfl agg_int rfl ?_))
          go_ret
          exact ⟨rfl, HB.out⟩
        · have g2 : decide (m ≤ (q : Int)) = false := by simpa using hm
          have HE := Lib.hid (show (rd st (q : Int) ≤ 2 ∧ (m ≤ (q : Int) → rd st (q : Int) = 0)) from ⟨by omega, fun h => absurd h hm⟩)
          clear e2
          go_wp2_with (first
            | (go_skip)
            | (refine F.aggIndex (i := q) (n := 16) 70 (.tmp 11) (.tmp 12) rfl rfl rfl Try.underlying70 hlt R.agg_u8 size_u8s (st_at (by rw [HL.out]; exact hlt)) rfl ?_)
            | (refine F.rowCell _ (.tmp 21) rfl K1.out.m_ rfl agg_int rfl ?_))
          go_roundw
          case rel =>
            refine ⟨q + 1, by omega, by go_num, by rw [hs]; go_num, Lib.hid (fun j h1 => ?_), K1, HB⟩
            rcases Nat.lt_or_ge j q with h | h
            · exact HA.out j h
            · obtain rfl : j = q := by omega
              exact HE.out
          case measure => simp [intOf]; omega
      · have g3 : (rd st (q : Int) == 2) = false := by simpa using e2
        rw [if_neg e2] at hs
        by_cases h2 : 2 < rd st (q : Int)
        · have g1 : decide (2 < rd st (q : Int)) = true := by simpa using h2
          have HE := Lib.hid (show ¬ (rd st (q : Int) ≤ 2 ∧ (m ≤ (q : Int) → rd st (q : Int) = 0)) from fun h => by omega)
          go_wp2_with (first
            | (go_skip)
            | (refine F.aggIndex (i := q) (n := 16) 70 (.tmp 11) (.tmp 12) rfl rfl rfl Try.underlying70 hlt R.agg_u8 size_u8s (st_at (by rw [HL.out]; exact hlt)) rfl ?_)
            | (refine F.rowCell _ (.tmp 21) rfl K1.out.m_ rfl agg_int rfl ?_))
          go_ret
          exact ⟨rfl, HB.out⟩
        · have g1 : decide (2 < rd st (q : Int)) = false := by simpa using h2
          by_cases hm : m ≤ (q : Int)
          · have g2 : decide (m ≤ (q : Int)) = true := by simpa using hm
            by_cases h0 : rd st (q : Int) = 0
            · have g4 : (rd st (q : Int) != 0) = false := by simp [h0]
              have HE := Lib.hid (show (rd st (q : Int) ≤ 2 ∧ (m ≤ (q : Int) → rd st (q : Int) = 0)) from ⟨by omega, fun _ => h0⟩)
              clear h0 e2
              go_wp2_with (first
                | (go_skip)
                | (refine F.aggIndex (i := q) (n := 16) 70 (.tmp 11) (.tmp 12) rfl rfl rfl Try.underlying70 hlt R.agg_u8 size_u8s (st_at (by rw [HL.out]; exact hlt)) rfl ?_)
                | (refine F.rowCell _ (.tmp 21) rfl K1.out.m_ rfl agg_int rfl ?_))
              go_roundw
              case rel =>
                refine ⟨q + 1, by omega, by go_num, by rw [hs]; rfl, Lib.hid (fun j h1 => ?_), K1, HB⟩
                rcases Nat.lt_or_ge j q with h | h
                · exact HA.out j h
                · obtain rfl : j = q := by omega
                  exact HE.out
              case measure => simp [intOf]; omega
            · have g4 : (rd st (q : Int) != 0) = true := by simpa using h0
              have HE := Lib.hid (show ¬ (rd st (q : Int) ≤ 2 ∧ (m ≤ (q : Int) → rd st (q : Int) = 0)) from fun h => h0 (h.2 hm))
              clear h0 e2
              go_wp2_with (first
                | (go_skip)
                | (refine F.aggIndex (i := q) (n := 16) 70 (.tmp 11) (.tmp 12) rfl rfl rfl Try.underlying70 hlt R.agg_u8 size_u8s (st_at (by rw [HL.out]; exact hlt)) rfl ?_)
                | (refine F.rowCell _ (.tmp 21) rfl K1.out.m_ rfl agg_int rfl ?_))
              go_ret
              exact ⟨rfl, HB.out⟩
          · have g2 : decide (m ≤ (q : Int)) = false := by simpa using hm
            have HE := Lib.hid (show (rd st (q : Int) ≤ 2 ∧ (m ≤ (q : Int) → rd st (q : Int) = 0)) from ⟨by omega, fun h => absurd h hm⟩)
            clear e2
            go_wp2_with (first
              | (go_skip)
              | (refine F.aggIndex (i := q) (n := 16) 70 (.tmp 11) (.tmp 12) rfl rfl rfl Try.underlying70 hlt R.agg_u8 size_u8s (st_at (by rw [HL.out]; exact hlt)) rfl ?_)
              | (refine F.rowCell _ (.tmp 21) rfl K1.out.m_ rfl agg_int rfl ?_))
            go_roundw
            case rel =>
              refine ⟨q + 1, by omega, by go_num, by rw [hs]; rfl, Lib.hid (fun j h1 => ?_), K1, HB⟩
              rcases Nat.lt_or_ge j q with h | h
              · exact HA.out j h
              · obtain rfl : j = q := by omega
                exact HE.out
            case measure => simp [intOf]; omega
    · obtain rfl : q = 16 := by omega
      exact absurd HA.out hz.out
set_option maxRecDepth 100000 in
set_option maxHeartbeats 2000000 in
theorem sFine_C (m s r : Int) (st : List Int) (cu : Int) (go : Bool) (HL : Hid (st.length = 16)) (HW : Hid (∀ i : Nat, 0 ≤ rd st (i : Int) ∧ rd st (i : Int) < 256)) (h : Nat) (hcn : Hid (cnt st 2 16 = h)) (hz : Hid (∀ j : Nat, j < 16 → (rd st (j : Int) ≤ 2 ∧ (m ≤ (j : Int) → rd st (j : Int) = 0)))) (hh : 1 < h)
    (PG : Hid (∀ w : World, Calls Try.prog 126 #[geo m s r] w fun e w' => e = .returned (.bool true) ∧ Below w.heap.size w w')) (w : World) : Calls Try.prog 144 #[ros ⟨m, s, r, st, cu, go⟩] w fun e w' => e = .returned (.bool false) ∧ Below w.heap.size w w' := by
  have HB := Lib.hid (Below.refl w.heap.size w)
  go_enter Try.func144, Try.ntmps144
  go_wp2_with (first
    | (go_skip)
    | (refine rosBox (.tmp 0) rfl rfl HL.out rfl ?_; intro w1 hk hb hz1; have K1 := Lib.hid hk; replace HB := Lib.hid (below_ext HB.out hb); clear hk hb)
    | (refine geoLoad (.tmp 6) rfl K1.out rfl rfl ?_)
    | (go_at_call 126; refine (PG.out _).mono ?_; rintro e w2 ⟨rfl, hb⟩; replace K1 := Lib.hid (K1.out.below hb); replace HB := Lib.hid (below_ext HB.out hb); have hz2 := hb.size; clear hb)
    | (refine stsLoad (.tmp 10) rfl K1.out rfl rfl ?_))
  go_loopw [3, 12] (fun n i wr => ∃ q : Nat, q ≤ 16 ∧ i = .int .i64 (q : Int) ∧ n = .int .i64 (cnt st 2 q : Int) ∧ Hid (∀ j : Nat, j < q → (rd st (j : Int) ≤ 2 ∧ (m ≤ (j : Int) → rd st (j : Int) = 0))) ∧ Hid (Ros wr w.heap.size ⟨m, s, r, st, cu, go⟩) ∧ Hid (Below w.heap.size w wr)) (fun _ i _ => 16 - (intOf i).toNat)
  case atStart => exact ⟨0, by omega, rfl, rfl, Lib.hid (fun j h => absurd h (by omega)), K1, HB⟩
  case round =>
    clear K1 HB
    obtain ⟨q, hq, rfl, rfl, HA, K1, HB⟩ := hrel
    have hi0 : (0 : Int) ≤ (q : Int) := by omega
    have hc := cnt_le st 2 q
    have hs := cnt_succ st 2 q
    have hv := HW.out q
    by_cases hlt : q < 16
    · have hlt2 : (q : Int) < 16 := by omega
      by_cases e2 : rd st (q : Int) = 2
      · have g1 : decide (2 < rd st (q : Int)) = false := by simp; omega
        have g3 : (rd st (q : Int) == 2) = true := by simpa using e2
        have g4 : (rd st (q : Int) != 0) = true := by simp; omega
        rw [if_pos e2] at hs
        by_cases hm : m ≤ (q : Int)
        · have g2 : decide (m ≤ (q : Int)) = true := by simpa using hm
          have HE := Lib.hid (show ¬ (rd st (q : Int) ≤ 2 ∧ (m ≤ (q : Int) → rd st (q : Int) = 0)) from fun h => by have := h.2 hm; omega)
          clear e2
          exact absurd (hz.out q hlt) HE.out
        · have g2 : decide (m ≤ (q : Int)) = false := by simpa using hm
          have HE := Lib.hid (show (rd st (q : Int) ≤ 2 ∧ (m ≤ (q : Int) → rd st (q : Int) = 0)) from ⟨by omega, fun h => absurd h hm⟩)
          clear e2
          go_wp2_with (first
            | (go_skip)
            | (refine F.aggIndex (i := q) (n := 16) 70 (.tmp 11) (.tmp 12) rfl rfl rfl Try.underlying70 hlt R.agg_u8 size_u8s (st_at (by rw [HL.out]; exact hlt)) rfl ?_)
            | (refine F.rowCell _ (.tmp 21) rfl K1.out.m_ rfl agg_int rfl ?_))
          go_roundw
          case rel =>
            refine ⟨q + 1, by omega, by go_num, by rw [hs]; go_num, Lib.hid (fun j h1 => ?_), K1, HB⟩
            rcases Nat.lt_or_ge j q with h | h
            · exact HA.out j h
            · obtain rfl : j = q := by omega
              exact HE.out
          case measure => simp [intOf]; omega
      · have g3 : (rd st (q : Int) == 2) = false := by simpa using e2
        rw [if_neg e2] at hs
        by_cases h2 : 2 < rd st (q : Int)
        · have g1 : decide (2 < rd st (q : Int)) = true := by simpa using h2
          have HE := Lib.hid (show ¬ (rd st (q : Int) ≤ 2 ∧ (m ≤ (q : Int) → rd st (q : Int) = 0)) from fun h => by omega)
          exact absurd (hz.out q hlt) HE.out
        · have g1 : decide (2 < rd st (q : Int)) = false := by simpa using h2
          by_cases hm : m ≤ (q : Int)
          · have g2 : decide (m ≤ (q : Int)) = true := by simpa using hm
            by_cases h0 : rd st (q : Int) = 0
            · have g4 : (rd st (q : Int) != 0) = false := by simp [h0]
              have HE := Lib.hid (show (rd st (q : Int) ≤ 2 ∧ (m ≤ (q : Int) → rd st (q : Int) = 0)) from ⟨by omega, fun _ => h0⟩)
              clear h0 e2
              go_wp2_with (first
                | (go_skip)
                | (refine F.aggIndex (i := q) (n := 16) 70 (.tmp 11) (.tmp 12) rfl rfl rfl Try.underlying70 hlt R.agg_u8 size_u8s (st_at (by rw [HL.out]; exact hlt)) rfl ?_)
                | (refine F.rowCell _ (.tmp 21) rfl K1.out.m_ rfl agg_int rfl ?_))
              go_roundw
              case rel =>
                refine ⟨q + 1, by omega, by go_num, by rw [hs]; rfl, Lib.hid (fun j h1 => ?_), K1, HB⟩
                rcases Nat.lt_or_ge j q with h | h
                · exact HA.out j h
                · obtain rfl : j = q := by omega
                  exact HE.out
              case measure => simp [intOf]; omega
            · have g4 : (rd st (q : Int) != 0) = true := by simpa using h0
              have HE := Lib.hid (show ¬ (rd st (q : Int) ≤ 2 ∧ (m ≤ (q : Int) → rd st (q : Int) = 0)) from fun h => h0 (h.2 hm))
              clear h0 e2
              exact absurd (hz.out q hlt) HE.out
          · have g2 : decide (m ≤ (q : Int)) = false := by simpa using hm
            have HE := Lib.hid (show (rd st (q : Int) ≤ 2 ∧ (m ≤ (q : Int) → rd st (q : Int) = 0)) from ⟨by omega, fun h => absurd h hm⟩)
            clear e2
            go_wp2_with (first
              | (go_skip)
              | (refine F.aggIndex (i := q) (n := 16) 70 (.tmp 11) (.tmp 12) rfl rfl rfl Try.underlying70 hlt R.agg_u8 size_u8s (st_at (by rw [HL.out]; exact hlt)) rfl ?_)
              | (refine F.rowCell _ (.tmp 21) rfl K1.out.m_ rfl agg_int rfl ?_))
            go_roundw
            case rel =>
              refine ⟨q + 1, by omega, by go_num, by rw [hs]; rfl, Lib.hid (fun j h1 => ?_), K1, HB⟩
              rcases Nat.lt_or_ge j q with h | h
              · exact HA.out j h
              · obtain rfl : j = q := by omega
                exact HE.out
            case measure => simp [intOf]; omega
    · obtain rfl : q = 16 := by omega
      rw [hcn.out] at hc ⊢
      clear hs hv HA hz
      have a1 : decide ((h : Int) ≤ 1) = false := by simp; omega
      have a1n : decide (h ≤ 1) = false := by simp; omega
      clear hh
      go_wp2_with (first
        | (go_skip)
        | (refine F.rowCell _ (.tmp 37) rfl K1.out.cu_ rfl agg_int rfl ?_)
        | (refine F.rowCell _ (.tmp 42) rfl K1.out.cu_ rfl agg_int rfl ?_)
        | (refine F.rowCell _ (.tmp 53) rfl K1.out.cu_ rfl agg_int rfl ?_)
        | (refine F.rowCell _ (.tmp 45) rfl K1.out.s_ rfl agg_int rfl ?_))
      go_ret
      exact ⟨rfl, HB.out⟩
set_option maxRecDepth 100000 in
set_option maxHeartbeats 2000000 in
theorem sFine_D (m s r : Int) (st : List Int) (cu : Int) (go : Bool) (HL : Hid (st.length = 16)) (HW : Hid (∀ i : Nat, 0 ≤ rd st (i : Int) ∧ rd st (i : Int) < 256)) (h : Nat) (hcn : Hid (cnt st 2 16 = h)) (hz : Hid (∀ j : Nat, j < 16 → (rd st (j : Int) ≤ 2 ∧ (m ≤ (j : Int) → rd st (j : Int) = 0)))) (hh : h ≤ 1) (h1 : cu < 0)
    (PG : Hid (∀ w : World, Calls Try.prog 126 #[geo m s r] w fun e w' => e = .returned (.bool true) ∧ Below w.heap.size w w')) (w : World) : Calls Try.prog 144 #[ros ⟨m, s, r, st, cu, go⟩] w fun e w' => e = .returned (.bool false) ∧ Below w.heap.size w w' := by
  have HB := Lib.hid (Below.refl w.heap.size w)
  go_enter Try.func144, Try.ntmps144
  go_wp2_with (first
    | (go_skip)
    | (refine rosBox (.tmp 0) rfl rfl HL.out rfl ?_; intro w1 hk hb hz1; have K1 := Lib.hid hk; replace HB := Lib.hid (below_ext HB.out hb); clear hk hb)
    | (refine geoLoad (.tmp 6) rfl K1.out rfl rfl ?_)
    | (go_at_call 126; refine (PG.out _).mono ?_; rintro e w2 ⟨rfl, hb⟩; replace K1 := Lib.hid (K1.out.below hb); replace HB := Lib.hid (below_ext HB.out hb); have hz2 := hb.size; clear hb)
    | (refine stsLoad (.tmp 10) rfl K1.out rfl rfl ?_))
  go_loopw [3, 12] (fun n i wr => ∃ q : Nat, q ≤ 16 ∧ i = .int .i64 (q : Int) ∧ n = .int .i64 (cnt st 2 q : Int) ∧ Hid (∀ j : Nat, j < q → (rd st (j : Int) ≤ 2 ∧ (m ≤ (j : Int) → rd st (j : Int) = 0))) ∧ Hid (Ros wr w.heap.size ⟨m, s, r, st, cu, go⟩) ∧ Hid (Below w.heap.size w wr)) (fun _ i _ => 16 - (intOf i).toNat)
  case atStart => exact ⟨0, by omega, rfl, rfl, Lib.hid (fun j h => absurd h (by omega)), K1, HB⟩
  case round =>
    clear K1 HB
    obtain ⟨q, hq, rfl, rfl, HA, K1, HB⟩ := hrel
    have hi0 : (0 : Int) ≤ (q : Int) := by omega
    have hc := cnt_le st 2 q
    have hs := cnt_succ st 2 q
    have hv := HW.out q
    by_cases hlt : q < 16
    · have hlt2 : (q : Int) < 16 := by omega
      by_cases e2 : rd st (q : Int) = 2
      · have g1 : decide (2 < rd st (q : Int)) = false := by simp; omega
        have g3 : (rd st (q : Int) == 2) = true := by simpa using e2
        have g4 : (rd st (q : Int) != 0) = true := by simp; omega
        rw [if_pos e2] at hs
        by_cases hm : m ≤ (q : Int)
        · have g2 : decide (m ≤ (q : Int)) = true := by simpa using hm
          have HE := Lib.hid (show ¬ (rd st (q : Int) ≤ 2 ∧ (m ≤ (q : Int) → rd st (q : Int) = 0)) from fun h => by have := h.2 hm; omega)
          clear e2
          exact absurd (hz.out q hlt) HE.out
        · have g2 : decide (m ≤ (q : Int)) = false := by simpa using hm
          have HE := Lib.hid (show (rd st (q : Int) ≤ 2 ∧ (m ≤ (q : Int) → rd st (q : Int) = 0)) from ⟨by omega, fun h => absurd h hm⟩)
          clear e2
          go_wp2_with (first
            | (go_skip)
            | (refine F.aggIndex (i := q) (n := 16) 70 (.tmp 11) (.tmp 12) rfl rfl rfl Try.underlying70 hlt R.agg_u8 size_u8s (st_at (by rw [HL.out]; exact hlt)) rfl ?_)
            | (refine F.rowCell _ (.tmp 21) rfl K1.out.m_ rfl agg_int rfl ?_))
          go_roundw
          case rel =>
            refine ⟨q + 1, by omega, by go_num, by rw [hs]; go_num, Lib.hid (fun j h1 => ?_), K1, HB⟩
            rcases Nat.lt_or_ge j q with h | h
            · exact HA.out j h
            · obtain rfl : j = q := by omega
              exact HE.out
          case measure => simp [intOf]; omega
      · have g3 : (rd st (q : Int) == 2) = false := by simpa using e2
        rw [if_neg e2] at hs
        by_cases h2 : 2 < rd st (q : Int)
        · have g1 : decide (2 < rd st (q : Int)) = true := by simpa using h2
          have HE := Lib.hid (show ¬ (rd st (q : Int) ≤ 2 ∧ (m ≤ (q : Int) → rd st (q : Int) = 0)) from fun h => by omega)
          exact absurd (hz.out q hlt) HE.out
        · have g1 : decide (2 < rd st (q : Int)) = false := by simpa using h2
          by_cases hm : m ≤ (q : Int)
          · have g2 : decide (m ≤ (q : Int)) = true := by simpa using hm
            by_cases h0 : rd st (q : Int) = 0
            · have g4 : (rd st (q : Int) != 0) = false := by simp [h0]
              have HE := Lib.hid (show (rd st (q : Int) ≤ 2 ∧ (m ≤ (q : Int) → rd st (q : Int) = 0)) from ⟨by omega, fun _ => h0⟩)
              clear h0 e2
              go_wp2_with (first
                | (go_skip)
                | (refine F.aggIndex (i := q) (n := 16) 70 (.tmp 11) (.tmp 12) rfl rfl rfl Try.underlying70 hlt R.agg_u8 size_u8s (st_at (by rw [HL.out]; exact hlt)) rfl ?_)
                | (refine F.rowCell _ (.tmp 21) rfl K1.out.m_ rfl agg_int rfl ?_))
              go_roundw
              case rel =>
                refine ⟨q + 1, by omega, by go_num, by rw [hs]; rfl, Lib.hid (fun j h1 => ?_), K1, HB⟩
                rcases Nat.lt_or_ge j q with h | h
                · exact HA.out j h
                · obtain rfl : j = q := by omega
                  exact HE.out
              case measure => simp [intOf]; omega
            · have g4 : (rd st (q : Int) != 0) = true := by simpa using h0
              have HE := Lib.hid (show ¬ (rd st (q : Int) ≤ 2 ∧ (m ≤ (q : Int) → rd st (q : Int) = 0)) from fun h => h0 (h.2 hm))
              clear h0 e2
              exact absurd (hz.out q hlt) HE.out
          · have g2 : decide (m ≤ (q : Int)) = false := by simpa using hm
            have HE := Lib.hid (show (rd st (q : Int) ≤ 2 ∧ (m ≤ (q : Int) → rd st (q : Int) = 0)) from ⟨by omega, fun h => absurd h hm⟩)
            clear e2
            go_wp2_with (first
              | (go_skip)
              | (refine F.aggIndex (i := q) (n := 16) 70 (.tmp 11) (.tmp 12) rfl rfl rfl Try.underlying70 hlt R.agg_u8 size_u8s (st_at (by rw [HL.out]; exact hlt)) rfl ?_)
              | (refine F.rowCell _ (.tmp 21) rfl K1.out.m_ rfl agg_int rfl ?_))
            go_roundw
            case rel =>
              refine ⟨q + 1, by omega, by go_num, by rw [hs]; rfl, Lib.hid (fun j h1 => ?_), K1, HB⟩
              rcases Nat.lt_or_ge j q with h | h
              · exact HA.out j h
              · obtain rfl : j = q := by omega
                exact HE.out
            case measure => simp [intOf]; omega
    · obtain rfl : q = 16 := by omega
      rw [hcn.out] at hc ⊢
      clear hs hv HA hz
      have a1 : decide ((h : Int) ≤ 1) = true := by simp; omega
      have a1n : decide (h ≤ 1) = true := by simp; omega
      have a2 : decide (0 ≤ cu) = false := by simp; omega
      clear hh
      go_wp2_with (first
        | (go_skip)
        | (refine F.rowCell _ (.tmp 37) rfl K1.out.cu_ rfl agg_int rfl ?_)
        | (refine F.rowCell _ (.tmp 42) rfl K1.out.cu_ rfl agg_int rfl ?_)
        | (refine F.rowCell _ (.tmp 53) rfl K1.out.cu_ rfl agg_int rfl ?_)
        | (refine F.rowCell _ (.tmp 45) rfl K1.out.s_ rfl agg_int rfl ?_))
      go_ret
      exact ⟨rfl, HB.out⟩
set_option maxRecDepth 100000 in
set_option maxHeartbeats 2000000 in
theorem sFine_E (m s r : Int) (st : List Int) (cu : Int) (go : Bool) (HL : Hid (st.length = 16)) (HW : Hid (∀ i : Nat, 0 ≤ rd st (i : Int) ∧ rd st (i : Int) < 256)) (h : Nat) (hcn : Hid (cnt st 2 16 = h)) (hz : Hid (∀ j : Nat, j < 16 → (rd st (j : Int) ≤ 2 ∧ (m ≤ (j : Int) → rd st (j : Int) = 0)))) (hh : h ≤ 1) (h1 : 0 ≤ cu) (h2 : s ≤ cu)
    (PG : Hid (∀ w : World, Calls Try.prog 126 #[geo m s r] w fun e w' => e = .returned (.bool true) ∧ Below w.heap.size w w')) (w : World) : Calls Try.prog 144 #[ros ⟨m, s, r, st, cu, go⟩] w fun e w' => e = .returned (.bool false) ∧ Below w.heap.size w w' := by
  have HB := Lib.hid (Below.refl w.heap.size w)
  go_enter Try.func144, Try.ntmps144
  go_wp2_with (first
    | (go_skip)
    | (refine rosBox (.tmp 0) rfl rfl HL.out rfl ?_; intro w1 hk hb hz1; have K1 := Lib.hid hk; replace HB := Lib.hid (below_ext HB.out hb); clear hk hb)
    | (refine geoLoad (.tmp 6) rfl K1.out rfl rfl ?_)
    | (go_at_call 126; refine (PG.out _).mono ?_; rintro e w2 ⟨rfl, hb⟩; replace K1 := Lib.hid (K1.out.below hb); replace HB := Lib.hid (below_ext HB.out hb); have hz2 := hb.size; clear hb)
    | (refine stsLoad (.tmp 10) rfl K1.out rfl rfl ?_))
  go_loopw [3, 12] (fun n i wr => ∃ q : Nat, q ≤ 16 ∧ i = .int .i64 (q : Int) ∧ n = .int .i64 (cnt st 2 q : Int) ∧ Hid (∀ j : Nat, j < q → (rd st (j : Int) ≤ 2 ∧ (m ≤ (j : Int) → rd st (j : Int) = 0))) ∧ Hid (Ros wr w.heap.size ⟨m, s, r, st, cu, go⟩) ∧ Hid (Below w.heap.size w wr)) (fun _ i _ => 16 - (intOf i).toNat)
  case atStart => exact ⟨0, by omega, rfl, rfl, Lib.hid (fun j h => absurd h (by omega)), K1, HB⟩
  case round =>
    clear K1 HB
    obtain ⟨q, hq, rfl, rfl, HA, K1, HB⟩ := hrel
    have hi0 : (0 : Int) ≤ (q : Int) := by omega
    have hc := cnt_le st 2 q
    have hs := cnt_succ st 2 q
    have hv := HW.out q
    by_cases hlt : q < 16
    · have hlt2 : (q : Int) < 16 := by omega
      by_cases e2 : rd st (q : Int) = 2
      · have g1 : decide (2 < rd st (q : Int)) = false := by simp; omega
        have g3 : (rd st (q : Int) == 2) = true := by simpa using e2
        have g4 : (rd st (q : Int) != 0) = true := by simp; omega
        rw [if_pos e2] at hs
        by_cases hm : m ≤ (q : Int)
        · have g2 : decide (m ≤ (q : Int)) = true := by simpa using hm
          have HE := Lib.hid (show ¬ (rd st (q : Int) ≤ 2 ∧ (m ≤ (q : Int) → rd st (q : Int) = 0)) from fun h => by have := h.2 hm; omega)
          clear e2
          exact absurd (hz.out q hlt) HE.out
        · have g2 : decide (m ≤ (q : Int)) = false := by simpa using hm
          have HE := Lib.hid (show (rd st (q : Int) ≤ 2 ∧ (m ≤ (q : Int) → rd st (q : Int) = 0)) from ⟨by omega, fun h => absurd h hm⟩)
          clear e2
          go_wp2_with (first
            | (go_skip)
            | (refine F.aggIndex (i := q) (n := 16) 70 (.tmp 11) (.tmp 12) rfl rfl rfl Try.underlying70 hlt R.agg_u8 size_u8s (st_at (by rw [HL.out]; exact hlt)) rfl ?_)
            | (refine F.rowCell _ (.tmp 21) rfl K1.out.m_ rfl agg_int rfl ?_))
          go_roundw
          case rel =>
            refine ⟨q + 1, by omega, by go_num, by rw [hs]; go_num, Lib.hid (fun j h1 => ?_), K1, HB⟩
            rcases Nat.lt_or_ge j q with h | h
            · exact HA.out j h
            · obtain rfl : j = q := by omega
              exact HE.out
          case measure => simp [intOf]; omega
      · have g3 : (rd st (q : Int) == 2) = false := by simpa using e2
        rw [if_neg e2] at hs
        by_cases h2 : 2 < rd st (q : Int)
        · have g1 : decide (2 < rd st (q : Int)) = true := by simpa using h2
          have HE := Lib.hid (show ¬ (rd st (q : Int) ≤ 2 ∧ (m ≤ (q : Int) → rd st (q : Int) = 0)) from fun h => by omega)
          exact absurd (hz.out q hlt) HE.out
        · have g1 : decide (2 < rd st (q : Int)) = false := by simpa using h2
          by_cases hm : m ≤ (q : Int)
          · have g2 : decide (m ≤ (q : Int)) = true := by simpa using hm
            by_cases h0 : rd st (q : Int) = 0
            · have g4 : (rd st (q : Int) != 0) = false := by simp [h0]
              have HE := Lib.hid (show (rd st (q : Int) ≤ 2 ∧ (m ≤ (q : Int) → rd st (q : Int) = 0)) from ⟨by omega, fun _ => h0⟩)
              clear h0 e2
              go_wp2_with (first
                | (go_skip)
                | (refine F.aggIndex (i := q) (n := 16) 70 (.tmp 11) (.tmp 12) rfl rfl rfl Try.underlying70 hlt R.agg_u8 size_u8s (st_at (by rw [HL.out]; exact hlt)) rfl ?_)
                | (refine F.rowCell _ (.tmp 21) rfl K1.out.m_ rfl agg_int rfl ?_))
              go_roundw
              case rel =>
                refine ⟨q + 1, by omega, by go_num, by rw [hs]; rfl, Lib.hid (fun j h1 => ?_), K1, HB⟩
                rcases Nat.lt_or_ge j q with h | h
                · exact HA.out j h
                · obtain rfl : j = q := by omega
                  exact HE.out
              case measure => simp [intOf]; omega
            · have g4 : (rd st (q : Int) != 0) = true := by simpa using h0
              have HE := Lib.hid (show ¬ (rd st (q : Int) ≤ 2 ∧ (m ≤ (q : Int) → rd st (q : Int) = 0)) from fun h => h0 (h.2 hm))
              clear h0 e2
              exact absurd (hz.out q hlt) HE.out
          · have g2 : decide (m ≤ (q : Int)) = false := by simpa using hm
            have HE := Lib.hid (show (rd st (q : Int) ≤ 2 ∧ (m ≤ (q : Int) → rd st (q : Int) = 0)) from ⟨by omega, fun h => absurd h hm⟩)
            clear e2
            go_wp2_with (first
              | (go_skip)
              | (refine F.aggIndex (i := q) (n := 16) 70 (.tmp 11) (.tmp 12) rfl rfl rfl Try.underlying70 hlt R.agg_u8 size_u8s (st_at (by rw [HL.out]; exact hlt)) rfl ?_)
              | (refine F.rowCell _ (.tmp 21) rfl K1.out.m_ rfl agg_int rfl ?_))
            go_roundw
            case rel =>
              refine ⟨q + 1, by omega, by go_num, by rw [hs]; rfl, Lib.hid (fun j h1 => ?_), K1, HB⟩
              rcases Nat.lt_or_ge j q with h | h
              · exact HA.out j h
              · obtain rfl : j = q := by omega
                exact HE.out
            case measure => simp [intOf]; omega
    · obtain rfl : q = 16 := by omega
      rw [hcn.out] at hc ⊢
      clear hs hv HA hz
      have a1 : decide ((h : Int) ≤ 1) = true := by simp; omega
      have a1n : decide (h ≤ 1) = true := by simp; omega
      have a2 : decide (0 ≤ cu) = true := by simp; omega
      have a3 : decide (cu < s) = false := by simp; omega
      clear hh
      go_wp2_with (first
        | (go_skip)
        | (refine F.rowCell _ (.tmp 37) rfl K1.out.cu_ rfl agg_int rfl ?_)
        | (refine F.rowCell _ (.tmp 42) rfl K1.out.cu_ rfl agg_int rfl ?_)
        | (refine F.rowCell _ (.tmp 53) rfl K1.out.cu_ rfl agg_int rfl ?_)
        | (refine F.rowCell _ (.tmp 45) rfl K1.out.s_ rfl agg_int rfl ?_))
      go_ret
      exact ⟨rfl, HB.out⟩
set_option maxRecDepth 100000 in
set_option maxHeartbeats 2000000 in
theorem sFine_F (m s r : Int) (st : List Int) (cu : Int) (go : Bool) (HL : Hid (st.length = 16)) (HW : Hid (∀ i : Nat, 0 ≤ rd st (i : Int) ∧ rd st (i : Int) < 256)) (h : Nat) (hcn : Hid (cnt st 2 16 = h)) (hz : Hid (∀ j : Nat, j < 16 → (rd st (j : Int) ≤ 2 ∧ (m ≤ (j : Int) → rd st (j : Int) = 0)))) (hh : h = 1) (h1 : 0 ≤ cu) (h2 : cu < s)
    (PG : Hid (∀ w : World, Calls Try.prog 126 #[geo m s r] w fun e w' => e = .returned (.bool true) ∧ Below w.heap.size w w')) (w : World) : Calls Try.prog 144 #[ros ⟨m, s, r, st, cu, go⟩] w fun e w' => e = .returned (.bool true) ∧ Below w.heap.size w w' := by
  have HB := Lib.hid (Below.refl w.heap.size w)
  go_enter Try.func144, Try.ntmps144
  go_wp2_with (first
    | (go_skip)
    | (refine rosBox (.tmp 0) rfl rfl HL.out rfl ?_; intro w1 hk hb hz1; have K1 := Lib.hid hk; replace HB := Lib.hid (below_ext HB.out hb); clear hk hb)
    | (refine geoLoad (.tmp 6) rfl K1.out rfl rfl ?_)
    | (go_at_call 126; refine (PG.out _).mono ?_; rintro e w2 ⟨rfl, hb⟩; replace K1 := Lib.hid (K1.out.below hb); replace HB := Lib.hid (below_ext HB.out hb); have hz2 := hb.size; clear hb)
    | (refine stsLoad (.tmp 10) rfl K1.out rfl rfl ?_))
  go_loopw [3, 12] (fun n i wr => ∃ q : Nat, q ≤ 16 ∧ i = .int .i64 (q : Int) ∧ n = .int .i64 (cnt st 2 q : Int) ∧ Hid (∀ j : Nat, j < q → (rd st (j : Int) ≤ 2 ∧ (m ≤ (j : Int) → rd st (j : Int) = 0))) ∧ Hid (Ros wr w.heap.size ⟨m, s, r, st, cu, go⟩) ∧ Hid (Below w.heap.size w wr)) (fun _ i _ => 16 - (intOf i).toNat)
  case atStart => exact ⟨0, by omega, rfl, rfl, Lib.hid (fun j h => absurd h (by omega)), K1, HB⟩
  case round =>
    clear K1 HB
    obtain ⟨q, hq, rfl, rfl, HA, K1, HB⟩ := hrel
    have hi0 : (0 : Int) ≤ (q : Int) := by omega
    have hc := cnt_le st 2 q
    have hs := cnt_succ st 2 q
    have hv := HW.out q
    by_cases hlt : q < 16
    · have hlt2 : (q : Int) < 16 := by omega
      by_cases e2 : rd st (q : Int) = 2
      · have g1 : decide (2 < rd st (q : Int)) = false := by simp; omega
        have g3 : (rd st (q : Int) == 2) = true := by simpa using e2
        have g4 : (rd st (q : Int) != 0) = true := by simp; omega
        rw [if_pos e2] at hs
        by_cases hm : m ≤ (q : Int)
        · have g2 : decide (m ≤ (q : Int)) = true := by simpa using hm
          have HE := Lib.hid (show ¬ (rd st (q : Int) ≤ 2 ∧ (m ≤ (q : Int) → rd st (q : Int) = 0)) from fun h => by have := h.2 hm; omega)
          clear e2
          exact absurd (hz.out q hlt) HE.out
        · have g2 : decide (m ≤ (q : Int)) = false := by simpa using hm
          have HE := Lib.hid (show (rd st (q : Int) ≤ 2 ∧ (m ≤ (q : Int) → rd st (q : Int) = 0)) from ⟨by omega, fun h => absurd h hm⟩)
          clear e2
          go_wp2_with (first
            | (go_skip)
            | (refine F.aggIndex (i := q) (n := 16) 70 (.tmp 11) (.tmp 12) rfl rfl rfl Try.underlying70 hlt R.agg_u8 size_u8s (st_at (by rw [HL.out]; exact hlt)) rfl ?_)
            | (refine F.rowCell _ (.tmp 21) rfl K1.out.m_ rfl agg_int rfl ?_))
          go_roundw
          case rel =>
            refine ⟨q + 1, by omega, by go_num, by rw [hs]; go_num, Lib.hid (fun j h1 => ?_), K1, HB⟩
            rcases Nat.lt_or_ge j q with h | h
            · exact HA.out j h
            · obtain rfl : j = q := by omega
              exact HE.out
          case measure => simp [intOf]; omega
      · have g3 : (rd st (q : Int) == 2) = false := by simpa using e2
        rw [if_neg e2] at hs
        by_cases h2 : 2 < rd st (q : Int)
        · have g1 : decide (2 < rd st (q : Int)) = true := by simpa using h2
          have HE := Lib.hid (show ¬ (rd st (q : Int) ≤ 2 ∧ (m ≤ (q : Int) → rd st (q : Int) = 0)) from fun h => by omega)
          exact absurd (hz.out q hlt) HE.out
        · have g1 : decide (2 < rd st (q : Int)) = false := by simpa using h2
          by_cases hm : m ≤ (q : Int)
          · have g2 : decide (m ≤ (q : Int)) = true := by simpa using hm
            by_cases h0 : rd st (q : Int) = 0
            · have g4 : (rd st (q : Int) != 0) = false := by simp [h0]
              have HE := Lib.hid (show (rd st (q : Int) ≤ 2 ∧ (m ≤ (q : Int) → rd st (q : Int) = 0)) from ⟨by omega, fun _ => h0⟩)
              clear h0 e2
              go_wp2_with (first
                | (go_skip)
                | (refine F.aggIndex (i := q) (n := 16) 70 (.tmp 11) (.tmp 12) rfl rfl rfl Try.underlying70 hlt R.agg_u8 size_u8s (st_at (by rw [HL.out]; exact hlt)) rfl ?_)
                | (refine F.rowCell _ (.tmp 21) rfl K1.out.m_ rfl agg_int rfl ?_))
              go_roundw
              case rel =>
                refine ⟨q + 1, by omega, by go_num, by rw [hs]; rfl, Lib.hid (fun j h1 => ?_), K1, HB⟩
                rcases Nat.lt_or_ge j q with h | h
                · exact HA.out j h
                · obtain rfl : j = q := by omega
                  exact HE.out
              case measure => simp [intOf]; omega
            · have g4 : (rd st (q : Int) != 0) = true := by simpa using h0
              have HE := Lib.hid (show ¬ (rd st (q : Int) ≤ 2 ∧ (m ≤ (q : Int) → rd st (q : Int) = 0)) from fun h => h0 (h.2 hm))
              clear h0 e2
              exact absurd (hz.out q hlt) HE.out
          · have g2 : decide (m ≤ (q : Int)) = false := by simpa using hm
            have HE := Lib.hid (show (rd st (q : Int) ≤ 2 ∧ (m ≤ (q : Int) → rd st (q : Int) = 0)) from ⟨by omega, fun h => absurd h hm⟩)
            clear e2
            go_wp2_with (first
              | (go_skip)
              | (refine F.aggIndex (i := q) (n := 16) 70 (.tmp 11) (.tmp 12) rfl rfl rfl Try.underlying70 hlt R.agg_u8 size_u8s (st_at (by rw [HL.out]; exact hlt)) rfl ?_)
              | (refine F.rowCell _ (.tmp 21) rfl K1.out.m_ rfl agg_int rfl ?_))
            go_roundw
            case rel =>
              refine ⟨q + 1, by omega, by go_num, by rw [hs]; rfl, Lib.hid (fun j h1 => ?_), K1, HB⟩
              rcases Nat.lt_or_ge j q with h | h
              · exact HA.out j h
              · obtain rfl : j = q := by omega
                exact HE.out
            case measure => simp [intOf]; omega
    · obtain rfl : q = 16 := by omega
      rw [hcn.out] at hc ⊢
      clear hs hv HA hz
      have a1 : decide ((h : Int) ≤ 1) = true := by simp; omega
      have a1n : decide (h ≤ 1) = true := by simp; omega
      have a2 : decide (0 ≤ cu) = true := by simp; omega
      have a3 : decide (cu < s) = true := by simp; omega
      have a4 : ((h : Int) == 1) = true := by rw [beq_iff_eq]; omega
      clear hh
      go_wp2_with (first
        | (go_skip)
        | (refine F.rowCell _ (.tmp 37) rfl K1.out.cu_ rfl agg_int rfl ?_)
        | (refine F.rowCell _ (.tmp 42) rfl K1.out.cu_ rfl agg_int rfl ?_)
        | (refine F.rowCell _ (.tmp 53) rfl K1.out.cu_ rfl agg_int rfl ?_)
        | (refine F.rowCell _ (.tmp 45) rfl K1.out.s_ rfl agg_int rfl ?_))
      go_ret
      exact ⟨rfl, HB.out⟩
set_option maxRecDepth 100000 in
set_option maxHeartbeats 2000000 in
theorem sFine_G (m s r : Int) (st : List Int) (cu : Int) (go : Bool) (HL : Hid (st.length = 16)) (HW : Hid (∀ i : Nat, 0 ≤ rd st (i : Int) ∧ rd st (i : Int) < 256)) (h : Nat) (hcn : Hid (cnt st 2 16 = h)) (hz : Hid (∀ j : Nat, j < 16 → (rd st (j : Int) ≤ 2 ∧ (m ≤ (j : Int) → rd st (j : Int) = 0)))) (hh : h = 0) (h1 : 0 ≤ cu) (h2 : cu < s) (z : Bool) (hc0 : (cu == 0) = z)
    (PG : Hid (∀ w : World, Calls Try.prog 126 #[geo m s r] w fun e w' => e = .returned (.bool true) ∧ Below w.heap.size w w')) (w : World) : Calls Try.prog 144 #[ros ⟨m, s, r, st, cu, go⟩] w fun e w' => e = .returned (.bool z) ∧ Below w.heap.size w w' := by
  have HB := Lib.hid (Below.refl w.heap.size w)
  go_enter Try.func144, Try.ntmps144
  go_wp2_with (first
    | (go_skip)
    | (refine rosBox (.tmp 0) rfl rfl HL.out rfl ?_; intro w1 hk hb hz1; have K1 := Lib.hid hk; replace HB := Lib.hid (below_ext HB.out hb); clear hk hb)
    | (refine geoLoad (.tmp 6) rfl K1.out rfl rfl ?_)
    | (go_at_call 126; refine (PG.out _).mono ?_; rintro e w2 ⟨rfl, hb⟩; replace K1 := Lib.hid (K1.out.below hb); replace HB := Lib.hid (below_ext HB.out hb); have hz2 := hb.size; clear hb)
    | (refine stsLoad (.tmp 10) rfl K1.out rfl rfl ?_))
  go_loopw [3, 12] (fun n i wr => ∃ q : Nat, q ≤ 16 ∧ i = .int .i64 (q : Int) ∧ n = .int .i64 (cnt st 2 q : Int) ∧ Hid (∀ j : Nat, j < q → (rd st (j : Int) ≤ 2 ∧ (m ≤ (j : Int) → rd st (j : Int) = 0))) ∧ Hid (Ros wr w.heap.size ⟨m, s, r, st, cu, go⟩) ∧ Hid (Below w.heap.size w wr)) (fun _ i _ => 16 - (intOf i).toNat)
  case atStart => exact ⟨0, by omega, rfl, rfl, Lib.hid (fun j h => absurd h (by omega)), K1, HB⟩
  case round =>
    clear K1 HB
    obtain ⟨q, hq, rfl, rfl, HA, K1, HB⟩ := hrel
    have hi0 : (0 : Int) ≤ (q : Int) := by omega
    have hc := cnt_le st 2 q
    have hs := cnt_succ st 2 q
    have hv := HW.out q
    by_cases hlt : q < 16
    · have hlt2 : (q : Int) < 16 := by omega
      by_cases e2 : rd st (q : Int) = 2
      · have g1 : decide (2 < rd st (q : Int)) = false := by simp; omega
        have g3 : (rd st (q : Int) == 2) = true := by simpa using e2
        have g4 : (rd st (q : Int) != 0) = true := by simp; omega
        rw [if_pos e2] at hs
        by_cases hm : m ≤ (q : Int)
        · have g2 : decide (m ≤ (q : Int)) = true := by simpa using hm
          have HE := Lib.hid (show ¬ (rd st (q : Int) ≤ 2 ∧ (m ≤ (q : Int) → rd st (q : Int) = 0)) from fun h => by have := h.2 hm; omega)
          clear e2
          exact absurd (hz.out q hlt) HE.out
        · have g2 : decide (m ≤ (q : Int)) = false := by simpa using hm
          have HE := Lib.hid (show (rd st (q : Int) ≤ 2 ∧ (m ≤ (q : Int) → rd st (q : Int) = 0)) from ⟨by omega, fun h => absurd h hm⟩)
          clear e2
          go_wp2_with (first
            | (go_skip)
            | (refine F.aggIndex (i := q) (n := 16) 70 (.tmp 11) (.tmp 12) rfl rfl rfl Try.underlying70 hlt R.agg_u8 size_u8s (st_at (by rw [HL.out]; exact hlt)) rfl ?_)
            | (refine F.rowCell _ (.tmp 21) rfl K1.out.m_ rfl agg_int rfl ?_))
          go_roundw
          case rel =>
            refine ⟨q + 1, by omega, by go_num, by rw [hs]; go_num, Lib.hid (fun j h1 => ?_), K1, HB⟩
            rcases Nat.lt_or_ge j q with h | h
            · exact HA.out j h
            · obtain rfl : j = q := by omega
              exact HE.out
          case measure => simp [intOf]; omega
      · have g3 : (rd st (q : Int) == 2) = false := by simpa using e2
        rw [if_neg e2] at hs
        by_cases h2 : 2 < rd st (q : Int)
        · have g1 : decide (2 < rd st (q : Int)) = true := by simpa using h2
          have HE := Lib.hid (show ¬ (rd st (q : Int) ≤ 2 ∧ (m ≤ (q : Int) → rd st (q : Int) = 0)) from fun h => by omega)
          exact absurd (hz.out q hlt) HE.out
        · have g1 : decide (2 < rd st (q : Int)) = false := by simpa using h2
          by_cases hm : m ≤ (q : Int)
          · have g2 : decide (m ≤ (q : Int)) = true := by simpa using hm
            by_cases h0 : rd st (q : Int) = 0
            · have g4 : (rd st (q : Int) != 0) = false := by simp [h0]
              have HE := Lib.hid (show (rd st (q : Int) ≤ 2 ∧ (m ≤ (q : Int) → rd st (q : Int) = 0)) from ⟨by omega, fun _ => h0⟩)
              clear h0 e2
              go_wp2_with (first
                | (go_skip)
                | (refine F.aggIndex (i := q) (n := 16) 70 (.tmp 11) (.tmp 12) rfl rfl rfl Try.underlying70 hlt R.agg_u8 size_u8s (st_at (by rw [HL.out]; exact hlt)) rfl ?_)
                | (refine F.rowCell _ (.tmp 21) rfl K1.out.m_ rfl agg_int rfl ?_))
              go_roundw
              case rel =>
                refine ⟨q + 1, by omega, by go_num, by rw [hs]; rfl, Lib.hid (fun j h1 => ?_), K1, HB⟩
                rcases Nat.lt_or_ge j q with h | h
                · exact HA.out j h
                · obtain rfl : j = q := by omega
                  exact HE.out
              case measure => simp [intOf]; omega
            · have g4 : (rd st (q : Int) != 0) = true := by simpa using h0
              have HE := Lib.hid (show ¬ (rd st (q : Int) ≤ 2 ∧ (m ≤ (q : Int) → rd st (q : Int) = 0)) from fun h => h0 (h.2 hm))
              clear h0 e2
              exact absurd (hz.out q hlt) HE.out
          · have g2 : decide (m ≤ (q : Int)) = false := by simpa using hm
            have HE := Lib.hid (show (rd st (q : Int) ≤ 2 ∧ (m ≤ (q : Int) → rd st (q : Int) = 0)) from ⟨by omega, fun h => absurd h hm⟩)
            clear e2
            go_wp2_with (first
              | (go_skip)
              | (refine F.aggIndex (i := q) (n := 16) 70 (.tmp 11) (.tmp 12) rfl rfl rfl Try.underlying70 hlt R.agg_u8 size_u8s (st_at (by rw [HL.out]; exact hlt)) rfl ?_)
              | (refine F.rowCell _ (.tmp 21) rfl K1.out.m_ rfl agg_int rfl ?_))
            go_roundw
            case rel =>
              refine ⟨q + 1, by omega, by go_num, by rw [hs]; rfl, Lib.hid (fun j h1 => ?_), K1, HB⟩
              rcases Nat.lt_or_ge j q with h | h
              · exact HA.out j h
              · obtain rfl : j = q := by omega
                exact HE.out
            case measure => simp [intOf]; omega
    · obtain rfl : q = 16 := by omega
      rw [hcn.out] at hc ⊢
      clear hs hv HA hz
      have a1 : decide ((h : Int) ≤ 1) = true := by simp; omega
      have a1n : decide (h ≤ 1) = true := by simp; omega
      have a2 : decide (0 ≤ cu) = true := by simp; omega
      have a3 : decide (cu < s) = true := by simp; omega
      have a4 : ((h : Int) == 1) = false := by rw [beq_eq_false_iff_ne]; omega
      clear hh
      go_wp2_with (first
        | (go_skip)
        | (refine F.rowCell _ (.tmp 37) rfl K1.out.cu_ rfl agg_int rfl ?_)
        | (refine F.rowCell _ (.tmp 42) rfl K1.out.cu_ rfl agg_int rfl ?_)
        | (refine F.rowCell _ (.tmp 53) rfl K1.out.cu_ rfl agg_int rfl ?_)
        | (refine F.rowCell _ (.tmp 45) rfl K1.out.s_ rfl agg_int rfl ?_))
      go_ret
      exact ⟨rfl, HB.out⟩
end Go.Proofs.Ytdchcggllcgokaa.Q
