/-
  ashlarref08.Fine: the walks. ashlarref08.Fine, ashlarref10.May, roster.member, ashlarref10.member whole.
-/
import Derived.Test.YtdchcggllcgokaaSqE
namespace Go.Proofs.Ytdchcggllcgokaa.Q
open Go.RowKit Go.Proofs.Ytdchcggllcgokaa.L Go.Proofs.Ytdchcggllcgokaa.R Go.Proofs.YtdchcggllcgokaaW.PrintWords
set_option linter.unusedVariables false
set_option linter.unusedSimpArgs false
set_option maxRecDepth 100000 in
set_option maxHeartbeats 2000000 in
theorem Fine_A (m s r : Int) (st : List Int) (cu : Int) (go : Bool) (HL : Hid (st.length = 16)) (HW : Hid (∀ i : Nat, 0 ≤ rd st (i : Int) ∧ rd st (i : Int) < 256)) 
    (PG : Hid (∀ w : World, Calls Try.prog 149 #[geo m s r] w fun e w' => e = .returned (.bool false) ∧ Below w.heap.size w w')) (w : World) : Calls Try.prog 132 #[ros ⟨m, s, r, st, cu, go⟩] w fun e w' => e = .returned (.bool false) ∧ Below w.heap.size w w' := by
  have HB := Lib.hid (Below.refl w.heap.size w)
  go_enter Try.func132, Try.ntmps132
  go_wp2_with (first
    | (go_skip)
    | (refine rosBox (.tmp 0) rfl rfl HL.out rfl ?_; intro w1 hk hb hz1; have K1 := Lib.hid hk; replace HB := Lib.hid (below_ext HB.out hb); clear hk hb)
    | (refine geoLoad (.tmp 5) rfl K1.out rfl rfl ?_)
    | (go_at_call 149; refine (PG.out _).mono ?_; rintro e w2 ⟨rfl, hb⟩; replace K1 := Lib.hid (K1.out.below hb); replace HB := Lib.hid (below_ext HB.out hb); have hz2 := hb.size; clear hb))
  go_ret
  exact ⟨rfl, HB.out⟩
set_option maxRecDepth 100000 in
set_option maxHeartbeats 2000000 in
theorem Fine_B (m s r : Int) (st : List Int) (cu : Int) (go : Bool) (HL : Hid (st.length = 16)) (HW : Hid (∀ i : Nat, 0 ≤ rd st (i : Int) ∧ rd st (i : Int) < 256)) (hz : Hid (¬ (∀ j : Nat, j < 16 → (rd st (j : Int) ≤ 2 ∧ (m ≤ (j : Int) → rd st (j : Int) = 0)))))
    (PG : Hid (∀ w : World, Calls Try.prog 149 #[geo m s r] w fun e w' => e = .returned (.bool true) ∧ Below w.heap.size w w')) (w : World) : Calls Try.prog 132 #[ros ⟨m, s, r, st, cu, go⟩] w fun e w' => e = .returned (.bool false) ∧ Below w.heap.size w w' := by
  have HB := Lib.hid (Below.refl w.heap.size w)
  go_enter Try.func132, Try.ntmps132
  go_wp2_with (first
    | (go_skip)
    | (refine rosBox (.tmp 0) rfl rfl HL.out rfl ?_; intro w1 hk hb hz1; have K1 := Lib.hid hk; replace HB := Lib.hid (below_ext HB.out hb); clear hk hb)
    | (refine geoLoad (.tmp 5) rfl K1.out rfl rfl ?_)
    | (go_at_call 149; refine (PG.out _).mono ?_; rintro e w2 ⟨rfl, hb⟩; replace K1 := Lib.hid (K1.out.below hb); replace HB := Lib.hid (below_ext HB.out hb); have hz2 := hb.size; clear hb))
  go_loopw [3, 4] (fun n i wr => ∃ q : Nat, q ≤ 16 ∧ i = .int .i64 (q : Int) ∧ n = .int .i64 (cnt st 2 q : Int) ∧ Hid (∀ j : Nat, j < q → (rd st (j : Int) ≤ 2 ∧ (m ≤ (j : Int) → rd st (j : Int) = 0))) ∧ Hid (Ros wr w.heap.size ⟨m, s, r, st, cu, go⟩) ∧ Hid (Below w.heap.size w wr)) (fun _ i _ => 16 - (intOf i).toNat)
  case atStart => exact ⟨0, by omega, rfl, rfl, Lib.hid (fun j h => absurd h (by omega)), K1, HB⟩
  case round =>
    clear K1 HB
    obtain ⟨q, hq, rfl, rfl, HA, K1, HB⟩ := hrel
    have hi0 : (0 : Int) ≤ (q : Int) := by omega
    have hc := cnt_le st 2 q
    have hs := cnt_succ st 2 q
    have hv := HW.out q
    by_cases hlt : q < 16
    · have hlt2 : (q : Int) < 16 := by omega
      by_cases e2 : rd st (q : Int) = 2
      · have g1 : decide (2 < rd st (q : Int)) = false := by simp; omega
        have g3 : (rd st (q : Int) == 2) = true := by simpa using e2
        have g4 : (rd st (q : Int) != 0) = true := by simp; omega
        rw [if_pos e2] at hs
        by_cases hm : m ≤ (q : Int)
        · have g2 : decide (m ≤ (q : Int)) = true := by simpa using hm
          have HE := Lib.hid (show ¬ (rd st (q : Int) ≤ 2 ∧ (m ≤ (q : Int) → rd st (q : Int) = 0)) from fun h => by have := h.2 hm; omega)
          clear e2
          go_wp2_with (first
            | (go_skip)
            | (refine F.rowCell _ (.tmp 15) rfl (K1.out.ci q hlt) rfl R.agg_u8 rfl ?_)
            | (refine F.rowCell _ (.tmp 27) rfl (K1.out.ci q hlt) rfl R.agg_u8 rfl ?_)
            | (refine F.rowCell _ (.tmp 34) rfl (K1.out.ci q hlt) rfl R.agg_u8 rfl ?_)
            | (refine F.rowCell _ (.tmp 21) rfl K1.out.m_ rfl agg_int rfl ?_))
          go_ret
          exact ⟨rfl, HB.out⟩
        · have g2 : decide (m ≤ (q : Int)) = false := by simpa using hm
          have HE := Lib.hid (show (rd st (q : Int) ≤ 2 ∧ (m ≤ (q : Int) → rd st (q : Int) = 0)) from ⟨by omega, fun h => absurd h hm⟩)
          clear e2
          go_wp2_with (first
            | (go_skip)
            | (refine F.rowCell _ (.tmp 15) rfl (K1.out.ci q hlt) rfl R.agg_u8 rfl ?_)
            | (refine F.rowCell _ (.tmp 27) rfl (K1.out.ci q hlt) rfl R.agg_u8 rfl ?_)
            | (refine F.rowCell _ (.tmp 34) rfl (K1.out.ci q hlt) rfl R.agg_u8 rfl ?_)
            | (refine F.rowCell _ (.tmp 21) rfl K1.out.m_ rfl agg_int rfl ?_))
          go_roundw
          case rel =>
            refine ⟨q + 1, by omega, by go_num, by rw [hs]; go_num, Lib.hid (fun j h1 => ?_), K1, HB⟩
            rcases Nat.lt_or_ge j q with h | h
            · exact HA.out j h
            · obtain rfl : j = q := by omega
              exact HE.out
          case measure => simp [intOf]; omega
      · have g3 : (rd st (q : Int) == 2) = false := by simpa using e2
        rw [if_neg e2] at hs
        by_cases h2 : 2 < rd st (q : Int)
        · have g1 : decide (2 < rd st (q : Int)) = true := by simpa using h2
          have HE := Lib.hid (show ¬ (rd st (q : Int) ≤ 2 ∧ (m ≤ (q : Int) → rd st (q : Int) = 0)) from fun h => by omega)
          go_wp2_with (first
            | (go_skip)
            | (refine F.rowCell _ (.tmp 15) rfl (K1.out.ci q hlt) rfl R.agg_u8 rfl ?_)
            | (refine F.rowCell _ (.tmp 27) rfl (K1.out.ci q hlt) rfl R.agg_u8 rfl ?_)
            | (refine F.rowCell _ (.tmp 34) rfl (K1.out.ci q hlt) rfl R.agg_u8 rfl ?_)
            | (refine F.rowCell _ (.tmp 21) rfl K1.out.m_ rfl agg_int rfl ?_))
          go_ret
          exact ⟨rfl, HB.out⟩
        · have g1 : decide (2 < rd st (q : Int)) = false := by simpa using h2
          by_cases hm : m ≤ (q : Int)
          · have g2 : decide (m ≤ (q : Int)) = true := by simpa using hm
            by_cases h0 : rd st (q : Int) = 0
            · have g4 : (rd st (q : Int) != 0) = false := by simp [h0]
              have HE := Lib.hid (show (rd st (q : Int) ≤ 2 ∧ (m ≤ (q : Int) → rd st (q : Int) = 0)) from ⟨by omega, fun _ => h0⟩)
              clear h0 e2
              go_wp2_with (first
                | (go_skip)
                | (refine F.rowCell _ (.tmp 15) rfl (K1.out.ci q hlt) rfl R.agg_u8 rfl ?_)
                | (refine F.rowCell _ (.tmp 27) rfl (K1.out.ci q hlt) rfl R.agg_u8 rfl ?_)
                | (refine F.rowCell _ (.tmp 34) rfl (K1.out.ci q hlt) rfl R.agg_u8 rfl ?_)
                | (refine F.rowCell _ (.tmp 21) rfl K1.out.m_ rfl agg_int rfl ?_))
              go_roundw
              case rel =>
                refine ⟨q + 1, by omega, by go_num, by rw [hs]; rfl, Lib.hid (fun j h1 => ?_), K1, HB⟩
                rcases Nat.lt_or_ge j q with h | h
                · exact HA.out j h
                · obtain rfl : j = q := by omega
                  exact HE.out
              case measure => simp [intOf]; omega
            · have g4 : (rd st (q : Int) != 0) = true := by simpa using h0
              have HE := Lib.hid (show ¬ (rd st (q : Int) ≤ 2 ∧ (m ≤ (q : Int) → rd st (q : Int) = 0)) from fun h => h0 (h.2 hm))
              clear h0 e2
              go_wp2_with (first
                | (go_skip)
                | (refine F.rowCell _ (.tmp 15) rfl (K1.out.ci q hlt) rfl R.agg_u8 rfl ?_)
                | (refine F.rowCell _ (.tmp 27) rfl (K1.out.ci q hlt) rfl R.agg_u8 rfl ?_)
                | (refine F.rowCell _ (.tmp 34) rfl (K1.out.ci q hlt) rfl R.agg_u8 rfl ?_)
                | (refine F.rowCell _ (.tmp 21) rfl K1.out.m_ rfl agg_int rfl ?_))
              go_ret
              exact ⟨rfl, HB.out⟩
          · have g2 : decide (m ≤ (q : Int)) = false := by simpa using hm
            have HE := Lib.hid (show (rd st (q : Int) ≤ 2 ∧ (m ≤ (q : Int) → rd st (q : Int) = 0)) from ⟨by omega, fun h => absurd h hm⟩)
            clear e2
            go_wp2_with (first
              | (go_skip)
              | (refine F.rowCell _ (.tmp 15) rfl (K1.out.ci q hlt) rfl R.agg_u8 rfl ?_)
              | (refine F.rowCell _ (.tmp 27) rfl (K1.out.ci q hlt) rfl R.agg_u8 rfl ?_)
              | (refine F.rowCell _ (.tmp 34) rfl (K1.out.ci q hlt) rfl R.agg_u8 rfl ?_)
              | (refine F.rowCell _ (.tmp 21) rfl K1.out.m_ rfl agg_int rfl ?_))
            go_roundw
            case rel =>
              refine ⟨q + 1, by omega, by go_num, by rw [hs]; rfl, Lib.hid (fun j h1 => ?_), K1, HB⟩
              rcases Nat.lt_or_ge j q with h | h
              · exact HA.out j h
              · obtain rfl : j = q := by omega
                exact HE.out
            case measure => simp [intOf]; omega
    · obtain rfl : q = 16 := by omega
      exact absurd HA.out hz.out
set_option maxRecDepth 100000 in
set_option maxHeartbeats 2000000 in
theorem Fine_C (m s r : Int) (st : List Int) (cu : Int) (go : Bool) (HL : Hid (st.length = 16)) (HW : Hid (∀ i : Nat, 0 ≤ rd st (i : Int) ∧ rd st (i : Int) < 256)) (h : Nat) (hcn : Hid (cnt st 2 16 = h)) (hz : Hid (∀ j : Nat, j < 16 → (rd st (j : Int) ≤ 2 ∧ (m ≤ (j : Int) → rd st (j : Int) = 0)))) (hh : 1 < h)
    (PG : Hid (∀ w : World, Calls Try.prog 149 #[geo m s r] w fun e w' => e = .returned (.bool true) ∧ Below w.heap.size w w')) (w : World) : Calls Try.prog 132 #[ros ⟨m, s, r, st, cu, go⟩] w fun e w' => e = .returned (.bool false) ∧ Below w.heap.size w w' := by
  have HB := Lib.hid (Below.refl w.heap.size w)
  go_enter Try.func132, Try.ntmps132
  go_wp2_with (first
    | (go_skip)
    | (refine rosBox (.tmp 0) rfl rfl HL.out rfl ?_; intro w1 hk hb hz1; have K1 := Lib.hid hk; replace HB := Lib.hid (below_ext HB.out hb); clear hk hb)
    | (refine geoLoad (.tmp 5) rfl K1.out rfl rfl ?_)
    | (go_at_call 149; refine (PG.out _).mono ?_; rintro e w2 ⟨rfl, hb⟩; replace K1 := Lib.hid (K1.out.below hb); replace HB := Lib.hid (below_ext HB.out hb); have hz2 := hb.size; clear hb))
  go_loopw [3, 4] (fun n i wr => ∃ q : Nat, q ≤ 16 ∧ i = .int .i64 (q : Int) ∧ n = .int .i64 (cnt st 2 q : Int) ∧ Hid (∀ j : Nat, j < q → (rd st (j : Int) ≤ 2 ∧ (m ≤ (j : Int) → rd st (j : Int) = 0))) ∧ Hid (Ros wr w.heap.size ⟨m, s, r, st, cu, go⟩) ∧ Hid (Below w.heap.size w wr)) (fun _ i _ => 16 - (intOf i).toNat)
  case atStart => exact ⟨0, by omega, rfl, rfl, Lib.hid (fun j h => absurd h (by omega)), K1, HB⟩
  case round =>
    clear K1 HB
    obtain ⟨q, hq, rfl, rfl, HA, K1, HB⟩ := hrel
    have hi0 : (0 : Int) ≤ (q : Int) := by omega
    have hc := cnt_le st 2 q
    have hs := cnt_succ st 2 q
    have hv := HW.out q
    by_cases hlt : q < 16
    · have hlt2 : (q : Int) < 16 := by omega
      by_cases e2 : rd st (q : Int) = 2
      · have g1 : decide (2 < rd st (q : Int)) = false := by simp; omega
        have g3 : (rd st (q : Int) == 2) = true := by simpa using e2
        have g4 : (rd st (q : Int) != 0) = true := by simp; omega
        rw [if_pos e2] at hs
        by_cases hm : m ≤ (q : Int)
        · have g2 : decide (m ≤ (q : Int)) = true := by simpa using hm
          have HE := Lib.hid (show ¬ (rd st (q : Int) ≤ 2 ∧ (m ≤ (q : Int) → rd st (q : Int) = 0)) from fun h => by have := h.2 hm; omega)
          clear e2
          exact absurd (hz.out q hlt) HE.out
        · have g2 : decide (m ≤ (q : Int)) = false := by simpa using hm
          have HE := Lib.hid (show (rd st (q : Int) ≤ 2 ∧ (m ≤ (q : Int) → rd st (q : Int) = 0)) from ⟨by omega, fun h => absurd h hm⟩)
          clear e2
          go_wp2_with (first
            | (go_skip)
            | (refine F.rowCell _ (.tmp 15) rfl (K1.out.ci q hlt) rfl R.agg_u8 rfl ?_)
            | (refine F.rowCell _ (.tmp 27) rfl (K1.out.ci q hlt) rfl R.agg_u8 rfl ?_)
            | (refine F.rowCell _ (.tmp 34) rfl (K1.out.ci q hlt) rfl R.agg_u8 rfl ?_)
            | (refine F.rowCell _ (.tmp 21) rfl K1.out.m_ rfl agg_int rfl ?_))
          go_roundw
          case rel =>
            refine ⟨q + 1, by omega, by go_num, by rw [hs]; go_num, Lib.hid (fun j h1 => ?_), K1, HB⟩
            rcases Nat.lt_or_ge j q with h | h
            · exact HA.out j h
            · obtain rfl : j = q := by omega
              exact HE.out
          case measure => simp [intOf]; omega
      · have g3 : (rd st (q : Int) == 2) = false := by simpa using e2
        rw [if_neg e2] at hs
        by_cases h2 : 2 < rd st (q : Int)
        · have g1 : decide (2 < rd st (q : Int)) = true := by simpa using h2
          have HE := Lib.hid (show ¬ (rd st (q : Int) ≤ 2 ∧ (m ≤ (q : Int) → rd st (q : Int) = 0)) from fun h => by omega)
          exact absurd (hz.out q hlt) HE.out
        · have g1 : decide (2 < rd st (q : Int)) = false := by simpa using h2
          by_cases hm : m ≤ (q : Int)
          · have g2 : decide (m ≤ (q : Int)) = true := by simpa using hm
            by_cases h0 : rd st (q : Int) = 0
            · have g4 : (rd st (q : Int) != 0) = false := by simp [h0]
              have HE := Lib.hid (show (rd st (q : Int) ≤ 2 ∧ (m ≤ (q : Int) → rd st (q : Int) = 0)) from ⟨by omega, fun _ => h0⟩)
              clear h0 e2
              go_wp2_with (first
                | (go_skip)
                | (refine F.rowCell _ (.tmp 15) rfl (K1.out.ci q hlt) rfl R.agg_u8 rfl ?_)
                | (refine F.rowCell _ (.tmp 27) rfl (K1.out.ci q hlt) rfl R.agg_u8 rfl ?_)
                | (refine F.rowCell _ (.tmp 34) rfl (K1.out.ci q hlt) rfl R.agg_u8 rfl ?_)
                | (refine F.rowCell _ (.tmp 21) rfl K1.out.m_ rfl agg_int rfl ?_))
              go_roundw
              case rel =>
                refine ⟨q + 1, by omega, by go_num, by rw [hs]; rfl, Lib.hid (fun j h1 => ?_), K1, HB⟩
                rcases Nat.lt_or_ge j q with h | h
                · exact HA.out j h
                · obtain rfl : j = q := by omega
                  exact HE.out
              case measure => simp [intOf]; omega
            · have g4 : (rd st (q : Int) != 0) = true := by simpa using h0
              have HE := Lib.hid (show ¬ (rd st (q : Int) ≤ 2 ∧ (m ≤ (q : Int) → rd st (q : Int) = 0)) from fun h => h0 (h.2 hm))
              clear h0 e2
              exact absurd (hz.out q hlt) HE.out
          · have g2 : decide (m ≤ (q : Int)) = false := by simpa using hm
            have HE := Lib.hid (show (rd st (q : Int) ≤ 2 ∧ (m ≤ (q : Int) → rd st (q : Int) = 0)) from ⟨by omega, fun h => absurd h hm⟩)
            clear e2
            go_wp2_with (first
              | (go_skip)
              | (refine F.rowCell _ (.tmp 15) rfl (K1.out.ci q hlt) rfl R.agg_u8 rfl ?_)
              | (refine F.rowCell _ (.tmp 27) rfl (K1.out.ci q hlt) rfl R.agg_u8 rfl ?_)
              | (refine F.rowCell _ (.tmp 34) rfl (K1.out.ci q hlt) rfl R.agg_u8 rfl ?_)
              | (refine F.rowCell _ (.tmp 21) rfl K1.out.m_ rfl agg_int rfl ?_))
            go_roundw
            case rel =>
              refine ⟨q + 1, by omega, by go_num, by rw [hs]; rfl, Lib.hid (fun j h1 => ?_), K1, HB⟩
              rcases Nat.lt_or_ge j q with h | h
              · exact HA.out j h
              · obtain rfl : j = q := by omega
                exact HE.out
            case measure => simp [intOf]; omega
    · obtain rfl : q = 16 := by omega
      rw [hcn.out] at hc ⊢
      clear hs hv HA hz
      have a1 : decide ((h : Int) ≤ 1) = false := by simp; omega
      have a1n : decide (h ≤ 1) = false := by simp; omega
      clear hh
      go_wp2_with (first
        | (go_skip)
        | (refine F.rowCell _ (.tmp 42) rfl K1.out.cu_ rfl agg_int rfl ?_)
        | (refine F.rowCell _ (.tmp 47) rfl K1.out.cu_ rfl agg_int rfl ?_)
        | (refine F.rowCell _ (.tmp 58) rfl K1.out.cu_ rfl agg_int rfl ?_)
        | (refine F.rowCell _ (.tmp 50) rfl K1.out.s_ rfl agg_int rfl ?_))
      go_ret
      exact ⟨rfl, HB.out⟩
set_option maxRecDepth 100000 in
set_option maxHeartbeats 2000000 in
theorem Fine_D (m s r : Int) (st : List Int) (cu : Int) (go : Bool) (HL : Hid (st.length = 16)) (HW : Hid (∀ i : Nat, 0 ≤ rd st (i : Int) ∧ rd st (i : Int) < 256)) (h : Nat) (hcn : Hid (cnt st 2 16 = h)) (hz : Hid (∀ j : Nat, j < 16 → (rd st (j : Int) ≤ 2 ∧ (m ≤ (j : Int) → rd st (j : Int) = 0)))) (hh : h ≤ 1) (h1 : cu < 0)
    (PG : Hid (∀ w : World, Calls Try.prog 149 #[geo m s r] w fun e w' => e = .returned (.bool true) ∧ Below w.heap.size w w')) (w : World) : Calls Try.prog 132 #[ros ⟨m, s, r, st, cu, go⟩] w fun e w' => e = .returned (.bool false) ∧ Below w.heap.size w w' := by
  have HB := Lib.hid (Below.refl w.heap.size w)
  go_enter Try.func132, Try.ntmps132
  go_wp2_with (first
    | (go_skip)
    | (refine rosBox (.tmp 0) rfl rfl HL.out rfl ?_; intro w1 hk hb hz1; have K1 := Lib.hid hk; replace HB := Lib.hid (below_ext HB.out hb); clear hk hb)
    | (refine geoLoad (.tmp 5) rfl K1.out rfl rfl ?_)
    | (go_at_call 149; refine (PG.out _).mono ?_; rintro e w2 ⟨rfl, hb⟩; replace K1 := Lib.hid (K1.out.below hb); replace HB := Lib.hid (below_ext HB.out hb); have hz2 := hb.size; clear hb))
  go_loopw [3, 4] (fun n i wr => ∃ q : Nat, q ≤ 16 ∧ i = .int .i64 (q : Int) ∧ n = .int .i64 (cnt st 2 q : Int) ∧ Hid (∀ j : Nat, j < q → (rd st (j : Int) ≤ 2 ∧ (m ≤ (j : Int) → rd st (j : Int) = 0))) ∧ Hid (Ros wr w.heap.size ⟨m, s, r, st, cu, go⟩) ∧ Hid (Below w.heap.size w wr)) (fun _ i _ => 16 - (intOf i).toNat)
  case atStart => exact ⟨0, by omega, rfl, rfl, Lib.hid (fun j h => absurd h (by omega)), K1, HB⟩
  case round =>
    clear K1 HB
    obtain ⟨q, hq, rfl, rfl, HA, K1, HB⟩ := hrel
    have hi0 : (0 : Int) ≤ (q : Int) := by omega
    have hc := cnt_le st 2 q
    have hs := cnt_succ st 2 q
    have hv := HW.out q
    by_cases hlt : q < 16
    · have hlt2 : (q : Int) < 16 := by omega
      by_cases e2 : rd st (q : Int) = 2
      · have g1 : decide (2 < rd st (q : Int)) = false := by simp; omega
        have g3 : (rd st (q : Int) == 2) = true := by simpa using e2
        have g4 : (rd st (q : Int) != 0) = true := by simp; omega
        rw [if_pos e2] at hs
        by_cases hm : m ≤ (q : Int)
        · have g2 : decide (m ≤ (q : Int)) = true := by simpa using hm
          have HE := Lib.hid (show ¬ (rd st (q : Int) ≤ 2 ∧ (m ≤ (q : Int) → rd st (q : Int) = 0)) from fun h => by have := h.2 hm; omega)
          clear e2
          exact absurd (hz.out q hlt) HE.out
        · have g2 : decide (m ≤ (q : Int)) = false := by simpa using hm
          have HE := Lib.hid (show (rd st (q : Int) ≤ 2 ∧ (m ≤ (q : Int) → rd st (q : Int) = 0)) from ⟨by omega, fun h => absurd h hm⟩)
          clear e2
          go_wp2_with (first
            | (go_skip)
            | (refine F.rowCell _ (.tmp 15) rfl (K1.out.ci q hlt) rfl R.agg_u8 rfl ?_)
            | (refine F.rowCell _ (.tmp 27) rfl (K1.out.ci q hlt) rfl R.agg_u8 rfl ?_)
            | (refine F.rowCell _ (.tmp 34) rfl (K1.out.ci q hlt) rfl R.agg_u8 rfl ?_)
            | (refine F.rowCell _ (.tmp 21) rfl K1.out.m_ rfl agg_int rfl ?_))
          go_roundw
          case rel =>
            refine ⟨q + 1, by omega, by go_num, by rw [hs]; go_num, Lib.hid (fun j h1 => ?_), K1, HB⟩
            rcases Nat.lt_or_ge j q with h | h
            · exact HA.out j h
            · obtain rfl : j = q := by omega
              exact HE.out
          case measure => simp [intOf]; omega
      · have g3 : (rd st (q : Int) == 2) = false := by simpa using e2
        rw [if_neg e2] at hs
        by_cases h2 : 2 < rd st (q : Int)
        · have g1 : decide (2 < rd st (q : Int)) = true := by simpa using h2
          have HE := Lib.hid (show ¬ (rd st (q : Int) ≤ 2 ∧ (m ≤ (q : Int) → rd st (q : Int) = 0)) from fun h => by omega)
          exact absurd (hz.out q hlt) HE.out
        · have g1 : decide (2 < rd st (q : Int)) = false := by simpa using h2
          by_cases hm : m ≤ (q : Int)
          · have g2 : decide (m ≤ (q : Int)) = true := by simpa using hm
            by_cases h0 : rd st (q : Int) = 0
            · have g4 : (rd st (q : Int) != 0) = false := by simp [h0]
              have HE := Lib.hid (show (rd st (q : Int) ≤ 2 ∧ (m ≤ (q : Int) → rd st (q : Int) = 0)) from ⟨by omega, fun _ => h0⟩)
              clear h0 e2
              go_wp2_with (first
                | (go_skip)
                | (refine F.rowCell _ (.tmp 15) rfl (K1.out.ci q hlt) rfl R.agg_u8 rfl ?_)
                | (refine F.rowCell _ (.tmp 27) rfl (K1.out.ci q hlt) rfl R.agg_u8 rfl ?_)
                | (refine F.rowCell _ (.tmp 34) rfl (K1.out.ci q hlt) rfl R.agg_u8 rfl ?_)
                | (refine F.rowCell _ (.tmp 21) rfl K1.out.m_ rfl agg_int rfl ?_))
              go_roundw
              case rel =>
                refine ⟨q + 1, by omega, by go_num, by rw [hs]; rfl, Lib.hid (fun j h1 => ?_), K1, HB⟩
                rcases Nat.lt_or_ge j q with h | h
                · exact HA.out j h
                · obtain rfl : j = q := by omega
                  exact HE.out
              case measure => simp [intOf]; omega
            · have g4 : (rd st (q : Int) != 0) = true := by simpa using h0
              have HE := Lib.hid (show ¬ (rd st (q : Int) ≤ 2 ∧ (m ≤ (q : Int) → rd st (q : Int) = 0)) from fun h => h0 (h.2 hm))
              clear h0 e2
              exact absurd (hz.out q hlt) HE.out
          · have g2 : decide (m ≤ (q : Int)) = false := by simpa using hm
            have HE := Lib.hid (show (rd st (q : Int) ≤ 2 ∧ (m ≤ (q : Int) → rd st (q : Int) = 0)) from ⟨by omega, fun h => absurd h hm⟩)
            clear e2
            go_wp2_with (first
              | (go_skip)
              | (refine F.rowCell _ (.tmp 15) rfl (K1.out.ci q hlt) rfl R.agg_u8 rfl ?_)
              | (refine F.rowCell _ (.tmp 27) rfl (K1.out.ci q hlt) rfl R.agg_u8 rfl ?_)
              | (refine F.rowCell _ (.tmp 34) rfl (K1.out.ci q hlt) rfl R.agg_u8 rfl ?_)
              | (refine F.rowCell _ (.tmp 21) rfl K1.out.m_ rfl agg_int rfl ?_))
            go_roundw
            case rel =>
              refine ⟨q + 1, by omega, by go_num, by rw [hs]; rfl, Lib.hid (fun j h1 => ?_), K1, HB⟩
              rcases Nat.lt_or_ge j q with h | h
              · exact HA.out j h
              · obtain rfl : j = q := by omega
                exact HE.out
            case measure => simp [intOf]; omega
    · obtain rfl : q = 16 := by omega
      rw [hcn.out] at hc ⊢
      clear hs hv HA hz
      have a1 : decide ((h : Int) ≤ 1) = true := by simp; omega
      have a1n : decide (h ≤ 1) = true := by simp; omega
      have a2 : decide (0 ≤ cu) = false := by simp; omega
      clear hh
      go_wp2_with (first
        | (go_skip)
        | (refine F.rowCell _ (.tmp 42) rfl K1.out.cu_ rfl agg_int rfl ?_)
        | (refine F.rowCell _ (.tmp 47) rfl K1.out.cu_ rfl agg_int rfl ?_)
        | (refine F.rowCell _ (.tmp 58) rfl K1.out.cu_ rfl agg_int rfl ?_)
        | (refine F.rowCell _ (.tmp 50) rfl K1.out.s_ rfl agg_int rfl ?_))
      go_ret
      exact ⟨rfl, HB.out⟩
set_option maxRecDepth 100000 in
set_option maxHeartbeats 2000000 in
theorem Fine_E (m s r : Int) (st : List Int) (cu : Int) (go : Bool) (HL : Hid (st.length = 16)) (HW : Hid (∀ i : Nat, 0 ≤ rd st (i : Int) ∧ rd st (i : Int) < 256)) (h : Nat) (hcn : Hid (cnt st 2 16 = h)) (hz : Hid (∀ j : Nat, j < 16 → (rd st (j : Int) ≤ 2 ∧ (m ≤ (j : Int) → rd st (j : Int) = 0)))) (hh : h ≤ 1) (h1 : 0 ≤ cu) (h2 : s ≤ cu)
    (PG : Hid (∀ w : World, Calls Try.prog 149 #[geo m s r] w fun e w' => e = .returned (.bool true) ∧ Below w.heap.size w w')) (w : World) : Calls Try.prog 132 #[ros ⟨m, s, r, st, cu, go⟩] w fun e w' => e = .returned (.bool false) ∧ Below w.heap.size w w' := by
  have HB := Lib.hid (Below.refl w.heap.size w)
  go_enter Try.func132, Try.ntmps132
  go_wp2_with (first
    | (go_skip)
    | (refine rosBox (.tmp 0) rfl rfl HL.out rfl ?_; intro w1 hk hb hz1; have K1 := Lib.hid hk; replace HB := Lib.hid (below_ext HB.out hb); clear hk hb)
    | (refine geoLoad (.tmp 5) rfl K1.out rfl rfl ?_)
    | (go_at_call 149; refine (PG.out _).mono ?_; rintro e w2 ⟨rfl, hb⟩; replace K1 := Lib.hid (K1.out.below hb); replace HB := Lib.hid (below_ext HB.out hb); have hz2 := hb.size; clear hb))
  go_loopw [3, 4] (fun n i wr => ∃ q : Nat, q ≤ 16 ∧ i = .int .i64 (q : Int) ∧ n = .int .i64 (cnt st 2 q : Int) ∧ Hid (∀ j : Nat, j < q → (rd st (j : Int) ≤ 2 ∧ (m ≤ (j : Int) → rd st (j : Int) = 0))) ∧ Hid (Ros wr w.heap.size ⟨m, s, r, st, cu, go⟩) ∧ Hid (Below w.heap.size w wr)) (fun _ i _ => 16 - (intOf i).toNat)
  case atStart => exact ⟨0, by omega, rfl, rfl, Lib.hid (fun j h => absurd h (by omega)), K1, HB⟩
  case round =>
    clear K1 HB
    obtain ⟨q, hq, rfl, rfl, HA, K1, HB⟩ := hrel
    have hi0 : (0 : Int) ≤ (q : Int) := by omega
    have hc := cnt_le st 2 q
    have hs := cnt_succ st 2 q
    have hv := HW.out q
    by_cases hlt : q < 16
    · have hlt2 : (q : Int) < 16 := by omega
      by_cases e2 : rd st (q : Int) = 2
      · have g1 : decide (2 < rd st (q : Int)) = false := by simp; omega
        have g3 : (rd st (q : Int) == 2) = true := by simpa using e2
        have g4 : (rd st (q : Int) != 0) = true := by simp; omega
        rw [if_pos e2] at hs
        by_cases hm : m ≤ (q : Int)
        · have g2 : decide (m ≤ (q : Int)) = true := by simpa using hm
          have HE := Lib.hid (show ¬ (rd st (q : Int) ≤ 2 ∧ (m ≤ (q : Int) → rd st (q : Int) = 0)) from fun h => by have := h.2 hm; omega)
          clear e2
          exact absurd (hz.out q hlt) HE.out
        · have g2 : decide (m ≤ (q : Int)) = false := by simpa using hm
          have HE := Lib.hid (show (rd st (q : Int) ≤ 2 ∧ (m ≤ (q : Int) → rd st (q : Int) = 0)) from ⟨by omega, fun h => absurd h hm⟩)
          clear e2
          go_wp2_with (first
            | (go_skip)
            | (refine F.rowCell _ (.tmp 15) rfl (K1.out.ci q hlt) rfl R.agg_u8 rfl ?_)
            | (refine F.rowCell _ (.tmp 27) rfl (K1.out.ci q hlt) rfl R.agg_u8 rfl ?_)
            | (refine F.rowCell _ (.tmp 34) rfl (K1.out.ci q hlt) rfl R.agg_u8 rfl ?_)
            | (refine F.rowCell _ (.tmp 21) rfl K1.out.m_ rfl agg_int rfl ?_))
          go_roundw
          case rel =>
            refine ⟨q + 1, by omega, by go_num, by rw [hs]; go_num, Lib.hid (fun j h1 => ?_), K1, HB⟩
            rcases Nat.lt_or_ge j q with h | h
            · exact HA.out j h
            · obtain rfl : j = q := by omega
              exact HE.out
          case measure => simp [intOf]; omega
      · have g3 : (rd st (q : Int) == 2) = false := by simpa using e2
        rw [if_neg e2] at hs
        by_cases h2 : 2 < rd st (q : Int)
        · have g1 : decide (2 < rd st (q : Int)) = true := by simpa using h2
          have HE := Lib.hid (show ¬ (rd st (q : Int) ≤ 2 ∧ (m ≤ (q : Int) → rd st (q : Int) = 0)) from fun h => by omega)
          exact absurd (hz.out q hlt) HE.out
        · have g1 : decide (2 < rd st (q : Int)) = false := by simpa using h2
          by_cases hm : m ≤ (q : Int)
          · have g2 : decide (m ≤ (q : Int)) = true := by simpa using hm
            by_cases h0 : rd st (q : Int) = 0
            · have g4 : (rd st (q : Int) != 0) = false := by simp [h0]
              have HE := Lib.hid (show (rd st (q : Int) ≤ 2 ∧ (m ≤ (q : Int) → rd st (q : Int) = 0)) from ⟨by omega, fun _ => h0⟩)
              clear h0 e2
              go_wp2_with (first
                | (go_skip)
                | (refine F.rowCell _ (.tmp 15) rfl (K1.out.ci q hlt) rfl R.agg_u8 rfl ?_)
                | (refine F.rowCell _ (.tmp 27) rfl (K1.out.ci q hlt) rfl R.agg_u8 rfl ?_)
                | (refine F.rowCell _ (.tmp 34) rfl (K1.out.ci q hlt) rfl R.agg_u8 rfl ?_)
                | (refine F.rowCell _ (.tmp 21) rfl K1.out.m_ rfl agg_int rfl ?_))
              go_roundw
              case rel =>
                refine ⟨q + 1, by omega, by go_num, by rw [hs]; rfl, Lib.hid (fun j h1 => ?_), K1, HB⟩
                rcases Nat.lt_or_ge j q with h | h
                · exact HA.out j h
                · obtain rfl : j = q := by omega
                  exact HE.out
              case measure => simp [intOf]; omega
            · have g4 : (rd st (q : Int) != 0) = true := by simpa using h0
              have HE := Lib.hid (show ¬ (rd st (q : Int) ≤ 2 ∧ (m ≤ (q : Int) → rd st (q : Int) = 0)) from fun h => h0 (h.2 hm))
              clear h0 e2
              exact absurd (hz.out q hlt) HE.out
          · have g2 : decide (m ≤ (q : Int)) = false := by simpa using hm
            have HE := Lib.hid (show (rd st (q : Int) ≤ 2 ∧ (m ≤ (q : Int) → rd st (q : Int) = 0)) from ⟨by omega, fun h => absurd h hm⟩)
            clear e2
            go_wp2_with (first
              | (go_skip)
              | (refine F.rowCell _ (.tmp 15) rfl (K1.out.ci q hlt) rfl R.agg_u8 rfl ?_)
              | (refine F.rowCell _ (.tmp 27) rfl (K1.out.ci q hlt) rfl R.agg_u8 rfl ?_)
              | (refine F.rowCell _ (.tmp 34) rfl (K1.out.ci q hlt) rfl R.agg_u8 rfl ?_)
              | (refine F.rowCell _ (.tmp 21) rfl K1.out.m_ rfl agg_int rfl ?_))
            go_roundw
            case rel =>
              refine ⟨q + 1, by omega, by go_num, by rw [hs]; rfl, Lib.hid (fun j h1 => ?_), K1, HB⟩
              rcases Nat.lt_or_ge j q with h | h
              · exact HA.out j h
              · obtain rfl : j = q := by omega
                exact HE.out
            case measure => simp [intOf]; omega
    · obtain rfl : q = 16 := by omega
      rw [hcn.out] at hc ⊢
      clear hs hv HA hz
      have a1 : decide ((h : Int) ≤ 1) = true := by simp; omega
      have a1n : decide (h ≤ 1) = true := by simp; omega
      have a2 : decide (0 ≤ cu) = true := by simp; omega
      have a3 : decide (cu < s) = false := by simp; omega
      clear hh
      go_wp2_with (first
        | (go_skip)
        | (refine F.rowCell _ (.tmp 42) rfl K1.out.cu_ rfl agg_int rfl ?_)
        | (refine F.rowCell _ (.tmp 47) rfl K1.out.cu_ rfl agg_int rfl ?_)
        | (refine F.rowCell _ (.tmp 58) rfl K1.out.cu_ rfl agg_int rfl ?_)
        | (refine F.rowCell _ (.tmp 50) rfl K1.out.s_ rfl agg_int rfl ?_))
      go_ret
      exact ⟨rfl, HB.out⟩
set_option maxRecDepth 100000 in
set_option maxHeartbeats 2000000 in
theorem Fine_F (m s r : Int) (st : List Int) (cu : Int) (go : Bool) (HL : Hid (st.length = 16)) (HW : Hid (∀ i : Nat, 0 ≤ rd st (i : Int) ∧ rd st (i : Int) < 256)) (h : Nat) (hcn : Hid (cnt st 2 16 = h)) (hz : Hid (∀ j : Nat, j < 16 → (rd st (j : Int) ≤ 2 ∧ (m ≤ (j : Int) → rd st (j : Int) = 0)))) (hh : h = 1) (h1 : 0 ≤ cu) (h2 : cu < s)
    (PG : Hid (∀ w : World, Calls Try.prog 149 #[geo m s r] w fun e w' => e = .returned (.bool true) ∧ Below w.heap.size w w')) (w : World) : Calls Try.prog 132 #[ros ⟨m, s, r, st, cu, go⟩] w fun e w' => e = .returned (.bool true) ∧ Below w.heap.size w w' := by
  have HB := Lib.hid (Below.refl w.heap.size w)
  go_enter Try.func132, Try.ntmps132
  go_wp2_with (first
    | (go_skip)
    | (refine rosBox (.tmp 0) rfl rfl HL.out rfl ?_; intro w1 hk hb hz1; have K1 := Lib.hid hk; replace HB := Lib.hid (below_ext HB.out hb); clear hk hb)
    | (refine geoLoad (.tmp 5) rfl K1.out rfl rfl ?_)
    | (go_at_call 149; refine (PG.out _).mono ?_; rintro e w2 ⟨rfl, hb⟩; replace K1 := Lib.hid (K1.out.below hb); replace HB := Lib.hid (below_ext HB.out hb); have hz2 := hb.size; clear hb))
  go_loopw [3, 4] (fun n i wr => ∃ q : Nat, q ≤ 16 ∧ i = .int .i64 (q : Int) ∧ n = .int .i64 (cnt st 2 q : Int) ∧ Hid (∀ j : Nat, j < q → (rd st (j : Int) ≤ 2 ∧ (m ≤ (j : Int) → rd st (j : Int) = 0))) ∧ Hid (Ros wr w.heap.size ⟨m, s, r, st, cu, go⟩) ∧ Hid (Below w.heap.size w wr)) (fun _ i _ => 16 - (intOf i).toNat)
  case atStart => exact ⟨0, by omega, rfl, rfl, Lib.hid (fun j h => absurd h (by omega)), K1, HB⟩
  case round =>
    clear K1 HB
    obtain ⟨q, hq, rfl, rfl, HA, K1, HB⟩ := hrel
    have hi0 : (0 : Int) ≤ (q : Int) := by omega
    have hc := cnt_le st 2 q
    have hs := cnt_succ st 2 q
    have hv := HW.out q
    by_cases hlt : q < 16
    · have hlt2 : (q : Int) < 16 := by omega
      by_cases e2 : rd st (q : Int) = 2
      · have g1 : decide (2 < rd st (q : Int)) = false := by simp; omega
        have g3 : (rd st (q : Int) == 2) = true := by simpa using e2
        have g4 : (rd st (q : Int) != 0) = true := by simp; omega
        rw [if_pos e2] at hs
        by_cases hm : m ≤ (q : Int)
        · have g2 : decide (m ≤ (q : Int)) = true := by simpa using hm
          have HE := Lib.hid (show ¬ (rd st (q : Int) ≤ 2 ∧ (m ≤ (q : Int) → rd st (q : Int) = 0)) from fun h => by have := h.2 hm; omega)
          clear e2
          exact absurd (hz.out q hlt) HE.out
        · have g2 : decide (m ≤ (q : Int)) = false := by simpa using hm
          have HE := Lib.hid (show (rd st (q : Int) ≤ 2 ∧ (m ≤ (q : Int) → rd st (q : Int) = 0)) from ⟨by omega, fun h => absurd h hm⟩)
          clear e2
          go_wp2_with (first
            | (go_skip)
            | (refine F.rowCell _ (.tmp 15) rfl (K1.out.ci q hlt) rfl R.agg_u8 rfl ?_)
            | (refine F.rowCell _ (.tmp 27) rfl (K1.out.ci q hlt) rfl R.agg_u8 rfl ?_)
            | (refine F.rowCell _ (.tmp 34) rfl (K1.out.ci q hlt) rfl R.agg_u8 rfl ?_)
            | (refine F.rowCell _ (.tmp 21) rfl K1.out.m_ rfl agg_int rfl ?_))
          go_roundw
          case rel =>
            refine ⟨q + 1, by omega, by go_num, by rw [hs]; go_num, Lib.hid (fun j h1 => ?_), K1, HB⟩
            rcases Nat.lt_or_ge j q with h | h
            · exact HA.out j h
            · obtain rfl : j = q := by omega
              exact HE.out
          case measure => simp [intOf]; omega
      · have g3 : (rd st (q : Int) == 2) = false := by simpa using e2
        rw [if_neg e2] at hs
        by_cases h2 : 2 < rd st (q : Int)
        · have g1 : decide (2 < rd st (q : Int)) = true := by simpa using h2
          have HE := Lib.hid (show ¬ (rd st (q : Int) ≤ 2 ∧ (m ≤ (q : Int) → rd st (q : Int) = 0)) from fun h => by omega)
          exact absurd (hz.out q hlt) HE.out
        · have g1 : decide (2 < rd st (q : Int)) = false := by simpa using h2
          by_cases hm : m ≤ (q : Int)
          · have g2 : decide (m ≤ (q : Int)) = true := by simpa using hm
            by_cases h0 : rd st (q : Int) = 0
            · have g4 : (rd st (q : Int) != 0) = false := by simp [h0]
              have HE := Lib.hid (show (rd st (q : Int) ≤ 2 ∧ (m ≤ (q : Int) → rd st (q : Int) = 0)) from ⟨by omega, fun _ => h0⟩)
              clear h0 e2
              go_wp2_with (first
                | (go_skip)
                | (refine F.rowCell _ (.tmp 15) rfl (K1.out.ci q hlt) rfl R.agg_u8 rfl ?_)
                | (refine F.rowCell _ (.tmp 27) rfl (K1.out.ci q hlt) rfl R.agg_u8 rfl ?_)
                | (refine F.rowCell _ (.tmp 34) rfl (K1.out.ci q hlt) rfl R.agg_u8 rfl ?_)
                | (refine F.rowCell _ (.tmp 21) rfl K1.out.m_ rfl agg_int rfl ?_))
              go_roundw
              case rel =>
                refine ⟨q + 1, by omega, by go_num, by rw [hs]; rfl, Lib.hid (fun j h1 => ?_), K1, HB⟩
                rcases Nat.lt_or_ge j q with h | h
                · exact HA.out j h
                · obtain rfl : j = q := by omega
                  exact HE.out
              case measure => simp [intOf]; omega
            · have g4 : (rd st (q : Int) != 0) = true := by simpa using h0
              have HE := Lib.hid (show ¬ (rd st (q : Int) ≤ 2 ∧ (m ≤ (q : Int) → rd st (q : Int) = 0)) from fun h => h0 (h.2 hm))
              clear h0 e2
              exact absurd (hz.out q hlt) HE.out
          · have g2 : decide (m ≤ (q : Int)) = false := by simpa using hm
            have HE := Lib.hid (show (rd st (q : Int) ≤ 2 ∧ (m ≤ (q : Int) → rd st (q : Int) = 0)) from ⟨by omega, fun h => absurd h hm⟩)
            clear e2
            go_wp2_with (first
              | (go_skip)
              | (refine F.rowCell _ (.tmp 15) rfl (K1.out.ci q hlt) rfl R.agg_u8 rfl ?_)
              | (refine F.rowCell _ (.tmp 27) rfl (K1.out.ci q hlt) rfl R.agg_u8 rfl ?_)
              | (refine F.rowCell _ (.tmp 34) rfl (K1.out.ci q hlt) rfl R.agg_u8 rfl ?_)
              | (refine F.rowCell _ (.tmp 21) rfl K1.out.m_ rfl agg_int rfl ?_))
            go_roundw
            case rel =>
              refine ⟨q + 1, by omega, by go_num, by rw [hs]; rfl, Lib.hid (fun j h1 => ?_), K1, HB⟩
              rcases Nat.lt_or_ge j q with h | h
              · exact HA.out j h
              · obtain rfl : j = q := by omega
                exact HE.out
            case measure => simp [intOf]; omega
    · obtain rfl : q = 16 := by omega
      rw [hcn.out] at hc ⊢
      clear hs hv HA hz
      have a1 : decide ((h : Int) ≤ 1) = true := by simp; omega
      have a1n : decide (h ≤ 1) = true := by simp; omega
      have a2 : decide (0 ≤ cu) = true := by simp; omega
      have a3 : decide (cu < s) = true := by simp; omega
      have a4 : ((h : Int) == 1) = true := by rw [beq_iff_eq]; omega
      clear hh
      go_wp2_with (first
        | (go_skip)
        | (refine F.rowCell _ (.tmp 42) rfl K1.out.cu_ rfl agg_int rfl ?_)
        | (refine F.rowCell _ (.tmp 47) rfl K1.out.cu_ rfl agg_int rfl ?_)
        | (refine F.rowCell _ (.tmp 58) rfl K1.out.cu_ rfl agg_int rfl ?_)
        | (refine F.rowCell _ (.tmp 50) rfl K1.out.s_ rfl agg_int rfl ?_))
      go_ret
      exact ⟨rfl, HB.out⟩
set_option maxRecDepth 100000 in
set_option maxHeartbeats 2000000 in
theorem Fine_G (m s r : Int) (st : List Int) (cu : Int) (go : Bool) (HL : Hid (st.length = 16)) (HW : Hid (∀ i : Nat, 0 ≤ rd st (i : Int) ∧ rd st (i : Int) < 256)) (h : Nat) (hcn : Hid (cnt st 2 16 = h)) (hz : Hid (∀ j : Nat, j < 16 → (rd st (j : Int) ≤ 2 ∧ (m ≤ (j : Int) → rd st (j : Int) = 0)))) (hh : h = 0) (h1 : 0 ≤ cu) (h2 : cu < s) (z : Bool) (hc0 : (cu == 0) = z)
    (PG : Hid (∀ w : World, Calls Try.prog 149 #[geo m s r] w fun e w' => e = .returned (.bool true) ∧ Below w.heap.size w w')) (w : World) : Calls Try.prog 132 #[ros ⟨m, s, r, st, cu, go⟩] w fun e w' => e = .returned (.bool z) ∧ Below w.heap.size w w' := by
  have HB := Lib.hid (Below.refl w.heap.size w)
  go_enter Try.func132, Try.ntmps132
  go_wp2_with (first
    | (go_skip)
    | (refine rosBox (.tmp 0) rfl rfl HL.out rfl ?_; intro w1 hk hb hz1; have K1 := Lib.hid hk; replace HB := Lib.hid (below_ext HB.out hb); clear hk hb)
    | (refine geoLoad (.tmp 5) rfl K1.out rfl rfl ?_)
    | (go_at_call 149; refine (PG.out _).mono ?_; rintro e w2 ⟨rfl, hb⟩; replace K1 := Lib.hid (K1.out.below hb); replace HB := Lib.hid (below_ext HB.out hb); have hz2 := hb.size; clear hb))
  go_loopw [3, 4] (fun n i wr => ∃ q : Nat, q ≤ 16 ∧ i = .int .i64 (q : Int) ∧ n = .int .i64 (cnt st 2 q : Int) ∧ Hid (∀ j : Nat, j < q → (rd st (j : Int) ≤ 2 ∧ (m ≤ (j : Int) → rd st (j : Int) = 0))) ∧ Hid (Ros wr w.heap.size ⟨m, s, r, st, cu, go⟩) ∧ Hid (Below w.heap.size w wr)) (fun _ i _ => 16 - (intOf i).toNat)
  case atStart => exact ⟨0, by omega, rfl, rfl, Lib.hid (fun j h => absurd h (by omega)), K1, HB⟩
  case round =>
    clear K1 HB
    obtain ⟨q, hq, rfl, rfl, HA, K1, HB⟩ := hrel
    have hi0 : (0 : Int) ≤ (q : Int) := by omega
    have hc := cnt_le st 2 q
    have hs := cnt_succ st 2 q
    have hv := HW.out q
    by_cases hlt : q < 16
    · have hlt2 : (q : Int) < 16 := by omega
      by_cases e2 : rd st (q : Int) = 2
      · have g1 : decide (2 < rd st (q : Int)) = false := by simp; omega
        have g3 : (rd st (q : Int) == 2) = true := by simpa using e2
        have g4 : (rd st (q : Int) != 0) = true := by simp; omega
        rw [if_pos e2] at hs
        by_cases hm : m ≤ (q : Int)
        · have g2 : decide (m ≤ (q : Int)) = true := by simpa using hm
          have HE := Lib.hid (show ¬ (rd st (q : Int) ≤ 2 ∧ (m ≤ (q : Int) → rd st (q : Int) = 0)) from fun h => by have := h.2 hm; omega)
          clear e2
          exact absurd (hz.out q hlt) HE.out
        · have g2 : decide (m ≤ (q : Int)) = false := by simpa using hm
          have HE := Lib.hid (show (rd st (q : Int) ≤ 2 ∧ (m ≤ (q : Int) → rd st (q : Int) = 0)) from ⟨by omega, fun h => absurd h hm⟩)
          clear e2
          go_wp2_with (first
            | (go_skip)
            | (refine F.rowCell _ (.tmp 15) rfl (K1.out.ci q hlt) rfl R.agg_u8 rfl ?_)
            | (refine F.rowCell _ (.tmp 27) rfl (K1.out.ci q hlt) rfl R.agg_u8 rfl ?_)
            | (refine F.rowCell _ (.tmp 34) rfl (K1.out.ci q hlt) rfl R.agg_u8 rfl ?_)
            | (refine F.rowCell _ (.tmp 21) rfl K1.out.m_ rfl agg_int rfl ?_))
          go_roundw
          case rel =>
            refine ⟨q + 1, by omega, by go_num, by rw [hs]; go_num, Lib.hid (fun j h1 => ?_), K1, HB⟩
            rcases Nat.lt_or_ge j q with h | h
            · exact HA.out j h
            · obtain rfl : j = q := by omega
              exact HE.out
          case measure => simp [intOf]; omega
      · have g3 : (rd st (q : Int) == 2) = false := by simpa using e2
        rw [if_neg e2] at hs
        by_cases h2 : 2 < rd st (q : Int)
        · have g1 : decide (2 < rd st (q : Int)) = true := by simpa using h2
          have HE := Lib.hid (show ¬ (rd st (q : Int) ≤ 2 ∧ (m ≤ (q : Int) → rd st (q : Int) = 0)) from fun h => by omega)
          exact absurd (hz.out q hlt) HE.out
        · have g1 : decide (2 < rd st (q : Int)) = false := by simpa using h2
          by_cases hm : m ≤ (q : Int)
          · have g2 : decide (m ≤ (q : Int)) = true := by simpa using hm
            by_cases h0 : rd st (q : Int) = 0
            · have g4 : (rd st (q : Int) != 0) = false := by simp [h0]
              have HE := Lib.hid (show (rd st (q : Int) ≤ 2 ∧ (m ≤ (q : Int) → rd st (q : Int) = 0)) from ⟨by omega, fun _ => h0⟩)
              clear h0 e2
              go_wp2_with (first
                | (go_skip)
                | (refine F.rowCell _ (.tmp 15) rfl (K1.out.ci q hlt) rfl R.agg_u8 rfl ?_)
                | (refine F.rowCell _ (.tmp 27) rfl (K1.out.ci q hlt) rfl R.agg_u8 rfl ?_)
                | (refine F.rowCell _ (.tmp 34) rfl (K1.out.ci q hlt) rfl R.agg_u8 rfl ?_)
                | (refine F.rowCell _ (.tmp 21) rfl K1.out.m_ rfl agg_int rfl ?_))
              go_roundw
              case rel =>
                refine ⟨q + 1, by omega, by go_num, by rw [hs]; rfl, Lib.hid (fun j h1 => ?_), K1, HB⟩
                rcases Nat.lt_or_ge j q with h | h
                · exact HA.out j h
                · obtain rfl : j = q := by omega
                  exact HE.out
              case measure => simp [intOf]; omega
            · have g4 : (rd st (q : Int) != 0) = true := by simpa using h0
              have HE := Lib.hid (show ¬ (rd st (q : Int) ≤ 2 ∧ (m ≤ (q : Int) → rd st (q : Int) = 0)) from fun h => h0 (h.2 hm))
              clear h0 e2
              exact absurd (hz.out q hlt) HE.out
          · have g2 : decide (m ≤ (q : Int)) = false := by simpa using hm
            have HE := Lib.hid (show (rd st (q : Int) ≤ 2 ∧ (m ≤ (q : Int) → rd st (q : Int) = 0)) from ⟨by omega, fun h => absurd h hm⟩)
            clear e2
            go_wp2_with (first
              | (go_skip)
              | (refine F.rowCell _ (.tmp 15) rfl (K1.out.ci q hlt) rfl R.agg_u8 rfl ?_)
              | (refine F.rowCell _ (.tmp 27) rfl (K1.out.ci q hlt) rfl R.agg_u8 rfl ?_)
              | (refine F.rowCell _ (.tmp 34) rfl (K1.out.ci q hlt) rfl R.agg_u8 rfl ?_)
              | (refine F.rowCell _ (.tmp 21) rfl K1.out.m_ rfl agg_int rfl ?_))
            go_roundw
            case rel =>
              refine ⟨q + 1, by omega, by go_num, by rw [hs]; rfl, Lib.hid (fun j h1 => ?_), K1, HB⟩
              rcases Nat.lt_or_ge j q with h | h
              · exact HA.out j h
              · obtain rfl : j = q := by omega
                exact HE.out
            case measure => simp [intOf]; omega
    · obtain rfl : q = 16 := by omega
      rw [hcn.out] at hc ⊢
      clear hs hv HA hz
      have a1 : decide ((h : Int) ≤ 1) = true := by simp; omega
      have a1n : decide (h ≤ 1) = true := by simp; omega
      have a2 : decide (0 ≤ cu) = true := by simp; omega
      have a3 : decide (cu < s) = true := by simp; omega
      have a4 : ((h : Int) == 1) = false := by rw [beq_eq_false_iff_ne]; omega
      clear hh
      go_wp2_with (first
        | (go_skip)
        | (refine F.rowCell _ (.tmp 42) rfl K1.out.cu_ rfl agg_int rfl ?_)
        | (refine F.rowCell _ (.tmp 47) rfl K1.out.cu_ rfl agg_int rfl ?_)
        | (refine F.rowCell _ (.tmp 58) rfl K1.out.cu_ rfl agg_int rfl ?_)
        | (refine F.rowCell _ (.tmp 50) rfl K1.out.s_ rfl agg_int rfl ?_))
      go_ret
      exact ⟨rfl, HB.out⟩
end Go.Proofs.Ytdchcggllcgokaa.Q

namespace Go.Proofs.Ytdchcggllcgokaa.Q
open Go.RowKit Go.Proofs.Ytdchcggllcgokaa.L Go.Proofs.Ytdchcggllcgokaa.R Go.Proofs.YtdchcggllcgokaaW.PrintWords
set_option linter.unusedVariables false
set_option linter.unusedSimpArgs false
theorem Fine_any (x : Ro) (hx : Wf x) (w : World) : Calls Try.prog 132 #[ros x] w fun e w' => e = .returned (.bool (mayR x)) ∧ Below w.heap.size w w' := by
  have hl := hx.1
  have pg := fun w => rgMay_any x.m x.s x.r w
  have hw := rd_nn hx
  have hr := mayR_iff x
  unfold okR at hr
  generalize mayR x = z at hr ⊢
  obtain ⟨m, s, r, st, cu, go⟩ := x
  simp only at *
  by_cases hG : mayG m s r = true
  · rw [hG] at pg
    by_cases hz : ∀ j : Nat, j < 16 → (rd st (j : Int) ≤ 2 ∧ (m ≤ (j : Int) → rd st (j : Int) = 0))
    · obtain ⟨h, hh⟩ : ∃ h, cnt st 2 16 = h := ⟨_, rfl⟩
      rw [hh] at hr
      by_cases h1 : 1 < h
      · obtain rfl := bool_no hr (by intro q; have := q.2.2.2.2; omega)
        exact Fine_C m s r st cu go (Lib.hid hl) (Lib.hid hw) h (Lib.hid hh) (Lib.hid hz) h1 (Lib.hid pg) w
      by_cases h2 : cu < 0
      · obtain rfl := bool_no hr (by intro q; have := q.2.1; omega)
        exact Fine_D m s r st cu go (Lib.hid hl) (Lib.hid hw) h (Lib.hid hh) (Lib.hid hz) (by omega) h2 (Lib.hid pg) w
      by_cases h3 : s ≤ cu
      · obtain rfl := bool_no hr (by intro q; have := q.2.2.1; omega)
        exact Fine_E m s r st cu go (Lib.hid hl) (Lib.hid hw) h (Lib.hid hh) (Lib.hid hz) (by omega) (by omega) h3 (Lib.hid pg) w
      have hr2 : z = true ↔ (h = 1 ∨ (h = 0 ∧ cu = 0)) := hr.trans ⟨fun q => q.2.2.2.2, fun q => ⟨hG, by omega, by omega, hz, q⟩⟩
      by_cases h4 : h = 1
      · obtain rfl : z = true := hr2.2 (.inl h4)
        exact Fine_F m s r st cu go (Lib.hid hl) (Lib.hid hw) h (Lib.hid hh) (Lib.hid hz) h4 (by omega) (by omega) (Lib.hid pg) w
      · have h5 : h = 0 := by omega
        have hzz : (cu == 0) = z := by rw [Bool.eq_iff_iff, hr2, beq_iff_eq]; exact ⟨fun q => .inr ⟨h5, q⟩, fun q => by rcases q with q | q; exact absurd q h4; exact q.2⟩
        exact Fine_G m s r st cu go (Lib.hid hl) (Lib.hid hw) h (Lib.hid hh) (Lib.hid hz) h5 (by omega) (by omega) z hzz (Lib.hid pg) w
    · obtain rfl := bool_no hr (fun q => hz q.2.2.2.1)
      exact Fine_B m s r st cu go (Lib.hid hl) (Lib.hid hw) (Lib.hid hz) (Lib.hid pg) w
  · have hG' : mayG m s r = false := by simpa using hG
    rw [hG'] at pg
    obtain rfl := bool_no hr (fun h => hG h.1)
    exact Fine_A m s r st cu go (Lib.hid hl) (Lib.hid hw) (Lib.hid pg) w
set_option maxRecDepth 100000 in
set_option maxHeartbeats 2000000 in
theorem rMay_walk (x : Ro) (HL : Hid (x.st.length = 16)) (z : Bool) (P : Hid (∀ w : World, Calls Try.prog 132 #[ros x] w fun e w' => e = .returned (.bool z) ∧ Below w.heap.size w w')) (w : World) : Calls Try.prog 90 #[ros x] w fun e w' => e = .returned (.bool z) ∧ Below w.heap.size w w' := by
  have HB := Lib.hid (Below.refl w.heap.size w)
  go_enter Try.func90, Try.ntmps90
  go_wp2_with (first
    | (go_skip)
    | (refine rosBox (.tmp 0) rfl rfl HL.out rfl ?_; intro w1 hk hb hz1; have K1 := Lib.hid hk; replace HB := Lib.hid (below_ext HB.out hb); clear hk hb)
    | (refine rosLoad (.tmp 1) rfl K1.out rfl rfl ?_)
    | (go_at_call 132; refine (P.out _).mono ?_; rintro e w2 ⟨rfl, hb⟩; replace K1 := Lib.hid (K1.out.below hb); replace HB := Lib.hid (below_ext HB.out hb); have hz2 := hb.size; clear hb))
  go_ret
  exact ⟨rfl, HB.out⟩
theorem rMay_any (x : Ro) (hx : Wf x) (w : World) : Calls Try.prog 90 #[ros x] w fun e w' => e = .returned (.bool (mayR x)) ∧ Below w.heap.size w w' :=
  rMay_walk x (Lib.hid hx.1) _ (Lib.hid fun w => Fine_any x hx w) w
/-- is there a member i? -/
noncomputable def memR (x : Ro) (i : Int) : Bool := mayR x && decide (0 ≤ i ∧ i < x.m)
set_option maxRecDepth 100000 in
set_option maxHeartbeats 2000000 in
theorem member_A (x : Ro) (HL : Hid (x.st.length = 16)) (i : Int)  (P : Hid (∀ w : World, Calls Try.prog 89 #[ros x] w fun e w' => e = .returned (.bool false) ∧ Below w.heap.size w w')) (w : World) : Calls Try.prog 127 #[ros x, .int .i64 i] w fun e w' => e = .returned (.bool false) ∧ Below w.heap.size w w' := by
  have HB := Lib.hid (Below.refl w.heap.size w)
  go_enter Try.func127, Try.ntmps127
  go_wp2_with (first
    | (go_skip)
    | (refine rosBox (.tmp 0) rfl rfl HL.out rfl ?_; intro w1 hk hb hz1; have K2 := Lib.hid hk; replace HB := Lib.hid (below_ext HB.out hb); clear hk hb)
    | (refine rosLoad (.tmp 2) rfl K2.out rfl rfl ?_)
    | (go_at_call 89; refine (P.out _).mono ?_; rintro e w2 ⟨rfl, hb⟩; replace K2 := Lib.hid (K2.out.below hb); replace HB := Lib.hid (below_ext HB.out hb); have hz2 := hb.size; clear hb)
    | (refine F.rowCell _ (.tmp 14) rfl K2.out.cm rfl agg_int rfl ?_))
  go_ret
  exact ⟨rfl, HB.out⟩
set_option maxRecDepth 100000 in
set_option maxHeartbeats 2000000 in
theorem member_B (x : Ro) (HL : Hid (x.st.length = 16)) (i : Int) (h1 : i < 0) (P : Hid (∀ w : World, Calls Try.prog 89 #[ros x] w fun e w' => e = .returned (.bool true) ∧ Below w.heap.size w w')) (w : World) : Calls Try.prog 127 #[ros x, .int .i64 i] w fun e w' => e = .returned (.bool false) ∧ Below w.heap.size w w' := by
  have HB := Lib.hid (Below.refl w.heap.size w)
  have g1 : decide (0 ≤ i) = false := by simp; omega
  go_enter Try.func127, Try.ntmps127
  go_wp2_with (first
    | (go_skip)
    | (refine rosBox (.tmp 0) rfl rfl HL.out rfl ?_; intro w1 hk hb hz1; have K2 := Lib.hid hk; replace HB := Lib.hid (below_ext HB.out hb); clear hk hb)
    | (refine rosLoad (.tmp 2) rfl K2.out rfl rfl ?_)
    | (go_at_call 89; refine (P.out _).mono ?_; rintro e w2 ⟨rfl, hb⟩; replace K2 := Lib.hid (K2.out.below hb); replace HB := Lib.hid (below_ext HB.out hb); have hz2 := hb.size; clear hb)
    | (refine F.rowCell _ (.tmp 14) rfl K2.out.cm rfl agg_int rfl ?_))
  go_ret
  exact ⟨rfl, HB.out⟩
set_option maxRecDepth 100000 in
set_option maxHeartbeats 2000000 in
theorem member_C (x : Ro) (HL : Hid (x.st.length = 16)) (i : Int) (h1 : 0 ≤ i) (b : Bool) (hb : decide (i < x.m) = b) (P : Hid (∀ w : World, Calls Try.prog 89 #[ros x] w fun e w' => e = .returned (.bool true) ∧ Below w.heap.size w w')) (w : World) : Calls Try.prog 127 #[ros x, .int .i64 i] w fun e w' => e = .returned (.bool b) ∧ Below w.heap.size w w' := by
  have HB := Lib.hid (Below.refl w.heap.size w)
  have g1 : decide (0 ≤ i) = true := by simpa using h1
  go_enter Try.func127, Try.ntmps127
  go_wp2_with (first
    | (go_skip)
    | (refine rosBox (.tmp 0) rfl rfl HL.out rfl ?_; intro w1 hk hb hz1; have K2 := Lib.hid hk; replace HB := Lib.hid (below_ext HB.out hb); clear hk hb)
    | (refine rosLoad (.tmp 2) rfl K2.out rfl rfl ?_)
    | (go_at_call 89; refine (P.out _).mono ?_; rintro e w2 ⟨rfl, hb⟩; replace K2 := Lib.hid (K2.out.below hb); replace HB := Lib.hid (below_ext HB.out hb); have hz2 := hb.size; clear hb)
    | (refine F.rowCell _ (.tmp 14) rfl K2.out.cm rfl agg_int rfl ?_))
  go_ret
  exact ⟨rfl, HB.out⟩
theorem member_any (x : Ro) (hx : Wf x) (i : Int) (w : World) : Calls Try.prog 127 #[ros x, .int .i64 i] w fun e w' => e = .returned (.bool (memR x i)) ∧ Below w.heap.size w w' := by
  have p := fun w => May_any x hx w
  cases hm : mayR x with
  | false =>
    rw [hm] at p
    rw [show memR x i = false by rw [memR, hm]; rfl]
    exact member_A x (Lib.hid hx.1) i (Lib.hid p) w
  | true =>
    rw [hm] at p
    by_cases h1 : i < 0
    · rw [show memR x i = false by rw [memR, hm, Bool.true_and, decide_eq_false_iff_not]; omega]
      exact member_B x (Lib.hid hx.1) i h1 (Lib.hid p) w
    · exact member_C x (Lib.hid hx.1) i (by omega) _ (by rw [memR, hm, Bool.true_and, Bool.eq_iff_iff, decide_eq_true_eq, decide_eq_true_eq]; omega) (Lib.hid p) w
end Go.Proofs.Ytdchcggllcgokaa.Q
