/-
  geom.Block, Sector.
-/
import Derived.Test.YtjagnodfdniccabGeo
namespace Go.Proofs.Ytjagnodfdniccab.G
open Go.RowKit Go.Proofs.Ytjagnodfdniccab.L Go.Proofs.YtjagnodfdniccabW.PrintWords
set_option linter.unusedVariables false

theorem mul_bd2 {m s st : Int} (h1 : 3 ≤ m) (h2 : m ≤ 16) (h3 : 0 ≤ st) (h4 : st < s) (h5 : s ≤ 64) : 0 ≤ st * (m - 1) ∧ st * (m - 1) ≤ 945 := by
  constructor
  · exact Int.mul_nonneg (by omega) (by omega)
  · have := Int.mul_le_mul (a := st) (b := m - 1) (c := 63) (d := 15) (by omega) (by omega) (by omega) (by omega)
    omega
set_option maxHeartbeats 1000000 in
theorem Block_none (m s r st me : Int) (w : World) (h : may m s r = true) (k1 : 0 ≤ st) (k2 : st < s) (k3 : 0 ≤ me) (k4 : me < m) (hq : me = m - 1 - st % m) :
    Calls Try.prog 11 #[.agg #[.int .i64 m, .int .i64 s, .int .i64 r], .agg #[.int .i64 st, .int .i64 me]] w fun e w' =>
    e = .returned (.tuple #[.int .i64 0, .int .i64 7]) ∧ Below w.heap.size w w' := by
  obtain ⟨b1, b2, b3, b4, b5, b6⟩ := may_iff.1 h
  have ht : (decide (0 ≤ st) && decide (st ≤ s - 1)) = true := by simp only [Bool.and_eq_true, decide_eq_true_eq]; omega
  have ht2 : (decide (0 ≤ me) && decide (me ≤ m - 1)) = true := by simp only [Bool.and_eq_true, decide_eq_true_eq]; omega
  obtain ⟨d1, d2⟩ := mod_bd (k := st) (m := m) (by omega)
  have hm0 : ¬ m = 0 := by omega
  have hm9 : ¬ m = 1 := by omega
  have q1 : (me == m - 1 - st % m) = true := by simpa using hq
  clear hq
  go_enter Try.func11, Try.ntmps11
  go_wp2_with (first
    | (go_at_call 16; refine (gmay_any _ _ _ _).mono ?_; rintro e w' ⟨rfl, hb⟩; rw [h]; clear h; obtain ⟨hc, hf⟩ := bcell hb; have z1 : w.heap.size + 1 < w'.heap.size := (by have := hb.size; simp at this; omega); have z0 : w.heap.size < w'.heap.size := (by omega); have c0 : w'.cell? ⟨w.heap.size, 0, none⟩ = some (.int .i64 m) := (by rw [hc _ _ (by simp <;> omega)]; simp); have c1 : w'.cell? ⟨w.heap.size, 1, none⟩ = some (.int .i64 s) := (by rw [hc _ _ (by simp <;> omega)]; simp); have c2 : w'.cell? ⟨w.heap.size, 2, none⟩ = some (.int .i64 r) := (by rw [hc _ _ (by simp <;> omega)]; simp); have c3 : w'.cell? ⟨w.heap.size + 1, 0, none⟩ = some (.int .i64 st) := (by rw [hc _ _ (by simp <;> omega)]; simp); have c4 : w'.cell? ⟨w.heap.size + 1, 1, none⟩ = some (.int .i64 me) := (by rw [hc _ _ (by simp <;> omega)]; simp); have B1 := Lib.hid (below_2 hb); clear hc hf hb)
    | (go_at_call_of 6 (Value.int .i64 st); refine (within_any _ _ _ _).mono ?_; rintro e w' ⟨rfl, rfl⟩; rw [ht]; clear ht)
    | (go_at_call 6; refine (within_any _ _ _ _).mono ?_; rintro e w' ⟨rfl, rfl⟩; rw [ht2]; clear ht2))
  go_region_held3 (fun w' => w'.cell? ⟨w.heap.size, 0, none⟩ = some (.int .i64 m) ∧ w'.cell? ⟨w.heap.size, 1, none⟩ = some (.int .i64 s) ∧ w'.cell? ⟨w.heap.size, 2, none⟩ = some (.int .i64 r) ∧ w'.cell? ⟨w.heap.size + 1, 0, none⟩ = some (.int .i64 st) ∧ w'.cell? ⟨w.heap.size + 1, 1, none⟩ = some (.int .i64 me)) (first | exact ⟨c0, c1, c2, c3, c4⟩ | exact ⟨E0, E1, E2, E3, E4⟩) ((go_at_call 15; refine (parity_any _ _ _ _ _ (by omega) (by omega) (by omega) (by omega)).mono ?_; rintro e w2 ⟨rfl, hbE⟩; have E0 := (hbE.cell (p := ⟨w.heap.size, 0, none⟩) z0).trans c0; have E1 := (hbE.cell (p := ⟨w.heap.size, 1, none⟩) z0).trans c1; have E2 := (hbE.cell (p := ⟨w.heap.size, 2, none⟩) z0).trans c2; have E3 := (hbE.cell (p := ⟨w.heap.size + 1, 0, none⟩) z1).trans c3; have E4 := (hbE.cell (p := ⟨w.heap.size + 1, 1, none⟩) z1).trans c4))
  go_wp2
  go_ret2
  exact ⟨rfl, B1.out.trans ((below_undrewN hbE).mono B1.out.size)⟩
set_option maxHeartbeats 1000000 in
theorem Block_ok (m s r st me : Int) (w : World) (h : may m s r = true) (k1 : 0 ≤ st) (k2 : st < s) (k3 : 0 ≤ me) (k4 : me < m) (hq : me ≠ m - 1 - st % m) :
    Calls Try.prog 11 #[.agg #[.int .i64 m, .int .i64 s, .int .i64 r], .agg #[.int .i64 st, .int .i64 me]] w fun e w' =>
    e = .returned (.tuple #[.int .i64 (st * (m - 1) + (me - (m - 1 - st % m) - 1) % m), .int .i64 0]) ∧ Below w.heap.size w w' := by
  obtain ⟨b1, b2, b3, b4, b5, b6⟩ := may_iff.1 h
  have ht : (decide (0 ≤ st) && decide (st ≤ s - 1)) = true := by simp only [Bool.and_eq_true, decide_eq_true_eq]; omega
  have ht2 : (decide (0 ≤ me) && decide (me ≤ m - 1)) = true := by simp only [Bool.and_eq_true, decide_eq_true_eq]; omega
  obtain ⟨d1, d2⟩ := mod_bd (k := st) (m := m) (by omega)
  have hm0 : ¬ m = 0 := by omega
  have hm9 : ¬ m = 1 := by omega
  have q1 : (me == m - 1 - st % m) = false := by simpa using hq
  clear hq
  obtain ⟨d3, d4⟩ := mod_bd (k := me - (m - 1 - st % m) - 1 + m) (m := m) (by omega)
  have HE := Lib.hid (show st * (m - 1) + (me - (m - 1 - st % m) - 1 + m) % m = st * (m - 1) + (me - (m - 1 - st % m) - 1) % m by rw [Int.add_emod_right])
  obtain ⟨e1, e2⟩ := mul_bd2 b1 b2 k1 k2 b4
  go_enter Try.func11, Try.ntmps11
  go_wp2_with (first
    | (go_at_call 16; refine (gmay_any _ _ _ _).mono ?_; rintro e w' ⟨rfl, hb⟩; rw [h]; clear h; obtain ⟨hc, hf⟩ := bcell hb; have z1 : w.heap.size + 1 < w'.heap.size := (by have := hb.size; simp at this; omega); have z0 : w.heap.size < w'.heap.size := (by omega); have c0 : w'.cell? ⟨w.heap.size, 0, none⟩ = some (.int .i64 m) := (by rw [hc _ _ (by simp <;> omega)]; simp); have c1 : w'.cell? ⟨w.heap.size, 1, none⟩ = some (.int .i64 s) := (by rw [hc _ _ (by simp <;> omega)]; simp); have c2 : w'.cell? ⟨w.heap.size, 2, none⟩ = some (.int .i64 r) := (by rw [hc _ _ (by simp <;> omega)]; simp); have c3 : w'.cell? ⟨w.heap.size + 1, 0, none⟩ = some (.int .i64 st) := (by rw [hc _ _ (by simp <;> omega)]; simp); have c4 : w'.cell? ⟨w.heap.size + 1, 1, none⟩ = some (.int .i64 me) := (by rw [hc _ _ (by simp <;> omega)]; simp); have B1 := Lib.hid (below_2 hb); clear hc hf hb)
    | (go_at_call_of 6 (Value.int .i64 st); refine (within_any _ _ _ _).mono ?_; rintro e w' ⟨rfl, rfl⟩; rw [ht]; clear ht)
    | (go_at_call 6; refine (within_any _ _ _ _).mono ?_; rintro e w' ⟨rfl, rfl⟩; rw [ht2]; clear ht2))
  go_region_held3 (fun w' => w'.cell? ⟨w.heap.size, 0, none⟩ = some (.int .i64 m) ∧ w'.cell? ⟨w.heap.size, 1, none⟩ = some (.int .i64 s) ∧ w'.cell? ⟨w.heap.size, 2, none⟩ = some (.int .i64 r) ∧ w'.cell? ⟨w.heap.size + 1, 0, none⟩ = some (.int .i64 st) ∧ w'.cell? ⟨w.heap.size + 1, 1, none⟩ = some (.int .i64 me)) (first | exact ⟨c0, c1, c2, c3, c4⟩ | exact ⟨E0, E1, E2, E3, E4⟩) ((go_at_call 15; refine (parity_any _ _ _ _ _ (by omega) (by omega) (by omega) (by omega)).mono ?_; rintro e w2 ⟨rfl, hbE⟩; have E0 := (hbE.cell (p := ⟨w.heap.size, 0, none⟩) z0).trans c0; have E1 := (hbE.cell (p := ⟨w.heap.size, 1, none⟩) z0).trans c1; have E2 := (hbE.cell (p := ⟨w.heap.size, 2, none⟩) z0).trans c2; have E3 := (hbE.cell (p := ⟨w.heap.size + 1, 0, none⟩) z1).trans c3; have E4 := (hbE.cell (p := ⟨w.heap.size + 1, 1, none⟩) z1).trans c4))
  go_wp2
  have z2 : w.heap.size < w2.heap.size := Nat.lt_of_lt_of_le z0 hbE.size
  have z3 : w.heap.size + 1 < w2.heap.size := Nat.lt_of_lt_of_le z1 hbE.size
  go_region_held3 (fun w' => w'.cell? ⟨w.heap.size, 0, none⟩ = some (.int .i64 m) ∧ w'.cell? ⟨w.heap.size, 1, none⟩ = some (.int .i64 s) ∧ w'.cell? ⟨w.heap.size, 2, none⟩ = some (.int .i64 r) ∧ w'.cell? ⟨w.heap.size + 1, 0, none⟩ = some (.int .i64 st) ∧ w'.cell? ⟨w.heap.size + 1, 1, none⟩ = some (.int .i64 me)) (first | exact ⟨c0, c1, c2, c3, c4⟩ | exact ⟨E0, E1, E2, E3, E4⟩ | (exact ⟨G0, G1, G2, G3, G4⟩)) ((go_at_call 15; refine (parity_any _ _ _ _ _ (by omega) (by omega) (by omega) (by omega)).mono ?_; rintro e w3 ⟨rfl, hbG⟩; have G0 := (hbG.cell (p := ⟨w.heap.size, 0, none⟩) z2).trans E0; have G1 := (hbG.cell (p := ⟨w.heap.size, 1, none⟩) z2).trans E1; have G2 := (hbG.cell (p := ⟨w.heap.size, 2, none⟩) z2).trans E2; have G3 := (hbG.cell (p := ⟨w.heap.size + 1, 0, none⟩) z3).trans E3; have G4 := (hbG.cell (p := ⟨w.heap.size + 1, 1, none⟩) z3).trans E4))
  go_wp2
  go_ret2
  exact ⟨by rw [← HE.out]; rfl, ((B1.out.trans ((below_undrewN hbE).mono B1.out.size)).trans ((below_undrewN hbG).mono (Nat.le_trans B1.out.size hbE.size)))⟩
theorem Block_err (m s r st me : Int) (w : World) (e0 : Int) (h : (may m s r = false ∧ e0 = 2) ∨ (may m s r = true ∧ ¬ (0 ≤ st ∧ st < s ∧ 0 ≤ me ∧ me < m) ∧ e0 = 12)) :
    Calls Try.prog 11 #[.agg #[.int .i64 m, .int .i64 s, .int .i64 r], .agg #[.int .i64 st, .int .i64 me]] w fun e w' =>
    e = .returned (.tuple #[.int .i64 0, .int .i64 e0]) ∧ Below w.heap.size w w' := by
  rcases h with ⟨h, rfl⟩ | ⟨h, hn, rfl⟩
  · go_enter Try.func11, Try.ntmps11
    go_wp2_with (first
      | (go_at_call 16; refine (gmay_any _ _ _ _).mono ?_; rintro e w' ⟨rfl, hb⟩; rw [h]; clear h; obtain ⟨hc, hf⟩ := bcell hb; have z1 : w.heap.size + 1 < w'.heap.size := (by have := hb.size; simp at this; omega); have z0 : w.heap.size < w'.heap.size := (by omega); have z9 : True := trivial; have c0 : w'.cell? ⟨w.heap.size, 0, none⟩ = some (.int .i64 m) := (by rw [hc _ _ (by simp <;> omega)]; simp); have c1 : w'.cell? ⟨w.heap.size, 1, none⟩ = some (.int .i64 s) := (by rw [hc _ _ (by simp <;> omega)]; simp); have c2 : w'.cell? ⟨w.heap.size, 2, none⟩ = some (.int .i64 r) := (by rw [hc _ _ (by simp <;> omega)]; simp); have c3 : w'.cell? ⟨w.heap.size + 1, 0, none⟩ = some (.int .i64 st) := (by rw [hc _ _ (by simp <;> omega)]; simp); have c4 : w'.cell? ⟨w.heap.size + 1, 1, none⟩ = some (.int .i64 me) := (by rw [hc _ _ (by simp <;> omega)]; simp); have B1 := Lib.hid (below_2 hb); clear hc hf hb))
    go_ret2
    exact ⟨rfl, B1.out⟩
  · obtain ⟨b1, b2, b3, b4, b5, b6⟩ := may_iff.1 h
    by_cases hs : 0 ≤ st ∧ st < s
    · have ht : (decide (0 ≤ st) && decide (st ≤ s - 1)) = true := by simp only [Bool.and_eq_true, decide_eq_true_eq]; omega
      have ht2 : (decide (0 ≤ me) && decide (me ≤ m - 1)) = false := by simp only [Bool.and_eq_false_iff, decide_eq_false_iff_not]; omega
      clear hn hs
      go_enter Try.func11, Try.ntmps11
      go_wp2_with (first
        | (go_at_call 16; refine (gmay_any _ _ _ _).mono ?_; rintro e w' ⟨rfl, hb⟩; rw [h]; clear h; obtain ⟨hc, hf⟩ := bcell hb; have z1 : w.heap.size + 1 < w'.heap.size := (by have := hb.size; simp at this; omega); have z0 : w.heap.size < w'.heap.size := (by omega); have c0 : w'.cell? ⟨w.heap.size, 0, none⟩ = some (.int .i64 m) := (by rw [hc _ _ (by simp <;> omega)]; simp); have c1 : w'.cell? ⟨w.heap.size, 1, none⟩ = some (.int .i64 s) := (by rw [hc _ _ (by simp <;> omega)]; simp); have c2 : w'.cell? ⟨w.heap.size, 2, none⟩ = some (.int .i64 r) := (by rw [hc _ _ (by simp <;> omega)]; simp); have c3 : w'.cell? ⟨w.heap.size + 1, 0, none⟩ = some (.int .i64 st) := (by rw [hc _ _ (by simp <;> omega)]; simp); have c4 : w'.cell? ⟨w.heap.size + 1, 1, none⟩ = some (.int .i64 me) := (by rw [hc _ _ (by simp <;> omega)]; simp); have B1 := Lib.hid (below_2 hb); clear hc hf hb)
        | (go_at_call_of 6 (Value.int .i64 st); refine (within_any _ _ _ _).mono ?_; rintro e w' ⟨rfl, rfl⟩; rw [ht]; clear ht)
        | (go_at_call 6; refine (within_any _ _ _ _).mono ?_; rintro e w' ⟨rfl, rfl⟩; rw [ht2]; clear ht2))
      go_ret2
      exact ⟨rfl, B1.out⟩
    · have ht : (decide (0 ≤ st) && decide (st ≤ s - 1)) = false := by simp only [Bool.and_eq_false_iff, decide_eq_false_iff_not]; omega
      clear hn hs
      go_enter Try.func11, Try.ntmps11
      go_wp2_with (first
        | (go_at_call 16; refine (gmay_any _ _ _ _).mono ?_; rintro e w' ⟨rfl, hb⟩; rw [h]; clear h; obtain ⟨hc, hf⟩ := bcell hb; have z1 : w.heap.size + 1 < w'.heap.size := (by have := hb.size; simp at this; omega); have z0 : w.heap.size < w'.heap.size := (by omega); have c0 : w'.cell? ⟨w.heap.size, 0, none⟩ = some (.int .i64 m) := (by rw [hc _ _ (by simp <;> omega)]; simp); have c1 : w'.cell? ⟨w.heap.size, 1, none⟩ = some (.int .i64 s) := (by rw [hc _ _ (by simp <;> omega)]; simp); have c2 : w'.cell? ⟨w.heap.size, 2, none⟩ = some (.int .i64 r) := (by rw [hc _ _ (by simp <;> omega)]; simp); have c3 : w'.cell? ⟨w.heap.size + 1, 0, none⟩ = some (.int .i64 st) := (by rw [hc _ _ (by simp <;> omega)]; simp); have c4 : w'.cell? ⟨w.heap.size + 1, 1, none⟩ = some (.int .i64 me) := (by rw [hc _ _ (by simp <;> omega)]; simp); have B1 := Lib.hid (below_2 hb); clear hc hf hb)
        | (go_at_call_of 6 (Value.int .i64 st); refine (within_any _ _ _ _).mono ?_; rintro e w' ⟨rfl, rfl⟩; rw [ht]; clear ht))
      go_ret2
      exact ⟨rfl, B1.out⟩

/-- a stripe's sector, and the error -/
theorem Sector_any (k : Int) (w : World) : Calls Try.prog 4 #[.int .i64 k] w fun e w' =>
    e = .returned (.tuple #[.int .i64 (if 0 ≤ k ∧ k < 64 then 2 + k else 0), .int .i64 (if 0 ≤ k ∧ k < 64 then 0 else 12)]) ∧ w = w' := by
  by_cases h : 0 ≤ k ∧ k < 64
  · rw [if_pos h, if_pos h]
    obtain ⟨h1, h2⟩ := h
    have ht : (decide (0 ≤ k) && decide (k ≤ 63)) = true := by simp only [Bool.and_eq_true, decide_eq_true_eq]; omega
    go_enter Try.func4, Try.ntmps4
    go_wp2_with (go_at_call 6; refine (within_any _ _ _ _).mono ?_; rintro e w' ⟨rfl, rfl⟩; rw [ht]; clear ht)
    go_ret2
    exact ⟨rfl, rfl⟩
  · rw [if_neg h, if_neg h]
    have ht : (decide (0 ≤ k) && decide (k ≤ 63)) = false := by simp only [Bool.and_eq_false_iff, decide_eq_false_iff_not]; omega
    clear h
    go_enter Try.func4, Try.ntmps4
    go_wp2_with (go_at_call 6; refine (within_any _ _ _ _).mono ?_; rintro e w' ⟨rfl, rfl⟩; rw [ht]; clear ht)
    go_ret2
    exact ⟨rfl, rfl⟩
end Go.Proofs.Ytjagnodfdniccab.G
