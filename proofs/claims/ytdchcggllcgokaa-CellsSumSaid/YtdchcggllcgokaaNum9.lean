/-
  num.Unbits's errors; ashlarref01.Unbits.
-/
import Derived.Test.YtdchcggllcgokaaNum8
namespace Go.Proofs.Ytdchcggllcgokaa.U
open Go.RowKit Go.Proofs.Ytdchcggllcgokaa.L Go.Proofs.YtdchcggllcgokaaW.PrintWords
set_option linter.unusedVariables false
set_option linter.unusedSimpArgs false

theorem Unbits_bad (A : Option Addr) (cap l : Nat) (s m : Int) (hs : -9223372036854775808 ≤ s ∧ s ≤ 9223372036854775807) (hm : -9223372036854775808 ≤ m ∧ m ≤ 9223372036854775807) (h : s < 1 ∨ 8 < s ∨ m < 0 ∨ 1048576 < m) (w : World) :
    Calls Try.prog 36 #[.slice A l cap, .int .i64 s, .int .i64 m] w fun e w' => e = .returned (.tuple #[.slice none 0 0, .int .i64 2]) ∧ w = w' := by
  have P0 := Lib.hid (fun w => wide_any s hs w)
  obtain ⟨s1, s2⟩ := hs
  obtain ⟨m1, m2⟩ := hm
  by_cases hb : 1 ≤ s ∧ s ≤ 8
  · have P1 : Hid (∀ w, Calls Try.prog 116 #[.int .i64 s] w fun e w' => e = .returned (.bool true) ∧ w = w') := Lib.hid (fun w => by have h := P0.out w; rw [decide_eq_true hb] at h; exact h)
    rcases (by omega : m < 0 ∨ (0 ≤ m ∧ 1048576 < m)) with g | ⟨g, g'⟩
    all_goals
      clear h hb
      go_enter Try.func36, Try.ntmps36
      go_wp2_with (first
        | (go_at_call 116; refine (P1.out _).mono ?_; rintro e w1 ⟨rfl, rfl⟩))
      go_ret2
      exact ⟨rfl, rfl⟩
  · have P1 : Hid (∀ w, Calls Try.prog 116 #[.int .i64 s] w fun e w' => e = .returned (.bool false) ∧ w = w') := Lib.hid (fun w => by have h := P0.out w; rw [decide_eq_false hb] at h; exact h)
    clear h hb
    go_enter Try.func36, Try.ntmps36
    go_wp2_with (first
      | (go_at_call 116; refine (P1.out _).mono ?_; rintro e w1 ⟨rfl, rfl⟩))
    go_ret2
    exact ⟨rfl, rfl⟩
theorem Unbits_short (A : Option Addr) (cap l : Nat) (s m : Nat) (h1 : 1 ≤ s) (h2 : s ≤ 8) (hm : m ≤ 1048576) (hl : l ≤ 9223372036854775807) (h : 8 * l < m * s) (w : World) :
    Calls Try.prog 36 #[.slice A l cap, .int .i64 (s : Int), .int .i64 (m : Int)] w fun e w' => e = .returned (.tuple #[.slice none 0 0, .int .i64 4]) ∧ w = w' := by
  have P1 : Hid (∀ w, Calls Try.prog 116 #[.int .i64 (s : Int)] w fun e w' => e = .returned (.bool true) ∧ w = w') := Lib.hid fun w => by
    have h := wide_any (s : Int) (by omega) w
    rw [decide_eq_true (by omega : 1 ≤ (s : Int) ∧ (s : Int) ≤ 8)] at h
    exact h
  obtain ⟨L, hL⟩ : ∃ L, L = m * s := ⟨_, rfl⟩
  have hL1 : (m : Int) * (s : Int) = (L : Int) := by rw [hL]; exact (Int.natCast_mul _ _).symm
  have hL2 : L ≤ 8388608 := by rw [hL]; exact Nat.mul_le_mul hm h2
  rw [← hL] at h
  clear hL
  have h9 : (l : Int) < ((L : Int) + 8 - 1) / 8 := by omega
  go_enter Try.func36, Try.ntmps36
  go_wp2_with (first
    | (go_at_call 116; refine (P1.out _).mono ?_; rintro e w1 ⟨rfl, rfl⟩))
  go_ret2
  exact ⟨rfl, rfl⟩
theorem rUnbits_bad (A : Option Addr) (cap l : Nat) (s m : Int) (hs : -9223372036854775808 ≤ s ∧ s ≤ 9223372036854775807) (hm : -9223372036854775808 ≤ m ∧ m ≤ 9223372036854775807) (h : s < 1 ∨ 8 < s ∨ m < 0 ∨ 1048576 < m) (w : World) :
    Calls Try.prog 37 #[.slice A l cap, .int .i64 s, .int .i64 m] w fun e w' => e = .returned (.tuple #[.slice none 0 0, .int .i64 2]) ∧ w = w' := by
  obtain ⟨s1, s2⟩ := hs
  obtain ⟨m1, m2⟩ := hm
  rcases (by omega : s < 1 ∨ (1 ≤ s ∧ 8 < s) ∨ (1 ≤ s ∧ s ≤ 8 ∧ m < 0) ∨ (1 ≤ s ∧ s ≤ 8 ∧ 0 ≤ m ∧ 1048576 < m)) with g1 | ⟨g1, g2⟩ | ⟨g1, g2, g3⟩ | ⟨g1, g2, g3, g4⟩
  all_goals
    clear h
    go_enter Try.func37, Try.ntmps37
    go_wp2
    go_ret2
    exact ⟨rfl, rfl⟩
theorem rUnbits_short (A : Option Addr) (cap l : Nat) (s m : Nat) (h1 : 1 ≤ s) (h2 : s ≤ 8) (hm : m ≤ 1048576) (hl : l ≤ 140737488355328) (h : 8 * l < m * s) (w : World) :
    Calls Try.prog 37 #[.slice A l cap, .int .i64 (s : Int), .int .i64 (m : Int)] w fun e w' => e = .returned (.tuple #[.slice none 0 0, .int .i64 4]) ∧ w = w' := by
  obtain ⟨L, hL⟩ : ∃ L, L = m * s := ⟨_, rfl⟩
  have hL1 : (s : Int) * (m : Int) = (L : Int) := by rw [hL, Nat.mul_comm]; exact (Int.natCast_mul _ _).symm
  have hL2 : L ≤ 8388608 := by rw [hL]; exact Nat.mul_le_mul hm h2
  rw [← hL] at h
  clear hL
  go_enter Try.func37, Try.ntmps37
  go_wp2
  go_ret2
  exact ⟨rfl, rfl⟩
end Go.Proofs.Ytdchcggllcgokaa.U
