/-
  cells.Size, ashlarref11.Size: the walks.
-/
import Derived.Test.YtdchcggllcgokaaProg
import Derived.Test.YtdchcggllcgokaaLib
namespace Go.Proofs.Ytdchcggllcgokaa.T
open Go.RowKit Go.Proofs.Ytdchcggllcgokaa.L Go.Proofs.YtdchcggllcgokaaW.PrintWords
set_option linter.unusedVariables false
set_option linter.unusedSimpArgs false

def sizeN (n : Int) : Nat := if 1 ≤ n ∧ n ≤ 32 then (n.toNat + 15) / 16 + n.toNat else 0
theorem places_any (n : Nat) (h1 : 1 ≤ n) (h2 : n ≤ 32) (w : World) : Calls Try.prog 121 #[.int .i64 (n : Int)] w fun e w' => e = .returned (.int .i64 (((n + 15) / 16 : Nat) : Int)) ∧ w = w' := by
  go_enter Try.func121, Try.ntmps121
  go_wp2
  go_loop [3] (fun i => ∃ q : Nat, 16 * q < n + 16 ∧ i = .int .i64 (q : Int)) (fun i => 64 - (intOf i).toNat)
  case atStart => exact ⟨0, by omega, rfl⟩
  case round =>
    obtain ⟨q, hq, rfl⟩ := hrel
    by_cases hlt : 16 * q < n
    · go_wp2
      go_round
      case rel => exact ⟨q + 1, by omega, by go_num⟩
      case measure => simp [intOf]; omega
    · go_wp2
      go_ret
      exact ⟨ret_i (by omega), rfl⟩
theorem rSize_any (n : Int) (hn : -9223372036854775808 ≤ n ∧ n ≤ 9223372036854775807) (w : World) : Calls Try.prog 50 #[.int .i64 n] w fun e w' => e = .returned (.int .i64 (sizeN n : Int)) ∧ w = w' := by
  obtain ⟨n1, n2⟩ := hn
  rcases (by omega : n < 1 ∨ (1 ≤ n ∧ 32 < n) ∨ (1 ≤ n ∧ n ≤ 32)) with h1 | ⟨h1, h2⟩ | ⟨h1, h2⟩
  · go_enter Try.func50, Try.ntmps50
    go_wp2
    go_ret
    exact ⟨by rw [sizeN, if_neg (by omega)]; rfl, rfl⟩
  · go_enter Try.func50, Try.ntmps50
    go_wp2
    go_ret
    exact ⟨by rw [sizeN, if_neg (by omega)]; rfl, rfl⟩
  · obtain ⟨m, rfl⟩ : ∃ m : Nat, n = m := ⟨n.toNat, by omega⟩
    have hP := Lib.hid (places_any m (by omega) (by omega))
    obtain ⟨k, hk⟩ : ∃ k, k = (m + 15) / 16 := ⟨_, rfl⟩
    rw [← hk] at hP
    have hz : sizeN (m : Int) = k + m := by rw [sizeN, if_pos ⟨h1, h2⟩, Int.toNat_natCast, hk]
    rw [hz]
    have hk2 : k ≤ 2 := by omega
    clear hz hk
    go_enter Try.func50, Try.ntmps50
    go_wp2_with (first
      | (go_skip)
      | (go_at_call 121; refine (hP.out _).mono ?_; rintro e w1 ⟨rfl, rfl⟩))
    go_ret
    exact ⟨ret_i (by omega), rfl⟩
theorem heads_any (n : Nat) (h1 : 1 ≤ n) (h2 : n ≤ 32) (w : World) : Calls Try.prog 118 #[.int .i64 (n : Int)] w fun e w' => e = .returned (.int .i64 (((n + 15) / 16 : Nat) : Int)) ∧ w = w' := by
  have eq1 : ((n : Int) + 15).tdiv 16 = (((n + 15) / 16 : Nat) : Int) := by rw [Int.tdiv_eq_ediv_of_nonneg (by omega)]; omega
  have eq2 : (((n : Int) + 16) - 1).tdiv 16 = (((n + 15) / 16 : Nat) : Int) := by rw [Int.tdiv_eq_ediv_of_nonneg (by omega)]; omega
  go_enter Try.func118, Try.ntmps118
  go_wp2
  go_ret
  exact ⟨ret_i (by omega), rfl⟩
theorem Size_any (n : Int) (hn : -9223372036854775808 ≤ n ∧ n ≤ 9223372036854775807) (w : World) : Calls Try.prog 49 #[.int .i64 n] w fun e w' => e = .returned (.int .i64 (sizeN n : Int)) ∧ w = w' := by
  obtain ⟨n1, n2⟩ := hn
  rcases (by omega : n < 1 ∨ (1 ≤ n ∧ 32 < n) ∨ (1 ≤ n ∧ n ≤ 32)) with h1 | ⟨h1, h2⟩ | ⟨h1, h2⟩
  · go_enter Try.func49, Try.ntmps49
    go_wp2
    go_ret
    exact ⟨by rw [sizeN, if_neg (by omega)]; rfl, rfl⟩
  · go_enter Try.func49, Try.ntmps49
    go_wp2
    go_ret
    exact ⟨by rw [sizeN, if_neg (by omega)]; rfl, rfl⟩
  · obtain ⟨m, rfl⟩ : ∃ m : Nat, n = m := ⟨n.toNat, by omega⟩
    have hP := Lib.hid (heads_any m (by omega) (by omega))
    obtain ⟨k, hk⟩ : ∃ k, k = (m + 15) / 16 := ⟨_, rfl⟩
    rw [← hk] at hP
    have hz : sizeN (m : Int) = k + m := by rw [sizeN, if_pos ⟨h1, h2⟩, Int.toNat_natCast, hk]
    rw [hz]
    have hk2 : k ≤ 2 := by omega
    clear hz hk
    go_enter Try.func49, Try.ntmps49
    go_wp2_with (first
      | (go_skip)
      | (go_at_call 118; refine (hP.out _).mono ?_; rintro e w1 ⟨rfl, rfl⟩))
    go_ret
    exact ⟨ret_i (by omega), rfl⟩
end Go.Proofs.Ytdchcggllcgokaa.T
