/-
  ashlarlaw04.GeomSectors: the walk.
-/
import Derived.Test.YtjagnodfdniccabGeoL
namespace Go.Proofs.Ytjagnodfdniccab.G
open Go.RowKit Go.Proofs.Ytjagnodfdniccab.L Go.Proofs.YtjagnodfdniccabW.PrintWords
set_option linter.unusedVariables false

theorem sectors_any' (k : Int) (hk : (Lit.int .i64 k).wf = true) (w : World) : Calls Try.prog 3 #[.int .i64 k] w fun e w' => e = .returned (.bool true) ∧ Below w.heap.size w w' := by
  obtain ⟨k1, k2⟩ := bounds_i64 hk
  have A1 := Lib.hid (fun w => Sector_any k w)
  clear hk
  by_cases h : 0 ≤ k ∧ k < 64
  · rw [if_pos h, if_pos h] at A1
    obtain ⟨h1, h2⟩ := h
    go_enter Try.func3, Try.ntmps3
    go_wp2_with (first
      | (go_at_call 4; refine (A1.out _).mono ?_; rintro e w1 ⟨rfl, rfl⟩)
      | (go_at_call 5; refine (lives_any _).mono ?_; rintro e w9 ⟨rfl, hb9⟩))
    go_ret
    exact ⟨ret_b (by simp), hb9⟩
  · rw [if_neg h, if_neg h] at A1
    rcases Int.lt_or_le k 0 with h1 | h1
    · clear h
      go_enter Try.func3, Try.ntmps3
      go_wp2_with (first
        | (go_at_call 4; refine (A1.out _).mono ?_; rintro e w1 ⟨rfl, rfl⟩)
        | (go_at_call 5; refine (lives_any _).mono ?_; rintro e w9 ⟨rfl, hb9⟩))
      go_ret
      exact ⟨ret_b (by simp), hb9⟩
    · have h2 : 64 ≤ k := by omega
      clear h
      go_enter Try.func3, Try.ntmps3
      go_wp2_with (first
        | (go_at_call 4; refine (A1.out _).mono ?_; rintro e w1 ⟨rfl, rfl⟩)
        | (go_at_call 5; refine (lives_any _).mono ?_; rintro e w9 ⟨rfl, hb9⟩))
      go_ret
      exact ⟨ret_b (by simp), hb9⟩
end Go.Proofs.Ytjagnodfdniccab.G
