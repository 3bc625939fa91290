/-
  Has, Gone, Heals whole.
-/
import Derived.Test.YtdchcggllcgokaaRos14
namespace Go.Proofs.Ytdchcggllcgokaa.Q
open Go.RowKit Go.Proofs.Ytdchcggllcgokaa.L Go.Proofs.Ytdchcggllcgokaa.R Go.Proofs.YtdchcggllcgokaaW.PrintWords
set_option linter.unusedVariables false
set_option linter.unusedSimpArgs false
/-- the first that heals -/
theorem first2 (l : List Int) : (∀ j : Nat, j < 16 → rd l (j : Int) ≠ 2) ∨ ∃ k : Nat, k < 16 ∧ rd l (k : Int) = 2 ∧ ∀ j : Nat, j < k → rd l (j : Int) ≠ 2 := by
  by_cases h : ∃ k : Nat, k < 16 ∧ rd l (k : Int) = 2
  · obtain ⟨k0, hk0, h10⟩ := h
    refine .inr ?_
    induction k0 using Nat.strongRecOn with
    | _ k0 ih =>
      by_cases h : ∃ j : Nat, j < k0 ∧ rd l (j : Int) = 2
      · obtain ⟨j, hj, hj2⟩ := h
        exact ih j hj (by omega) hj2
      · exact ⟨k0, hk0, h10, fun j hj h2 => h ⟨j, hj, h2⟩⟩
  · exact .inl fun j hj h2 => h ⟨j, hj, h2⟩
/-- both tell the same -/
theorem Heals_same (x : Ro) (hx : Wf x) : ∃ (k : Int) (b : Bool), (∀ w : World, Calls Try.prog 68 #[ros x] w fun e w' => e = .returned (.tuple #[.int .i64 k, .bool b]) ∧ Below w.heap.size w w') ∧ (∀ w : World, Calls Try.prog 96 #[ros x] w fun e w' => e = .returned (.tuple #[.int .i64 k, .bool b]) ∧ Below w.heap.size w w') ∧ ((mayR x = false ∧ k = 0 ∧ b = false) ∨ (mayR x = true ∧ k = 0 ∧ b = false ∧ ∀ j : Nat, j < 16 → rd x.st (j : Int) ≠ 2) ∨ (mayR x = true ∧ b = true ∧ ∃ q : Nat, k = q ∧ q < 16 ∧ rd x.st (q : Int) = 2 ∧ ∀ j : Nat, j < q → rd x.st (j : Int) ≠ 2)) := by
  have p := fun w => May_any x hx w
  have r := fun w => rMay_any x hx w
  have hl := Lib.hid hx.1
  cases hm : mayR x with
  | false =>
    rw [hm] at p r
    exact ⟨0, false, fun w => Heals_A x hl (Lib.hid p) w, fun w => rHeals_A x hl (Lib.hid r) w, .inl ⟨rfl, rfl, rfl⟩⟩
  | true =>
    rw [hm] at p r
    rcases first2 x.st with h | ⟨k, hk, h2, h⟩
    · exact ⟨0, false, fun w => Heals_B x hl (Lib.hid h) (Lib.hid p) w, fun w => rHeals_B x hl (Lib.hid h) (Lib.hid r) w, .inr (.inl ⟨rfl, rfl, rfl, h⟩)⟩
    · exact ⟨(k : Int), true, fun w => Heals_C x hl k hk (Lib.hid h2) (Lib.hid h) (Lib.hid p) w, fun w => rHeals_C x hl k hk (Lib.hid h2) (Lib.hid h) (Lib.hid r) w, .inr (.inr ⟨rfl, rfl, k, rfl, hk, h2, h⟩)⟩
end Go.Proofs.Ytdchcggllcgokaa.Q
