/-
  ashlarref01.Unbits: the walk.
-/
import Derived.Test.YtdchcggllcgokaaDoorNum9
namespace Go.Proofs.YtdchcggllcgokaaDoor.U
open Go.RowKit Go.Proofs.YtdchcggllcgokaaDoor.L Go.Proofs.YtdchcggllcgokaaDoorW.PrintWords
set_option linter.unusedVariables false
set_option linter.unusedSimpArgs false

theorem items_next (v : Nat → Nat) (s q : Nat) (n : Nat) (h : n = item v s q) : items v s q ++ [(n : Int)] = items v s (q + 1) := by
  subst h; simp [items, List.range_succ]
theorem bit_val (v : Nat → Nat) (a j p : Nat) (hj : j = a / 8) (hp : p = a % 8) : (V.bitv v 8 a).toNat = v j / 2 ^ p % 2 := by
  rw [V.bitv, ← hj, ← hp, Nat.testBit_eq_decide_div_mod_eq]
  by_cases h : v j / 2 ^ p % 2 = 1
  · simp [h]
  · have : v j / 2 ^ p % 2 = 0 := by omega
    simp [this]
end Go.Proofs.YtdchcggllcgokaaDoor.U
