/-
  ashlarref01.Bits: the walk.
-/
import Derived.Test.YtdchcggllcgokaaDoorNum5
namespace Go.Proofs.YtdchcggllcgokaaDoor.U
open Go.RowKit Go.Proofs.YtdchcggllcgokaaDoor.L Go.Proofs.YtdchcggllcgokaaDoorW.PrintWords
set_option linter.unusedVariables false
set_option linter.unusedSimpArgs false

/-- bits as a list of 0 and 1 -/
def rowl (f : Nat → Bool) (t : Nat) : List Int := (List.range t).map fun i => ((f i).toNat : Int)
theorem rowl_length (f : Nat → Bool) (t : Nat) : (rowl f t).length = t := by simp [rowl]
theorem rowl_next (f : Nat → Bool) (t b : Nat) (h : b = (f t).toNat) : rowl f t ++ [(b : Int)] = rowl f (t + 1) := by
  subst h; simp [rowl, List.range_succ]
theorem rowl_rd (f : Nat → Bool) (t i : Nat) (h : i < t) : rd (rowl f t) (i : Int) = ((f i).toNat : Int) := by
  simp [rd, rowl, List.getD_eq_getElem?_getD, List.getElem?_map, List.getElem?_range h]
theorem bit_at (v : Nat → Nat) (s q k : Nat) (hk : k < s) : (V.bitv v s (q * s + k)).toNat = v q / 2 ^ k % 2 := by
  have h1 : (q * s + k) / s = q := by rw [Nat.mul_comm, Nat.mul_add_div (by omega), Nat.div_eq_of_lt hk, Nat.add_zero]
  have h2 : (q * s + k) % s = k := by rw [Nat.mul_comm, Nat.mul_add_mod, Nat.mod_eq_of_lt hk]
  rw [V.bitv, h1, h2, Nat.testBit_eq_decide_div_mod_eq]
  by_cases h : v q / 2 ^ k % 2 = 1
  · simp [h]
  · have : v q / 2 ^ k % 2 = 0 := by omega
    simp [this]
end Go.Proofs.YtdchcggllcgokaaDoor.U
