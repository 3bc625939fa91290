/-
  Numbers of a width that are read: plain laws.
-/
import Derived.Test.YtdchcggllcgokaaNum6
namespace Go.Proofs.Ytdchcggllcgokaa.U
open Go.RowKit Go.Proofs.Ytdchcggllcgokaa.L Go.Proofs.YtdchcggllcgokaaW.PrintWords
set_option linter.unusedVariables false
set_option linter.unusedSimpArgs false

/-- the i-th number of width s of bytes v -/
def item (v : Nat → Nat) (s i : Nat) : Nat := V.pack (fun k => V.bitv v 8 (i * s + k)) s
def items (v : Nat → Nat) (s m : Nat) : List Int := (List.range m).map fun i => (item v s i : Int)
theorem items_length (v : Nat → Nat) (s m : Nat) : (items v s m).length = m := by simp [items]
theorem item_lt (v : Nat → Nat) (s i : Nat) : item v s i < 2 ^ s := V.pack_lt _ _
theorem item_lt8 (v : Nat → Nat) (s i : Nat) (h : s ≤ 8) : item v s i < 256 := Nat.lt_of_lt_of_le (item_lt v s i) (Nat.pow_le_pow_right (by decide) h)
theorem bitv8 (v : Nat → Nat) (j p k : Nat) (h : p + k < 8) : V.bitv v 8 (8 * j + p + k) = (v j).testBit (p + k) := by
  rw [V.bitv, show (8 * j + p + k) / 8 = j by omega, show (8 * j + p + k) % 8 = p + k by omega]
/-- the two bytes, shifted and cut -/
theorem item_two (v : Nat → Nat) (hv : ∀ i, v i < 256) (s i j p : Nat) (hj : j = i * s / 8) (hp : p = i * s % 8) (hs : s ≤ 8) (h : 8 < p + s) :
    ((v j ||| v (j + 1) * 256) / 2 ^ p) &&& (2 ^ s - 1) = item v s i := by
  have e : i * s = 8 * j + p := by omega
  have hp8 : p < 8 := by omega
  apply Nat.eq_of_testBit_eq
  intro k
  rw [item, V.testBit_pack, Nat.and_two_pow_sub_one_eq_mod, Nat.testBit_mod_two_pow, Nat.testBit_div_two_pow, Nat.testBit_or, show (256 : Nat) = 2 ^ 8 from rfl, Nat.testBit_mul_two_pow, e]
  by_cases hk : k < s
  · simp only [hk, decide_true, Bool.true_and]
    by_cases h8 : p + k < 8
    · rw [bitv8 v j p k h8, Nat.add_comm k p]
      simp [show ¬ 8 ≤ p + k by omega]
    · rw [V.bitv, show (8 * j + p + k) / 8 = j + 1 by omega, show (8 * j + p + k) % 8 = p + k - 8 by omega, Nat.add_comm k p]
      have hvp : v j < 2 ^ (p + k) := Nat.lt_of_lt_of_le (hv j) (show 2 ^ 8 ≤ 2 ^ (p + k) from Nat.pow_le_pow_right (by decide) (by omega))
      rw [Nat.testBit_lt_two_pow hvp]
      simp [show 8 ≤ p + k by omega]
  · simp [hk]
theorem item_one (v : Nat → Nat) (hv : ∀ i, v i < 256) (s i j p : Nat) (hj : j = i * s / 8) (hp : p = i * s % 8) (h : p + s ≤ 8) :
    (v j / 2 ^ p) &&& (2 ^ s - 1) = item v s i := by
  have e : i * s = 8 * j + p := by omega
  apply Nat.eq_of_testBit_eq
  intro k
  rw [item, V.testBit_pack, Nat.and_two_pow_sub_one_eq_mod, Nat.testBit_mod_two_pow, Nat.testBit_div_two_pow, e]
  by_cases hk : k < s
  · simp only [hk, decide_true, Bool.true_and]
    rw [bitv8 v j p k (by omega), Nat.add_comm k p]
  · simp [hk]
/-- what was laid is read -/
theorem item_bytes (v w : Nat → Nat) (s n m i : Nat) (hs : 0 < s) (hv : ∀ i, i < n → v i < 2 ^ s) (hm : n * s ≤ 8 * m) (hw : ∀ j, j < m → w j = V.byt8 (V.part v s n) j) (hi : i < n) : item w s i = v i := by
  rw [← V.pack_self (hv i hi), item]
  apply V.pack_congr
  intro k hk
  have h1 : i * s + k < n * s := Nat.lt_of_lt_of_le (by rw [Nat.succ_mul]; omega) (Nat.mul_le_mul_right s hi)
  have h2 : (i * s + k) / 8 < m := by omega
  rw [V.bitv, hw _ h2, V.byt8, V.testBit_pack, show 8 * ((i * s + k) / 8) + (i * s + k) % 8 = i * s + k by omega]
  simp only [show (i * s + k) % 8 < 8 by omega, decide_true, Bool.true_and, V.part, h1]
  rw [V.bitv, show (i * s + k) / s = i by rw [Nat.mul_comm, Nat.mul_add_div (by omega), Nat.div_eq_of_lt hk, Nat.add_zero], show (i * s + k) % s = k by rw [Nat.mul_comm, Nat.mul_add_mod, Nat.mod_eq_of_lt hk]]
end Go.Proofs.Ytdchcggllcgokaa.U
