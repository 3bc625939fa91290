/-
  Numbers of a width, one behind the other, as bits: plain laws.
-/
namespace Go.Proofs.Ytdchcggllcgokaa.V
set_option linter.unusedVariables false
set_option linter.unusedSimpArgs false

/-- so many bits as a number, the lowest first -/
def pack (f : Nat → Bool) : Nat → Nat
  | 0 => 0
  | k + 1 => 2 ^ k * (f k).toNat + pack f k
theorem pack_lt (f : Nat → Bool) (k : Nat) : pack f k < 2 ^ k := by
  induction k with
  | zero => simp [pack]
  | succ k ih =>
    have : 2 ^ k * (f k).toNat ≤ 2 ^ k * 1 := Nat.mul_le_mul_left _ (by cases f k <;> decide)
    rw [pack, Nat.pow_succ]; omega
theorem testBit_pack (f : Nat → Bool) (k i : Nat) : (pack f k).testBit i = (decide (i < k) && f i) := by
  induction k with
  | zero => simp [pack]
  | succ k ih =>
    rw [pack, Nat.testBit_two_pow_mul_add _ (pack_lt f k)]
    by_cases h : i < k
    · rw [if_pos h, ih]; simp [h, show i < k + 1 by omega]
    · rw [if_neg h]
      by_cases h2 : i = k
      · subst h2; simp; cases f i <;> rfl
      · obtain ⟨d, hd⟩ : ∃ d, i - k = d + 1 := ⟨i - k - 1, by omega⟩
        rw [hd]
        simp only [show ¬ i < k + 1 by omega, decide_false, Bool.false_and]
        cases f k <;> simp [Nat.testBit_succ]
theorem pack_congr {f g : Nat → Bool} {k : Nat} (h : ∀ i, i < k → f i = g i) : pack f k = pack g k := by
  apply Nat.eq_of_testBit_eq
  intro i
  rw [testBit_pack, testBit_pack]
  by_cases hi : i < k
  · rw [h i hi]
  · simp [hi]
theorem pack_self {n k : Nat} (h : n < 2 ^ k) : pack (fun i => n.testBit i) k = n := by
  apply Nat.eq_of_testBit_eq
  intro i
  rw [testBit_pack]
  by_cases hi : i < k
  · simp [hi]
  · rw [Nat.testBit_lt_two_pow (Nat.lt_of_lt_of_le h (Nat.pow_le_pow_right (by decide) (by omega)))]; simp
theorem pack_zero (k : Nat) : pack (fun _ => false) k = 0 := by
  induction k with
  | zero => rfl
  | succ k ih => rw [pack, ih]; simp
/-- from the top -/
theorem pack_top (f : Nat → Bool) (k q : Nat) : pack (fun i => f (q + i)) (k + 1) = (f q).toNat + 2 * pack (fun i => f (q + 1 + i)) k := by
  induction k with
  | zero => simp [pack]
  | succ k ih =>
    rw [pack, ih, pack, show q + 1 + k = q + (k + 1) by omega, Nat.pow_succ]
    rw [Nat.mul_add, show 2 ^ k * 2 * (f (q + (k + 1))).toNat = 2 * (2 ^ k * (f (q + (k + 1))).toNat) by rw [Nat.mul_comm (2 ^ k) 2, Nat.mul_assoc]]
    omega

/-- the bits of v 0, v 1, .., w of each -/
def bitv (v : Nat → Nat) (w t : Nat) : Bool := (v (t / w)).testBit (t % w)
/-- those of the first i -/
def part (v : Nat → Nat) (w i t : Nat) : Bool := decide (t < i * w) && bitv v w t
/-- the j-th byte of bits -/
def byt8 (f : Nat → Bool) (j : Nat) : Nat := pack (fun k => f (8 * j + k)) 8
theorem byt8_lt (f : Nat → Bool) (j : Nat) : byt8 f j < 256 := pack_lt _ 8
theorem part_succ (v : Nat → Nat) (w i t : Nat) (hw : 0 < w) (hv : v i < 2 ^ w) : part v w (i + 1) t = (part v w i t || (decide (i * w ≤ t) && (v i).testBit (t - i * w))) := by
  unfold part bitv
  by_cases h1 : t < i * w
  · have h2 : t < (i + 1) * w := by rw [Nat.succ_mul]; omega
    simp [h1, h2, show ¬ i * w ≤ t by omega]
  · by_cases h2 : t < (i + 1) * w
    · have h3 : t = w * i + (t - i * w) := by rw [Nat.mul_comm w i]; omega
      have h4 : t - i * w < w := by rw [Nat.succ_mul] at h2; omega
      have h5 : t / w = i := by rw [h3, Nat.mul_add_div hw, Nat.div_eq_of_lt h4, Nat.add_zero]
      have h6 : t % w = t - i * w := by
        have := Nat.mod_eq_of_lt h4
        conv => lhs; rw [h3, Nat.mul_add_mod]
        exact this
      simp [h1, h2, h5, h6, show i * w ≤ t by omega]
    · have h7 : (v i).testBit (t - i * w) = false := Nat.testBit_lt_two_pow (Nat.lt_of_lt_of_le hv (Nat.pow_le_pow_right (by decide) (by rw [Nat.succ_mul] at h2; omega)))
      simp [h1, h2, h7]
/-- the byte that the number begins in -/
theorem byte_in (v : Nat → Nat) (w i : Nat) (hw : 0 < w) (hv : v i < 2 ^ w) :
    byt8 (part v w (i + 1)) (i * w / 8) = byt8 (part v w i) (i * w / 8) ||| v i * 2 ^ (i * w % 8) % 256 := by
  apply Nat.eq_of_testBit_eq
  intro k
  rw [Nat.testBit_or, byt8, byt8, testBit_pack, testBit_pack, show (256 : Nat) = 2 ^ 8 from rfl, Nat.testBit_mod_two_pow, Nat.testBit_mul_two_pow, part_succ v w i _ hw hv]
  by_cases hk : k < 8
  · simp only [hk, decide_true, Bool.true_and]
    congr 1
    by_cases hk2 : i * w % 8 ≤ k
    · have e1 : i * w ≤ 8 * (i * w / 8) + k := by omega
      have e2 : 8 * (i * w / 8) + k - i * w = k - i * w % 8 := by omega
      simp [hk2, e1, e2]
    · have e1 : ¬ i * w ≤ 8 * (i * w / 8) + k := by omega
      simp [hk2, e1]
  · simp [hk]
/-- the byte behind it -/
theorem byte_over (v : Nat → Nat) (w i : Nat) (hw : 0 < w) (hv : v i < 2 ^ w) :
    byt8 (part v w (i + 1)) (i * w / 8 + 1) = byt8 (part v w i) (i * w / 8 + 1) ||| v i / 2 ^ (8 - i * w % 8) % 256 := by
  apply Nat.eq_of_testBit_eq
  intro k
  rw [Nat.testBit_or, byt8, byt8, testBit_pack, testBit_pack, show (256 : Nat) = 2 ^ 8 from rfl, Nat.testBit_mod_two_pow, Nat.testBit_div_two_pow, part_succ v w i _ hw hv]
  by_cases hk : k < 8
  · simp only [hk, decide_true, Bool.true_and]
    congr 1
    have e1 : i * w ≤ 8 * (i * w / 8 + 1) + k := by omega
    have e2 : 8 * (i * w / 8 + 1) + k - i * w = k + (8 - i * w % 8) := by omega
    simp [e1, e2]
  · simp [hk]
/-- no other byte is another one -/
theorem byte_else (v : Nat → Nat) (w i j : Nat) (hw : 0 < w) (hv : v i < 2 ^ w) (h : j < i * w / 8 ∨ i * w / 8 + 1 < j ∨ (i * w / 8 < j ∧ i * w % 8 + w ≤ 8)) (hw8 : w ≤ 8) :
    byt8 (part v w (i + 1)) j = byt8 (part v w i) j := by
  apply pack_congr
  intro k hk
  rw [part_succ v w i _ hw hv]
  by_cases h1 : i * w ≤ 8 * j + k
  · have h2 : w ≤ 8 * j + k - i * w := by omega
    rw [Nat.testBit_lt_two_pow (Nat.lt_of_lt_of_le hv (Nat.pow_le_pow_right (by decide) h2))]
    simp
  · simp [h1]
/-- so many bytes -/
def bytes (f : Nat → Bool) (m : Nat) : List Int := (List.range m).map fun j => (byt8 f j : Int)
theorem bytes_length (f : Nat → Bool) (m : Nat) : (bytes f m).length = m := by simp [bytes]
theorem part_zero (v : Nat → Nat) (w : Nat) : part v w 0 = fun _ => false := by
  funext t; simp [part]
theorem bytes_zero (v : Nat → Nat) (w m : Nat) : bytes (part v w 0) m = List.replicate m 0 := by
  rw [part_zero]
  apply List.ext_getElem
  · simp [bytes]
  · intro i h1 h2
    simp [bytes, byt8, pack_zero]
theorem bytes_set {f g : Nat → Bool} {m j x : Nat} (hj : j < m) (hx : byt8 g j = x) (h : ∀ i, i ≠ j → byt8 g i = byt8 f i) : (bytes f m).set j (x : Int) = bytes g m := by
  apply List.ext_getElem
  · simp [bytes]
  · intro i h1 h2
    rw [List.getElem_set]
    by_cases hi : j = i
    · subst hi; rw [if_pos rfl]; simp [bytes, hx]
    · rw [if_neg hi]; simp [bytes, h i (Ne.symm hi)]
/-- behind the first of two stores: the bits of the next one that lie in the byte it begins in -/
def parth (v : Nat → Nat) (w i t : Nat) : Bool := part v w i t || (decide (t < 8 * (i * w / 8 + 1)) && part v w (i + 1) t)
theorem parth_in (v : Nat → Nat) (w i : Nat) (hw : 0 < w) (hv : v i < 2 ^ w) : byt8 (parth v w i) (i * w / 8) = byt8 (part v w (i + 1)) (i * w / 8) := by
  apply pack_congr
  intro k hk
  rw [parth, part_succ v w i _ hw hv]
  simp only [show 8 * (i * w / 8) + k < 8 * (i * w / 8 + 1) by omega, decide_true, Bool.true_and]
  cases part v w i (8 * (i * w / 8) + k) <;> simp
theorem parth_else (v : Nat → Nat) (w i j : Nat) (hw : 0 < w) (hv : v i < 2 ^ w) (hj : j ≠ i * w / 8) : byt8 (parth v w i) j = byt8 (part v w i) j := by
  apply pack_congr
  intro k hk
  rw [parth, part_succ v w i _ hw hv]
  by_cases h1 : 8 * j + k < 8 * (i * w / 8 + 1)
  · have h2 : ¬ i * w ≤ 8 * j + k := by omega
    simp [h2]
  · simp [h1]
end Go.Proofs.Ytdchcggllcgokaa.V
