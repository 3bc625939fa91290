/-
  ashlarlaw02.CrcRow: what a change of up to four bytes does to the sum.
-/
import Derived.Test.YtjagnodfdniccaaCrcLaw3
namespace Go.Proofs.Ytjagnodfdniccaa.C
open Go.RowKit Go.Proofs.Ytjagnodfdniccaa.L Go.Proofs.YtjagnodfdniccaaW.PrintWords
set_option linter.unusedVariables false
set_option linter.unusedSimpArgs false

theorem fold_zeros (n : Nat) : ∀ r : BitVec 32, fold r (List.replicate n 0#8) = steps (8 * n) r := by
  induction n with
  | zero => intro r; rfl
  | succ n ih =>
    intro r
    have h : take r 0#8 = steps 8 r := by rw [take, show (0#8).setWidth 32 = 0#32 from rfl, BitVec.xor_zero]
    rw [List.replicate_succ, show 8 * (n + 1) = 8 + 8 * n by omega, steps_add, ← ih, ← h]; rfl
theorem fold_zip : ∀ (bs ds : List (BitVec 8)) (r d : BitVec 32), ds.length = bs.length → fold (r ^^^ d) (List.zipWith (· ^^^ ·) bs ds) = fold r bs ^^^ fold d ds := by
  intro bs
  induction bs with
  | nil => intro ds r d h; obtain rfl : ds = [] := List.eq_nil_of_length_eq_zero h; rfl
  | cons b bs ih =>
    intro ds r d h
    match ds, h with
    | e :: ds, h =>
      simp only [fold, List.zipWith_cons_cons, List.foldl_cons] at ih ⊢
      rw [take_xor]
      exact ih ds (take r b) (take d e) (by simpa using h)
theorem fold_four (a b c d : BitVec 8) (h : fold 0#32 [a, b, c, d] = 0#32) : a = 0#8 ∧ b = 0#8 ∧ c = 0#8 ∧ d = 0#8 := by
  obtain ⟨w, hw⟩ : ∃ w : BitVec 32, w = ((d ++ c) ++ (b ++ a) : BitVec 32) := ⟨_, rfl⟩
  have ea : a = (w >>> 0).setWidth 8 := by
    rw [hw]; apply BitVec.eq_of_getLsbD_eq; intro i hi
    simp only [BitVec.getLsbD_setWidth, BitVec.getLsbD_ushiftRight, BitVec.getLsbD_append, hi, decide_true, Bool.true_and]
    rw [if_pos (by omega), if_pos (by omega), Nat.zero_add]
  have eb : b = (w >>> (0 + 8)).setWidth 8 := by
    rw [hw]; apply BitVec.eq_of_getLsbD_eq; intro i hi
    simp only [BitVec.getLsbD_setWidth, BitVec.getLsbD_ushiftRight, BitVec.getLsbD_append, hi, decide_true, Bool.true_and]
    rw [if_pos (by omega), if_neg (by omega), show 0 + 8 + i - 8 = i by omega]
  have ec : c = (w >>> (0 + 8 + 8)).setWidth 8 := by
    rw [hw]; apply BitVec.eq_of_getLsbD_eq; intro i hi
    simp only [BitVec.getLsbD_setWidth, BitVec.getLsbD_ushiftRight, BitVec.getLsbD_append, hi, decide_true, Bool.true_and]
    rw [if_neg (by omega), if_pos (by omega), show 0 + 8 + 8 + i - (8 + 8) = i by omega]
  have ed : d = (w >>> (0 + 8 + 8 + 8)).setWidth 8 := by
    rw [hw]; apply BitVec.eq_of_getLsbD_eq; intro i hi
    simp only [BitVec.getLsbD_setWidth, BitVec.getLsbD_ushiftRight, BitVec.getLsbD_append, hi, decide_true, Bool.true_and]
    rw [if_neg (by omega), if_neg (by omega), show 0 + 8 + 8 + 8 + i - (8 + 8) - 8 = i by omega]
  have h0 : 0#32 = steps 0 w ^^^ (w >>> 0) := by simp [steps]
  have h1 := take_next w w _ _ 0 0 h0 ea
  have h2 := take_next w w _ _ _ _ h1 eb
  have h3 := take_next w w _ _ _ _ h2 ec
  have h4 := take_next w w _ _ _ _ h3 ed
  have hz : w >>> (0 + 8 + 8 + 8 + 8) = 0#32 := by
    apply BitVec.eq_of_getLsbD_eq
    intro i hi
    rw [BitVec.getLsbD_ushiftRight, BitVec.getLsbD_of_ge w _ (by omega)]; simp
  rw [hz, BitVec.xor_zero] at h4
  have hw0 : w = 0#32 := by
    by_cases h9 : w = 0#32
    · exact h9
    · exact absurd (h4.symm.trans h) (steps_ne 32 h9)
  rw [hw0] at ea eb ec ed
  exact ⟨ea.trans (by decide), eb.trans (by decide), ec.trans (by decide), ed.trans (by decide)⟩
theorem fold_some (ys : List (BitVec 8)) (h4 : ys.length ≤ 4) (h : fold 0#32 ys = 0#32) : ∀ y ∈ ys, y = 0#8 := by
  have h8 : fold 0#32 (ys ++ List.replicate (4 - ys.length) 0#8) = 0#32 := by rw [fold_append, h, fold_zeros, steps_zero]
  intro y hy
  match ys, h4 with
  | [], _ => simp at hy
  | [a], _ => have := fold_four a 0#8 0#8 0#8 h8; simp at hy; rw [hy]; exact this.1
  | [a, b], _ => have := fold_four a b 0#8 0#8 h8; simp at hy; rcases hy with rfl | rfl; exact this.1; exact this.2.1
  | [a, b, c], _ => have := fold_four a b c 0#8 h8; simp at hy; rcases hy with rfl | rfl | rfl; exact this.1; exact this.2.1; exact this.2.2.1
  | [a, b, c, d], _ => have := fold_four a b c d h8; simp at hy; rcases hy with rfl | rfl | rfl | rfl; exact this.1; exact this.2.1; exact this.2.2.1; exact this.2.2.2
  | a :: b :: c :: d :: e :: r, h => simp at h

/-- bytes with ys taken into those from k on -/
def dlt (n k : Nat) (ys : List (BitVec 8)) : List (BitVec 8) := List.replicate k 0#8 ++ ys ++ List.replicate (n - k - ys.length) 0#8
def mix (bs : List (BitVec 8)) (k : Nat) (ys : List (BitVec 8)) : List (BitVec 8) := List.zipWith (· ^^^ ·) bs (dlt bs.length k ys)
theorem dlt_length (n k : Nat) (ys : List (BitVec 8)) (h : k + ys.length ≤ n) : (dlt n k ys).length = n := by simp [dlt]; omega
theorem mix_length (bs : List (BitVec 8)) (k : Nat) (ys : List (BitVec 8)) (h : k + ys.length ≤ bs.length) : (mix bs k ys).length = bs.length := by
  rw [mix, List.length_zipWith, dlt_length _ _ _ h, Nat.min_self]
theorem dlt_next (n k : Nat) (ys : List (BitVec 8)) (y : BitVec 8) (h : k + ys.length < n) : dlt n k (ys ++ [y]) = (dlt n k ys).set (k + ys.length) y := by
  unfold dlt
  obtain ⟨m, hm⟩ : ∃ m, n - k - ys.length = m + 1 := ⟨n - k - ys.length - 1, by omega⟩
  have e1 : k + ys.length - (List.replicate k 0#8 ++ ys).length = 0 := by simp
  have e2 : n - k - (ys ++ [y]).length = m := by simp; omega
  rw [List.set_append_right _ _ (by simp), e1, e2, hm, List.replicate_succ, List.set_cons_zero]
  simp
theorem dlt_at (n k : Nat) (ys : List (BitVec 8)) (h : k + ys.length < n) : (dlt n k ys)[k + ys.length]? = some 0#8 := by
  unfold dlt
  rw [List.getElem?_append_right (by simp), List.length_append, List.length_replicate, Nat.sub_self, List.getElem?_replicate, if_pos (by omega)]
theorem mix_at (bs : List (BitVec 8)) (k : Nat) (ys : List (BitVec 8)) (h : k + ys.length < bs.length) : (mix bs k ys)[k + ys.length]'(by rw [mix_length _ _ _ (by omega)]; exact h) = bs[k + ys.length] := by
  have h9 := dlt_at bs.length k ys h
  rw [List.getElem?_eq_getElem (by rw [dlt_length _ _ _ (by omega)]; exact h)] at h9
  injection h9 with h9
  simp only [mix, List.getElem_zipWith, h9, BitVec.xor_zero]
theorem mix_next (bs : List (BitVec 8)) (k : Nat) (ys : List (BitVec 8)) (y : BitVec 8) (h : k + ys.length < bs.length) : mix bs k (ys ++ [y]) = (mix bs k ys).set (k + ys.length) (bs[k + ys.length] ^^^ y) := by
  have hl := dlt_length bs.length k ys (by omega)
  apply List.ext_getElem
  · rw [List.length_set, mix_length _ _ _ (by simp; omega), mix_length _ _ _ (by omega)]
  · intro i h1 h2
    simp only [mix, dlt_next _ _ _ _ h, List.getElem_zipWith, List.getElem_set]
    by_cases hi : k + ys.length = i
    · subst hi; simp
    · simp [hi]
theorem mix_nil (bs : List (BitVec 8)) (k : Nat) (h : k ≤ bs.length) : mix bs k [] = bs := by
  apply List.ext_getElem
  · exact mix_length _ _ _ (by simpa using h)
  · intro i h1 h2
    have : dlt bs.length k [] = List.replicate bs.length 0#8 := by
      simp [dlt]; omega
    simp [mix, this]
theorem mix_more (s : BitVec 32) (bs : List (BitVec 8)) (k : Nat) (ys : List (BitVec 8)) (h : k + ys.length ≤ bs.length) : more s (mix bs k ys) = more s bs ^^^ steps (8 * (bs.length - k - ys.length)) (fold 0#32 ys) := by
  have h1 := fold_zip bs (dlt bs.length k ys) (~~~ s) 0#32 (dlt_length _ _ _ h)
  rw [BitVec.xor_zero] at h1
  have h2 : fold 0#32 (dlt bs.length k ys) = steps (8 * (bs.length - k - ys.length)) (fold 0#32 ys) := by
    rw [dlt, fold_append, fold_append, fold_zeros k, steps_zero, fold_zeros]
  rw [h2] at h1
  rw [more, more, mix, h1]
  apply BitVec.eq_of_getLsbD_eq
  intro i hi
  simp only [BitVec.getLsbD_not, BitVec.getLsbD_xor, hi, decide_true, Bool.true_and]
  cases (fold (~~~s) bs).getLsbD i <;> simp
/-- is one of them another byte than 0? -/
def ch (ys : List (BitVec 8)) : Bool := ys.any fun y => decide (y ≠ 0#8)
theorem ch_next (ys : List (BitVec 8)) (y : BitVec 8) : ch (ys ++ [y]) = (ch ys || decide (y ≠ 0#8)) := by simp [ch]
theorem mix_same (s : BitVec 32) (bs : List (BitVec 8)) (k : Nat) (ys : List (BitVec 8)) (h : k + ys.length ≤ bs.length) (hc : ch ys = false) : more s (mix bs k ys) = more s bs := by
  have hz : ys = List.replicate ys.length 0#8 := by
    apply List.eq_replicate_of_mem
    intro y hy
    have := List.any_eq_false.1 hc y hy
    simpa using this
  rw [mix_more s bs k ys h, hz, fold_zeros, steps_zero, steps_zero, BitVec.xor_zero]
theorem mix_ne (s : BitVec 32) (bs : List (BitVec 8)) (k : Nat) (ys : List (BitVec 8)) (h : k + ys.length ≤ bs.length) (h4 : ys.length ≤ 4) (hc : ch ys = true) : more s (mix bs k ys) ≠ more s bs := by
  rw [mix_more s bs k ys h]
  intro e
  have h0 : fold 0#32 ys ≠ 0#32 := fun h0 => by
    obtain ⟨y, hy, hne⟩ := List.any_eq_true.1 hc
    have := fold_some ys h4 h0 y hy
    simp [this] at hne
  have h1 := steps_ne (8 * (bs.length - k - ys.length)) h0
  apply h1
  have h2 := congrArg (fun x => more s bs ^^^ x) e
  simp only [← BitVec.xor_assoc, BitVec.xor_self, BitVec.zero_xor] at h2
  exact h2
theorem u8_xor (a b : BitVec 8) : bits .xor .u8 (a.toNat : Int) (b.toNat : Int) = ((a ^^^ b).toNat : Int) := by
  show IntKind.u8.wrap ((BitVec.ofInt 8 (a.toNat : Int) ^^^ BitVec.ofInt 8 (b.toNat : Int)).toNat : Int) = _
  rw [BitVec.ofInt_natCast, BitVec.ofInt_natCast, BitVec.ofNat_toNat, BitVec.ofNat_toNat, BitVec.setWidth_eq, BitVec.setWidth_eq]
  generalize a ^^^ b = c
  have := c.isLt
  simp [IntKind.wrap, IntKind.signed, IntKind.bits]; omega
theorem by8_set (bs : List (BitVec 8)) (i : Nat) (x : BitVec 8) : (by8 bs).set i (x.toNat : Int) = by8 (bs.set i x) := by
  rw [by8, by8, List.map_set]
end Go.Proofs.Ytjagnodfdniccaa.C
