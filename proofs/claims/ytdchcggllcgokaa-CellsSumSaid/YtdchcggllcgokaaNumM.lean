/-
  Chapter 01: what is put is got; plain laws.
-/
import Derived.Test.YtdchcggllcgokaaNumS
namespace Go.Proofs.Ytdchcggllcgokaa.U
open Go.RowKit Go.Proofs.Ytdchcggllcgokaa.L Go.Proofs.YtdchcggllcgokaaW.PrintWords
set_option linter.unusedVariables false
set_option linter.unusedSimpArgs false

theorem vle_congr {f g : Nat → Nat} {k : Nat} (h : ∀ i, i < k → f i = g i) : vle f k = vle g k := by
  induction k with
  | zero => rfl
  | succ k ih => rw [vle, vle, ih (fun i hi => h i (by omega)), h k (by omega)]
theorem vle_byt (n k : Nat) : vle (byt n) k = n % 256 ^ k := by
  induction k with
  | zero => simp [vle, Nat.mod_one]
  | succ k ih => rw [vle, ih, byt, Nat.pow_succ, Nat.mod_mul, Nat.mul_comm (256 ^ k) (n / 256 ^ k % 256)]
theorem rd_append_left {xs ys : List Int} {i : Nat} (h : i < xs.length) : rd (xs ++ ys) (i : Int) = rd xs (i : Int) := by
  simp [rd, List.getD_eq_getElem?_getD, List.getElem?_append_left h]
theorem rd_append_right {xs ys : List Int} {i : Nat} : rd (xs ++ ys) ((xs.length + i : Nat) : Int) = rd ys (i : Int) := by
  rw [rd, rd, Int.toNat_natCast, Int.toNat_natCast, List.getD_eq_getElem?_getD, List.getElem?_append_right (by omega), Nat.add_sub_cancel_left, List.getD_eq_getElem?_getD]
theorem rd_putb (n s i : Nat) (h : i < s) : rd (putb n s) (i : Int) = (byt n i : Int) := by
  simp [rd, putb, List.getD_eq_getElem?_getD, List.getElem?_map, List.getElem?_range h]
/-- what is put is got, wherever it stands -/
theorem get_put (n s : Nat) (h : n < 256 ^ s) (xs ys : List Int) : vle (bat (xs ++ (putb n s ++ ys)) xs.length) s = n := by
  rw [vle_congr (g := byt n) (fun i hi => by
    rw [bat, rd_append_right, rd_append_left (by rw [putb_length]; exact hi), rd_putb _ _ _ hi]; rfl), vle_byt, Nat.mod_eq_of_lt h]
theorem putb_inj {n m s : Nat} (hn : n < 256 ^ s) (hm : m < 256 ^ s) (h : putb n s = putb m s) : n = m := by
  have h1 := get_put n s hn [] []
  have h2 := get_put m s hm [] []
  rw [h] at h1
  exact h1.symm.trans h2
theorem putb_eq {n m s : Nat} (hn : n < 256 ^ s) (hm : m < 256 ^ s) : decide (putb n s = putb m s) = decide ((n : Int) = (m : Int)) := by
  by_cases h : n = m
  · subst h; simp
  · have h1 : ¬ putb n s = putb m s := fun e => h (putb_inj hn hm e)
    have h2 : ¬ (n : Int) = (m : Int) := by omega
    rw [decide_eq_false h1, decide_eq_false h2]
theorem puts_wf (n : Nat) (s : Int) : ∀ x ∈ (puts n s).1, (Lit.int .u8 x).wf = true := by
  have key : ∀ k, ∀ x ∈ putb n k, (Lit.int .u8 x).wf = true := fun k x hx => by
    simp only [putb, List.mem_map, List.mem_range] at hx
    obtain ⟨i, hi, rfl⟩ := hx
    have h : byt n i < 256 := Nat.mod_lt _ (by decide)
    exact WalkArith.wf_u8 (by omega)
  rw [puts]
  split
  · intro x hx; cases hx
  · exact key _
theorem wf_append {k : IntKind} {xs ys : List Int} (h1 : ∀ x ∈ xs, (Lit.int k x).wf = true) (h2 : ∀ x ∈ ys, (Lit.int k x).wf = true) : ∀ x ∈ xs ++ ys, (Lit.int k x).wf = true := fun x hx => by
  rcases List.mem_append.1 hx with h | h
  · exact h1 x h
  · exact h2 x h
theorem bytes_wf (f : Nat → Bool) (m : Nat) : ∀ x ∈ V.bytes f m, (Lit.int .u8 x).wf = true := fun x hx => by
  simp only [V.bytes, List.mem_map, List.mem_range] at hx
  obtain ⟨i, hi, rfl⟩ := hx
  have := V.byt8_lt f i
  exact WalkArith.wf_u8 (by omega)
theorem bitss_wf (xs : List Int) (s : Int) : ∀ x ∈ (bitss xs s).1, (Lit.int .u8 x).wf = true := by
  rw [bitss]
  split
  · intro x hx; cases hx
  · exact bytes_wf _ _
theorem items_wf (v : Nat → Nat) (s m : Nat) (hs : s ≤ 8) : ∀ x ∈ items v s m, (Lit.int .u8 x).wf = true := fun x hx => by
  simp only [items, List.mem_map, List.mem_range] at hx
  obtain ⟨i, hi, rfl⟩ := hx
  have := item_lt8 v s i hs
  exact WalkArith.wf_u8 (by omega)
theorem val_append {xs ys : List Int} {i : Nat} (h : i < xs.length) : val (xs ++ ys) i = val xs i := by rw [val, val, rd_append_left h]
theorem val_bytes (f : Nat → Bool) (m j : Nat) (h : j < m) : val (V.bytes f m) j = V.byt8 f j := by rw [val, bytes_rd _ _ _ h]; rfl
/-- numbers that were laid are read, whatever stands behind them -/
theorem unb_bits {xs ys : List Int} {s : Nat} (hw : ∀ x ∈ xs, (Lit.int .u8 x).wf = true) (h1 : 1 ≤ s) (h2 : s ≤ 8) (hl : xs.length ≤ 1048576) (h : ∀ i, i < xs.length → val xs i < 2 ^ s) :
    unbs (V.bytes (V.part (val xs) s xs.length) ((xs.length * s + 7) / 8) ++ ys) s xs.length = (xs, 0) := by
  obtain ⟨m, hm⟩ : ∃ m, m = (xs.length * s + 7) / 8 := ⟨_, rfl⟩
  rw [← hm, unbs_ok h1 h2 hl (by rw [List.length_append, V.bytes_length]; omega)]
  have e : items (val (V.bytes (V.part (val xs) s xs.length) m ++ ys)) s xs.length = xs := by
    apply List.ext_getElem
    · rw [items_length]
    · intro i g1 g2
      have e1 := item_bytes (val xs) (val (V.bytes (V.part (val xs) s xs.length) m ++ ys)) s xs.length m i (by omega) h (by omega) (fun j hj => by
        rw [val_append (by rw [V.bytes_length]; exact hj), val_bytes _ _ _ hj]) g2
      have e2 := (val_rd hw i).1
      simp only [items, List.getElem_map, List.getElem_range]
      rw [e1, ← e2]
      simp [rd, List.getD_eq_getElem?_getD, List.getElem?_eq_getElem g2]
  rw [e]
theorem unb_more {xs : List Int} {s : Nat} (h1 : 1 ≤ s) (h2 : s ≤ 8) (hl : xs.length ≤ 1048568) :
    unbs (V.bytes (V.part (val xs) s xs.length) ((xs.length * s + 7) / 8)) s ((xs.length : Int) + 8) = ([], 4) := by
  have := unbs_short (xs := V.bytes (V.part (val xs) s xs.length) ((xs.length * s + 7) / 8)) (s := s) (m := xs.length + 8) h1 h2 (by omega) (by
    rw [V.bytes_length, Nat.add_mul]; omega)
  rwa [show ((xs.length + 8 : Nat) : Int) = (xs.length : Int) + 8 by omega] at this
end Go.Proofs.Ytdchcggllcgokaa.U
