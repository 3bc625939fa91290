/-
  roster.May whole; ashlarref08.Fine: the walks.
-/
import Derived.Test.YtdchcggllcgokaaRos2
namespace Go.Proofs.Ytdchcggllcgokaa.Q
open Go.RowKit Go.Proofs.Ytdchcggllcgokaa.L Go.Proofs.Ytdchcggllcgokaa.R Go.Proofs.YtdchcggllcgokaaW.PrintWords
set_option linter.unusedVariables false
set_option linter.unusedSimpArgs false
/-- may a roster be? -/
def okR (x : Ro) : Prop := mayG x.m x.s x.r = true ∧ 0 ≤ x.cu ∧ x.cu < x.s ∧ (∀ i, i < 16 → (rd x.st (i : Nat) ≤ 2 ∧ (x.m ≤ (i : Int) → rd x.st (i : Nat) = 0))) ∧ (cnt x.st 2 16 = 1 ∨ (cnt x.st 2 16 = 0 ∧ x.cu = 0))
noncomputable def mayR (x : Ro) : Bool := @decide (okR x) (Classical.propDecidable _)
theorem mayR_iff (x : Ro) : mayR x = true ↔ okR x := by
  unfold mayR
  exact @decide_eq_true_iff (okR x) (Classical.propDecidable _)
theorem bool_no {z : Bool} {p : Prop} (h : z = true ↔ p) (hn : ¬ p) : z = false := by
  cases z with
  | false => rfl
  | true => exact absurd (h.1 rfl) hn
def Wf (x : Ro) : Prop := x.st.length = 16 ∧ ∀ v ∈ x.st, (Lit.int .u8 v).wf = true
theorem rd_nn {x : Ro} (h : Wf x) (i : Nat) : 0 ≤ rd x.st (i : Int) ∧ rd x.st (i : Int) < 256 := by
  by_cases hi : i < x.st.length
  · have h2 := h.2 x.st[i] (List.getElem_mem hi)
    have h3 := bounds_u8 h2
    have h4 : rd x.st (i : Int) = x.st[i] := by rw [rd, Int.toNat_natCast, List.getD_eq_getElem?_getD, List.getElem?_eq_getElem hi, Option.getD_some]
    rw [h4]; omega
  · have h4 : rd x.st (i : Int) = 0 := by rw [rd, Int.toNat_natCast, List.getD_eq_getElem?_getD, List.getElem?_eq_none (by omega), Option.getD_none]
    rw [h4]; omega
/-- counts of the three states make all just if each is one of them -/
theorem cnt_all {x : Ro} (h : Wf x) : ∀ q, cnt x.st 0 q + cnt x.st 1 q + cnt x.st 2 q ≤ q ∧ (cnt x.st 0 q + cnt x.st 1 q + cnt x.st 2 q = q ↔ ∀ i, i < q → rd x.st (i : Nat) ≤ 2)
  | 0 => by simp [cnt_0]
  | q + 1 => by
    obtain ⟨h1, h2⟩ := cnt_all h q
    have hb := rd_nn h q
    rw [cnt_succ, cnt_succ, cnt_succ]
    have h3 : (∀ i, i < q + 1 → rd x.st (i : Nat) ≤ 2) ↔ ((∀ i, i < q → rd x.st (i : Nat) ≤ 2) ∧ rd x.st (q : Nat) ≤ 2) := by
      constructor
      · intro h; exact ⟨fun i hi => h i (by omega), h q (by omega)⟩
      · rintro ⟨h, h5⟩ i hi
        rcases Nat.lt_or_ge i q with h6 | h6
        · exact h i h6
        · obtain rfl : i = q := by omega
          exact h5
    rw [h3]
    by_cases e0 : rd x.st (q : Int) = 0
    · rw [if_pos e0, if_neg (by omega), if_neg (by omega)]
      exact ⟨by omega, ⟨fun h => ⟨h2.1 (by omega), by omega⟩, fun h => by have := h2.2 h.1; omega⟩⟩
    · by_cases e1 : rd x.st (q : Int) = 1
      · rw [if_neg e0, if_pos e1, if_neg (by omega)]
        exact ⟨by omega, ⟨fun h => ⟨h2.1 (by omega), by omega⟩, fun h => by have := h2.2 h.1; omega⟩⟩
      · by_cases e2 : rd x.st (q : Int) = 2
        · rw [if_neg e0, if_neg e1, if_pos e2]
          exact ⟨by omega, ⟨fun h => ⟨h2.1 (by omega), by omega⟩, fun h => by have := h2.2 h.1; omega⟩⟩
        · rw [if_neg e0, if_neg e1, if_neg e2]
          exact ⟨by omega, ⟨fun h => by omega, fun h => by omega⟩⟩
theorem May_any (x : Ro) (hx : Wf x) (w : World) : Calls Try.prog 89 #[ros x] w fun e w' => e = .returned (.bool (mayR x)) ∧ Below w.heap.size w w' := by
  have hl := hx.1
  have pg := fun w => gMay_any x.m x.s x.r w
  have q0 := fun w => count_any x hl 0 w
  have q1 := fun w => count_any x hl 1 w
  have q2 := fun w => count_any x hl 2 w
  have hall := cnt_all hx 16
  have hr := mayR_iff x
  have b0 := cnt_le x.st 0 16
  have b1 := cnt_le x.st 1 16
  have b2 := cnt_le x.st 2 16
  unfold okR at hr
  generalize mayR x = z at hr ⊢
  obtain ⟨m, s, r, st, cu, go⟩ := x
  simp only at *
  by_cases hG : mayG m s r = true
  · obtain ⟨m1, m2, s1, s2, r1, r2⟩ := mayG_ok hG
    rw [hG] at pg
    obtain ⟨k, rfl⟩ : ∃ k : Nat, m = k := ⟨m.toNat, by omega⟩
    by_cases h1 : cu < 0
    · obtain rfl := bool_no hr (by intro h; have := h.2.1; omega)
      exact May_B (k : Int) s r st cu go (Lib.hid hl) h1 (Lib.hid pg) w
    by_cases h2 : s ≤ cu
    · obtain rfl := bool_no hr (by intro h; have := h.2.2.1; omega)
      exact May_C (k : Int) s r st cu go (Lib.hid hl) (by omega) h2 (Lib.hid pg) w
    by_cases hz : ∀ j : Nat, j < 16 - k → rd (st.drop k) (j : Int) = 0
    · have hz2 : ∀ i : Nat, i < 16 → ((k : Int) ≤ (i : Int) → rd st (i : Int) = 0) := fun i hi hk => by
        have h3 := hz (i - k) (by omega)
        rw [rd_drop, show k + (i - k) = i by omega] at h3
        exact h3
      generalize cnt st 0 16 = c0 at *
      generalize cnt st 1 16 = c1 at *
      generalize cnt st 2 16 = h at *
      by_cases h16 : c0 + c1 + h = 16
      · have hle := hall.2.1 h16
        have hr2 : z = true ↔ (h = 1 ∨ (h = 0 ∧ cu = 0)) := hr.trans ⟨fun h => h.2.2.2.2, fun h => ⟨hG, by omega, by omega, fun i hi => ⟨hle i hi, hz2 i hi⟩, h⟩⟩
        by_cases hh1 : h = 1
        · obtain rfl : z = true := hr2.2 (.inl hh1)
          exact May_E2 k c0 c1 h s r st cu go (Lib.hid hl) (by omega) (by omega) b0 b1 b2 (by omega) (by omega) (Lib.hid hz) h16 hh1 (Lib.hid pg) (Lib.hid q2) (Lib.hid q0) (Lib.hid q1) w
        by_cases hh0 : h = 0
        · have hzz : (cu == 0) = z := by rw [Bool.eq_iff_iff, hr2, beq_iff_eq]; exact ⟨fun h => .inr ⟨hh0, h⟩, fun h => by rcases h with h | h; exact absurd h hh1; exact h.2⟩
          exact May_E4 k c0 c1 h s r st cu go (Lib.hid hl) (by omega) (by omega) b0 b1 b2 (by omega) (by omega) (Lib.hid hz) h16 hh0 z hzz (Lib.hid pg) (Lib.hid q2) (Lib.hid q0) (Lib.hid q1) w
        · obtain rfl := bool_no hr2 (by omega)
          exact May_E3 k c0 c1 h s r st cu go (Lib.hid hl) (by omega) (by omega) b0 b1 b2 (by omega) (by omega) (Lib.hid hz) h16 (by omega) (Lib.hid pg) (Lib.hid q2) (Lib.hid q0) (Lib.hid q1) w
      · obtain rfl := bool_no hr (fun h => h16 (hall.2.2 fun i hi => (h.2.2.2.1 i hi).1))
        exact May_E1 k c0 c1 h s r st cu go (Lib.hid hl) (by omega) (by omega) b0 b1 b2 (by omega) (by omega) (Lib.hid hz) h16 (Lib.hid pg) (Lib.hid q2) (Lib.hid q0) (Lib.hid q1) w
    · obtain rfl := bool_no hr (by
        intro h
        exact hz fun j hj => by rw [rd_drop]; exact (h.2.2.2.1 (k + j) (by omega)).2 (by omega))
      exact May_D k s r st cu go (Lib.hid hl) (by omega) (by omega) (by omega) (by omega) (Lib.hid hz) (Lib.hid pg) w
  · have hG' : mayG m s r = false := by simpa using hG
    rw [hG'] at pg
    obtain rfl := bool_no hr (fun h => hG h.1)
    exact May_A m s r st cu go (Lib.hid hl) (Lib.hid pg) w
end Go.Proofs.Ytdchcggllcgokaa.Q
