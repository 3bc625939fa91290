/-
  Has, Gone, New, Lose, Begin, State, Next whole, of roster and of ashlarref10.
-/
import Derived.Test.YtdchcggllcgokaaRos15
namespace Go.Proofs.Ytdchcggllcgokaa.Q
open Go.RowKit Go.Proofs.Ytdchcggllcgokaa.L Go.Proofs.Ytdchcggllcgokaa.R Go.Proofs.YtdchcggllcgokaaW.PrintWords
set_option linter.unusedVariables false
set_option linter.unusedSimpArgs false
theorem may_m {x : Ro} (h : mayR x = true) : 3 ≤ x.m ∧ x.m ≤ 16 ∧ 1 ≤ x.s ∧ x.s ≤ 64 ∧ 0 ≤ x.cu ∧ x.cu < x.s := by
  have h1 := (mayR_iff x).1 h
  have h2 := mayG_ok h1.1
  exact ⟨h2.1, h2.2.1, h2.2.2.1, h2.2.2.2.1, h1.2.1, h1.2.2.1⟩
theorem memR_no {x : Ro} {i : Int} (h : mayR x = false) : memR x i = false := by rw [memR, h]; rfl
theorem memR_is {x : Ro} (h : mayR x = true) (i : Int) : memR x i = isM x i := by rw [memR, h]; rfl
theorem memR_nat {x : Ro} {i : Int} (h : memR x i = true) : ∃ k : Nat, i = k ∧ k < 16 ∧ (k : Int) < x.m ∧ mayR x = true := by
  rw [memR, Bool.and_eq_true, decide_eq_true_eq] at h
  obtain ⟨h1, h2, h3⟩ := h
  have h4 := may_m h1
  exact ⟨i.toNat, by omega, by omega, by omega, h1⟩
theorem rd_set {l : List Int} {i : Nat} (hi : i < l.length) (v : Int) (j : Nat) : rd (l.set i v) (j : Int) = if j = i then v else rd l (j : Int) := by
  rw [rd, rd, Int.toNat_natCast, List.getD_eq_getElem?_getD, List.getD_eq_getElem?_getD]
  by_cases h : j = i
  · subst h; rw [if_pos rfl, List.getElem?_set_self hi]; rfl
  · rw [if_neg h, List.getElem?_set_ne (by omega)]
theorem set_rd {l : List Int} {i : Nat} (hi : i < l.length) {v : Int} (h : rd l (i : Int) = v) : l.set i v = l := by
  rw [rd, Int.toNat_natCast, List.getD_eq_getElem?_getD, List.getElem?_eq_getElem hi, Option.getD_some] at h
  subst h
  exact List.set_getElem_self _
theorem Wf.set {x : Ro} (h : Wf x) (i : Nat) {v : Int} (hv : (Lit.int .u8 v).wf = true) (cu : Int) (go : Bool) : Wf { x with st := x.st.set i v, cu := cu, go := go } := by
  refine ⟨by rw [List.length_set]; exact h.1, fun u hu => ?_⟩
  rcases List.mem_or_eq_of_mem_set hu with h1 | h1
  · exact h.2 u h1
  · subst h1; exact hv
theorem Wf_ro0 : Wf ro0 := ⟨zero16_length, fun v hv => by
  rw [List.eq_of_mem_replicate hv]; rfl⟩
theorem Wf_rog (m s r : Int) : Wf { ro0 with m := m, s := s, r := r } := ⟨zero16_length, fun v hv => by
  rw [List.eq_of_mem_replicate hv]; rfl⟩
noncomputable def hasR (x : Ro) (i j : Int) : Bool := memR x i && (decide (0 ≤ j ∧ j < x.s) && (rd x.st i == 0 || (rd x.st i == 2 && decide (j < x.cu))))
theorem Has_any (x : Ro) (hx : Wf x) (i j : Int) (w : World) : Calls Try.prog 70 #[ros x, .int .i64 i, .int .i64 j] w fun e w' => e = .returned (.bool (hasR x i j)) ∧ Below w.heap.size w w' := by
  have p := fun w => member_any x hx i w
  have hl := Lib.hid hx.1
  cases hm : memR x i with
  | false =>
    rw [hm] at p
    rw [hasR, hm, Bool.false_and]
    exact Has_A x hl i j (Lib.hid p) w
  | true =>
    rw [hm] at p
    rw [hasR, hm, Bool.true_and]
    by_cases h1 : j < 0
    · rw [decide_eq_false (by omega), Bool.false_and]
      exact Has_B x hl i j h1 (Lib.hid p) w
    by_cases h2 : x.s ≤ j
    · rw [decide_eq_false (by omega), Bool.false_and]
      exact Has_C x hl i j (by omega) h2 (Lib.hid p) w
    rw [decide_eq_true (show 0 ≤ j ∧ j < x.s by omega), Bool.true_and]
    obtain ⟨k, rfl, hk, -, -⟩ := memR_nat hm
    cases h3 : (rd x.st (k : Int) == 0) with
    | true => exact Has_D x hl k j hk (by omega) (by omega) h3 (Lib.hid p) w
    | false =>
      cases h4 : (rd x.st (k : Int) == 2) with
      | true => exact Has_E x hl k j hk (by omega) (by omega) h3 h4 _ rfl (Lib.hid p) w
      | false => exact Has_F x hl k j hk (by omega) (by omega) h3 h4 (Lib.hid p) w
theorem rHas_any (x : Ro) (hx : Wf x) (i j : Int) (w : World) : Calls Try.prog 91 #[ros x, .int .i64 i, .int .i64 j] w fun e w' => e = .returned (.bool (hasR x i j)) ∧ Below w.heap.size w w' := by
  have y := fun w => rMay_any x hx w
  have p := fun w => rmember_any x hx.1 i w
  have hl := Lib.hid hx.1
  cases hy : mayR x with
  | false =>
    rw [hy] at y
    rw [hasR, memR_no hy, Bool.false_and]
    exact rHas_A x hl i j (Lib.hid y) w
  | true =>
  rw [hy] at y
  rw [← memR_is hy] at p
  cases hm : memR x i with
  | false =>
    rw [hm] at p
    rw [hasR, hm, Bool.false_and]
    exact rHas_B x hl i j (Lib.hid y) (Lib.hid p) w
  | true =>
    rw [hm] at p
    rw [hasR, hm, Bool.true_and]
    by_cases h1 : j < 0
    · rw [decide_eq_false (by omega), Bool.false_and]
      exact rHas_C x hl i j h1 (Lib.hid y) (Lib.hid p) w
    by_cases h2 : x.s ≤ j
    · rw [decide_eq_false (by omega), Bool.false_and]
      exact rHas_D x hl i j (by omega) h2 (Lib.hid y) (Lib.hid p) w
    rw [decide_eq_true (show 0 ≤ j ∧ j < x.s by omega), Bool.true_and]
    obtain ⟨k, rfl, hk, -, -⟩ := memR_nat hm
    cases h3 : (rd x.st (k : Int) == 0) with
    | true => exact rHas_E x hl k j hk (by omega) (by omega) h3 (Lib.hid y) (Lib.hid p) w
    | false =>
      cases h4 : (rd x.st (k : Int) == 2) with
      | true => exact rHas_F x hl k j hk (by omega) (by omega) h3 h4 _ rfl (Lib.hid y) (Lib.hid p) w
      | false => exact rHas_G x hl k j hk (by omega) (by omega) h3 h4 (Lib.hid y) (Lib.hid p) w
noncomputable def goneR (x : Ro) (b : Bool) : Ro × Int := if mayR x = true then ({ x with go := b }, 0) else (ro0, 2)
theorem Gone_any (x : Ro) (hx : Wf x) (b : Bool) (w : World) : Calls Try.prog 100 #[ros x, .bool b] w fun e w' => e = .returned (.tuple #[ros (goneR x b).1, .int .i64 (goneR x b).2]) ∧ Below w.heap.size w w' := by
  have p := fun w => May_any x hx w
  have hl := Lib.hid hx.1
  cases hm : mayR x with
  | false =>
    rw [hm] at p
    rw [goneR, if_neg (by rw [hm]; exact Bool.false_ne_true)]
    exact Gone_A x hl b (Lib.hid p) w
  | true =>
    rw [hm] at p
    rw [goneR, if_pos hm]
    exact Gone_B x hl b (Lib.hid p) w
theorem rGone_any (x : Ro) (hx : Wf x) (b : Bool) (w : World) : Calls Try.prog 101 #[ros x, .bool b] w fun e w' => e = .returned (.tuple #[ros (goneR x b).1, .int .i64 (goneR x b).2]) ∧ Below w.heap.size w w' := by
  have p := fun w => rMay_any x hx w
  have hl := Lib.hid hx.1
  cases hm : mayR x with
  | false =>
    rw [hm] at p
    rw [goneR, if_neg (by rw [hm]; exact Bool.false_ne_true)]
    exact rGone_A x hl b (Lib.hid p) w
  | true =>
    rw [hm] at p
    rw [goneR, if_pos hm]
    exact rGone_B x hl b (Lib.hid p) w
def newR (m s r : Int) : Ro × Int := if mayG m s r = true then ({ ro0 with m := m, s := s, r := r }, 0) else (ro0, 2)
theorem cnt_zero16 : cnt zero16 2 16 = 0 ∧ cnt zero16 0 16 = 16 := by decide
theorem rd_zero16 (i : Nat) : rd zero16 (i : Int) = 0 := by
  rw [rd, zero16, List.getD_eq_getElem?_getD, List.getElem?_replicate]
  split <;> rfl
theorem mayR_new (m s r : Int) : mayR { ro0 with m := m, s := s, r := r } = mayG m s r := by
  rw [Bool.eq_iff_iff, mayR_iff]
  unfold okR
  simp only [ro0]
  constructor
  · exact fun h => h.1
  · intro h
    have h1 := mayG_ok h
    exact ⟨h, Int.le_refl _, by omega, fun i _ => by rw [rd_zero16]; exact ⟨by decide, fun _ => rfl⟩, .inr ⟨cnt_zero16.1, trivial⟩⟩
theorem New_any (m s r : Int) (w : World) : Calls Try.prog 65 #[geo m s r] w fun e w' => e = .returned (.tuple #[ros (newR m s r).1, .int .i64 (newR m s r).2]) ∧ Below w.heap.size w w' := by
  have p := fun w => gMay_any m s r w
  cases hm : mayG m s r with
  | false =>
    rw [hm] at p
    rw [newR, if_neg (by rw [hm]; exact Bool.false_ne_true)]
    exact New_A m s r (Lib.hid p) w
  | true =>
    rw [hm] at p
    rw [newR, if_pos hm]
    exact New_B m s r (Lib.hid p) w
theorem rNew_any (m s r : Int) (w : World) : Calls Try.prog 88 #[geo m s r] w fun e w' => e = .returned (.tuple #[ros (newR m s r).1, .int .i64 (newR m s r).2]) ∧ Below w.heap.size w w' := by
  have p := fun w => Fine_any { ro0 with m := m, s := s, r := r } (Wf_rog m s r) w
  rw [mayR_new] at p
  cases hm : mayG m s r with
  | false =>
    rw [hm] at p
    rw [newR, if_neg (by rw [hm]; exact Bool.false_ne_true)]
    exact rNew_A m s r (Lib.hid p) w
  | true =>
    rw [hm] at p
    rw [newR, if_pos hm]
    exact rNew_B m s r (Lib.hid p) w
noncomputable def loseR (x : Ro) (i : Int) : Ro × Bool := if memR x i = true then (if rd x.st i = 2 then ({ x with cu := 0, st := x.st.set i.toNat 1 }, true) else ({ x with st := x.st.set i.toNat 1 }, rd x.st i != 1)) else (x, false)
theorem Lose_any (x : Ro) (hx : Wf x) (i : Int) (w : World) : Calls Try.prog 66 #[ros x, .int .i64 i] w fun e w' => e = .returned (.tuple #[ros (loseR x i).1, .bool (loseR x i).2]) ∧ Below w.heap.size w w' := by
  have p := fun w => member_any x hx i w
  have hl := Lib.hid hx.1
  cases hm : memR x i with
  | false =>
    rw [hm] at p
    rw [loseR, if_neg (by rw [hm]; exact Bool.false_ne_true)]
    exact Lose_A x hl i (Lib.hid p) w
  | true =>
    rw [hm] at p
    rw [loseR, if_pos hm]
    obtain ⟨k, rfl, hk, -, -⟩ := memR_nat hm
    rw [Int.toNat_natCast]
    by_cases h2 : rd x.st (k : Int) = 2
    · rw [if_pos h2]
      exact Lose_B x hl k hk h2 (Lib.hid p) w
    · rw [if_neg h2]
      exact Lose_C x hl k hk (by simpa using h2) _ rfl (Lib.hid p) w
theorem rLose_any (x : Ro) (hx : Wf x) (i : Int) (w : World) : Calls Try.prog 97 #[ros x, .int .i64 i] w fun e w' => e = .returned (.tuple #[ros (loseR x i).1, .bool (loseR x i).2]) ∧ Below w.heap.size w w' := by
  have y := fun w => rMay_any x hx w
  have p := fun w => rmember_any x hx.1 i w
  have hl := Lib.hid hx.1
  cases hy : mayR x with
  | false =>
    rw [hy] at y
    rw [loseR, if_neg (by rw [memR_no hy]; exact Bool.false_ne_true)]
    exact rLose_A x hl i (Lib.hid y) w
  | true =>
  rw [hy] at y
  rw [← memR_is hy] at p
  cases hm : memR x i with
  | false =>
    rw [hm] at p
    rw [loseR, if_neg (by rw [hm]; exact Bool.false_ne_true)]
    exact rLose_B x hl i (Lib.hid y) (Lib.hid p) w
  | true =>
    rw [hm] at p
    rw [loseR, if_pos hm]
    obtain ⟨k, rfl, hk, -, -⟩ := memR_nat hm
    rw [Int.toNat_natCast]
    by_cases h2 : rd x.st (k : Int) = 2
    · rw [if_pos h2]
      exact rLose_D x hl k hk (by rw [h2]; rfl) (by simpa using h2) (Lib.hid y) (Lib.hid p) w
    · rw [if_neg h2]
      by_cases h1 : rd x.st (k : Int) = 1
      · rw [set_rd (by rw [hx.1]; exact hk) h1, h1]
        exact rLose_C x hl k hk (by simpa using h1) (Lib.hid y) (Lib.hid p) w
      · rw [show (rd x.st (k : Int) != 1) = true by simpa using h1]
        exact rLose_E x hl k hk (by simpa using h1) (by simpa using h2) (Lib.hid y) (Lib.hid p) w
noncomputable def beginR (x : Ro) (i : Int) : Ro × Int := if memR x i = true then (if rd x.st i = 1 ∧ missR x ≤ 1 ∧ x.go = false then ({ x with st := x.st.set i.toNat 2, cu := 0 }, 0) else (ro0, 17)) else (ro0, 2)
theorem Begin_any (x : Ro) (hx : Wf x) (i : Int) (w : World) : Calls Try.prog 67 #[ros x, .int .i64 i] w fun e w' => e = .returned (.tuple #[ros (beginR x i).1, .int .i64 (beginR x i).2]) ∧ Below w.heap.size w w' := by
  have p := fun w => member_any x hx i w
  have q := fun w => Missing_any x hx w
  have hl := Lib.hid hx.1
  cases hm : memR x i with
  | false =>
    rw [hm] at p
    rw [beginR, if_neg (by rw [hm]; exact Bool.false_ne_true)]
    exact Begin_A x hl i (Lib.hid p) w
  | true =>
    rw [hm] at p
    rw [beginR, if_pos hm]
    obtain ⟨k, rfl, hk, -, -⟩ := memR_nat hm
    rw [Int.toNat_natCast]
    by_cases h1 : rd x.st (k : Int) = 1
    · have h1' : (rd x.st (k : Int) != 1) = false := by simpa using h1
      by_cases h2 : missR x ≤ 1
      · cases hg : x.go with
        | false =>
          rw [if_pos ⟨h1, h2, rfl⟩, ← hg]
          exact Begin_E x hl k hk h1' _ (by omega) hg (Lib.hid p) (Lib.hid q) w
        | true =>
          rw [if_neg (by rintro ⟨-, -, h⟩; exact absurd h (by decide))]
          exact Begin_D x hl k hk h1' _ (by omega) hg (Lib.hid p) (Lib.hid q) w
      · rw [if_neg (by rintro ⟨-, h, -⟩; exact h2 h)]
        exact Begin_C x hl k hk h1' _ (by omega) (Lib.hid p) (Lib.hid q) w
    · rw [if_neg (by rintro ⟨h, -, -⟩; exact h1 h)]
      exact Begin_B x hl k hk (by simpa using h1) (Lib.hid p) w
theorem rBegin_any (x : Ro) (hx : Wf x) (i : Int) (w : World) : Calls Try.prog 98 #[ros x, .int .i64 i] w fun e w' => e = .returned (.tuple #[ros (beginR x i).1, .int .i64 (beginR x i).2]) ∧ Below w.heap.size w w' := by
  have y := fun w => rMay_any x hx w
  have p := fun w => rmember_any x hx.1 i w
  have q := fun w => rMissing_any x hx w
  have hl := Lib.hid hx.1
  cases hy : mayR x with
  | false =>
    rw [hy] at y
    rw [beginR, if_neg (by rw [memR_no hy]; exact Bool.false_ne_true)]
    exact rBegin_A x hl i (Lib.hid y) w
  | true =>
  rw [hy] at y
  rw [← memR_is hy] at p
  cases hm : memR x i with
  | false =>
    rw [hm] at p
    rw [beginR, if_neg (by rw [hm]; exact Bool.false_ne_true)]
    exact rBegin_B x hl i (Lib.hid y) (Lib.hid p) w
  | true =>
    rw [hm] at p
    rw [beginR, if_pos hm]
    obtain ⟨k, rfl, hk, -, -⟩ := memR_nat hm
    rw [Int.toNat_natCast]
    by_cases h1 : rd x.st (k : Int) = 1
    · have h1' : (rd x.st (k : Int) != 1) = false := by simpa using h1
      by_cases h2 : missR x ≤ 1
      · cases hg : x.go with
        | false =>
          rw [if_pos ⟨h1, h2, rfl⟩, ← hg]
          exact rBegin_F x hl k hk h1' _ (by omega) hg (Lib.hid y) (Lib.hid p) (Lib.hid q) w
        | true =>
          rw [if_neg (by rintro ⟨-, -, h⟩; exact absurd h (by decide))]
          exact rBegin_E x hl k hk h1' _ (by omega) hg (Lib.hid y) (Lib.hid p) (Lib.hid q) w
      · rw [if_neg (by rintro ⟨-, h, -⟩; exact h2 h)]
        exact rBegin_D x hl k hk h1' _ (by omega) (Lib.hid y) (Lib.hid p) (Lib.hid q) w
    · rw [if_neg (by rintro ⟨h, -, -⟩; exact h1 h)]
      exact rBegin_C x hl k hk (by simpa using h1) (Lib.hid y) (Lib.hid p) w
end Go.Proofs.Ytdchcggllcgokaa.Q
