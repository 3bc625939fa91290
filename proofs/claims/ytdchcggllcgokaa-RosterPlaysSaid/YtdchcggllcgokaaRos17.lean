/-
  State, Next whole, of roster and of ashlarref10.
-/
import Derived.Test.YtdchcggllcgokaaRos16
namespace Go.Proofs.Ytdchcggllcgokaa.Q
open Go.RowKit Go.Proofs.Ytdchcggllcgokaa.L Go.Proofs.Ytdchcggllcgokaa.R Go.Proofs.YtdchcggllcgokaaW.PrintWords
set_option linter.unusedVariables false
set_option linter.unusedSimpArgs false
/-- none heals just if no state is 2 -/
theorem cnt_none (l : List Int) (v : Int) : ∀ q : Nat, cnt l v q = 0 ↔ ∀ j : Nat, j < q → rd l (j : Int) ≠ v
  | 0 => by simp [cnt_0]
  | q + 1 => by
    have ih := cnt_none l v q
    rw [cnt_succ]
    by_cases h : rd l (q : Int) = v
    · rw [if_pos h]
      exact ⟨fun h1 => by omega, fun h1 => absurd h (h1 q (by omega))⟩
    · rw [if_neg h, Nat.add_zero, ih]
      constructor
      · intro h1 j hj
        rcases Nat.lt_or_ge j q with h2 | h2
        · exact h1 j h2
        · obtain rfl : j = q := by omega
          exact h
      · exact fun h1 j hj => h1 j (by omega)
theorem cnt_eq (l l' : List Int) (v : Int) : ∀ q : Nat, (∀ j : Nat, j < q → (rd l (j : Int) = v ↔ rd l' (j : Int) = v)) → cnt l v q = cnt l' v q
  | 0, _ => by simp [cnt_0]
  | q + 1, h => by
    rw [cnt_succ, cnt_succ, cnt_eq l l' v q fun j hj => h j (by omega)]
    have h1 := h q (by omega)
    by_cases h2 : rd l (q : Int) = v
    · rw [if_pos h2, if_pos (h1.1 h2)]
    · rw [if_neg h2, if_neg fun h3 => h2 (h1.2 h3)]
noncomputable def stateR (x : Ro) : Int := if mayR x = true then (if 1 < missR x then 5 else if missR x = 1 then (if x.go = true then 5 else if cnt x.st 2 16 = 0 then 2 else 3) else (if x.go = true then 4 else if cnt x.st 2 16 = 0 then 1 else 3)) else 0
theorem State_any (x : Ro) (hx : Wf x) (w : World) : Calls Try.prog 94 #[ros x] w fun e w' => e = .returned (.int .i64 (stateR x)) ∧ Below w.heap.size w w' := by
  have y := fun w => May_any x hx w
  have q := fun w => Missing_any x hx w
  obtain ⟨k, b, h, h_, hq⟩ := Heals_same x hx
  clear h_
  have hl := Lib.hid hx.1
  have hn := cnt_none x.st 2 16
  unfold stateR
  cases hy : mayR x with
  | false =>
    rw [hy] at y
    rw [if_neg Bool.false_ne_true]
    exact State_A x hl k _ b (Lib.hid h) (Lib.hid q) (Lib.hid y) w
  | true =>
    rw [hy] at y
    rw [if_pos rfl]
    have hb : (b = false ∧ cnt x.st 2 16 = 0) ∨ (b = true ∧ cnt x.st 2 16 ≠ 0) := by
      rcases hq with ⟨h1, -, -⟩ | ⟨-, -, h1, h2⟩ | ⟨-, h1, z, -, h3, h4, -⟩
      · rw [hy] at h1; exact absurd h1 (by decide)
      · exact .inl ⟨h1, hn.2 h2⟩
      · exact .inr ⟨h1, fun h5 => hn.1 h5 z h3 h4⟩
    clear hq
    by_cases h1 : 1 < missR x
    · rw [if_pos h1]
      exact State_B x hl k _ b (by omega) (Lib.hid h) (Lib.hid q) (Lib.hid y) w
    rw [if_neg h1]
    by_cases h2 : missR x = 1
    · rw [if_pos h2]
      cases hg : x.go with
      | true =>
        rw [if_pos rfl]
        exact State_C x hl k _ b (by omega) hg (Lib.hid h) (Lib.hid q) (Lib.hid y) w
      | false =>
        rw [if_neg Bool.false_ne_true]
        rcases hb with ⟨rfl, h3⟩ | ⟨rfl, h3⟩
        · rw [if_pos h3]; exact State_E x hl k _ (by omega) hg (Lib.hid h) (Lib.hid q) (Lib.hid y) w
        · rw [if_neg h3]; exact State_D x hl k _ (by omega) hg (Lib.hid h) (Lib.hid q) (Lib.hid y) w
    · rw [if_neg h2]
      cases hg : x.go with
      | true =>
        rw [if_pos rfl]
        exact State_F x hl k _ b (by omega) hg (Lib.hid h) (Lib.hid q) (Lib.hid y) w
      | false =>
        rw [if_neg Bool.false_ne_true]
        rcases hb with ⟨rfl, h3⟩ | ⟨rfl, h3⟩
        · rw [if_pos h3]; exact State_H_ x hl k _ (by omega) hg (Lib.hid h) (Lib.hid q) (Lib.hid y) w
        · rw [if_neg h3]; exact State_G x hl k _ (by omega) hg (Lib.hid h) (Lib.hid q) (Lib.hid y) w
theorem rState_any (x : Ro) (hx : Wf x) (w : World) : Calls Try.prog 95 #[ros x] w fun e w' => e = .returned (.int .i64 (stateR x)) ∧ Below w.heap.size w w' := by
  have y := fun w => rMay_any x hx w
  have q := fun w => rMissing_any x hx w
  obtain ⟨k, b, h, h_, hq⟩ := Heals_same x hx
  clear h; have h := h_; clear h_
  have hl := Lib.hid hx.1
  have hn := cnt_none x.st 2 16
  unfold stateR
  cases hy : mayR x with
  | false =>
    rw [hy] at y
    rw [if_neg Bool.false_ne_true]
    exact rState_A x hl (Lib.hid y) w
  | true =>
    rw [hy] at y
    rw [if_pos rfl]
    have hb : (b = false ∧ cnt x.st 2 16 = 0) ∨ (b = true ∧ cnt x.st 2 16 ≠ 0) := by
      rcases hq with ⟨h1, -, -⟩ | ⟨-, -, h1, h2⟩ | ⟨-, h1, z, -, h3, h4, -⟩
      · rw [hy] at h1; exact absurd h1 (by decide)
      · exact .inl ⟨h1, hn.2 h2⟩
      · exact .inr ⟨h1, fun h5 => hn.1 h5 z h3 h4⟩
    clear hq
    by_cases h1 : 1 < missR x
    · rw [if_pos h1]
      exact rState_B x hl k _ b (by omega) (Lib.hid y) (Lib.hid q) (Lib.hid h) w
    rw [if_neg h1]
    by_cases h2 : missR x = 1
    · rw [if_pos h2]
      cases hg : x.go with
      | true =>
        rw [if_pos rfl]
        exact rState_C x hl k _ b (by omega) hg (Lib.hid y) (Lib.hid q) (Lib.hid h) w
      | false =>
        rw [if_neg Bool.false_ne_true]
        rcases hb with ⟨rfl, h3⟩ | ⟨rfl, h3⟩
        · rw [if_pos h3]; exact rState_E x hl k _ (by omega) hg (Lib.hid y) (Lib.hid q) (Lib.hid h) w
        · rw [if_neg h3]; exact rState_D x hl k _ (by omega) hg (Lib.hid y) (Lib.hid q) (Lib.hid h) w
    · rw [if_neg h2]
      cases hg : x.go with
      | true =>
        rw [if_pos rfl]
        exact rState_F x hl k _ b (by omega) hg (Lib.hid y) (Lib.hid q) (Lib.hid h) w
      | false =>
        rw [if_neg Bool.false_ne_true]
        rcases hb with ⟨rfl, h3⟩ | ⟨rfl, h3⟩
        · rw [if_pos h3]; exact rState_H_ x hl k _ (by omega) hg (Lib.hid y) (Lib.hid q) (Lib.hid h) w
        · rw [if_neg h3]; exact rState_G x hl k _ (by omega) hg (Lib.hid y) (Lib.hid q) (Lib.hid h) w
/-- what Next makes -/
def NextP (x y : Ro) (e : Int) : Prop := (mayR x = false ∧ y = ro0 ∧ e = 2) ∨ (mayR x = true ∧ cnt x.st 2 16 = 0 ∧ y = ro0 ∧ e = 17) ∨ (mayR x = true ∧ e = 0 ∧ ∃ k : Nat, k < 16 ∧ rd x.st (k : Int) = 2 ∧ ((x.cu + 1 = x.s ∧ y = { x with st := x.st.set k 0, cu := 0 }) ∨ (x.cu + 1 ≠ x.s ∧ y = { x with cu := x.cu + 1 })))
theorem Next_same (x : Ro) (hx : Wf x) : ∃ (y : Ro) (e : Int), Wf y ∧ (∀ w : World, Calls Try.prog 69 #[ros x] w fun z w' => z = .returned (.tuple #[ros y, .int .i64 e]) ∧ Below w.heap.size w w') ∧ (∀ w : World, Calls Try.prog 99 #[ros x] w fun z w' => z = .returned (.tuple #[ros y, .int .i64 e]) ∧ Below w.heap.size w w') ∧ NextP x y e := by
  have p := fun w => May_any x hx w
  have r := fun w => rMay_any x hx w
  obtain ⟨k, b, h, h_, hq⟩ := Heals_same x hx
  have hl := Lib.hid hx.1
  have hn := cnt_none x.st 2 16
  rcases hq with ⟨h1, rfl, rfl⟩ | ⟨h1, rfl, rfl, h2⟩ | ⟨h1, rfl, z, rfl, h3, h4, h5⟩
  · rw [h1] at p r
    exact ⟨ro0, 2, Wf_ro0, fun w => Next_A x hl 0 false (Lib.hid p) (Lib.hid h) w, fun w => rNext_A x hl (Lib.hid r) w, .inl ⟨h1, rfl, rfl⟩⟩
  · rw [h1] at p r
    exact ⟨ro0, 17, Wf_ro0, fun w => Next_B x hl 0 (Lib.hid p) (Lib.hid h) w, fun w => rNext_B x hl 0 (Lib.hid r) (Lib.hid h_) w, .inr (.inl ⟨h1, hn.2 h2, rfl, rfl⟩)⟩
  · rw [h1] at p r
    have hmm := may_m h1
    by_cases he : x.cu + 1 = x.s
    · have g : (x.cu + 1 == x.s) = true := by simpa using he
      exact ⟨_, 0, hx.set z (v := 0) rfl 0 x.go, fun w => Next_C x hl z h3 (by omega) (by omega) g (Lib.hid p) (Lib.hid h) w, fun w => rNext_C x hl z h3 (by omega) (by omega) g (Lib.hid r) (Lib.hid h_) w, .inr (.inr ⟨h1, rfl, z, h3, h4, .inl ⟨he, rfl⟩⟩)⟩
    · have g : (x.cu + 1 == x.s) = false := by simpa using he
      exact ⟨{ x with cu := x.cu + 1 }, 0, ⟨hx.1, hx.2⟩, fun w => Next_D x hl z h3 (by omega) (by omega) g (Lib.hid p) (Lib.hid h) w, fun w => rNext_D x hl z h3 (by omega) (by omega) g (Lib.hid r) (Lib.hid h_) w, .inr (.inr ⟨h1, rfl, z, h3, h4, .inr ⟨he, rfl⟩⟩)⟩
end Go.Proofs.Ytdchcggllcgokaa.Q
