/-
  ashlarref00.Left: what was handed in is as it was, the room behind it, too.
-/
import Derived.Test.YtdchcggllcgokaaDoorWide
namespace Go.Proofs.YtdchcggllcgokaaDoor.S
open Go.RowKit Go.Proofs.YtdchcggllcgokaaDoor.L Go.Proofs.YtdchcggllcgokaaDoorW.PrintWords
set_option linter.unusedVariables false

theorem wid_length (xs : List Int) : (wid xs).length = xs.length + 3 := by simp [wid]
theorem wid_front (xs : List Int) (q : Nat) (h : q < xs.length) : rd (wid xs) (q : Int) = rd xs q := by
  simp [rd, wid, List.getD_eq_getElem?_getD, List.getElem?_append_left h]
theorem wid_back (xs : List Int) (q : Nat) (h : q < 3) : rd (wid xs) ((xs.length + q : Nat) : Int) = 7 := by
  rw [rd, wid, Int.toNat_natCast, List.getD_eq_getElem?_getD, List.getElem?_append_right (by omega), Nat.add_sub_cancel_left]
  have : q = 0 ∨ q = 1 ∨ q = 2 := by omega
  rcases this with rfl | rfl | rfl <;> rfl
/-- What Wide made reads as what it was made of. -/
theorem wid_reads {w : World} {g : Nat} {xs : List Int} (h : ReadsInt w .u8 (some ⟨g, 0, none⟩) (xs.length + 3) (wid xs)) : ReadsInt w .u8 (some ⟨g, 0, none⟩) xs.length xs := by
  refine ⟨rfl, by have := h.2.1; omega, fun hp => ⟨_, rfl, fun j hj => ?_⟩⟩
  obtain ⟨ad, e, hc⟩ := h.2.2 (by omega)
  injection e with e; subst e
  rw [hc j (by omega)]
  have := wid_front xs j hj
  simp only [rd, Int.toNat_natCast] at this
  rw [this]

end Go.Proofs.YtdchcggllcgokaaDoor.S
