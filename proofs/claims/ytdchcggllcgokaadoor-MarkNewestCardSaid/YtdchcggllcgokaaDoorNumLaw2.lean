/-
  ashlarlaw01.NumRow: the walk.
-/
import Derived.Test.YtdchcggllcgokaaDoorNumLaw1
namespace Go.Proofs.YtdchcggllcgokaaDoor.U
open Go.RowKit Go.Proofs.YtdchcggllcgokaaDoor.L Go.Proofs.YtdchcggllcgokaaDoorW.PrintWords
set_option linter.unusedVariables false
set_option linter.unusedSimpArgs false

theorem Byts.lower {b b' : Nat} {W : World} {A : Option Addr} {c : Nat} {ys : List Int} (h : Byts b W A c ys) (hb : b' ≤ b) : Byts b' W A c ys := own_lower h hb
theorem copy_b (A : Option Addr) (c : Nat) (xs : List Int) (w : World) (hx : ReadsInt w .u8 A xs.length xs) (hn : xs.length ≤ 140737488355328) :
    Calls Tryd.prog 30 #[.slice A xs.length c] w fun e w' => (∃ A c, e = .returned (.slice A xs.length c) ∧ Byts w.heap.size w' A c xs) ∧ Below w.heap.size w w' := by
  refine (S.Copy_any A c xs w hx hn).mono ?_
  rintro e w' ⟨v, rfl, ho, hb⟩
  obtain ⟨A, c, rfl, h⟩ := byts_of ho rfl
  exact ⟨⟨A, c, rfl, h⟩, hb⟩
theorem bits_ok {xs : List Int} {s : Nat} (h1 : 1 ≤ s) (h2 : s ≤ 8) (h : ∀ i, i < xs.length → val xs i < 2 ^ s) : bitss xs s = (V.bytes (V.part (val xs) s xs.length) ((xs.length * s + 7) / 8), 0) := by
  rw [bitss, if_neg]
  · simp
  · rintro (h3 | h3 | ⟨i, hi, h4⟩)
    · omega
    · omega
    · have := h i hi; rw [Int.toNat_natCast] at h4; omega

end Go.Proofs.YtdchcggllcgokaaDoor.U
