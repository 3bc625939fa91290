/-
  ashlarlaw01.lives; the results of chapter 01 as rows that are read.
-/
import Derived.Test.YtdchcggllcgokaaDoorNumM
namespace Go.Proofs.YtdchcggllcgokaaDoor.U
open Go.RowKit Go.Proofs.YtdchcggllcgokaaDoor.L Go.Proofs.YtdchcggllcgokaaDoorW.PrintWords
set_option linter.unusedVariables false
set_option linter.unusedSimpArgs false

theorem lit_reads (W : World) (xs : List Int) (hm : xs.length ≤ 9223372036854775807) : ReadsInt (W.alloc (.cells (nums .u8 xs).toArray 5)) .u8 (some ⟨W.heap.size, 0, none⟩) xs.length xs :=
  own_reads' (own_lit W W.heap.size 5 .u8 xs (Nat.le_refl _) hm)
theorem over_lit {w w1 : World} {o : Obj} (h : Below (w.alloc o).heap.size (w.alloc o) w1) : Below w.heap.size w w1 := below_1 h
theorem at_lit {w : World} {o : Obj} {k : IntKind} {A : Option Addr} {n : Nat} {xs : List Int} (h : ReadsInt w k A n xs) : ReadsInt (w.alloc o) k A n xs := h.below (below_alloc (Below.refl _ _) _)
theorem lives_put (w : World) : Calls Tryd.prog 19 #[.int .u64 258, .int .i64 2] w fun e w' => ∃ g, e = .returned (.tuple #[.slice (some ⟨g, 0, none⟩) 2 2, .int .i64 0]) ∧ ReadsInt w' .u8 (some ⟨g, 0, none⟩) 2 [2, 1] ∧ Below w.heap.size w w' := by
  refine (Put_ok 258 (by decide) 2 (by decide) (by decide) (by decide) w).mono ?_
  rintro e w' ⟨g, rfl, ho, hb⟩
  exact ⟨g, rfl, own_reads' ho, hb⟩
end Go.Proofs.YtdchcggllcgokaaDoor.U
