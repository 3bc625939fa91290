/-
  What the bound of an ..UptoSaid gives: the length of a slice.
-/
import Derived.Test.YtdchcggllcgokaaRows
import Derived.ChangeSlices
namespace Go.Proofs.Ytdchcggllcgokaa.K
theorem one_le {H : Type} (d : DataW H) : 1 ≤ Rows.uptoBulk d := by
  cases d with
  | lit l => cases l <;> simp [Rows.uptoBulk]
  | nil => simp [Rows.uptoBulk]
  | ptr d => simp [Rows.uptoBulk]
  | slice elems spare => simp [Rows.uptoBulk]
  | agg parts => simp [Rows.uptoBulk]
  | iface t d => simp [Rows.uptoBulk]
  | map entries => simp [Rows.uptoBulk]
  | held h => simp [Rows.uptoBulk]
theorem length_le {H : Type} (l : List (DataW H)) : l.length ≤ Rows.uptoBulkAll l := by
  induction l with
  | nil => simp [Rows.uptoBulkAll]
  | cons x r ih => have := one_le x; simp only [Rows.uptoBulkAll, List.length_cons]; omega
theorem slice_len {H : Type} {k : IntKind} {zs : List Int} {n : Nat} (h : n ≤ zs.length) : n ≤ Rows.uptoBulk (.slice (ChangeShapes.lits (H := H) k (zs.take n)) (ChangeShapes.lits k (zs.drop n))) := by
  have h1 := length_le (ChangeShapes.lits (H := H) k (zs.take n))
  simp only [Rows.uptoBulk]
  simp only [ChangeShapes.lits, List.length_map, List.length_take] at h1 ⊢
  omega
theorem small {H : Type} {l : List (DataW H)} (h : Rows.uptoSmall H l = true) : Rows.uptoBulkAll l ≤ 1048576 := of_decide_eq_true h
end Go.Proofs.Ytdchcggllcgokaa.K
