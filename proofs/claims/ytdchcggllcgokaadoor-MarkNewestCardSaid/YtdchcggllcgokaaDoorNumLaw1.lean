/-
  ashlarlaw01.NumOne, NumNumbers: the walks.
-/
import Derived.Test.YtdchcggllcgokaaDoorNumL
namespace Go.Proofs.YtdchcggllcgokaaDoor.U
open Go.RowKit Go.Proofs.YtdchcggllcgokaaDoor.L Go.Proofs.YtdchcggllcgokaaDoorW.PrintWords
set_option linter.unusedVariables false
set_option linter.unusedSimpArgs false

theorem u64_nat {n : Int} (h : (Lit.int .u64 n).wf = true) : ∃ k : Nat, n = k ∧ k < 18446744073709551616 := by
  obtain ⟨h1, h2⟩ := bounds_u64 h
  exact ⟨n.toNat, by omega, by omega⟩
/-- a call of Put, its row under a name -/
def PutN (s : Nat) (n : Nat) (X : List Int) (k : Int) : Prop := ∀ w : World, Calls Tryd.prog 19 #[.int .u64 (n : Int), .int .i64 (s : Int)] w fun e w' => (∃ A c, e = .returned (.tuple #[.slice A X.length c, .int .i64 k]) ∧ Byts w.heap.size w' A c X) ∧ Below w.heap.size w w'
theorem put_n {n s : Nat} {X : List Int} {k : Int} (hn : n < 18446744073709551616) (hs : s ≤ 8) (h : puts n s = (X, k)) : PutN s n X k := fun w => by
  have h2 := Put_all n hn s (by omega) w
  simp only [PutP, h] at h2
  exact h2

end Go.Proofs.YtdchcggllcgokaaDoor.U
