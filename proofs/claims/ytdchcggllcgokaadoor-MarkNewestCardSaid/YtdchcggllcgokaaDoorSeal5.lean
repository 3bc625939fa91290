/-
  seal.Newest, ashlarref07.Newest; ashlarref03.Torn: the walks.
-/
import Derived.Test.YtdchcggllcgokaaDoorSeal4
namespace Go.Proofs.YtdchcggllcgokaaDoor.E
open Go.RowKit Go.Proofs.YtdchcggllcgokaaDoor.L Go.Proofs.YtdchcggllcgokaaDoor.U Go.Proofs.YtdchcggllcgokaaDoor.R Go.Proofs.YtdchcggllcgokaaDoorW.PrintWords
set_option linter.unusedVariables false
set_option linter.unusedSimpArgs false

def news (xs ys : List Int) : Int × Int :=
  if (gots xs).2.2 ≠ 0 ∧ (gots ys).2.2 ≠ 0 then (0, 7) else if (gots xs).2.2 ≠ 0 ∨ ((gots ys).2.2 = 0 ∧ (gots xs).1 < (gots ys).1) then (1, 0) else (0, 0)
/-- a call of Get: number and error under names -/
def GetN (xs : List Int) (n : Nat) (k : Int) : Prop := ∀ w : World, Calls Tryd.prog 23 #[blk xs] w fun e w' => (∃ A c l, e = .returned (.tuple #[.int .u64 (n : Int), .slice A l c, .int .i64 k])) ∧ Below w.heap.size w w'
def rGetN (xs : List Int) (n : Nat) (k : Int) : Prop := ∀ w : World, Calls Tryd.prog 27 #[blk xs] w fun e w' => (∃ A c l, e = .returned (.tuple #[.int .u64 (n : Int), .slice A l c, .int .i64 k])) ∧ Below w.heap.size w w'
theorem get_n {xs : List Int} (hl : xs.length = 64) (hw : Wf8 xs) : GetN xs (gots xs).1 (gots xs).2.2 := fun w =>
  (Get_seal xs hl hw w).mono fun _ _ ⟨⟨A, c, h, _⟩, hb⟩ => ⟨⟨A, c, _, h⟩, hb⟩
theorem rget_n {xs : List Int} (hl : xs.length = 64) (hw : Wf8 xs) : rGetN xs (gots xs).1 (gots xs).2.2 := fun w =>
  (rGet_seal xs hl hw w).mono fun _ _ ⟨⟨A, c, h, _⟩, hb⟩ => ⟨⟨A, c, _, h⟩, hb⟩
theorem gots_lt {xs : List Int} (hw : Wf8 xs) : (gots xs).1 < 18446744073709551616 := by
  unfold gots
  split
  · decide
  · split
    · decide
    · exact first_lt hw
/-- a sector of which only the first n bytes were written -/
def torn (old now : List Int) (n : Int) : List Int := now.take (min n.toNat 64) ++ old.drop (min n.toNat 64)
theorem torn_length {old now : List Int} {n : Int} (ho : old.length = 64) (hn : now.length = 64) : (torn old now n).length = 64 := by
  simp [torn, ho, hn]; omega
theorem torn_wf {old now : List Int} {n : Int} (ho : Wf8 old) (hn : Wf8 now) : Wf8 (torn old now n) := wf_append (wf_take hn _) (wf_drop ho _)
theorem torn_next {old now : List Int} (q : Nat) (hq : q < 64) (ho : old.length = 64) (hn : now.length = 64) : (now.take q ++ old.drop q).set q (rd now (q : Int)) = now.take (q + 1) ++ old.drop (q + 1) := by
  rw [List.set_append_right _ _ (by simp; omega), List.length_take, Nat.min_eq_left (by omega), Nat.sub_self, List.drop_eq_getElem_cons (by omega : q < old.length), List.set_cons_zero, List.take_succ_eq_append_getElem (by omega : q < now.length), List.append_assoc, List.singleton_append, rd, Int.toNat_natCast, List.getD_eq_getElem?_getD, List.getElem?_eq_getElem (by omega : q < now.length), Option.getD_some]
end Go.Proofs.YtdchcggllcgokaaDoor.E
