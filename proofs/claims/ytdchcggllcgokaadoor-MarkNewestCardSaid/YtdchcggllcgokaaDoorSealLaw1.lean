/-
  ashlarlaw07.SealPuts, SealNewest: the walks.
-/
import Derived.Test.YtdchcggllcgokaaDoorSealL
import Derived.Test.YtdchcggllcgokaaDoorNumLaw1
namespace Go.Proofs.YtdchcggllcgokaaDoor.E
open Go.RowKit Go.Proofs.YtdchcggllcgokaaDoor.L Go.Proofs.YtdchcggllcgokaaDoor.U Go.Proofs.YtdchcggllcgokaaDoor.R Go.Proofs.YtdchcggllcgokaaDoorW.PrintWords
set_option linter.unusedVariables false
set_option linter.unusedSimpArgs false

def PutB (n : Nat) (ys S : List Int) (k : Int) : Prop := ∀ (A : Option Addr) (c : Nat) (w : World), ReadsInt w .u8 A ys.length ys → Calls Tryd.prog 20 #[.int .u64 (n : Int), .slice A ys.length c] w fun e w' => e = .returned (.tuple #[blk S, .int .i64 k]) ∧ Below w.heap.size w w'
def rPutB (n : Nat) (ys S : List Int) (k : Int) : Prop := ∀ (A : Option Addr) (c : Nat) (w : World), ReadsInt w .u8 A ys.length ys → Calls Tryd.prog 16 #[.int .u64 (n : Int), .slice A ys.length c] w fun e w' => e = .returned (.tuple #[blk S, .int .i64 k]) ∧ Below w.heap.size w w'
theorem put_b {n : Nat} {ys S : List Int} {k : Int} (hn : n < 18446744073709551616) (hw : Wf8 ys) (h : seals n ys = (S, k)) : PutB n ys S k := fun A c w hr => by
  have h2 := Put_seal n hn A c ys hw w hr
  rw [h] at h2
  exact h2
theorem rput_b {n : Nat} {ys S : List Int} {k : Int} (hn : n < 18446744073709551616) (hw : Wf8 ys) (h : seals n ys = (S, k)) : rPutB n ys S k := fun A c w hr => by
  have h2 := rPut_seal n hn A c ys hw w hr
  rw [h] at h2
  exact h2
theorem news_sealed {n m : Nat} {a b : List Int} (hn : n < 18446744073709551616) (hm : m < 18446744073709551616) (h0 : n ≠ 0) (k0 : m ≠ 0) (hl : a.length ≤ 44) (kl : b.length ≤ 44) : news (sealed n a) (sealed m b) = (if n < m then 1 else 0, 0) := by
  rw [news, gots_sealed h0 hn hl, gots_sealed k0 hm kl]
  by_cases h : n < m <;> simp [h]
theorem seals_err {n : Nat} {ys : List Int} {S : List Int} {k : Int} (h : seals n ys = (S, k)) : (k = 0 ∧ n ≠ 0 ∧ ys.length ≤ 44 ∧ S = sealed n ys) ∨ (k = 2 ∧ n = 0) ∨ (k = 3 ∧ n ≠ 0 ∧ 44 < ys.length) := by
  unfold seals at h
  split at h
  · injection h with h1 h2; exact .inr (.inl ⟨h2.symm, by assumption⟩)
  · split at h
    · injection h with h1 h2; exact .inr (.inr ⟨h2.symm, by assumption, by assumption⟩)
    · injection h with h1 h2; exact .inl ⟨h2.symm, by assumption, by omega, h1.symm⟩
end Go.Proofs.YtdchcggllcgokaaDoor.E
