/-
  Sealed sectors: what is put is got; ashlarlaw07.lives.
-/
import Derived.Test.YtdchcggllcgokaaDoorSeal5
import Derived.Test.YtdchcggllcgokaaDoorNumM
namespace Go.Proofs.YtdchcggllcgokaaDoor.E
open Go.RowKit Go.Proofs.YtdchcggllcgokaaDoor.L Go.Proofs.YtdchcggllcgokaaDoor.U Go.Proofs.YtdchcggllcgokaaDoor.R Go.Proofs.YtdchcggllcgokaaDoorW.PrintWords
set_option linter.unusedVariables false
set_option linter.unusedSimpArgs false

theorem first_sealed {n : Nat} {ys : List Int} (hn : n < 18446744073709551616) : first (sealed n ys) = n := by
  have h := get_put n 8 (by omega) [] ((ys ++ List.replicate (44 - ys.length) 0) ++ (putb (crcs (front n ys)) 4 ++ putb n 8))
  rw [first, sealed, front, List.append_assoc]
  exact h
theorem last_sealed {n : Nat} {ys : List Int} (hn : n < 18446744073709551616) (hl : ys.length ≤ 44) : last (sealed n ys) = n := by
  have h := get_put n 8 (by omega) (front n ys ++ putb (crcs (front n ys)) 4) []
  rw [List.length_append, front_length hl, putb_length, List.append_nil, List.append_assoc] at h
  exact h
theorem told_sealed {n : Nat} {ys : List Int} (hl : ys.length ≤ 44) : told (sealed n ys) = crcs (front n ys) := by
  have h := get_put (crcs (front n ys)) 4 (by have := crcs_lt (front n ys); omega) (front n ys) (putb n 8)
  rw [front_length hl] at h
  exact h
theorem take_sealed {n : Nat} {ys : List Int} (hl : ys.length ≤ 44) : (sealed n ys).take 52 = front n ys := by
  have h := List.take_left (l₁ := front n ys) (l₂ := putb (crcs (front n ys)) 4 ++ putb n 8)
  rwa [front_length hl] at h
theorem inner_sealed {n : Nat} {ys : List Int} (hl : ys.length ≤ 44) : inner (sealed n ys) = ys ++ Z (44 - ys.length) := by
  have h1 : (putb n 8 ++ ((ys ++ Z (44 - ys.length)) ++ (putb (crcs (front n ys)) 4 ++ putb n 8))).drop 8 = (ys ++ Z (44 - ys.length)) ++ (putb (crcs (front n ys)) 4 ++ putb n 8) := by
    have h := List.drop_left (l₁ := putb n 8) (l₂ := (ys ++ Z (44 - ys.length)) ++ (putb (crcs (front n ys)) 4 ++ putb n 8))
    rwa [putb_length] at h
  have h2 : ((ys ++ Z (44 - ys.length)) ++ (putb (crcs (front n ys)) 4 ++ putb n 8)).take 44 = ys ++ Z (44 - ys.length) := by
    have h := List.take_left (l₁ := ys ++ Z (44 - ys.length)) (l₂ := putb (crcs (front n ys)) 4 ++ putb n 8)
    rwa [List.length_append, Z_length, show ys.length + (44 - ys.length) = 44 by omega] at h
  have h3 : sealed n ys = putb n 8 ++ ((ys ++ Z (44 - ys.length)) ++ (putb (crcs (front n ys)) 4 ++ putb n 8)) := by
    rw [sealed]
    conv => lhs; rw [front]
    rw [List.append_assoc]; rfl
  rw [inner, h3, h1, h2]
/-- what is put is got -/
theorem gots_sealed {n : Nat} {ys : List Int} (h0 : n ≠ 0) (hn : n < 18446744073709551616) (hl : ys.length ≤ 44) : gots (sealed n ys) = (n, ys ++ Z (44 - ys.length), 0) := by
  rw [gots, first_sealed hn, last_sealed hn hl, told_sealed hl, take_sealed hl, inner_sealed hl, if_neg (by omega), if_neg (by simp)]
theorem gots_zeros : gots zeros = (0, [], 5) := by
  have h : first zeros = 0 := by decide +kernel
  exact if_pos (.inl h)
theorem news_zeros : news zeros zeros = (0, 7) := by
  rw [news, gots_zeros]; rfl
theorem z_length : Z 44 = List.replicate 44 0 := rfl

def PutS (n : Nat) (k : Int) (A : Option Addr) (c : Nat) (ys S : List Int) : Prop := ∀ w : World, ReadsInt w .u8 A ys.length ys → Calls Tryd.prog 20 #[.int .u64 (n : Int), .slice A ys.length c] w fun e w' => e = .returned (.tuple #[blk S, .int .i64 k]) ∧ Below w.heap.size w w'
theorem put_s {n : Nat} {k : Int} {A : Option Addr} {c : Nat} {ys S : List Int} (hn : n < 18446744073709551616) (hw : Wf8 ys) (h : seals n ys = (S, k)) : PutS n k A c ys S := fun w hr => by
  have h2 := Put_seal n hn A c ys hw w hr
  rw [h] at h2
  exact h2
theorem nil_wf : Wf8 [] := fun x hx => by cases hx
theorem nil_reads (w : World) : ReadsInt w .u8 none 0 [] := ⟨rfl, by decide, fun h => absurd h (by decide)⟩
end Go.Proofs.YtdchcggllcgokaaDoor.E
