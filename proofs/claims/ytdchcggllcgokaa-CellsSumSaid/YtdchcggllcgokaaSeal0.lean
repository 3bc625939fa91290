/-
  Sealed sectors: plain definitions and laws; contracts of the callees in their words.
-/
import Derived.Test.YtdchcggllcgokaaBlk
import Derived.Test.YtdchcggllcgokaaKrc
import Derived.Test.YtdchcggllcgokaaNumLaw2
import Derived.Test.YtdchcggllcgokaaSpoil
namespace Go.Proofs.Ytdchcggllcgokaa.E
open Go.RowKit Go.Proofs.Ytdchcggllcgokaa.L Go.Proofs.Ytdchcggllcgokaa.U Go.Proofs.Ytdchcggllcgokaa.R Go.Proofs.YtdchcggllcgokaaW.PrintWords
set_option linter.unusedVariables false
set_option linter.unusedSimpArgs false

def Wf8 (xs : List Int) : Prop := ∀ x ∈ xs, (Lit.int .u8 x).wf = true
def crcs (xs : List Int) : Nat := (C.more 0#32 (xs.map fun x => BitVec.ofInt 8 x)).toNat
theorem crcs_lt (xs : List Int) : crcs xs < 4294967296 := (C.more 0#32 _).isLt
theorem by8_back (bs : List (BitVec 8)) : (C.by8 bs).map (fun x => BitVec.ofInt 8 x) = bs := by
  simp only [C.by8, List.map_map]
  conv => rhs; rw [← List.map_id bs]
  apply List.map_congr_left
  intro b _
  simp [BitVec.ofInt_natCast]
theorem crcs_by8 (bs : List (BitVec 8)) : crcs (C.by8 bs) = (C.more 0#32 bs).toNat := by rw [crcs, by8_back]
theorem Of_b (A : Option Addr) (cap : Nat) (xs : List Int) (hw : Wf8 xs) (w : World) (hr : ReadsInt w .u8 A xs.length xs) :
    Calls Try.prog 123 #[.slice A xs.length cap] w fun e w' => e = .returned (.int .u32 (crcs xs : Int)) ∧ Below w.heap.size w w' := by
  obtain ⟨bs, rfl⟩ := C.by8_of xs hw
  rw [crcs_by8]
  rw [C.by8_length] at hr ⊢
  exact C.Of_any A cap bs w hr hr.2.1
theorem rOf_b (A : Option Addr) (cap : Nat) (xs : List Int) (hw : Wf8 xs) (w : World) (hr : ReadsInt w .u8 A xs.length xs) :
    Calls Try.prog 124 #[.slice A xs.length cap] w fun e w' => e = .returned (.int .u32 (crcs xs : Int)) ∧ Below w.heap.size w w' := by
  obtain ⟨bs, rfl⟩ := C.by8_of xs hw
  rw [crcs_by8]
  rw [C.by8_length] at hr ⊢
  exact C.rOf_any A cap bs w hr hr.2.1

theorem Byts.grown {b g : Nat} {W W1 : World} {A : Option Addr} {c : Nat} {ys : List Int} (h : Byts b W A c ys) (hg : W.grownBy W1 (some g)) (hlt : g < b) : Byts b W1 A c ys := by
  refine own_other h hg ?_
  cases hk : Value.ownBlock (.slice A ys.length c) with
  | none => exact .inl rfl
  | some k =>
    refine .inr fun e => ?_
    have := own_base h k hk
    injection e with e
    omega

/-! ### the plain answer -/
def front (n : Nat) (ys : List Int) : List Int := putb n 8 ++ (ys ++ List.replicate (44 - ys.length) 0)
def sealed (n : Nat) (ys : List Int) : List Int := front n ys ++ (putb (crcs (front n ys)) 4 ++ putb n 8)
def seals (n : Nat) (ys : List Int) : List Int × Int := if n = 0 then (zeros, 2) else if 44 < ys.length then (zeros, 3) else (sealed n ys, 0)
theorem front_length {n : Nat} {ys : List Int} (h : ys.length ≤ 44) : (front n ys).length = 52 := by
  simp [front, putb_length]; omega
theorem sealed_length {n : Nat} {ys : List Int} (h : ys.length ≤ 44) : (sealed n ys).length = 64 := by
  simp [sealed, front_length h, putb_length]
theorem putb_wf (n k : Nat) : Wf8 (putb n k) := fun x hx => by
  simp only [putb, List.mem_map, List.mem_range] at hx
  obtain ⟨i, hi, rfl⟩ := hx
  have h : byt n i < 256 := Nat.mod_lt _ (by decide)
  exact WalkArith.wf_u8 (by omega)
theorem zeros_wf (k : Nat) : Wf8 (List.replicate k 0) := fun x hx => by
  rw [List.eq_of_mem_replicate hx]; decide
theorem front_wf (n : Nat) {ys : List Int} (h : Wf8 ys) : Wf8 (front n ys) := wf_append (putb_wf _ _) (wf_append h (zeros_wf _))
theorem sealed_wf (n : Nat) {ys : List Int} (h : Wf8 ys) : Wf8 (sealed n ys) := wf_append (front_wf n h) (wf_append (putb_wf _ _) (putb_wf _ _))
theorem seals_length (n : Nat) (ys : List Int) : (seals n ys).1.length = 64 := by
  unfold seals
  split
  · exact zeros_length
  · split
    · exact zeros_length
    · exact sealed_length (by omega)
theorem seals_wf (n : Nat) {ys : List Int} (h : Wf8 ys) : Wf8 (seals n ys).1 := by
  unfold seals
  split
  · exact zeros_wf _
  · split
    · exact zeros_wf _
    · exact sealed_wf n h
theorem seals_nil {ys : List Int} : seals 0 ys = (zeros, 2) := if_pos rfl
theorem seals_long {n : Nat} {ys : List Int} (h0 : n ≠ 0) (h : 44 < ys.length) : seals n ys = (zeros, 3) := by rw [seals, if_neg h0, if_pos h]
theorem seals_ok {n : Nat} {ys : List Int} (h0 : n ≠ 0) (h : ys.length ≤ 44) : seals n ys = (sealed n ys, 0) := by rw [seals, if_neg h0, if_neg (by omega)]

/-! ### the four copies -/
theorem splice_mid {α : Type} (a b c d : List α) (h : d.length = b.length) : splice (a ++ (b ++ c)) a.length d = a ++ (d ++ c) := by
  unfold splice
  rw [List.take_left, List.drop_append, List.drop_of_length_le (by omega), List.nil_append, show a.length + d.length - a.length = b.length by omega, List.drop_left]
def Z (k : Nat) : List Int := List.replicate k 0
theorem Z_add (a b : Nat) : Z (a + b) = Z a ++ Z b := by simp [Z, List.replicate_append_replicate]
theorem Z_length (k : Nat) : (Z k).length = k := by simp [Z]
theorem copy1 (n : Nat) : splice zeros 0 ((putb n 8).take 8) = putb n 8 ++ Z 56 := by
  rw [List.take_of_length_le (by rw [putb_length]; omega)]
  exact splice_mid [] (Z 8) (Z 56) (putb n 8) (by rw [putb_length, Z_length])
theorem copy2 (n : Nat) (ys : List Int) (h : ys.length ≤ 44) : splice (putb n 8 ++ Z 56) 8 (ys.take 44) = front n ys ++ Z 12 := by
  rw [List.take_of_length_le h]
  have h2 := splice_mid (putb n 8) (Z ys.length) (Z (44 - ys.length) ++ Z 12) ys (by rw [Z_length])
  rw [putb_length, ← Z_add, ← Z_add, show ys.length + (44 - ys.length + 12) = 56 by omega] at h2
  rw [h2, Z_add, front]
  simp [Z]
theorem copy3 (n : Nat) (ys : List Int) (h : ys.length ≤ 44) (s : Nat) : splice (front n ys ++ Z 12) 52 ((putb s 4).take 4) = front n ys ++ (putb s 4 ++ Z 8) := by
  rw [List.take_of_length_le (by rw [putb_length]; omega)]
  have h2 := splice_mid (front n ys) (Z 4) (Z 8) (putb s 4) (by rw [putb_length, Z_length])
  rw [front_length h, ← Z_add] at h2
  exact h2
theorem copy4 (n : Nat) (ys : List Int) (h : ys.length ≤ 44) (s : Nat) : splice (front n ys ++ (putb s 4 ++ Z 8)) 56 ((putb n 8).take 8) = front n ys ++ (putb s 4 ++ putb n 8) := by
  rw [List.take_of_length_le (by rw [putb_length]; omega)]
  have h2 := splice_mid (front n ys ++ putb s 4) (Z 8) [] (putb n 8) (by rw [putb_length, Z_length])
  rw [List.length_append, front_length h, putb_length, List.append_nil, List.append_nil, List.append_assoc, List.append_assoc] at h2
  exact h2
theorem front_take (n : Nat) (ys zs : List Int) (h : ys.length ≤ 44) : ((front n ys ++ zs).drop 0).take 52 = front n ys := by
  rw [List.drop_zero]
  have h2 := List.take_left (l₁ := front n ys) (l₂ := zs)
  rwa [front_length h] at h2
end Go.Proofs.Ytdchcggllcgokaa.E
