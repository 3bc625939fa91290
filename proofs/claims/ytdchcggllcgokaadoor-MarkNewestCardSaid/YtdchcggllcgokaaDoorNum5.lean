/-
  num.wide, num.Bits: the walks.
-/
import Derived.Test.YtdchcggllcgokaaDoorNum4
import Derived.Test.YtdchcggllcgokaaDoorBits
import Derived.StillTailTactics
namespace Go.Proofs.YtdchcggllcgokaaDoor.U
open Go.RowKit Go.Proofs.YtdchcggllcgokaaDoor.L Go.Proofs.YtdchcggllcgokaaDoorW.PrintWords
set_option linter.unusedVariables false
set_option linter.unusedSimpArgs false

def val (xs : List Int) (i : Nat) : Nat := (rd xs (i : Int)).toNat
theorem val_rd {xs : List Int} (hw : ∀ x ∈ xs, (Lit.int .u8 x).wf = true) (i : Nat) : rd xs (i : Int) = (val xs i : Int) ∧ val xs i < 256 := by
  have := rd_byte hw i
  rw [val]; omega
theorem bytes_rd (f : Nat → Bool) (m j : Nat) (h : j < m) : rd (V.bytes f m) (j : Int) = (V.byt8 f j : Int) := by
  simp [rd, V.bytes, List.getD_eq_getElem?_getD, List.getElem?_map, List.getElem?_range h]
theorem bytes_congr {f g : Nat → Bool} {m : Nat} (h : ∀ i, V.byt8 f i = V.byt8 g i) : V.bytes f m = V.bytes g m := by
  simp only [V.bytes, h]
theorem u8_shl (n p : Nat) : IntKind.u8.wrap ((n : Int) * 2 ^ p) = ((n * 2 ^ p % 256 : Nat) : Int) := by
  have e : (2 : Int) ^ p = ((2 ^ p : Nat) : Int) := by
    show ((2 : Nat) : Int) ^ p = _
    rw [← Int.natCast_pow]
  rw [e, ← Int.natCast_mul]
  generalize n * 2 ^ p = k
  simp [IntKind.wrap, IntKind.signed, IntKind.bits]
theorem u8_or (a b : Nat) (ha : a < 256) (hb : b < 256) : bits .or .u8 (a : Int) (b : Int) = ((a ||| b : Nat) : Int) := by
  show IntKind.u8.wrap ((BitVec.ofInt 8 (a : Int) ||| BitVec.ofInt 8 (b : Int)).toNat : Int) = _
  rw [BitVec.ofInt_natCast, BitVec.ofInt_natCast, BitVec.toNat_or, BitVec.toNat_ofNat, BitVec.toNat_ofNat, Nat.mod_eq_of_lt ha, Nat.mod_eq_of_lt hb]
  have h := Nat.or_lt_two_pow (n := 8) ha hb
  exact IntWalk.u8_in _ (by omega)
end Go.Proofs.YtdchcggllcgokaaDoor.U
