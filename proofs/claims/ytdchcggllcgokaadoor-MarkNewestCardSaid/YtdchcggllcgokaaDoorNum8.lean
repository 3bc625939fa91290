/-
  num.Unbits: the walk.
-/
import Derived.Test.YtdchcggllcgokaaDoorNum7
namespace Go.Proofs.YtdchcggllcgokaaDoor.U
open Go.RowKit Go.Proofs.YtdchcggllcgokaaDoor.L Go.Proofs.YtdchcggllcgokaaDoorW.PrintWords
set_option linter.unusedVariables false
set_option linter.unusedSimpArgs false

theorem u16_or (a b : Nat) (ha : a < 65536) (hb : b < 65536) : bits .or .u16 (a : Int) (b : Int) = ((a ||| b : Nat) : Int) := by
  show IntKind.u16.wrap ((BitVec.ofInt 16 (a : Int) ||| BitVec.ofInt 16 (b : Int)).toNat : Int) = _
  rw [BitVec.ofInt_natCast, BitVec.ofInt_natCast, BitVec.toNat_or, BitVec.toNat_ofNat, BitVec.toNat_ofNat, Nat.mod_eq_of_lt ha, Nat.mod_eq_of_lt hb]
  have h := Nat.or_lt_two_pow (n := 16) ha hb
  exact IntWalk.u16_in _ (by omega)
theorem u16_and (a b : Nat) (ha : a < 65536) (hb : b < 65536) : bits .and .u16 (a : Int) (b : Int) = ((a &&& b : Nat) : Int) := by
  show IntKind.u16.wrap ((BitVec.ofInt 16 (a : Int) &&& BitVec.ofInt 16 (b : Int)).toNat : Int) = _
  rw [BitVec.ofInt_natCast, BitVec.ofInt_natCast, BitVec.toNat_and, BitVec.toNat_ofNat, BitVec.toNat_ofNat, Nat.mod_eq_of_lt ha, Nat.mod_eq_of_lt hb]
  have h : a &&& b ≤ a := Nat.and_le_left
  exact IntWalk.u16_in _ (by omega)
def imid (v : Nat → Nat) (s m q : Nat) : List Int := ((List.range q).map fun i => (item v s i : Int)) ++ List.replicate (m - q) 0
theorem imid_set (v : Nat → Nat) (s m q : Nat) (h : q < m) : (imid v s m q).set q (item v s q : Int) = imid v s m (q + 1) := by
  unfold imid
  rw [show m - q = (m - (q + 1)) + 1 by omega, List.replicate_succ, List.set_append_right _ _ (by simp), List.length_map, List.length_range, Nat.sub_self, List.set_cons_zero, List.range_succ, List.map_append]
  simp
theorem imid_end (v : Nat → Nat) (s m : Nat) : imid v s m m = items v s m := by simp [imid, items]
end Go.Proofs.YtdchcggllcgokaaDoor.U
