/-
  num.Get: the walk.
-/
import Derived.Test.YtdchcggllcgokaaNum2
namespace Go.Proofs.Ytdchcggllcgokaa.U
open Go.RowKit Go.Proofs.Ytdchcggllcgokaa.L Go.Proofs.YtdchcggllcgokaaW.PrintWords
set_option linter.unusedVariables false
set_option linter.unusedSimpArgs false

/-- the number that so many bytes are, the lowest first -/
def vle (f : Nat → Nat) : Nat → Nat
  | 0 => 0
  | k + 1 => vle f k + f k * 256 ^ k
theorem vle_lt (f : Nat → Nat) (hf : ∀ i, f i < 256) (k : Nat) : vle f k < 256 ^ k := by
  induction k with
  | zero => simp [vle]
  | succ k ih =>
    have h : f k * 256 ^ k ≤ 255 * 256 ^ k := Nat.mul_le_mul_right _ (by have := hf k; omega)
    rw [vle, Nat.pow_succ]; omega
def bat (xs : List Int) (at_ : Nat) (i : Nat) : Nat := (rd xs ((at_ + i : Nat) : Int)).toNat
theorem rd_byte {xs : List Int} (hw : ∀ x ∈ xs, (Lit.int .u8 x).wf = true) (i : Nat) : 0 ≤ rd xs (i : Int) ∧ rd xs (i : Int) < 256 := by
  rw [rd, Int.toNat_natCast, List.getD_eq_getElem?_getD]
  by_cases h : i < xs.length
  · rw [List.getElem?_eq_getElem h, Option.getD_some]
    obtain ⟨h1, h2⟩ := bounds_u8 (hw _ (List.getElem_mem h))
    omega
  · rw [List.getElem?_eq_none (by omega)]; decide

theorem add_add (a : Addr) (m n : Nat) : (a.add m).add n = a.add (m + n) := by
  unfold Addr.add
  by_cases h1 : m = 0
  · by_cases h2 : n = 0 <;> simp [h1, h2]
  · by_cases h2 : n = 0 <;> simp [h1, h2, Nat.add_assoc]
theorem u64_or (a b : Nat) (ha : a < 18446744073709551616) (hb : b < 18446744073709551616) : bits .or .u64 (a : Int) (b : Int) = ((a ||| b : Nat) : Int) := by
  show IntKind.u64.wrap ((BitVec.ofInt 64 (a : Int) ||| BitVec.ofInt 64 (b : Int)).toNat : Int) = _
  rw [BitVec.ofInt_natCast, BitVec.ofInt_natCast, BitVec.toNat_or, BitVec.toNat_ofNat, BitVec.toNat_ofNat, Nat.mod_eq_of_lt ha, Nat.mod_eq_of_lt hb]
  have h := Nat.or_lt_two_pow (n := 64) ha hb
  exact IntWalk.u64_in _ (by omega)
theorem or_step (n b q : Nat) (hn : n < 256 ^ q) (hb : b < 256) (hq : q < 8) : bits .or .u64 (n : Int) (IntKind.u64.wrap ((b : Int) * 2 ^ (8 * q))) = ((n + b * 256 ^ q : Nat) : Int) := by
  have e : (2 : Int) ^ (8 * q) = ((256 ^ q : Nat) : Int) := by
    show ((2 : Nat) : Int) ^ (8 * q) = _
    rw [← Int.natCast_pow, Nat.pow_mul]
  have hp : 256 ^ q * 256 ≤ 18446744073709551616 := by
    rw [← Nat.pow_succ]
    exact Nat.le_trans (Nat.pow_le_pow_right (by decide) (by omega : q + 1 ≤ 8)) (by decide)
  have hx : b * 256 ^ q < 18446744073709551616 := by
    have h1 : b * 256 ^ q ≤ 255 * 256 ^ q := Nat.mul_le_mul_right _ (by omega)
    have h2 : 0 < 256 ^ q := Nat.pow_pos (by decide)
    omega
  rw [e, ← Int.natCast_mul, IntWalk.u64_in _ (by omega), u64_or n _ (by omega) hx]
  have h2 : (256 : Nat) ^ q = 2 ^ (8 * q) := by rw [Nat.pow_mul]
  have h3 := Nat.two_pow_add_eq_or_of_lt (i := 8 * q) (b := n) (by rw [← h2]; exact hn) b
  rw [h2, Nat.or_comm, Nat.mul_comm b, ← h3, Nat.add_comm]
set_option maxHeartbeats 400000 in
theorem Get_ok (A : Option Addr) (cap : Nat) (xs : List Int) (hw : ∀ x ∈ xs, (Lit.int .u8 x).wf = true) (at_ s : Nat) (h1 : 1 ≤ s) (h2 : s ≤ 8) (h3 : at_ + s ≤ xs.length) (hl : xs.length ≤ cap) (hc : cap ≤ 9223372036854775807) (w : World) (hr : ReadsInt w .u8 A xs.length xs) :
    Calls Try.prog 44 #[.slice A xs.length cap, .int .i64 (at_ : Int), .int .i64 (s : Int)] w fun e w' => e = .returned (.tuple #[.int .u64 (vle (bat xs at_) s : Int), .int .i64 0]) ∧ ∃ j, w' = w.drewN j := by
  have HR := Lib.hid hr
  obtain ⟨ad, rfl, cx⟩ := hr.at_ (at_ : Int) (by omega) (by omega)
  have HN := Lib.hid (show xs.length = xs.length from rfl)
  clear cx hr
  go_enter Try.func44, Try.ntmps44
  go_wp2
  go_loopw [8, 42] (fun x i wr => ∃ q : Nat, q ≤ s ∧ i = .int .i64 (q : Int) ∧ x = .int .u64 (vle (bat xs at_) q : Int) ∧ Hid (∃ j, wr = w.drewN j)) (fun _ i _ => s - (intOf i).toNat)
  case atStart => exact ⟨0, Nat.zero_le _, rfl, rfl, Lib.hid ⟨0, rfl⟩⟩
  case round =>
    obtain ⟨q, hq, rfl, rfl, HW⟩ := hrel
    obtain ⟨j, rfl⟩ := HW.out
    clear HW
    obtain ⟨m, hm⟩ : ∃ m, m = vle (bat xs at_) q := ⟨_, rfl⟩
    rw [← hm]
    by_cases hlt : q < s
    · obtain ⟨b, hb⟩ : ∃ b, b = bat xs at_ q := ⟨_, rfl⟩
      have hrb := rd_byte hw (at_ + q)
      have hbI : rd xs ((at_ + q : Nat) : Int) = (b : Int) := by rw [hb, bat]; omega
      have hbl : b < 256 := by omega
      obtain ⟨ad', e0, cx⟩ := HR.out.at_ ((at_ + q : Nat) : Int) (by omega) (by omega)
      injection e0 with e0
      subst e0
      rw [hbI, Int.toNat_natCast] at cx
      have cx2 : w.cell? ((ad.add at_).add q) = some (.int .u8 (b : Int)) := by rw [← cx, add_add]
      have hml := vle_lt (bat xs at_) (fun i => by have := rd_byte hw (at_ + i); rw [bat]; omega) q
      rw [← hm] at hml
      have HX := Lib.hid (show bits .or .u64 (m : Int) (IntKind.u64.wrap ((b : Int) * 2 ^ (8 * q))) = (vle (bat xs at_) (q + 1) : Int) by
        rw [or_step m b q hml hbl (by omega), vle, ← hm, ← hb])
      have hm64 : m < 18446744073709551616 := by
        have : 256 ^ q ≤ 256 ^ 8 := Nat.pow_le_pow_right (by decide) (by omega)
        omega
      clear hb hrb hbI hml
      clear hm
      go_wp2
      go_roundw
      case rel =>
        refine ⟨q + 1, by omega, by go_num, ?_, Lib.hid ⟨_, rfl⟩⟩
        rw [HX.out]
      case measure => simp [intOf]; omega
    · obtain rfl : q = s := by omega
      subst hm
      go_wp2
      go_ret2
      exact ⟨rfl, _, rfl⟩
end Go.Proofs.Ytdchcggllcgokaa.U
