/-
  num.Get and ashlarref01.Get, whole.
-/
import Derived.Test.YtdchcggllcgokaaNum3
namespace Go.Proofs.Ytdchcggllcgokaa.U
open Go.RowKit Go.Proofs.Ytdchcggllcgokaa.L Go.Proofs.YtdchcggllcgokaaW.PrintWords
set_option linter.unusedVariables false
set_option linter.unusedSimpArgs false

/-- the number, the lowest byte first, from byte q on -/
def vhi (f : Nat → Nat) : Nat → Nat → Nat
  | q, 0 => 0
  | q, k + 1 => f q + 256 * vhi f (q + 1) k
theorem vhi_lt (f : Nat → Nat) (hf : ∀ i, f i < 256) : ∀ k q, vhi f q k < 256 ^ k := by
  intro k
  induction k with
  | zero => intro q; simp [vhi]
  | succ k ih => intro q; have := ih (q + 1); have := hf q; rw [vhi, Nat.pow_succ]; omega
theorem vhi_last (f : Nat → Nat) : ∀ k q, vhi f q (k + 1) = vhi f q k + f (q + k) * 256 ^ k := by
  intro k
  induction k with
  | zero => intro q; simp [vhi]
  | succ k ih =>
    intro q
    have h := ih (q + 1)
    rw [vhi, h, vhi, show q + 1 + k = q + (k + 1) by omega, Nat.mul_add, Nat.pow_succ, Nat.add_assoc]
    congr 2
    rw [← Nat.mul_assoc, Nat.mul_comm 256 (f (q + (k + 1))), Nat.mul_assoc, Nat.mul_comm 256]
theorem vhi_vle (f : Nat → Nat) (s : Nat) : vhi f 0 s = vle f s := by
  induction s with
  | zero => rfl
  | succ s ih => rw [vhi_last, ih, vle, Nat.zero_add]

set_option maxHeartbeats 400000 in
theorem rGet_ok (A : Option Addr) (cap : Nat) (xs : List Int) (hw : ∀ x ∈ xs, (Lit.int .u8 x).wf = true) (at_ s : Nat) (h1 : 1 ≤ s) (h2 : s ≤ 8) (h3 : at_ + s ≤ xs.length) (w : World) (hr : ReadsInt w .u8 A xs.length xs) :
    Calls Try.prog 45 #[.slice A xs.length cap, .int .i64 (at_ : Int), .int .i64 (s : Int)] w fun e w' => e = .returned (.tuple #[.int .u64 (vle (bat xs at_) s : Int), .int .i64 0]) ∧ ∃ j, w' = w.drewN j := by
  have HR := Lib.hid hr
  have hlen := hr.2.1
  clear hr
  go_enter Try.func45, Try.ntmps45
  go_wp2
  go_loopw [8, 9] (fun x i wr => ∃ q : Nat, q ≤ s ∧ i = .int .i64 ((q : Int) - 1) ∧ x = .int .u64 (vhi (bat xs at_) q (s - q) : Int) ∧ Hid (∃ j, wr = w.drewN j)) (fun _ i _ => (intOf i + 1).toNat)
  case atStart => exact ⟨s, Nat.le_refl _, rfl, by rw [Nat.sub_self]; rfl, Lib.hid ⟨0, rfl⟩⟩
  case round =>
    obtain ⟨q, hq, rfl, rfl, HW⟩ := hrel
    obtain ⟨j, rfl⟩ := HW.out
    clear HW
    obtain ⟨m, hm⟩ : ∃ m, m = vhi (bat xs at_) q (s - q) := ⟨_, rfl⟩
    rw [← hm]
    by_cases hlt : 0 < q
    · obtain ⟨p, rfl⟩ : ∃ p, q = p + 1 := ⟨q - 1, by omega⟩
      rw [show ((p + 1 : Nat) : Int) - 1 = (p : Int) by omega]
      obtain ⟨b, hb⟩ : ∃ b, b = bat xs at_ p := ⟨_, rfl⟩
      have hrb := rd_byte hw (at_ + p)
      have hbI : rd xs ((at_ + p : Nat) : Int) = (b : Int) := by rw [hb, bat]; omega
      have hbl : b < 256 := by omega
      obtain ⟨ad, rfl, cx⟩ := HR.out.at_ ((at_ + p : Nat) : Int) (by omega) (by omega)
      rw [hbI, Int.toNat_natCast] at cx
      have hml := vhi_lt (bat xs at_) (fun i => by have := rd_byte hw (at_ + i); rw [bat]; omega) (s - (p + 1)) (p + 1)
      rw [← hm] at hml
      have HX := Lib.hid (show 256 * m + b = vhi (bat xs at_) p (s - p) by rw [show s - p = (s - (p + 1)) + 1 by omega, vhi, ← hm, ← hb]; omega)
      have hm64 : 256 * m + b < 18446744073709551616 := by
        have h8 : 256 ^ (s - (p + 1)) ≤ 256 ^ 7 := Nat.pow_le_pow_right (by decide) (by omega)
        have h9 : m < 256 ^ 7 := Nat.lt_of_lt_of_le hml h8
        omega
      clear hb hrb hbI hml hm
      go_wp2
      go_roundw
      case rel => exact ⟨p, by omega, by go_num, by rw [← HX.out]; go_num, Lib.hid ⟨_, rfl⟩⟩
      case measure => first | (simp [intOf]; done) | (simp [intOf]; omega)
    · obtain rfl : q = 0 := by omega
      have HX := Lib.hid (show m = vle (bat xs at_) s by rw [hm, Nat.sub_zero, vhi_vle])
      have hm64 : m < 18446744073709551616 := by
        rw [HX.out]
        have h8 := vle_lt (bat xs at_) (fun i => by have := rd_byte hw (at_ + i); rw [bat]; omega) s
        have h9 : 256 ^ s ≤ 256 ^ 8 := Nat.pow_le_pow_right (by decide) h2
        omega
      clear hm
      go_wp2
      go_ret2
      exact ⟨by rw [← HX.out]; rfl, _, rfl⟩
/-- what Get answers: a number and an error -/
def gets (xs : List Int) (a s : Int) : Nat × Int :=
  if s < 1 ∨ 8 < s ∨ a < 0 ∨ (xs.length : Int) < a then (0, 2) else if (xs.length : Int) - a < s then (0, 4) else (vle (bat xs a.toNat) s.toNat, 0)
theorem gets_lt {xs : List Int} (hw : ∀ x ∈ xs, (Lit.int .u8 x).wf = true) (a s : Int) : (gets xs a s).1 < 18446744073709551616 := by
  unfold gets
  split
  · decide
  · rename_i h
    split
    · decide
    · have h8 := vle_lt (bat xs a.toNat) (fun i => by have := rd_byte hw (a.toNat + i); rw [bat]; omega) s.toNat
      have h9 : 256 ^ s.toNat ≤ 256 ^ 8 := Nat.pow_le_pow_right (by decide) (by omega)
      show vle (bat xs a.toNat) s.toNat < _
      omega
theorem gets_bad {xs : List Int} {a s : Int} (h : s < 1 ∨ 8 < s ∨ a < 0 ∨ (xs.length : Int) < a) : gets xs a s = (0, 2) := if_pos h
theorem gets_short {xs : List Int} {a s : Int} (h : ¬ (s < 1 ∨ 8 < s ∨ a < 0 ∨ (xs.length : Int) < a)) (h2 : (xs.length : Int) - a < s) : gets xs a s = (0, 4) := by
  rw [gets, if_neg h, if_pos h2]
theorem gets_ok {xs : List Int} {a s : Nat} (h1 : 1 ≤ s) (h2 : s ≤ 8) (h3 : a + s ≤ xs.length) : gets xs a s = (vle (bat xs a) s, 0) := by
  rw [gets, if_neg (by omega), if_neg (by omega)]; rfl
theorem Get_any (A : Option Addr) (cap : Nat) (xs : List Int) (hw : ∀ x ∈ xs, (Lit.int .u8 x).wf = true) (a s : Int) (ha : -9223372036854775808 ≤ a ∧ a ≤ 9223372036854775807) (hs : -9223372036854775808 ≤ s ∧ s ≤ 9223372036854775807) (hl : xs.length ≤ cap) (hc : cap ≤ 9223372036854775807) (w : World) (hr : ReadsInt w .u8 A xs.length xs) :
    Calls Try.prog 44 #[.slice A xs.length cap, .int .i64 a, .int .i64 s] w fun e w' => e = .returned (.tuple #[.int .u64 ((gets xs a s).1 : Int), .int .i64 (gets xs a s).2]) ∧ ∃ j, w' = w.drewN j := by
  obtain ⟨a1, a2⟩ := ha
  obtain ⟨s1, s2⟩ := hs
  have hlen := hr.2.1
  by_cases hbad : s < 1 ∨ 8 < s ∨ a < 0 ∨ (xs.length : Int) < a
  · rw [gets_bad hbad]
    clear hr
    rcases (by omega : s < 1 ∨ (1 ≤ s ∧ 8 < s) ∨ (1 ≤ s ∧ s ≤ 8 ∧ a < 0) ∨ (1 ≤ s ∧ s ≤ 8 ∧ 0 ≤ a ∧ (xs.length : Int) < a)) with g1 | ⟨g1, g2⟩ | ⟨g1, g2, g3⟩ | ⟨g1, g2, g3, g4⟩
    all_goals
      clear hbad
      go_enter Try.func44, Try.ntmps44
      go_wp2
      go_ret2
      exact ⟨rfl, 0, rfl⟩
  · by_cases hsh : (xs.length : Int) - a < s
    · rw [gets_short hbad hsh]
      have b1 : ¬ s < 1 := by omega
      have b2 : ¬ 8 < s := by omega
      have b3 : ¬ a < 0 := by omega
      have b4 : ¬ (xs.length : Int) < a := by omega
      clear hr hbad
      go_enter Try.func44, Try.ntmps44
      go_wp2
      go_ret2
      exact ⟨rfl, 0, rfl⟩
    · obtain ⟨a, rfl⟩ : ∃ n : Nat, a = n := ⟨a.toNat, by omega⟩
      obtain ⟨s, rfl⟩ : ∃ n : Nat, s = n := ⟨s.toNat, by omega⟩
      rw [gets_ok (by omega) (by omega) (by omega)]
      exact Get_ok A cap xs hw a s (by omega) (by omega) (by omega) hl hc w hr
theorem rGet_any (A : Option Addr) (cap : Nat) (xs : List Int) (hw : ∀ x ∈ xs, (Lit.int .u8 x).wf = true) (a s : Int) (ha : -9223372036854775808 ≤ a ∧ a ≤ 9223372036854775807) (hs : -9223372036854775808 ≤ s ∧ s ≤ 9223372036854775807) (hl : xs.length ≤ cap) (hc : cap ≤ 9223372036854775807) (w : World) (hr : ReadsInt w .u8 A xs.length xs) :
    Calls Try.prog 45 #[.slice A xs.length cap, .int .i64 a, .int .i64 s] w fun e w' => e = .returned (.tuple #[.int .u64 ((gets xs a s).1 : Int), .int .i64 (gets xs a s).2]) ∧ ∃ j, w' = w.drewN j := by
  obtain ⟨a1, a2⟩ := ha
  obtain ⟨s1, s2⟩ := hs
  have hlen := hr.2.1
  by_cases hbad : s < 1 ∨ 8 < s ∨ a < 0 ∨ (xs.length : Int) < a
  · rw [gets_bad hbad]
    clear hr
    rcases (by omega : s < 1 ∨ (1 ≤ s ∧ 8 < s) ∨ (1 ≤ s ∧ s ≤ 8 ∧ a < 0) ∨ (1 ≤ s ∧ s ≤ 8 ∧ 0 ≤ a ∧ (xs.length : Int) < a)) with g1 | ⟨g1, g2⟩ | ⟨g1, g2, g3⟩ | ⟨g1, g2, g3, g4⟩
    all_goals
      clear hbad
      go_enter Try.func45, Try.ntmps45
      go_wp2
      go_ret2
      exact ⟨rfl, 0, rfl⟩
  · by_cases hsh : (xs.length : Int) - a < s
    · rw [gets_short hbad hsh]
      have b1 : ¬ s < 1 := by omega
      have b2 : ¬ 8 < s := by omega
      have b3 : ¬ a < 0 := by omega
      have b4 : ¬ (xs.length : Int) < a := by omega
      clear hr hbad
      go_enter Try.func45, Try.ntmps45
      go_wp2
      go_ret2
      exact ⟨rfl, 0, rfl⟩
    · obtain ⟨a, rfl⟩ : ∃ n : Nat, a = n := ⟨a.toNat, by omega⟩
      obtain ⟨s, rfl⟩ : ∃ n : Nat, s = n := ⟨s.toNat, by omega⟩
      rw [gets_ok (by omega) (by omega) (by omega)]
      exact rGet_ok A cap xs hw a s (by omega) (by omega) (by omega)  w hr
end Go.Proofs.Ytdchcggllcgokaa.U
