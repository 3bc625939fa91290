/-
  crc.Take, More, Of, Zeros, and ashlarref02's.
-/
import Derived.Test.YtjagnodfdniccaaCrc
namespace Go.Proofs.Ytjagnodfdniccaa.C
open Go.RowKit Go.Proofs.Ytjagnodfdniccaa.L Go.Proofs.YtjagnodfdniccaaW.PrintWords
set_option linter.unusedVariables false

theorem u32_not (r : BitVec 32) : 4294967295 - (r.toNat : Int) = ((~~~ r).toNat : Int) := by
  rw [BitVec.toNat_not]; have := r.isLt; omega
theorem wid (c : BitVec 8) : (c.setWidth 32).toNat = c.toNat := by
  rw [BitVec.toNat_setWidth]; exact Nat.mod_eq_of_lt (by have := c.isLt; omega)

set_option maxHeartbeats 400000 in
theorem Take_any (r : BitVec 32) (c : BitVec 8) (w : World) : Calls Try.prog 20 #[.int .u32 (r.toNat : Int), .int .u8 (c.toNat : Int)] w fun e w' => e = .returned (.int .u32 ((take r c).toNat : Int)) ∧ Below w.heap.size w w' := by
  have hr := r.isLt
  have hc := c.isLt
  obtain ⟨a, ha⟩ : ∃ a, a = r ^^^ c.setWidth 32 := ⟨_, rfl⟩
  obtain ⟨i, hi⟩ : ∃ i, i = (a &&& 15#32).toNat := ⟨_, rfl⟩
  obtain ⟨b, hb⟩ : ∃ b, b = (a >>> 4) ^^^ half i := ⟨_, rfl⟩
  obtain ⟨j, hj⟩ : ∃ j, j = (b &&& 15#32).toNat := ⟨_, rfl⟩
  have e1 : bits .xor .u32 (r.toNat : Int) (c.toNat : Int) = (a.toNat : Int) := by rw [ha, ← u32_xor, wid]
  obtain ⟨s, hs⟩ : ∃ s, s = a >>> 4 := ⟨_, rfl⟩
  obtain ⟨t, ht⟩ : ∃ t, t = b >>> 4 := ⟨_, rfl⟩
  obtain ⟨y, hy⟩ : ∃ y, y = half i := ⟨_, rfl⟩
  obtain ⟨z, hz⟩ : ∃ z, z = half j := ⟨_, rfl⟩
  have e2 : (a.toNat : Int) / 16 = (s.toNat : Int) := by rw [hs]; exact u32_shr a 4
  have e3 : bits .and .u32 (a.toNat : Int) 15 = (i : Int) := by rw [hi]; exact u32_and a 15#32
  have e4 : bits .xor .u32 (s.toNat : Int) (y.toNat : Int) = (b.toNat : Int) := by rw [hb, hs, hy, ← u32_xor]
  have e5 : (b.toNat : Int) / 16 = (t.toNat : Int) := by rw [ht]; exact u32_shr b 4
  have e6 : bits .and .u32 (b.toNat : Int) 15 = (j : Int) := by rw [hj]; exact u32_and b 15#32
  have HE := Lib.hid (show bits .xor .u32 (t.toNat : Int) (z.toNat : Int) = ((take r c).toNat : Int) by
    rw [take_halves r c a b ha (by rw [hb, hi]), ← hj, ht, hz, ← u32_xor])
  have i1 : i < 16 := by rw [hi, BitVec.toNat_and]; exact Nat.lt_of_le_of_lt Nat.and_le_right (by decide)
  have j1 : j < 16 := by rw [hj, BitVec.toNat_and]; exact Nat.lt_of_le_of_lt Nat.and_le_right (by decide)
  have ra := a.isLt
  have rb := b.isLt
  have rs := s.isLt
  have rt := t.isLt
  have ry := y.isLt
  have rz := z.isLt
  have HI := Lib.hid (hy ▸ halves_at i i1 : halvesC[i]? = some (.int .u32 (y.toNat : Int)))
  have HJ := Lib.hid (hz ▸ halves_at j j1 : halvesC[j]? = some (.int .u32 (z.toNat : Int)))
  clear ha hi hb hj hs ht hy hz
  go_enter Try.func20, Try.ntmps20
  go_wp2_with (first
    | (go_at_call 59; refine (halves_any _).mono ?_; rintro e w1 ⟨rfl, hb1⟩)
    | (refine rowAlloc rfl 75 rfl _ zero_halves ?_; intro w2 hk2 hg2 hz2)
    | (refine rowStore rfl 75 (.tmp 5) (.tmp 6) rfl w1.heap.size rfl halvesC rfl 75 _ hk2 info_halves rfl one_halves ?_; intro w3 hk3 hg3; have ci := (blk_cell hk3 i).trans HI.out; have cj := (blk_cell hk3 j).trans HJ.out; have B3 := Lib.hid (below_own (below_ext hb1 (grown_below hg2)) hg3 hb1.size); clear hb1 hg2 hg3 hk2 hk3))
  go_ret
  exact ⟨ret_i HE.out, B3.out⟩

theorem rTake_any (r : BitVec 32) (c : BitVec 8) (w : World) : Calls Try.prog 21 #[.int .u32 (r.toNat : Int), .int .u8 (c.toNat : Int)] w fun e w' => e = .returned (.int .u32 ((take r c).toNat : Int)) ∧ w = w' := by
  have hr := r.isLt
  have hc := c.isLt
  obtain ⟨a, ha⟩ : ∃ a, a = r ^^^ c.setWidth 32 := ⟨_, rfl⟩
  have e1 : bits .xor .u32 (r.toNat : Int) (c.toNat : Int) = (a.toNat : Int) := by rw [ha, ← u32_xor, wid]
  have HE := Lib.hid (show steps 8 a = take r c by rw [ha, take])
  clear ha
  go_enter Try.func21, Try.ntmps21
  go_wp2
  go_loop [0, 5] (fun x i => ∃ (q : Nat) (p : BitVec 32), q ≤ 8 ∧ i = .int .i64 q ∧ x = .int .u32 (p.toNat : Int) ∧ Hid (steps (8 - q) p = take r c)) (fun _ i => 8 - (intOf i).toNat)
  case atStart => exact ⟨0, a, Nat.zero_le _, rfl, rfl, HE⟩
  case round =>
    obtain ⟨q, p, hq, rfl, rfl, HP⟩ := hrel
    by_cases hlt : q < 8
    · have HQ := Lib.hid (show steps (8 - (q + 1)) (step p) = take r c by rw [← HP.out, show 8 - q = (8 - (q + 1)) + 1 by omega]; rfl)
      go_wp2_with (first
        | (go_at_call 19; refine (rStep_any p _).mono ?_; rintro e w1 ⟨rfl, rfl⟩))
      go_round
      case rel => exact ⟨q + 1, step p, by omega, by go_num, rfl, HQ⟩
      case measure => simp [intOf]; omega
    · obtain rfl : q = 8 := by omega
      have HQ := Lib.hid (show p = take r c from HP.out)
      go_wp2
      go_ret
      exact ⟨by rw [← HQ.out]; rfl, rfl⟩
end Go.Proofs.Ytjagnodfdniccaa.C
