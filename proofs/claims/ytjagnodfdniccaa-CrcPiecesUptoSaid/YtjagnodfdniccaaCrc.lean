/-
  crc and ashlarref02, function by function.
-/
import Derived.Test.YtjagnodfdniccaaProg
import Derived.Test.YtjagnodfdniccaaArr
import Derived.Test.YtjagnodfdniccaaCrcMath
namespace Go.Proofs.Ytjagnodfdniccaa.C
open Go.RowKit Go.Proofs.Ytjagnodfdniccaa.L Go.Proofs.YtjagnodfdniccaaW.PrintWords
set_option linter.unusedVariables false
set_option linter.unusedSimpArgs false

/-! ### words of 32 bits as whole numbers -/
theorem w32 (r : BitVec 32) : IntKind.u32.wrap (r.toNat : Int) = (r.toNat : Int) := IntWalk.u32_in _ ⟨by omega, by have := r.isLt; omega⟩
theorem u32_xor (a b : BitVec 32) : bits .xor .u32 (a.toNat : Int) (b.toNat : Int) = ((a ^^^ b).toNat : Int) := by
  show IntKind.u32.wrap ((BitVec.ofInt 32 (a.toNat : Int) ^^^ BitVec.ofInt 32 (b.toNat : Int)).toNat : Int) = _
  rw [BitVec.ofInt_natCast, BitVec.ofInt_natCast, BitVec.ofNat_toNat, BitVec.ofNat_toNat, BitVec.setWidth_eq, BitVec.setWidth_eq, w32]
theorem u32_and (a b : BitVec 32) : bits .and .u32 (a.toNat : Int) (b.toNat : Int) = ((a &&& b).toNat : Int) := by
  show IntKind.u32.wrap ((BitVec.ofInt 32 (a.toNat : Int) &&& BitVec.ofInt 32 (b.toNat : Int)).toNat : Int) = _
  rw [BitVec.ofInt_natCast, BitVec.ofInt_natCast, BitVec.ofNat_toNat, BitVec.ofNat_toNat, BitVec.setWidth_eq, BitVec.setWidth_eq, w32]
theorem u32_shr (a : BitVec 32) (k : Nat) : (a.toNat : Int) / (2 ^ k : Nat) = ((a >>> k).toNat : Int) := by
  rw [BitVec.toNat_ushiftRight, Nat.shiftRight_eq_div_pow]; rfl
theorem lsb (r : BitVec 32) : r.getLsbD 0 = decide (r.toNat % 2 = 1) := by rw [BitVec.getLsbD, Nat.testBit_zero]
theorem and_one (r : BitVec 32) : r &&& 1#32 = if r.getLsbD 0 then 1#32 else 0#32 := by
  apply BitVec.eq_of_toNat_eq
  rw [BitVec.toNat_and, lsb, show (1#32).toNat = 2 ^ 1 - 1 from rfl, Nat.and_two_pow_sub_one_eq_mod]
  by_cases h : r.toNat % 2 = 1
  · simp [h]
  · simp [h, show r.toNat % 2 = 0 by omega]
theorem step_odd {r : BitVec 32} (h : r.toNat % 2 = 1) : step r = (r >>> 1) ^^^ poly := by rw [step, lsb, decide_eq_true h, if_pos rfl]
theorem step_ev {r : BitVec 32} (h : ¬ r.toNat % 2 = 1) : step r = r >>> 1 := by rw [step, lsb, decide_eq_false h]; simp

theorem Step_any (r : BitVec 32) (w : World) : Calls Try.prog 18 #[.int .u32 (r.toNat : Int)] w fun e w' => e = .returned (.int .u32 ((step r).toNat : Int)) ∧ w = w' := by
  have hr := r.isLt
  have h1 : bits .and .u32 (r.toNat : Int) 1 = ((r &&& 1#32).toNat : Int) := u32_and r 1#32
  have h2 : (r.toNat : Int) / 2 = ((r >>> 1).toNat : Int) := u32_shr r 1
  by_cases h : r.toNat % 2 = 1
  · rw [and_one, lsb, decide_eq_true h, if_pos rfl] at h1
    have HS := Lib.hid (show bits .xor .u32 ((r >>> 1).toNat : Int) 2197175160 = ((step r).toNat : Int) by rw [step_odd h]; exact u32_xor (r >>> 1) poly)
    have h3 : bits .and .u32 2197175160 4294967295 = 2197175160 := by decide +kernel
    have h1' : bits .and .u32 (r.toNat : Int) 1 = 1 := h1
    clear h1 h
    go_enter Try.func18, Try.ntmps18
    go_wp2
    go_ret
    exact ⟨ret_i HS.out, rfl⟩
  · rw [and_one, lsb, decide_eq_false h, if_neg (by decide)] at h1
    have HS := Lib.hid (show bits .xor .u32 ((r >>> 1).toNat : Int) 0 = ((step r).toNat : Int) by rw [step_ev h]; exact (u32_xor (r >>> 1) 0#32).trans (by rw [BitVec.xor_zero]))
    have h3 : bits .and .u32 2197175160 0 = 0 := by decide +kernel
    have h1' : bits .and .u32 (r.toNat : Int) 1 = 0 := h1
    clear h1 h
    go_enter Try.func18, Try.ntmps18
    go_wp2
    go_ret
    exact ⟨ret_i HS.out, rfl⟩
theorem rStep_any (r : BitVec 32) (w : World) : Calls Try.prog 19 #[.int .u32 (r.toNat : Int)] w fun e w' => e = .returned (.int .u32 ((step r).toNat : Int)) ∧ w = w' := by
  have hr := r.isLt
  have h2 : (r.toNat : Int) / 2 = ((r >>> 1).toNat : Int) := u32_shr r 1
  by_cases h : r.toNat % 2 = 1
  · have HS := Lib.hid (show bits .xor .u32 ((r >>> 1).toNat : Int) 2197175160 = ((step r).toNat : Int) by rw [step_odd h]; exact u32_xor (r >>> 1) poly)
    have h1 : ((r.toNat : Int) % 2 == 1) = true := by simp; omega
    clear h
    go_enter Try.func19, Try.ntmps19
    go_wp2
    go_ret
    exact ⟨ret_i HS.out, rfl⟩
  · have HS := Lib.hid (show ((r >>> 1).toNat : Int) = ((step r).toNat : Int) by rw [step_ev h])
    have h1 : ((r.toNat : Int) % 2 == 1) = false := by simp; omega
    clear h
    go_enter Try.func19, Try.ntmps19
    go_wp2
    go_ret
    exact ⟨ret_i HS.out, rfl⟩

/-! ### the table -/
def halvesC : Array Value := #[.int .u32 0, .int .u32 0x105ec76f, .int .u32 0x20bd8ede, .int .u32 0x30e349b1, .int .u32 0x417b1dbc, .int .u32 0x5125dad3, .int .u32 0x61c69362, .int .u32 0x7198540d, .int .u32 0x82f63b78, .int .u32 0x92a8fc17, .int .u32 0xa24bb5a6, .int .u32 0xb21572c9, .int .u32 0xc38d26c4, .int .u32 0xd3d3e1ab, .int .u32 0xe330a81a, .int .u32 0xf36e6f75]
theorem halves_at (i : Nat) (h : i < 16) : halvesC[i]? = some (.int .u32 ((half i).toNat : Int)) := by
  have : i = 0 ∨ i = 1 ∨ i = 2 ∨ i = 3 ∨ i = 4 ∨ i = 5 ∨ i = 6 ∨ i = 7 ∨ i = 8 ∨ i = 9 ∨ i = 10 ∨ i = 11 ∨ i = 12 ∨ i = 13 ∨ i = 14 ∨ i = 15 := by omega
  rcases this with rfl | rfl | rfl | rfl | rfl | rfl | rfl | rfl | rfl | rfl | rfl | rfl | rfl | rfl | rfl | rfl <;> rfl
theorem info_halves : (Try.prog.info? 75).map (·.size) = some halvesC.size := by kernel_rfl
theorem one_halves : halvesC.all (·.oneCell') = true := by kernel_rfl
theorem zero_halves (w : World) : (zeroValue 75).run Try.prog w = .ok (.agg (Array.replicate 16 (.int .u32 0))) w := by kernel_rfl
theorem halves_any (w : World) : Calls Try.prog 59 #[] w fun e w' => e = .returned (.agg halvesC) ∧ Below w.heap.size w w' := by
  go_enter Try.func59, Try.ntmps59
  go_wp2_with (first
    | (refine rowAlloc rfl 75 rfl _ zero_halves ?_; intro w1 hk1 hg1 hz1)
    | (refine rowStore rfl 75 (.tmp 0) (.tmp 1) rfl w.heap.size rfl halvesC rfl 75 _ hk1 info_halves rfl one_halves ?_; intro w2 hk2 hg2))
  refine bodyPost_ret (v := .agg halvesC) (results_cell_row rfl _ _ w.heap.size _ halvesC (0, 0) _ rfl hk2 Try.underlying75 rfl info_halves) rfl ⟨rfl, below_own (grown_below hg1) hg2 (Nat.le_refl _)⟩
end Go.Proofs.Ytjagnodfdniccaa.C
