/-
  crc and ashlarref02, function by function.
-/
import Derived.Test.YtdchcggllcgokaaProg
import Derived.Test.YtdchcggllcgokaaArr
import Derived.Test.YtdchcggllcgokaaCrcMath
namespace Go.Proofs.Ytdchcggllcgokaa.C
open Go.RowKit Go.Proofs.Ytdchcggllcgokaa.L Go.Proofs.YtdchcggllcgokaaW.PrintWords
set_option linter.unusedVariables false
set_option linter.unusedSimpArgs false

/-! ### words of 32 bits as whole numbers -/
theorem w32 (r : BitVec 32) : IntKind.u32.wrap (r.toNat : Int) = (r.toNat : Int) := IntWalk.u32_in _ ⟨by omega, by have := r.isLt; omega⟩
theorem u32_xor (a b : BitVec 32) : bits .xor .u32 (a.toNat : Int) (b.toNat : Int) = ((a ^^^ b).toNat : Int) := by
  show IntKind.u32.wrap ((BitVec.ofInt 32 (a.toNat : Int) ^^^ BitVec.ofInt 32 (b.toNat : Int)).toNat : Int) = _
  rw [BitVec.ofInt_natCast, BitVec.ofInt_natCast, BitVec.ofNat_toNat, BitVec.ofNat_toNat, BitVec.setWidth_eq, BitVec.setWidth_eq, w32]
theorem u32_and (a b : BitVec 32) : bits .and .u32 (a.toNat : Int) (b.toNat : Int) = ((a &&& b).toNat : Int) := by
  show IntKind.u32.wrap ((BitVec.ofInt 32 (a.toNat : Int) &&& BitVec.ofInt 32 (b.toNat : Int)).toNat : Int) = _
  rw [BitVec.ofInt_natCast, BitVec.ofInt_natCast, BitVec.ofNat_toNat, BitVec.ofNat_toNat, BitVec.setWidth_eq, BitVec.setWidth_eq, w32]
theorem u32_shr (a : BitVec 32) (k : Nat) : (a.toNat : Int) / (2 ^ k : Nat) = ((a >>> k).toNat : Int) := by
  rw [BitVec.toNat_ushiftRight, Nat.shiftRight_eq_div_pow]; rfl
theorem lsb (r : BitVec 32) : r.getLsbD 0 = decide (r.toNat % 2 = 1) := by rw [BitVec.getLsbD, Nat.testBit_zero]
theorem and_one (r : BitVec 32) : r &&& 1#32 = if r.getLsbD 0 then 1#32 else 0#32 := by
  apply BitVec.eq_of_toNat_eq
  rw [BitVec.toNat_and, lsb, show (1#32).toNat = 2 ^ 1 - 1 from rfl, Nat.and_two_pow_sub_one_eq_mod]
  by_cases h : r.toNat % 2 = 1
  · simp [h]
  · simp [h, show r.toNat % 2 = 0 by omega]
theorem step_odd {r : BitVec 32} (h : r.toNat % 2 = 1) : step r = (r >>> 1) ^^^ poly := by rw [step, lsb, decide_eq_true h, if_pos rfl]
theorem step_ev {r : BitVec 32} (h : ¬ r.toNat % 2 = 1) : step r = r >>> 1 := by rw [step, lsb, decide_eq_false h]; simp

theorem rStep_any (r : BitVec 32) (w : World) : Calls Try.prog 154 #[.int .u32 (r.toNat : Int)] w fun e w' => e = .returned (.int .u32 ((step r).toNat : Int)) ∧ w = w' := by
  have hr := r.isLt
  have h2 : (r.toNat : Int) / 2 = ((r >>> 1).toNat : Int) := u32_shr r 1
  by_cases h : r.toNat % 2 = 1
  · have HS := Lib.hid (show bits .xor .u32 ((r >>> 1).toNat : Int) 2197175160 = ((step r).toNat : Int) by rw [step_odd h]; exact u32_xor (r >>> 1) poly)
    have h1 : ((r.toNat : Int) % 2 == 1) = true := by simp; omega
    clear h
    go_enter Try.func154, Try.ntmps154
    go_wp2
    go_ret
    exact ⟨ret_i HS.out, rfl⟩
  · have HS := Lib.hid (show ((r >>> 1).toNat : Int) = ((step r).toNat : Int) by rw [step_ev h])
    have h1 : ((r.toNat : Int) % 2 == 1) = false := by simp; omega
    clear h
    go_enter Try.func154, Try.ntmps154
    go_wp2
    go_ret
    exact ⟨ret_i HS.out, rfl⟩

/-! ### the table -/
def halvesC : Array Value := #[.int .u32 0, .int .u32 0x105ec76f, .int .u32 0x20bd8ede, .int .u32 0x30e349b1, .int .u32 0x417b1dbc, .int .u32 0x5125dad3, .int .u32 0x61c69362, .int .u32 0x7198540d, .int .u32 0x82f63b78, .int .u32 0x92a8fc17, .int .u32 0xa24bb5a6, .int .u32 0xb21572c9, .int .u32 0xc38d26c4, .int .u32 0xd3d3e1ab, .int .u32 0xe330a81a, .int .u32 0xf36e6f75]
theorem halves_at (i : Nat) (h : i < 16) : halvesC[i]? = some (.int .u32 ((half i).toNat : Int)) := by
  have : i = 0 ∨ i = 1 ∨ i = 2 ∨ i = 3 ∨ i = 4 ∨ i = 5 ∨ i = 6 ∨ i = 7 ∨ i = 8 ∨ i = 9 ∨ i = 10 ∨ i = 11 ∨ i = 12 ∨ i = 13 ∨ i = 14 ∨ i = 15 := by omega
  rcases this with rfl | rfl | rfl | rfl | rfl | rfl | rfl | rfl | rfl | rfl | rfl | rfl | rfl | rfl | rfl | rfl <;> rfl
theorem info_halves : (Try.prog.info? 157).map (·.size) = some halvesC.size := by kernel_rfl
theorem one_halves : halvesC.all (·.oneCell') = true := by kernel_rfl
theorem zero_halves (w : World) : (zeroValue 157).run Try.prog w = .ok (.agg (Array.replicate 16 (.int .u32 0))) w := by kernel_rfl
theorem halves_any (w : World) : Calls Try.prog 153 #[] w fun e w' => e = .returned (.agg halvesC) ∧ Below w.heap.size w w' := by
  go_enter Try.func153, Try.ntmps153
  go_wp2_with (first
    | (refine rowAlloc rfl 157 rfl _ zero_halves ?_; intro w1 hk1 hg1 hz1)
    | (refine rowStore rfl 157 (.tmp 0) (.tmp 1) rfl w.heap.size rfl halvesC rfl 157 _ hk1 info_halves rfl one_halves ?_; intro w2 hk2 hg2))
  refine bodyPost_ret (v := .agg halvesC) (results_cell_row rfl _ _ w.heap.size _ halvesC (0, 0) _ rfl hk2 Try.underlying157 rfl info_halves) rfl ⟨rfl, below_own (grown_below hg1) hg2 (Nat.le_refl _)⟩

theorem u32_not (r : BitVec 32) : 4294967295 - (r.toNat : Int) = ((~~~ r).toNat : Int) := by
  rw [BitVec.toNat_not]; have := r.isLt; omega
theorem wid (c : BitVec 8) : (c.setWidth 32).toNat = c.toNat := by
  rw [BitVec.toNat_setWidth]; exact Nat.mod_eq_of_lt (by have := c.isLt; omega)

set_option maxHeartbeats 400000 in
theorem Take_any (r : BitVec 32) (c : BitVec 8) (w : World) : Calls Try.prog 147 #[.int .u32 (r.toNat : Int), .int .u8 (c.toNat : Int)] w fun e w' => e = .returned (.int .u32 ((take r c).toNat : Int)) ∧ Below w.heap.size w w' := by
  have hr := r.isLt
  have hc := c.isLt
  obtain ⟨a, ha⟩ : ∃ a, a = r ^^^ c.setWidth 32 := ⟨_, rfl⟩
  obtain ⟨i, hi⟩ : ∃ i, i = (a &&& 15#32).toNat := ⟨_, rfl⟩
  obtain ⟨b, hb⟩ : ∃ b, b = (a >>> 4) ^^^ half i := ⟨_, rfl⟩
  obtain ⟨j, hj⟩ : ∃ j, j = (b &&& 15#32).toNat := ⟨_, rfl⟩
  have e1 : bits .xor .u32 (r.toNat : Int) (c.toNat : Int) = (a.toNat : Int) := by rw [ha, ← u32_xor, wid]
  obtain ⟨s, hs⟩ : ∃ s, s = a >>> 4 := ⟨_, rfl⟩
  obtain ⟨t, ht⟩ : ∃ t, t = b >>> 4 := ⟨_, rfl⟩
  obtain ⟨y, hy⟩ : ∃ y, y = half i := ⟨_, rfl⟩
  obtain ⟨z, hz⟩ : ∃ z, z = half j := ⟨_, rfl⟩
  have e2 : (a.toNat : Int) / 16 = (s.toNat : Int) := by rw [hs]; exact u32_shr a 4
  have e3 : bits .and .u32 (a.toNat : Int) 15 = (i : Int) := by rw [hi]; exact u32_and a 15#32
  have e4 : bits .xor .u32 (s.toNat : Int) (y.toNat : Int) = (b.toNat : Int) := by rw [hb, hs, hy, ← u32_xor]
  have e5 : (b.toNat : Int) / 16 = (t.toNat : Int) := by rw [ht]; exact u32_shr b 4
  have e6 : bits .and .u32 (b.toNat : Int) 15 = (j : Int) := by rw [hj]; exact u32_and b 15#32
  have HE := Lib.hid (show bits .xor .u32 (t.toNat : Int) (z.toNat : Int) = ((take r c).toNat : Int) by
    rw [take_halves r c a b ha (by rw [hb, hi]), ← hj, ht, hz, ← u32_xor])
  have i1 : i < 16 := by rw [hi, BitVec.toNat_and]; exact Nat.lt_of_le_of_lt Nat.and_le_right (by decide)
  have j1 : j < 16 := by rw [hj, BitVec.toNat_and]; exact Nat.lt_of_le_of_lt Nat.and_le_right (by decide)
  have ra := a.isLt
  have rb := b.isLt
  have rs := s.isLt
  have rt := t.isLt
  have ry := y.isLt
  have rz := z.isLt
  have HI := Lib.hid (hy ▸ halves_at i i1 : halvesC[i]? = some (.int .u32 (y.toNat : Int)))
  have HJ := Lib.hid (hz ▸ halves_at j j1 : halvesC[j]? = some (.int .u32 (z.toNat : Int)))
  clear ha hi hb hj hs ht hy hz
  go_enter Try.func147, Try.ntmps147
  go_wp2_with (first
    | (go_at_call 153; refine (halves_any _).mono ?_; rintro e w1 ⟨rfl, hb1⟩)
    | (refine rowAlloc rfl 157 rfl _ zero_halves ?_; intro w2 hk2 hg2 hz2)
    | (refine rowStore rfl 157 (.tmp 5) (.tmp 6) rfl w1.heap.size rfl halvesC rfl 157 _ hk2 info_halves rfl one_halves ?_; intro w3 hk3 hg3; have ci := (blk_cell hk3 i).trans HI.out; have cj := (blk_cell hk3 j).trans HJ.out; have B3 := Lib.hid (below_own (below_ext hb1 (grown_below hg2)) hg3 hb1.size); clear hb1 hg2 hg3 hk2 hk3))
  go_ret
  exact ⟨ret_i HE.out, B3.out⟩

theorem rTake_any (r : BitVec 32) (c : BitVec 8) (w : World) : Calls Try.prog 148 #[.int .u32 (r.toNat : Int), .int .u8 (c.toNat : Int)] w fun e w' => e = .returned (.int .u32 ((take r c).toNat : Int)) ∧ w = w' := by
  have hr := r.isLt
  have hc := c.isLt
  obtain ⟨a, ha⟩ : ∃ a, a = r ^^^ c.setWidth 32 := ⟨_, rfl⟩
  have e1 : bits .xor .u32 (r.toNat : Int) (c.toNat : Int) = (a.toNat : Int) := by rw [ha, ← u32_xor, wid]
  have HE := Lib.hid (show steps 8 a = take r c by rw [ha, take])
  clear ha
  go_enter Try.func148, Try.ntmps148
  go_wp2
  go_loop [0, 5] (fun x i => ∃ (q : Nat) (p : BitVec 32), q ≤ 8 ∧ i = .int .i64 q ∧ x = .int .u32 (p.toNat : Int) ∧ Hid (steps (8 - q) p = take r c)) (fun _ i => 8 - (intOf i).toNat)
  case atStart => exact ⟨0, a, Nat.zero_le _, rfl, rfl, HE⟩
  case round =>
    obtain ⟨q, p, hq, rfl, rfl, HP⟩ := hrel
    by_cases hlt : q < 8
    · have HQ := Lib.hid (show steps (8 - (q + 1)) (step p) = take r c by rw [← HP.out, show 8 - q = (8 - (q + 1)) + 1 by omega]; rfl)
      go_wp2_with (first
        | (go_at_call 154; refine (rStep_any p _).mono ?_; rintro e w1 ⟨rfl, rfl⟩))
      go_round
      case rel => exact ⟨q + 1, step p, by omega, by go_num, rfl, HQ⟩
      case measure => simp [intOf]; omega
    · obtain rfl : q = 8 := by omega
      have HQ := Lib.hid (show p = take r c from HP.out)
      go_wp2
      go_ret
      exact ⟨by rw [← HQ.out]; rfl, rfl⟩

/-- bytes as whole numbers -/
def by8 (bs : List (BitVec 8)) : List Int := bs.map fun b => (b.toNat : Int)
@[simp] theorem by8_length (bs : List (BitVec 8)) : (by8 bs).length = bs.length := by simp [by8]
theorem by8_append (a b : List (BitVec 8)) : by8 (a ++ b) = by8 a ++ by8 b := by simp [by8]
theorem by8_rd (bs : List (BitVec 8)) (q : Nat) (h : q < bs.length) : rd (by8 bs) (q : Int) = (bs[q].toNat : Int) := by
  simp [rd, by8, List.getD_eq_getElem?_getD, List.getElem?_map, List.getElem?_eq_getElem h]
theorem by8_of (l : List Int) (h : ∀ x ∈ l, (Lit.int .u8 x).wf = true) : ∃ bs : List (BitVec 8), l = by8 bs := by
  refine ⟨l.map fun x => BitVec.ofNat 8 x.toNat, ?_⟩
  rw [by8, List.map_map]
  conv => lhs; rw [← List.map_id l]
  apply List.map_congr_left
  intro x hx
  obtain ⟨h1, h2⟩ := bounds_u8 (h x hx)
  simp only [id, Function.comp, BitVec.toNat_ofNat]
  omega
theorem u32_inv (s : BitVec 32) : bits .xor .u32 IntKind.u32.max (s.toNat : Int) = ((~~~ s).toNat : Int) := by
  have h := u32_xor (BitVec.allOnes 32) s
  rw [BitVec.allOnes_xor] at h
  exact h
theorem fold_take_succ (r : BitVec 32) (bs : List (BitVec 8)) (q : Nat) (h : q < bs.length) : fold r (bs.take (q + 1)) = take (fold r (bs.take q)) bs[q] := by
  rw [List.take_succ_eq_append_getElem h, fold_append]; rfl

set_option maxHeartbeats 400000 in
theorem More_any (s : BitVec 32) (A : Option Addr) (cap : Nat) (bs : List (BitVec 8)) (w : World) (hr : ReadsInt w .u8 A bs.length (by8 bs)) (hn : bs.length ≤ 9223372036854775807) :
    Calls Try.prog 129 #[.int .u32 (s.toNat : Int), .slice A bs.length cap] w fun e w' => e = .returned (.int .u32 ((more s bs).toNat : Int)) ∧ Below w.heap.size w w' := by
  have hs := s.isLt
  have HR := Lib.hid hr
  clear hr
  obtain ⟨p, hp⟩ : ∃ p, p = ~~~ s := ⟨_, rfl⟩
  have e1 : bits .xor .u32 IntKind.u32.max (s.toNat : Int) = (p.toNat : Int) := by rw [hp]; exact u32_inv s
  have HF := Lib.hid (show ~~~ (fold p bs) = more s bs by rw [hp]; rfl)
  have hpl := p.isLt
  clear hp
  go_enter Try.func129, Try.ntmps129
  go_wp2
  go_loopw [5, 12] (fun x i wr => ∃ q : Nat, q ≤ bs.length ∧ i = .int .i64 q ∧ x = .int .u32 ((fold p (bs.take q)).toNat : Int) ∧ Hid (Below w.heap.size w wr)) (fun _ i _ => bs.length - (intOf i).toNat)
  case atStart => exact ⟨0, Nat.zero_le _, rfl, rfl, Lib.hid (Below.refl _ _)⟩
  case round =>
    obtain ⟨q, hq, rfl, rfl, HB⟩ := hrel
    obtain ⟨R, hR⟩ : ∃ R, R = fold p (bs.take q) := ⟨_, rfl⟩
    rw [← hR]
    by_cases hlt : q < bs.length
    · obtain ⟨ad, rfl, cx⟩ := (HR.out.below HB.out).at_ (q : Int) (by omega) (by omega)
      simp only [Int.toNat_natCast] at cx
      rw [by8_rd bs q hlt] at cx
      obtain ⟨b, hb⟩ : ∃ b, b = bs[q] := ⟨_, rfl⟩
      rw [← hb] at cx
      have HX := Lib.hid (show fold p (bs.take (q + 1)) = take R b by rw [fold_take_succ p bs q hlt, hR, hb])
      have hbl := b.isLt
      have hRl := R.isLt
      clear hR hb
      go_wp2_with (first
        | (go_at_call 147; refine (Take_any R b _).mono ?_; rintro e w1 ⟨rfl, hb1⟩; have B1 := Lib.hid (below_ext HB.out hb1); clear hb1))
      go_roundw
      case rel => exact ⟨q + 1, by omega, by go_num, by rw [HX.out], B1⟩
      case measure => simp [intOf]; omega
    · have e2 : bits .xor .u32 IntKind.u32.max (R.toNat : Int) = ((more s bs).toNat : Int) := by
        rw [← HF.out, hR, List.take_of_length_le (by omega)]; exact u32_inv _
      have hRl := R.isLt
      clear hR
      go_wp2
      go_ret
      exact ⟨rfl, HB.out⟩

set_option maxHeartbeats 400000 in
theorem rMore_any (s : BitVec 32) (A : Option Addr) (cap : Nat) (bs : List (BitVec 8)) (w : World) (hr : ReadsInt w .u8 A bs.length (by8 bs)) (hn : bs.length ≤ 9223372036854775807) :
    Calls Try.prog 130 #[.int .u32 (s.toNat : Int), .slice A bs.length cap] w fun e w' => e = .returned (.int .u32 ((more s bs).toNat : Int)) ∧ Below w.heap.size w w' := by
  have hs := s.isLt
  have HR := Lib.hid hr
  clear hr
  obtain ⟨p, hp⟩ : ∃ p, p = ~~~ s := ⟨_, rfl⟩
  have e1 : bits .xor .u32 IntKind.u32.max (s.toNat : Int) = (p.toNat : Int) := by rw [hp]; exact u32_inv s
  have HF := Lib.hid (show ~~~ (fold p bs) = more s bs by rw [hp]; rfl)
  have hpl := p.isLt
  clear hp
  go_enter Try.func130, Try.ntmps130
  go_wp2
  go_loopw [5, 6] (fun x i wr => ∃ q : Nat, q ≤ bs.length ∧ i = .int .i64 q ∧ x = .int .u32 ((fold p (bs.take q)).toNat : Int) ∧ Hid (Below w.heap.size w wr)) (fun _ i _ => bs.length - (intOf i).toNat)
  case atStart => exact ⟨0, Nat.zero_le _, rfl, rfl, Lib.hid (Below.refl _ _)⟩
  case round =>
    obtain ⟨q, hq, rfl, rfl, HB⟩ := hrel
    obtain ⟨R, hR⟩ : ∃ R, R = fold p (bs.take q) := ⟨_, rfl⟩
    rw [← hR]
    by_cases hlt : q < bs.length
    · obtain ⟨ad, rfl, cx⟩ := (HR.out.below HB.out).at_ (q : Int) (by omega) (by omega)
      simp only [Int.toNat_natCast] at cx
      rw [by8_rd bs q hlt] at cx
      obtain ⟨b, hb⟩ : ∃ b, b = bs[q] := ⟨_, rfl⟩
      rw [← hb] at cx
      have HX := Lib.hid (show fold p (bs.take (q + 1)) = take R b by rw [fold_take_succ p bs q hlt, hR, hb])
      have hbl := b.isLt
      have hRl := R.isLt
      clear hR hb
      go_wp2_with (first
        | (go_at_call 148; refine (rTake_any R b _).mono ?_; rintro e w1 ⟨rfl, hb1⟩; subst hb1; have B1 := Lib.hid HB.out))
      go_roundw
      case rel => exact ⟨q + 1, by omega, by go_num, by rw [HX.out], B1⟩
      case measure => simp [intOf]; omega
    · have e2 : bits .xor .u32 IntKind.u32.max (R.toNat : Int) = ((more s bs).toNat : Int) := by
        rw [← HF.out, hR, List.take_of_length_le (by omega)]; exact u32_inv _
      have hRl := R.isLt
      clear hR
      go_wp2
      go_ret
      exact ⟨rfl, HB.out⟩


theorem Of_any (A : Option Addr) (cap : Nat) (bs : List (BitVec 8)) (w : World) (hr : ReadsInt w .u8 A bs.length (by8 bs)) (hn : bs.length ≤ 9223372036854775807) :
    Calls Try.prog 123 #[.slice A bs.length cap] w fun e w' => e = .returned (.int .u32 ((more 0#32 bs).toNat : Int)) ∧ Below w.heap.size w w' := by
  have H := Lib.hid (fun W (h : W = w) => More_any 0#32 A cap bs w hr hn)
  clear hr
  go_enter Try.func123, Try.ntmps123
  go_wp2_with (first
    | (go_at_call 129; refine (H.out _ rfl).mono ?_; rintro e w1 ⟨rfl, hb1⟩))
  go_ret
  exact ⟨rfl, hb1⟩

theorem rOf_any (A : Option Addr) (cap : Nat) (bs : List (BitVec 8)) (w : World) (hr : ReadsInt w .u8 A bs.length (by8 bs)) (hn : bs.length ≤ 9223372036854775807) :
    Calls Try.prog 124 #[.slice A bs.length cap] w fun e w' => e = .returned (.int .u32 ((more 0#32 bs).toNat : Int)) ∧ Below w.heap.size w w' := by
  have H := Lib.hid (fun W (h : W = w) => rMore_any 0#32 A cap bs w hr hn)
  clear hr
  go_enter Try.func124, Try.ntmps124
  go_wp2_with (first
    | (go_at_call 130; refine (H.out _ rfl).mono ?_; rintro e w1 ⟨rfl, hb1⟩))
  go_ret
  exact ⟨rfl, hb1⟩




end Go.Proofs.Ytdchcggllcgokaa.C
