/-
  num.Unbits: the walk.
-/
import Derived.Test.YtdchcggllcgokaaNum7
namespace Go.Proofs.Ytdchcggllcgokaa.U
open Go.RowKit Go.Proofs.Ytdchcggllcgokaa.L Go.Proofs.YtdchcggllcgokaaW.PrintWords
set_option linter.unusedVariables false
set_option linter.unusedSimpArgs false

theorem u16_or (a b : Nat) (ha : a < 65536) (hb : b < 65536) : bits .or .u16 (a : Int) (b : Int) = ((a ||| b : Nat) : Int) := by
  show IntKind.u16.wrap ((BitVec.ofInt 16 (a : Int) ||| BitVec.ofInt 16 (b : Int)).toNat : Int) = _
  rw [BitVec.ofInt_natCast, BitVec.ofInt_natCast, BitVec.toNat_or, BitVec.toNat_ofNat, BitVec.toNat_ofNat, Nat.mod_eq_of_lt ha, Nat.mod_eq_of_lt hb]
  have h := Nat.or_lt_two_pow (n := 16) ha hb
  exact IntWalk.u16_in _ (by omega)
theorem u16_and (a b : Nat) (ha : a < 65536) (hb : b < 65536) : bits .and .u16 (a : Int) (b : Int) = ((a &&& b : Nat) : Int) := by
  show IntKind.u16.wrap ((BitVec.ofInt 16 (a : Int) &&& BitVec.ofInt 16 (b : Int)).toNat : Int) = _
  rw [BitVec.ofInt_natCast, BitVec.ofInt_natCast, BitVec.toNat_and, BitVec.toNat_ofNat, BitVec.toNat_ofNat, Nat.mod_eq_of_lt ha, Nat.mod_eq_of_lt hb]
  have h : a &&& b ≤ a := Nat.and_le_left
  exact IntWalk.u16_in _ (by omega)
def imid (v : Nat → Nat) (s m q : Nat) : List Int := ((List.range q).map fun i => (item v s i : Int)) ++ List.replicate (m - q) 0
theorem imid_set (v : Nat → Nat) (s m q : Nat) (h : q < m) : (imid v s m q).set q (item v s q : Int) = imid v s m (q + 1) := by
  unfold imid
  rw [show m - q = (m - (q + 1)) + 1 by omega, List.replicate_succ, List.set_append_right _ _ (by simp), List.length_map, List.length_range, Nat.sub_self, List.set_cons_zero, List.range_succ, List.map_append]
  simp
theorem imid_end (v : Nat → Nat) (s m : Nat) : imid v s m m = items v s m := by simp [imid, items]
set_option maxRecDepth 100000 in
set_option maxHeartbeats 1000000 in
theorem Unbits_ok (A : Option Addr) (cap : Nat) (xs : List Int) (hw : ∀ x ∈ xs, (Lit.int .u8 x).wf = true) (s m : Nat) (h1 : 1 ≤ s) (h2 : s ≤ 8) (hm : m ≤ 1048576) (hsh : m * s ≤ 8 * xs.length) (w : World) (hr : ReadsInt w .u8 A xs.length xs) :
    Calls Try.prog 36 #[.slice A xs.length cap, .int .i64 (s : Int), .int .i64 (m : Int)] w fun e w' => ∃ g, e = .returned (.tuple #[.slice (some ⟨g, 0, none⟩) m m, .int .i64 0]) ∧ w'.ownsRow w.heap.size 5 1 (.slice (some ⟨g, 0, none⟩) m m) m (nums .u8 (items (val xs) s m)) ∧ Below w.heap.size w w' := by
  have HR := Lib.hid hr
  have hlen := hr.2.1
  have P1 : Hid (∀ w, Calls Try.prog 116 #[.int .i64 (s : Int)] w fun e w' => e = .returned (.bool true) ∧ w = w') := Lib.hid fun w => by
    have h := wide_any (s : Int) (by omega) w
    rw [decide_eq_true (by omega : 1 ≤ (s : Int) ∧ (s : Int) ≤ 8)] at h
    exact h
  obtain ⟨L, hL⟩ : ∃ L, L = m * s := ⟨_, rfl⟩
  have hL1 : (m : Int) * (s : Int) = (L : Int) := by rw [hL]; exact (Int.natCast_mul _ _).symm
  have hL2 : L ≤ 8388608 := by rw [hL]; exact Nat.mul_le_mul hm h2
  rw [← hL] at hsh
  have HL := Lib.hid hL
  have hmk : ∀ W : World, (Instr.makeSlice 22 (.int .i64 (m : Int)) (.int .i64 (m : Int))).run Try.prog W = .ok (.slice (some ⟨W.heap.size, 0, none⟩) m m) (W.alloc (.cells (madeCells #[.int .u8 0] m) 5)) := fun W => run_make_row' (P := Try.prog) 22 5 (.int .u8 0) 1 Try.underlying22 S.info_u8 rfl .i64 .i64 m (by omega) (by omega) W
  clear hr hL
  go_enter Try.func36, Try.ntmps36
  go_wp2_with (first
    | (go_at_call 116; refine (P1.out _).mono ?_; rintro e w1 ⟨rfl, rfl⟩))
  clear hL1 hmk
  go_loopw [38] (fun i wr => ∃ q : Nat, q ≤ m ∧ i = .int .i64 (q : Int) ∧ Hid (wr.ownsRow w.heap.size 5 1 (.slice (some ⟨w.heap.size, 0, none⟩) m m) m (nums .u8 (imid (val xs) s m q))) ∧ Hid (Below w.heap.size w wr)) (fun i _ => m - (intOf i).toNat)
  case atStart => exact ⟨0, Nat.zero_le _, rfl, Lib.hid (by simpa [imid] using own_made w w.heap.size 5 .u8 m (Nat.le_refl _) (by omega)), Lib.hid (below_alloc (Below.refl _ _) _)⟩
  case round =>
    obtain ⟨q, hq, rfl, HO, HB⟩ := hrel
    by_cases hlt : q < m
    · obtain ⟨a, ha⟩ : ∃ a, a = q * s := ⟨_, rfl⟩
      have ha1 : (q : Int) * (s : Int) = (a : Int) := by rw [ha]; exact (Int.natCast_mul _ _).symm
      have ha2 : a + s ≤ L := by
        rw [HL.out, ha, ← Nat.succ_mul]; exact Nat.mul_le_mul_right s hlt
      obtain ⟨j, hj⟩ : ∃ j, j = a / 8 := ⟨_, rfl⟩
      obtain ⟨p, hp⟩ : ∃ p, p = a % 8 := ⟨_, rfl⟩
      have hj1 : (a : Int) / 8 = (j : Int) := by omega
      have hp1 : (a : Int) % 8 = (p : Int) := by omega
      have hp8 : p < 8 := by omega
      have hjl : j < xs.length := by omega
      obtain ⟨b, hb⟩ : ∃ b, b = val xs j := ⟨_, rfl⟩
      obtain ⟨hrd, hb8⟩ := val_rd hw j
      rw [← hb] at hrd hb8
      obtain ⟨ad, rfl, cx⟩ := (HR.out.below HB.out).at_ (j : Int) (by omega) (by omega)
      rw [hrd, Int.toNat_natCast] at cx
      have HA := Lib.hid ha
      have HJ := Lib.hid hj
      have HP := Lib.hid hp
      have HBb := Lib.hid hb
      have hajp : a = 8 * j + p := by omega
      have HAJ := Lib.hid hajp
      obtain ⟨o1, o2⟩ := own_at' HO.out q hlt
      clear ha hj hp hb hrd hajp
      by_cases hov : 8 < p + s
      · have hjl2 : j + 1 < xs.length := by have := HAJ.out; omega
        obtain ⟨c, hc⟩ : ∃ c, c = val xs (j + 1) := ⟨_, rfl⟩
        obtain ⟨hrd2, hc8⟩ := val_rd hw (j + 1)
        rw [← hc] at hrd2 hc8
        obtain ⟨ad2, e2, cx2⟩ := (HR.out.below HB.out).at_ ((j + 1 : Nat) : Int) (by omega) (by omega)
        injection e2 with e2
        subst e2
        rw [hrd2, Int.toNat_natCast] at cx2
        obtain ⟨N, hN⟩ : ∃ N, N = b ||| c * 256 := ⟨_, rfl⟩
        have hNl : N < 65536 := by rw [hN]; exact Nat.or_lt_two_pow (n := 16) (by omega) (by omega)
        have e1 : bits .or .u16 (b : Int) ((c : Int) * 256) = (N : Int) := by
          rw [hN]; exact u16_or b (c * 256) (by omega) (by omega)
        have HI := Lib.hid (show (N / 2 ^ p) &&& (2 ^ s - 1) = item (val xs) s q by
          rw [hN, HBb.out, hc]; exact item_two (val xs) (fun i => (val_rd hw i).2) s q j p (by rw [HJ.out, HA.out]) (by rw [HP.out, HA.out]) h2 hov)
        have i4 : (0 : Int) ≤ (j : Int) + 1 := by omega
        have i5 : (j : Int) + 1 < (xs.length : Int) := by omega
        have i6 : ((j : Int) + 1).toNat = j + 1 := by omega
        have cx3 : wr.cell? ⟨ad.block, ad.off + (j + 1), none⟩ = some (.int .u8 (c : Int)) := by rw [← cx2]; simp [Addr.add]
        clear hN hc hrd2 cx2
        obtain ⟨z, hz⟩ : ∃ z, z = N / 2 ^ p := ⟨_, rfl⟩
        have z1 : (N : Int) / 2 ^ p = (z : Int) := by rw [hz]; exact (Int.natCast_ediv _ _).symm
        have z2 : (N : Int) / 2 ^ (min p 16) = (z : Int) := by rw [Nat.min_eq_left (by omega)]; exact z1
        have zl : z < 65536 := by
          have : z ≤ N := by rw [hz]; exact Nat.div_le_self _ _
          omega
        obtain ⟨t, ht⟩ : ∃ t, t = 2 ^ s := ⟨_, rfl⟩
        have ht1 : (2 : Int) ^ s = (t : Int) := by
          rw [ht]; show ((2 : Nat) : Int) ^ s = _
          rw [← Int.natCast_pow]
        have htl : 1 ≤ t ∧ t ≤ 256 := by
          rw [ht]; exact ⟨Nat.pow_pos (by decide), Nat.pow_le_pow_right (by decide) h2⟩
        obtain ⟨y, hy⟩ : ∃ y, y = z &&& (t - 1) := ⟨_, rfl⟩
        have hyl : y < 256 := by
          have h : y ≤ t - 1 := by rw [hy]; exact Nat.and_le_right
          omega
        have y1 : bits .and .u16 (z : Int) ((t : Int) - 1) = (y : Int) := by
          rw [hy, ← u16_and z (t - 1) zl (by omega), show ((t - 1 : Nat) : Int) = (t : Int) - 1 by omega]
        have HYI := Lib.hid (show (y : Int) = (item (val xs) s q : Int) by rw [← HI.out, hy, hz, ht])
        have f3 : (a : Int).tmod 8 = (p : Int) := by rw [Int.tmod_eq_emod_of_nonneg (by omega)]; exact hp1
        have f4 : IntKind.u16.wrap (t : Int) = (t : Int) := IntWalk.u16_in _ (by omega)
        have f5 : IntKind.u16.wrap ((t : Int) - 1) = (t : Int) - 1 := IntWalk.u16_in _ (by omega)
        have f6 : IntKind.u8.wrap (y : Int) = (y : Int) := IntWalk.u8_in _ (by omega)
        have f7 : IntKind.u16.wrap (1 * (t : Int)) = (t : Int) := by rw [Int.one_mul]; exact f4
        clear hz ht hy
        go_wp2
        refine wp_region_still_tail 12 (by kernel_rfl) (by kernel_rfl) ?_
        simp only [List.take_succ_cons, List.take_zero, List.drop_succ_cons, List.drop_zero]
        repeat still_step
        refine wpStill_nil ?_
        have p2 : wr.drew.frozen? ⟨w.heap.size, q, none⟩ = false := o2
        have p1 : wr.drew.cell? ⟨w.heap.size, q, none⟩ = some (.int .u8 (rd (imid (val xs) s m q) (q : Int))) := o1
        have HO4 : Hid (wr.drew.ownsRow w.heap.size 5 1 (.slice (some ⟨w.heap.size, 0, none⟩) m m) m (nums .u8 (imid (val xs) s m q))) := Lib.hid (own_drew HO.out)
        have HB4 : Hid (Below w.heap.size w wr.drew) := Lib.hid (below_drewN HB.out 1)
        have HO6 : Hid ((wr.drew.setCell ⟨w.heap.size, q, none⟩ (.int .u8 (y : Int))).ownsRow w.heap.size 5 1 (.slice (some ⟨w.heap.size, 0, none⟩) m m) m (nums .u8 (imid (val xs) s m (q + 1)))) := Lib.hid (by
          rw [HYI.out]
          have h := (own_store HO4.out (q : Int) (item (val xs) s q : Int)).1
          rw [Int.toNat_natCast, imid_set _ _ _ _ hlt] at h
          exact h)
        have HB6 := Lib.hid (HB4.out.setCell (p := ⟨w.heap.size, q, none⟩) (by simp) (.int .u8 (y : Int)))
        clear HO4 HB4 HO HB o1 o2
        change wpList _ _ _ _ _ wr.drew
        generalize wr.drew = w3 at p1 p2 HO6 HB6 ⊢
        go_wp2
        go_roundw
        case rel => exact ⟨q + 1, by omega, by go_num, HO6, HB6⟩
        case measure => simp [intOf]; omega
      · obtain ⟨N, hN⟩ : ∃ N, N = b := ⟨_, rfl⟩
        have HI := Lib.hid (show (N / 2 ^ p) &&& (2 ^ s - 1) = item (val xs) s q by
          rw [hN, HBb.out]; exact item_one (val xs) (fun i => (val_rd hw i).2) s q j p (by rw [HJ.out, HA.out]) (by rw [HP.out, HA.out]) (by omega))
        subst hN
        obtain ⟨z, hz⟩ : ∃ z, z = N / 2 ^ p := ⟨_, rfl⟩
        have z1 : (N : Int) / 2 ^ p = (z : Int) := by rw [hz]; exact (Int.natCast_ediv _ _).symm
        have z2 : (N : Int) / 2 ^ (min p 16) = (z : Int) := by rw [Nat.min_eq_left (by omega)]; exact z1
        have zl : z < 65536 := by
          have : z ≤ N := by rw [hz]; exact Nat.div_le_self _ _
          omega
        obtain ⟨t, ht⟩ : ∃ t, t = 2 ^ s := ⟨_, rfl⟩
        have ht1 : (2 : Int) ^ s = (t : Int) := by
          rw [ht]; show ((2 : Nat) : Int) ^ s = _
          rw [← Int.natCast_pow]
        have htl : 1 ≤ t ∧ t ≤ 256 := by
          rw [ht]; exact ⟨Nat.pow_pos (by decide), Nat.pow_le_pow_right (by decide) h2⟩
        obtain ⟨y, hy⟩ : ∃ y, y = z &&& (t - 1) := ⟨_, rfl⟩
        have hyl : y < 256 := by
          have h : y ≤ t - 1 := by rw [hy]; exact Nat.and_le_right
          omega
        have y1 : bits .and .u16 (z : Int) ((t : Int) - 1) = (y : Int) := by
          rw [hy, ← u16_and z (t - 1) zl (by omega), show ((t - 1 : Nat) : Int) = (t : Int) - 1 by omega]
        have HYI := Lib.hid (show (y : Int) = (item (val xs) s q : Int) by rw [← HI.out, hy, hz, ht])
        have f3 : (a : Int).tmod 8 = (p : Int) := by rw [Int.tmod_eq_emod_of_nonneg (by omega)]; exact hp1
        have f4 : IntKind.u16.wrap (t : Int) = (t : Int) := IntWalk.u16_in _ (by omega)
        have f5 : IntKind.u16.wrap ((t : Int) - 1) = (t : Int) - 1 := IntWalk.u16_in _ (by omega)
        have f6 : IntKind.u8.wrap (y : Int) = (y : Int) := IntWalk.u8_in _ (by omega)
        have f7 : IntKind.u16.wrap (1 * (t : Int)) = (t : Int) := by rw [Int.one_mul]; exact f4
        clear hz ht hy
        go_wp2
        refine wp_region_still_tail 12 (by kernel_rfl) (by kernel_rfl) ?_
        simp only [List.take_succ_cons, List.take_zero, List.drop_succ_cons, List.drop_zero]
        repeat still_step
        refine wpStill_nil ?_
        have p2 : wr.drew.frozen? ⟨w.heap.size, q, none⟩ = false := o2
        have p1 : wr.drew.cell? ⟨w.heap.size, q, none⟩ = some (.int .u8 (rd (imid (val xs) s m q) (q : Int))) := o1
        have HO4 : Hid (wr.drew.ownsRow w.heap.size 5 1 (.slice (some ⟨w.heap.size, 0, none⟩) m m) m (nums .u8 (imid (val xs) s m q))) := Lib.hid (own_drew HO.out)
        have HB4 : Hid (Below w.heap.size w wr.drew) := Lib.hid (below_drewN HB.out 1)
        have HO6 : Hid ((wr.drew.setCell ⟨w.heap.size, q, none⟩ (.int .u8 (y : Int))).ownsRow w.heap.size 5 1 (.slice (some ⟨w.heap.size, 0, none⟩) m m) m (nums .u8 (imid (val xs) s m (q + 1)))) := Lib.hid (by
          rw [HYI.out]
          have h := (own_store HO4.out (q : Int) (item (val xs) s q : Int)).1
          rw [Int.toNat_natCast, imid_set _ _ _ _ hlt] at h
          exact h)
        have HB6 := Lib.hid (HB4.out.setCell (p := ⟨w.heap.size, q, none⟩) (by simp) (.int .u8 (y : Int)))
        clear HO4 HB4 HO HB o1 o2
        change wpList _ _ _ _ _ wr.drew
        generalize wr.drew = w3 at p1 p2 HO6 HB6 ⊢
        go_wp2
        go_roundw
        case rel => exact ⟨q + 1, by omega, by go_num, HO6, HB6⟩
        case measure => simp [intOf]; omega
    · obtain rfl : q = m := by omega
      go_wp2
      go_ret2
      exact ⟨_, rfl, by rw [← imid_end]; exact HO.out, HB.out⟩
end Go.Proofs.Ytdchcggllcgokaa.U
