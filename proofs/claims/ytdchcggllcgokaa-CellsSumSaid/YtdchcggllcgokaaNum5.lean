/-
  num.wide, num.Bits: the walks.
-/
import Derived.Test.YtdchcggllcgokaaNum4
import Derived.Test.YtdchcggllcgokaaBits
import Derived.StillTailTactics
namespace Go.Proofs.Ytdchcggllcgokaa.U
open Go.RowKit Go.Proofs.Ytdchcggllcgokaa.L Go.Proofs.YtdchcggllcgokaaW.PrintWords
set_option linter.unusedVariables false
set_option linter.unusedSimpArgs false

theorem wide_any (n : Int) (hn : -9223372036854775808 ≤ n ∧ n ≤ 9223372036854775807) (w : World) : Calls Try.prog 116 #[.int .i64 n] w fun e w' => e = .returned (.bool (decide (1 ≤ n ∧ n ≤ 8))) ∧ w = w' := by
  obtain ⟨h1, h2⟩ := hn
  go_enter Try.func116, Try.ntmps116
  by_cases g1 : 1 ≤ n
  · go_wp2
    go_ret
    exact ⟨ret_b (by simp [g1]), rfl⟩
  · go_wp2
    go_ret
    exact ⟨ret_b (by symm; simp; omega), rfl⟩
def val (xs : List Int) (i : Nat) : Nat := (rd xs (i : Int)).toNat
theorem val_rd {xs : List Int} (hw : ∀ x ∈ xs, (Lit.int .u8 x).wf = true) (i : Nat) : rd xs (i : Int) = (val xs i : Int) ∧ val xs i < 256 := by
  have := rd_byte hw i
  rw [val]; omega
theorem Bits_width (A : Option Addr) (cap m : Nat) (n : Int) (hn : -9223372036854775808 ≤ n ∧ n ≤ 9223372036854775807) (h : ¬ (1 ≤ n ∧ n ≤ 8)) (w : World) :
    Calls Try.prog 34 #[.slice A m cap, .int .i64 n] w fun e w' => e = .returned (.tuple #[.slice none 0 0, .int .i64 2]) ∧ w = w' := by
  have P1 := Lib.hid (fun w => decide_eq_false h ▸ wide_any n hn w)
  clear h
  go_enter Try.func34, Try.ntmps34
  go_wp2_with (first
    | (go_at_call 116; refine (P1.out _).mono ?_; rintro e w1 ⟨rfl, rfl⟩))
  go_ret2
  exact ⟨rfl, rfl⟩
theorem bytes_rd (f : Nat → Bool) (m j : Nat) (h : j < m) : rd (V.bytes f m) (j : Int) = (V.byt8 f j : Int) := by
  simp [rd, V.bytes, List.getD_eq_getElem?_getD, List.getElem?_map, List.getElem?_range h]
theorem bytes_congr {f g : Nat → Bool} {m : Nat} (h : ∀ i, V.byt8 f i = V.byt8 g i) : V.bytes f m = V.bytes g m := by
  simp only [V.bytes, h]
theorem u8_shl (n p : Nat) : IntKind.u8.wrap ((n : Int) * 2 ^ p) = ((n * 2 ^ p % 256 : Nat) : Int) := by
  have e : (2 : Int) ^ p = ((2 ^ p : Nat) : Int) := by
    show ((2 : Nat) : Int) ^ p = _
    rw [← Int.natCast_pow]
  rw [e, ← Int.natCast_mul]
  generalize n * 2 ^ p = k
  simp [IntKind.wrap, IntKind.signed, IntKind.bits]
theorem u8_or (a b : Nat) (ha : a < 256) (hb : b < 256) : bits .or .u8 (a : Int) (b : Int) = ((a ||| b : Nat) : Int) := by
  show IntKind.u8.wrap ((BitVec.ofInt 8 (a : Int) ||| BitVec.ofInt 8 (b : Int)).toNat : Int) = _
  rw [BitVec.ofInt_natCast, BitVec.ofInt_natCast, BitVec.toNat_or, BitVec.toNat_ofNat, BitVec.toNat_ofNat, Nat.mod_eq_of_lt ha, Nat.mod_eq_of_lt hb]
  have h := Nat.or_lt_two_pow (n := 8) ha hb
  exact IntWalk.u8_in _ (by omega)
set_option maxRecDepth 100000 in
set_option maxHeartbeats 1000000 in
theorem Bits_any (A : Option Addr) (cap : Nat) (xs : List Int) (hw : ∀ x ∈ xs, (Lit.int .u8 x).wf = true) (s : Nat) (h1 : 1 ≤ s) (h2 : s ≤ 8) (hl : xs.length ≤ 1048576) (w : World) (hr : ReadsInt w .u8 A xs.length xs) :
    Calls Try.prog 34 #[.slice A xs.length cap, .int .i64 (s : Int)] w fun e w' => (((∃ i, i < xs.length ∧ 2 ^ s ≤ val xs i) ∧ e = .returned (.tuple #[.slice none 0 0, .int .i64 2])) ∨ ((∀ i, i < xs.length → val xs i < 2 ^ s) ∧ ∃ g, e = .returned (.tuple #[.slice (some ⟨g, 0, none⟩) ((xs.length * s + 7) / 8) ((xs.length * s + 7) / 8), .int .i64 0]) ∧ w'.ownsRow w.heap.size 5 1 (.slice (some ⟨g, 0, none⟩) ((xs.length * s + 7) / 8) ((xs.length * s + 7) / 8)) ((xs.length * s + 7) / 8) (nums .u8 (V.bytes (V.part (val xs) s xs.length) ((xs.length * s + 7) / 8))))) ∧ Below w.heap.size w w' := by
  have HR := Lib.hid hr
  have P1 : Hid (∀ w, Calls Try.prog 116 #[.int .i64 (s : Int)] w fun e w' => e = .returned (.bool true) ∧ w = w') := Lib.hid fun w => by
    have h := wide_any (s : Int) (by omega) w
    rw [decide_eq_true (by omega : 1 ≤ (s : Int) ∧ (s : Int) ≤ 8)] at h
    exact h
  obtain ⟨L, hL⟩ : ∃ L, L = xs.length * s := ⟨_, rfl⟩
  have hL1 : (xs.length : Int) * (s : Int) = (L : Int) := by rw [hL]; exact (Int.natCast_mul _ _).symm
  have hL2 : L ≤ 8388608 := by rw [hL]; exact Nat.mul_le_mul hl h2
  rw [← hL]
  have HL := Lib.hid hL
  obtain ⟨M, hM⟩ : ∃ M, M = (L + 7) / 8 := ⟨_, rfl⟩
  rw [← hM]
  have hM1 : M ≤ 1048577 := by omega
  have hM2 : L ≤ 8 * M := by omega
  have hmk : ∀ W : World, (Instr.makeSlice 22 (.int .i64 (((L : Int) + 8 - 1) / 8)) (.int .i64 (((L : Int) + 8 - 1) / 8))).run Try.prog W = .ok (.slice (some ⟨W.heap.size, 0, none⟩) M M) (W.alloc (.cells (madeCells #[.int .u8 0] M) 5)) := fun W => by
    have h := run_make_row' (P := Try.prog) 22 5 (.int .u8 0) 1 Try.underlying22 S.info_u8 rfl .i64 .i64 M (by omega) (by omega) W
    rwa [show (M : Int) = ((L : Int) + 8 - 1) / 8 by omega] at h
  clear hr hL hM
  go_enter Try.func34, Try.ntmps34
  go_wp2_with (first
    | (go_at_call 116; refine (P1.out _).mono ?_; rintro e w1 ⟨rfl, rfl⟩))
  clear hL1 hmk
  go_loopw [24] (fun i wr => ∃ q : Nat, q ≤ xs.length ∧ i = .int .i64 (q : Int) ∧ Hid (∀ i, i < q → val xs i < 2 ^ s) ∧ Hid (wr.ownsRow w.heap.size 5 1 (.slice (some ⟨w.heap.size, 0, none⟩) M M) M (nums .u8 (V.bytes (V.part (val xs) s q) M))) ∧ Hid (Below w.heap.size w wr)) (fun i _ => xs.length - (intOf i).toNat)
  case atStart => exact ⟨0, Nat.zero_le _, rfl, Lib.hid (fun i h => absurd h (by omega)), Lib.hid (by rw [V.bytes_zero]; exact own_made w w.heap.size 5 .u8 M (Nat.le_refl _) (by omega)), Lib.hid (below_alloc (Below.refl _ _) _)⟩
  case round =>
    obtain ⟨q, hq, rfl, HV, HO, HB⟩ := hrel
    by_cases hlt : q < xs.length
    · obtain ⟨n, hn⟩ : ∃ n, n = val xs q := ⟨_, rfl⟩
      obtain ⟨hrd, hn8⟩ := val_rd hw q
      rw [← hn] at hrd hn8
      obtain ⟨ad, rfl, cx⟩ := (HR.out.below HB.out).at_ (q : Int) (by omega) (by omega)
      rw [hrd, Int.toNat_natCast] at cx
      obtain ⟨r, hr⟩ : ∃ r, r = n / 2 ^ s := ⟨_, rfl⟩
      have hd : (n : Int) / 2 ^ s = (r : Int) := by rw [hr]; exact (Int.natCast_ediv _ _).symm
      have hrl : r ≤ n := by rw [hr]; exact Nat.div_le_self _ _
      by_cases hr0 : 0 < r
      · have HE := Lib.hid (show ∃ i, i < xs.length ∧ 2 ^ s ≤ val xs i from ⟨q, hlt, by
          rw [← hn]; exact Nat.le_of_not_lt fun h => by rw [hr, Nat.div_eq_of_lt h] at hr0; omega⟩)
        clear hr hn
        go_wp2
        go_ret2
        exact ⟨.inl ⟨HE.out, rfl⟩, HB.out⟩
      · have HE := Lib.hid (show val xs q < 2 ^ s by
          rw [← hn]; exact Nat.lt_of_not_le fun h => hr0 (by rw [hr]; exact Nat.div_pos h (Nat.pow_pos (by decide))))
        obtain ⟨a, ha⟩ : ∃ a, a = q * s := ⟨_, rfl⟩
        have ha1 : (q : Int) * (s : Int) = (a : Int) := by rw [ha]; exact (Int.natCast_mul _ _).symm
        have ha2 : a + s ≤ L := by
          rw [HL.out, ha, ← Nat.succ_mul]; exact Nat.mul_le_mul_right s hlt
        obtain ⟨j, hj⟩ : ∃ j, j = a / 8 := ⟨_, rfl⟩
        obtain ⟨p, hp⟩ : ∃ p, p = a % 8 := ⟨_, rfl⟩
        have hj1 : (a : Int) / 8 = (j : Int) := by omega
        have hp1 : (a : Int) % 8 = (p : Int) := by omega
        have hjM : j < M := by omega
        obtain ⟨o1, o2⟩ := own_at' HO.out j hjM
        obtain ⟨o, ho⟩ : ∃ o, o = V.byt8 (V.part (val xs) s q) j := ⟨_, rfl⟩
        rw [bytes_rd _ _ _ hjM, ← ho] at o1
        obtain ⟨x, hx⟩ : ∃ x, x = n * 2 ^ p % 256 := ⟨_, rfl⟩
        obtain ⟨y, hy⟩ : ∃ y, y = V.byt8 (V.part (val xs) s (q + 1)) j := ⟨_, rfl⟩
        have e1 : IntKind.u8.wrap ((n : Int) * 2 ^ p) = (x : Int) := by rw [hx]; exact u8_shl n p
        have hol : o < 256 := by rw [ho]; exact V.byt8_lt _ _
        have hxl : x < 256 := by omega
        have e2 : bits .or .u8 (o : Int) (x : Int) = (y : Int) := by
          rw [u8_or o x hol hxl, hy, hj, ha, V.byte_in _ _ _ (by omega) HE.out, ← ha, ← hj, ← hp, ← hn, ← hx, ← ho]
        have hyl : y < 256 := by rw [hy]; exact V.byt8_lt _ _
        have HY := Lib.hid (show (V.bytes (V.part (val xs) s q) M).set j (y : Int) = V.bytes (V.parth (val xs) s q) M from
          V.bytes_set hjM (by rw [hy, hj, ha]; exact V.parth_in _ _ _ (by omega) HE.out) (fun i hi => V.parth_else _ _ _ _ (by omega) HE.out (by rw [← ha, ← hj]; exact hi)))
        have f1 : IntKind.i64.wrap (j : Int) = (j : Int) := IntWalk.i64_in _ (by omega)
        have f2 : IntKind.i64.wrap (p : Int) = (p : Int) := IntWalk.i64_in _ (by omega)
        have f3 : (a : Int).tmod 8 = (p : Int) := by rw [Int.tmod_eq_emod_of_nonneg (by omega)]; exact hp1
        have i1 : (0 : Int) ≤ (j : Int) := by omega
        have i2 : (j : Int) < (M : Int) := by omega
        have i3 : (0 : Int) ≤ (p : Int) := by omega
        clear ho hx hy
        have HA := Lib.hid ha
        have HJ := Lib.hid hj
        have HP := Lib.hid hp
        have HNn := Lib.hid hn
        clear hr ha hj hp hn
        go_wp2
        refine wp_region_still_tail 11 (by kernel_rfl) (by kernel_rfl) ?_
        simp only [List.take_succ_cons, List.take_zero, List.drop_succ_cons, List.drop_zero]
        repeat still_step
        refine wpStill_nil ?_
        have p2 : wr.drew.frozen? ⟨w.heap.size, j, none⟩ = false := o2
        have HO4 : Hid (wr.drew.ownsRow w.heap.size 5 1 (.slice (some ⟨w.heap.size, 0, none⟩) M M) M (nums .u8 (V.bytes (V.part (val xs) s q) M))) := Lib.hid (own_drew HO.out)
        have HB4 : Hid (Below w.heap.size w wr.drew) := Lib.hid (below_drewN HB.out 1)
        have HO6 : Hid ((wr.drew.setCell ⟨w.heap.size, j, none⟩ (.int .u8 (y : Int))).ownsRow w.heap.size 5 1 (.slice (some ⟨w.heap.size, 0, none⟩) M M) M (nums .u8 (V.bytes (V.parth (val xs) s q) M))) := Lib.hid (by
          have h := (own_store HO4.out (j : Int) (y : Int)).1
          rw [Int.toNat_natCast, HY.out] at h
          exact h)
        have HB6 := Lib.hid (HB4.out.setCell (p := ⟨w.heap.size, j, none⟩) (by simp) (.int .u8 (y : Int)))
        have p1 : wr.drew.cell? ⟨w.heap.size, j, none⟩ = some (.int .u8 (o : Int)) := o1
        clear HO4 HB4 HO HB o1 o2 e1 e2 cx
        change wpList _ _ _ _ _ wr.drew
        generalize wr.drew = w3 at p1 p2 HO6 HB6 ⊢
        by_cases hov : 8 < p + s
        · obtain ⟨d, hdd⟩ : ∃ d, d = 8 - p := ⟨_, rfl⟩
          have hd1 : IntKind.i64.wrap ((s : Int) - ((p : Int) + (s : Int) - 8)) = (d : Int) := by rw [IntWalk.i64_in _ (by omega)]; omega
          obtain ⟨z, hz⟩ : ∃ z, z = n / 2 ^ d := ⟨_, rfl⟩
          have hz1 : (n : Int) / 2 ^ d = (z : Int) := by rw [hz]; exact (Int.natCast_ediv _ _).symm
          have hz2 : (n : Int) / 2 ^ (min d 8) = (z : Int) := by rw [Nat.min_eq_left (by omega)]; exact hz1
          have hzl : z < 256 := by
            have : z ≤ n := by rw [hz]; exact Nat.div_le_self _ _
            omega
          have hj8 : a = 8 * j + p := by rw [HJ.out, HP.out]; omega
          have hjM2 : j + 1 < M := by omega
          obtain ⟨u, hu⟩ : ∃ u, u = V.byt8 (V.part (val xs) s q) (j + 1) := ⟨_, rfl⟩
          have hu2 : V.byt8 (V.parth (val xs) s q) (j + 1) = u := by
            rw [hu]; exact V.parth_else _ _ _ _ (by omega) HE.out (by rw [← HA.out, ← HJ.out]; omega)
          obtain ⟨t, ht⟩ : ∃ t, t = V.byt8 (V.part (val xs) s (q + 1)) (j + 1) := ⟨_, rfl⟩
          have hul : u < 256 := by rw [hu]; exact V.byt8_lt _ _
          have htl : t < 256 := by rw [ht]; exact V.byt8_lt _ _
          have e3 : bits .or .u8 (u : Int) (z : Int) = (t : Int) := by
            rw [u8_or u z hul hzl, ht, HJ.out, HA.out, V.byte_over _ _ _ (by omega) HE.out, ← HA.out, ← HJ.out, ← HP.out, ← HNn.out, ← hdd, ← hz, ← hu, Nat.mod_eq_of_lt hzl]
          have HT := Lib.hid (show (V.bytes (V.parth (val xs) s q) M).set (j + 1) (t : Int) = V.bytes (V.part (val xs) s (q + 1)) M from
            V.bytes_set hjM2 ht.symm (fun i hi => by
              by_cases hij : i = j
              · rw [hij, HJ.out, HA.out]; exact (V.parth_in _ _ _ (by omega) HE.out).symm
              · rw [V.parth_else _ _ _ _ (by omega) HE.out (by rw [← HA.out, ← HJ.out]; exact hij)]
                exact V.byte_else _ _ _ _ (by omega) HE.out (by rw [← HA.out, ← HJ.out]; omega) h2))
          have i4 : (0 : Int) ≤ (j : Int) + 1 := by omega
          have i5 : (j : Int) + 1 < (M : Int) := by omega
          have i6 : ((j : Int) + 1).toNat = j + 1 := by omega
          have f4 : IntKind.i64.wrap ((j : Int) + 1) = (j : Int) + 1 := IntWalk.i64_in _ (by omega)
          have i7 : (0 : Int) ≤ (d : Int) := by omega
          clear hz ht hu hdd hj8
          go_wp2
          generalize w3.setCell ⟨w.heap.size, j, none⟩ (.int .u8 (y : Int)) = w4 at HO6 HB6 ⊢
          obtain ⟨o3, o4⟩ := own_at' HO6.out (j + 1) hjM2
          rw [bytes_rd _ _ _ hjM2, hu2] at o3
          clear hu2
          refine wp_region_still_tail 13 (by kernel_rfl) (by kernel_rfl) ?_
          simp only [List.take_succ_cons, List.take_zero, List.drop_succ_cons, List.drop_zero]
          repeat still_step
          refine wpStill_nil ?_
          have p4 : w4.drew.frozen? ⟨w.heap.size, j + 1, none⟩ = false := o4
          have HO7 : Hid (w4.drew.ownsRow w.heap.size 5 1 (.slice (some ⟨w.heap.size, 0, none⟩) M M) M (nums .u8 (V.bytes (V.parth (val xs) s q) M))) := Lib.hid (own_drew HO6.out)
          have HB7 : Hid (Below w.heap.size w w4.drew) := Lib.hid (below_drewN HB6.out 1)
          have HO8 : Hid ((w4.drew.setCell ⟨w.heap.size, j + 1, none⟩ (.int .u8 (t : Int))).ownsRow w.heap.size 5 1 (.slice (some ⟨w.heap.size, 0, none⟩) M M) M (nums .u8 (V.bytes (V.part (val xs) s (q + 1)) M))) := Lib.hid (by
            have h := (own_store HO7.out ((j + 1 : Nat) : Int) (t : Int)).1
            rw [Int.toNat_natCast, HT.out] at h
            exact h)
          have HB8 := Lib.hid (HB7.out.setCell (p := ⟨w.heap.size, j + 1, none⟩) (by simp) (.int .u8 (t : Int)))
          have p5 : w4.drew.cell? ⟨w.heap.size, j + 1, none⟩ = some (.int .u8 (u : Int)) := o3
          clear HO7 HB7 HO6 HB6 o3 o4 e3 hd1 hz1 hz2
          change wpList _ _ _ _ _ w4.drew
          generalize w4.drew = w5 at p4 p5 HO8 HB8 ⊢
          go_wp2
          go_roundw
          case rel =>
            exact ⟨q + 1, by omega, by go_num, Lib.hid (fun i h => by
              by_cases hi : i = q
              · rw [hi]; exact HE.out
              · exact HV.out i (by omega)), HO8, HB8⟩
          case measure => simp [intOf]; omega
        · have HT := Lib.hid (show V.bytes (V.parth (val xs) s q) M = V.bytes (V.part (val xs) s (q + 1)) M from
            bytes_congr (fun i => by
              by_cases hij : i = j
              · rw [hij, HJ.out, HA.out]; exact V.parth_in _ _ _ (by omega) HE.out
              · rw [V.parth_else _ _ _ _ (by omega) HE.out (by rw [← HA.out, ← HJ.out]; exact hij)]
                have hpp := HP.out
                exact (V.byte_else _ _ _ _ (by omega) HE.out (by rw [← HA.out, ← HJ.out, ← HP.out]; omega) h2).symm))
          go_wp2
          go_roundw
          case rel =>
            exact ⟨q + 1, by omega, by go_num, Lib.hid (fun i h => by
              by_cases hi : i = q
              · rw [hi]; exact HE.out
              · exact HV.out i (by omega)), by rw [← HT.out]; exact HO6, HB6⟩
          case measure => simp [intOf]; omega
    · obtain rfl : q = xs.length := by omega
      go_wp2
      go_ret2
      exact ⟨.inr ⟨HV.out, _, rfl, HO.out⟩, HB.out⟩
end Go.Proofs.Ytdchcggllcgokaa.U
