/-
  ashlarref01.Unbits: the walk.
-/
import Derived.Test.YtdchcggllcgokaaNum9
namespace Go.Proofs.Ytdchcggllcgokaa.U
open Go.RowKit Go.Proofs.Ytdchcggllcgokaa.L Go.Proofs.YtdchcggllcgokaaW.PrintWords
set_option linter.unusedVariables false
set_option linter.unusedSimpArgs false

theorem items_next (v : Nat → Nat) (s q : Nat) (n : Nat) (h : n = item v s q) : items v s q ++ [(n : Int)] = items v s (q + 1) := by
  subst h; simp [items, List.range_succ]
theorem bit_val (v : Nat → Nat) (a j p : Nat) (hj : j = a / 8) (hp : p = a % 8) : (V.bitv v 8 a).toNat = v j / 2 ^ p % 2 := by
  rw [V.bitv, ← hj, ← hp, Nat.testBit_eq_decide_div_mod_eq]
  by_cases h : v j / 2 ^ p % 2 = 1
  · simp [h]
  · have : v j / 2 ^ p % 2 = 0 := by omega
    simp [this]
set_option maxRecDepth 100000 in
set_option maxHeartbeats 1000000 in
theorem rUnbits_ok (A : Option Addr) (cap : Nat) (xs : List Int) (hw : ∀ x ∈ xs, (Lit.int .u8 x).wf = true) (s m : Nat) (h1 : 1 ≤ s) (h2 : s ≤ 8) (hm : m ≤ 1048576) (hsh : m * s ≤ 8 * xs.length) (hlen : xs.length ≤ 140737488355328) (w : World) (hr : ReadsInt w .u8 A xs.length xs) :
    Calls Try.prog 37 #[.slice A xs.length cap, .int .i64 (s : Int), .int .i64 (m : Int)] w fun e w' => ∃ v, e = .returned (.tuple #[v, .int .i64 0]) ∧ w'.ownsRow w.heap.size 5 1 v m (nums .u8 (items (val xs) s m)) ∧ Below w.heap.size w w' := by
  have HR := Lib.hid hr
  obtain ⟨L, hL⟩ : ∃ L, L = m * s := ⟨_, rfl⟩
  have hL1 : (s : Int) * (m : Int) = (L : Int) := by rw [hL, Nat.mul_comm]; exact (Int.natCast_mul _ _).symm
  have hL2 : L ≤ 8388608 := by rw [hL]; exact Nat.mul_le_mul hm h2
  rw [← hL] at hsh
  have HL := Lib.hid hL
  clear hr hL
  go_enter Try.func37, Try.ntmps37
  go_wp2
  clear hL1
  go_loopw [8, 9] (fun v i wr => ∃ q : Nat, q ≤ m ∧ i = .int .i64 (q : Int) ∧ Hid (wr.ownsRow w.heap.size 5 1 v q (nums .u8 (items (val xs) s q))) ∧ Hid (Below w.heap.size w wr)) (fun _ i _ => m - (intOf i).toNat)
  case atStart => exact ⟨0, Nat.zero_le _, rfl, Lib.hid (own_nil w w.heap.size 5 1), Lib.hid (Below.refl _ _)⟩
  case round =>
    obtain ⟨q, hq, rfl, HO, HB⟩ := hrel
    by_cases hlt : q < m
    · obtain ⟨Q, hQ⟩ : ∃ Q, Q = q * s := ⟨_, rfl⟩
      have hQ1 : (q : Int) * (s : Int) = (Q : Int) := by rw [hQ]; exact (Int.natCast_mul _ _).symm
      have hQ2 : Q + s ≤ L := by
        rw [HL.out, hQ, ← Nat.succ_mul]; exact Nat.mul_le_mul_right s hlt
      have HQ := Lib.hid hQ
      clear hQ
      go_wp2
      go_loop [10, 11] (fun x i => ∃ k n : Nat, k ≤ s ∧ i = .int .i64 ((k : Int) - 1) ∧ x = .int .u8 (n : Int) ∧ Hid (n = V.pack (fun i => V.bitv (val xs) 8 (Q + k + i)) (s - k)) ∧ n < 256) (fun _ i => (intOf i + 1).toNat)
      case atStart => exact ⟨s, 0, Nat.le_refl _, rfl, rfl, Lib.hid (by rw [Nat.sub_self]; rfl), by omega⟩
      case round =>
        obtain ⟨k, n, hk, rfl, rfl, HM, hn8⟩ := hrel
        by_cases hk0 : 0 < k
        · obtain ⟨c, rfl⟩ : ∃ c, k = c + 1 := ⟨k - 1, by omega⟩
          have hn7 : n < 128 := by
            rw [HM.out]
            exact Nat.lt_of_lt_of_le (V.pack_lt _ _) (Nat.pow_le_pow_right (by decide) (by omega : s - (c + 1) ≤ 7))
          have HQ2 := Lib.hid (show V.pack (fun i => V.bitv (val xs) 8 (Q + c + i)) (s - c) = (V.bitv (val xs) 8 (Q + c)).toNat + 2 * n by
            rw [show s - c = (s - (c + 1)) + 1 by omega, V.pack_top (V.bitv (val xs) 8) _ (Q + c), HM.out, show Q + c + 1 = Q + (c + 1) by omega])
          rw [show ((c + 1 : Nat) : Int) - 1 = (c : Int) by omega]
          obtain ⟨j, hj⟩ : ∃ j, j = (Q + c) / 8 := ⟨_, rfl⟩
          obtain ⟨p, hp⟩ : ∃ p, p = (Q + c) % 8 := ⟨_, rfl⟩
          have hj1 : ((Q : Int) + (c : Int)) / 8 = (j : Int) := by omega
          have hp1 : ((Q : Int) + (c : Int)) % 8 = (p : Int) := by omega
          have hp8 : p < 8 := by omega
          have hjl : j < xs.length := by omega
          obtain ⟨b, hb⟩ : ∃ b, b = val xs j := ⟨_, rfl⟩
          obtain ⟨hrd, hb8⟩ := val_rd hw j
          rw [← hb] at hrd hb8
          obtain ⟨ad, rfl, cx⟩ := (HR.out.below HB.out).at_ (j : Int) (by omega) (by omega)
          rw [hrd, Int.toNat_natCast] at cx
          obtain ⟨z, hz⟩ : ∃ z, z = b / 2 ^ p := ⟨_, rfl⟩
          have z1 : (b : Int) / 2 ^ p = (z : Int) := by rw [hz]; exact (Int.natCast_ediv _ _).symm
          have z2 : (b : Int) / 2 ^ (min p 8) = (z : Int) := by rw [Nat.min_eq_left (by omega)]; exact z1
          have zl : z < 256 := by
            have : z ≤ b := by rw [hz]; exact Nat.div_le_self _ _
            omega
          obtain ⟨t, ht⟩ : ∃ t, t = z % 2 := ⟨_, rfl⟩
          have t1 : (z : Int) % 2 = (t : Int) := by rw [ht]; rfl
          have tl : t < 2 := by omega
          have HX := Lib.hid (show 2 * n + t = V.pack (fun i => V.bitv (val xs) 8 (Q + c + i)) (s - c) by
            rw [HQ2.out, bit_val (val xs) (Q + c) j p hj hp, ← hb, ← hz, ← ht]; omega)
          clear hj hp hb hrd hz ht
          go_wp2
          go_round
          case rel => exact ⟨c, 2 * n + t, by omega, by go_num, by go_num, HX, by omega⟩
          case measure => first | (simp [intOf]; done) | (simp [intOf]; omega)
        · obtain rfl : k = 0 := by omega
          have HX := Lib.hid (items_next (val xs) s q n (by rw [HM.out, item, ← HQ.out]; rfl))
          have HL5 := Lib.hid (show (((items (val xs) s q).length + 1) * 1 ≤ 140737488355328) by rw [items_length]; omega)
          have HO5 : Hid (wr.ownsRow w.heap.size 5 1 _ (items (val xs) s q).length (nums .u8 (items (val xs) s q))) := Lib.hid (by rw [items_length]; exact HO.out)
          go_wp2_with (first
            | (at_builtin; go_loud (refine print_append_num (w0 := w) w.heap.size rfl (.tmp 63) (.tmp 65) 22 5 .u8 1 rfl Try.underlying22 S.info_u8 (by decide) _ (items (val xs) s q) ((n : Int)) rfl rfl HO5.out HB.out HB.out.size HL5.out ?_; intro v1 w5 ho5 hb5 hg5 hat5; rw [HX.out, items_length] at ho5; have B5 := Lib.hid hb5; have O5 := Lib.hid ho5; clear ho5 hb5 hg5 hat5)))
          go_roundw
          case rel => exact ⟨q + 1, by omega, by go_num, O5, B5⟩
          case measure => simp [intOf]; omega
    · obtain rfl : q = m := by omega
      go_wp2
      go_ret2
      exact ⟨_, rfl, HO.out, HB.out⟩
end Go.Proofs.Ytdchcggllcgokaa.U
