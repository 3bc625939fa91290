/-
  ashlarref01.Bits: the walk.
-/
import Derived.Test.YtdchcggllcgokaaNum5
namespace Go.Proofs.Ytdchcggllcgokaa.U
open Go.RowKit Go.Proofs.Ytdchcggllcgokaa.L Go.Proofs.YtdchcggllcgokaaW.PrintWords
set_option linter.unusedVariables false
set_option linter.unusedSimpArgs false

/-- bits as a list of 0 and 1 -/
def rowl (f : Nat → Bool) (t : Nat) : List Int := (List.range t).map fun i => ((f i).toNat : Int)
theorem rowl_length (f : Nat → Bool) (t : Nat) : (rowl f t).length = t := by simp [rowl]
theorem rowl_next (f : Nat → Bool) (t b : Nat) (h : b = (f t).toNat) : rowl f t ++ [(b : Int)] = rowl f (t + 1) := by
  subst h; simp [rowl, List.range_succ]
theorem rowl_rd (f : Nat → Bool) (t i : Nat) (h : i < t) : rd (rowl f t) (i : Int) = ((f i).toNat : Int) := by
  simp [rd, rowl, List.getD_eq_getElem?_getD, List.getElem?_map, List.getElem?_range h]
theorem bit_at (v : Nat → Nat) (s q k : Nat) (hk : k < s) : (V.bitv v s (q * s + k)).toNat = v q / 2 ^ k % 2 := by
  have h1 : (q * s + k) / s = q := by rw [Nat.mul_comm, Nat.mul_add_div (by omega), Nat.div_eq_of_lt hk, Nat.add_zero]
  have h2 : (q * s + k) % s = k := by rw [Nat.mul_comm, Nat.mul_add_mod, Nat.mod_eq_of_lt hk]
  rw [V.bitv, h1, h2, Nat.testBit_eq_decide_div_mod_eq]
  by_cases h : v q / 2 ^ k % 2 = 1
  · simp [h]
  · have : v q / 2 ^ k % 2 = 0 := by omega
    simp [this]
theorem rBits_width (A : Option Addr) (cap m : Nat) (n : Int) (hn : -9223372036854775808 ≤ n ∧ n ≤ 9223372036854775807) (h : ¬ (1 ≤ n ∧ n ≤ 8)) (w : World) :
    Calls Try.prog 35 #[.slice A m cap, .int .i64 n] w fun e w' => e = .returned (.tuple #[.slice none 0 0, .int .i64 2]) ∧ w = w' := by
  obtain ⟨h1, h2⟩ := hn
  rcases (by omega : n < 1 ∨ (1 ≤ n ∧ 8 < n)) with g | ⟨g, g'⟩
  all_goals
    clear h
    go_enter Try.func35, Try.ntmps35
    go_wp2
    go_ret2
    exact ⟨rfl, rfl⟩
set_option maxRecDepth 100000 in
set_option maxHeartbeats 1000000 in
theorem rBits_any (A : Option Addr) (cap : Nat) (xs : List Int) (hw : ∀ x ∈ xs, (Lit.int .u8 x).wf = true) (s : Nat) (h1 : 1 ≤ s) (h2 : s ≤ 8) (hl : xs.length ≤ 1048576) (w : World) (hr : ReadsInt w .u8 A xs.length xs) :
    Calls Try.prog 35 #[.slice A xs.length cap, .int .i64 (s : Int)] w fun e w' => (((∃ i, i < xs.length ∧ 2 ^ s ≤ val xs i) ∧ e = .returned (.tuple #[.slice none 0 0, .int .i64 2])) ∨ ((∀ i, i < xs.length → val xs i < 2 ^ s) ∧ ∃ v, e = .returned (.tuple #[v, .int .i64 0]) ∧ w'.ownsRow w.heap.size 5 1 v ((xs.length * s + 7) / 8) (nums .u8 (V.bytes (V.part (val xs) s xs.length) ((xs.length * s + 7) / 8))))) ∧ Below w.heap.size w w' := by
  have HR := Lib.hid hr
  have HLs := Lib.hid (show xs.length * s ≤ 8388608 from Nat.mul_le_mul hl h2)
  clear hr
  go_enter Try.func35, Try.ntmps35
  go_wp2
  go_loopw [6, 7] (fun v i wr => ∃ q T : Nat, q ≤ xs.length ∧ i = .int .i64 (q : Int) ∧ Hid (T = q * s) ∧ T ≤ 8388608 ∧ Hid (∀ i, i < q → val xs i < 2 ^ s) ∧ Hid (wr.ownsRow w.heap.size 5 1 v T (nums .u8 (rowl (V.bitv (val xs) s) T))) ∧ Hid (Below w.heap.size w wr)) (fun _ i _ => xs.length - (intOf i).toNat)
  case atStart => exact ⟨0, 0, Nat.zero_le _, rfl, Lib.hid (by omega), by omega, Lib.hid (fun i h => absurd h (by omega)), Lib.hid (own_nil w w.heap.size 5 1), Lib.hid (Below.refl _ _)⟩
  case round =>
    obtain ⟨q, T, hq, rfl, HT, hT8, HV, HO, HB⟩ := hrel
    by_cases hlt : q < xs.length
    · obtain ⟨n, hn⟩ : ∃ n, n = val xs q := ⟨_, rfl⟩
      obtain ⟨hrd, hn8⟩ := val_rd hw q
      rw [← hn] at hrd hn8
      obtain ⟨ad, rfl, cx⟩ := (HR.out.below HB.out).at_ (q : Int) (by omega) (by omega)
      rw [hrd, Int.toNat_natCast] at cx
      have HNn := Lib.hid hn
      have HT9 := Lib.hid (show q * s + s ≤ 8388608 by
        rw [← Nat.succ_mul]; exact Nat.le_trans (Nat.mul_le_mul_right s hlt) HLs.out)
      clear hn hrd
      go_wp2
      clear cx
      obtain ⟨w2, rfl⟩ : ∃ w2 : World, w2 = wr := ⟨_, rfl⟩
      go_loopw [6, 8, 9] (fun v x i wr => ∃ k m T : Nat, k ≤ s ∧ i = .int .i64 (k : Int) ∧ x = .int .u8 (m : Int) ∧ Hid (m = n / 2 ^ k) ∧ m < 256 ∧ Hid (T = q * s + k) ∧ T ≤ 8388608 ∧ Hid (wr.ownsRow w.heap.size 5 1 v T (nums .u8 (rowl (V.bitv (val xs) s) T))) ∧ Hid (Below w.heap.size w wr)) (fun _ _ i _ => s - (intOf i).toNat)
      case atStart => exact ⟨0, n, T, Nat.zero_le _, rfl, rfl, Lib.hid (by simp), hn8, Lib.hid (by rw [HT.out]; rfl), hT8, HO, HB⟩
      case round =>
        obtain ⟨k, m, T2, hk, rfl, rfl, HM, hm8, HT2, hT28, HO2, HB2⟩ := hrel
        clear HO HB HT hT8
        by_cases hkl : k < s
        · obtain ⟨b, hb⟩ : ∃ b, b = m % 2 := ⟨_, rfl⟩
          obtain ⟨d, hd⟩ : ∃ d, d = m / 2 := ⟨_, rfl⟩
          have hb1 : (m : Int) % 2 = (b : Int) := by rw [hb]; rfl
          have hd1 : (m : Int) / 2 = (d : Int) := by rw [hd]; rfl
          have hbl : b < 2 := by omega
          have hdl : d < 256 := by omega
          have HD := Lib.hid (show d = n / 2 ^ (k + 1) by rw [hd, HM.out, Nat.div_div_eq_div_mul, Nat.pow_succ])
          have HX := Lib.hid (rowl_next (V.bitv (val xs) s) T2 b (by rw [HT2.out, bit_at _ _ _ _ hkl, hb, HM.out, HNn.out]))
          have HT3 := Lib.hid (show T2 + 1 = q * s + (k + 1) by rw [HT2.out]; omega)
          have hT38 : T2 + 1 ≤ 8388608 := by rw [HT3.out]; have := HT9.out; omega
          have HL5 := Lib.hid (show (((rowl (V.bitv (val xs) s) T2).length + 1) * 1 ≤ 140737488355328) by rw [rowl_length]; omega)
          have HO5 : Hid (wr.ownsRow w.heap.size 5 1 _ (rowl (V.bitv (val xs) s) T2).length (nums .u8 (rowl (V.bitv (val xs) s) T2))) := Lib.hid (by rw [rowl_length]; exact HO2.out)
          clear hb hd
          go_wp2_with (first
            | (at_builtin; go_loud (refine print_append_num (w0 := w) w.heap.size rfl (.tmp 35) (.tmp 38) 22 5 .u8 1 rfl Try.underlying22 S.info_u8 (by decide) _ (rowl (V.bitv (val xs) s) T2) ((b : Int)) rfl rfl HO5.out HB2.out HB2.out.size HL5.out ?_; intro v1 w5 ho5 hb5 hg5 hat5; rw [HX.out, rowl_length] at ho5; have B5 := Lib.hid hb5; have O5 := Lib.hid ho5; clear ho5 hb5 hg5 hat5)))
          go_roundw
          case rel => exact ⟨k + 1, d, T2 + 1, by omega, by go_num, rfl, HD, hdl, HT3, hT38, O5, B5⟩
          case measure => simp [intOf]; omega
        · obtain rfl : k = s := by omega
          by_cases hm : 0 < m
          · have HE := Lib.hid (show ∃ i, i < xs.length ∧ 2 ^ k ≤ val xs i from ⟨q, hlt, by
              rw [← HNn.out]; rw [HM.out] at hm
              exact Nat.le_of_not_lt fun h => by rw [Nat.div_eq_of_lt h] at hm; omega⟩)
            go_wp2
            go_ret2
            exact ⟨.inl ⟨HE.out, rfl⟩, HB2.out⟩
          · have HE := Lib.hid (show val xs q < 2 ^ k by
              rw [← HNn.out]; rw [HM.out] at hm
              exact Nat.lt_of_not_le fun h => hm (Nat.div_pos h (Nat.pow_pos (by decide))))
            go_wp2
            go_roundw
            case rel =>
              exact ⟨q + 1, T2, by omega, by go_num, Lib.hid (by rw [HT2.out, Nat.succ_mul]), hT28, Lib.hid (fun i h => by
                by_cases hi : i = q
                · rw [hi]; exact HE.out
                · exact HV.out i (by omega)), HO2, HB2⟩
            case measure => simp [intOf]; omega
    · obtain rfl : q = xs.length := by omega
      obtain ⟨A6, c6, rfl, hr6⟩ := own_reads HO.out
      have R6 := Lib.hid hr6
      obtain ⟨g, hg⟩ : ∃ g, g = V.part (val xs) s xs.length := ⟨_, rfl⟩
      have HG1 : Hid (∀ t, t < T → (g t).toNat = (V.bitv (val xs) s t).toNat) := Lib.hid (fun t ht => by rw [hg, V.part, decide_eq_true (by rw [← HT.out]; exact ht), Bool.true_and])
      have HG2 : Hid (∀ t, ¬ t < T → g t = false) := Lib.hid (fun t ht => by rw [hg, V.part, decide_eq_false (by rw [← HT.out]; exact ht), Bool.false_and])
      have HG := Lib.hid hg
      clear hr6 hg HO
      go_wp2
      obtain ⟨w2, rfl⟩ : ∃ w2 : World, w2 = wr := ⟨_, rfl⟩
      go_loopw [10, 11] (fun v i wr => ∃ j : Nat, 8 * j < T + 8 ∧ i = .int .i64 ((8 * j : Nat) : Int) ∧ Hid (wr.ownsRow w2.heap.size 5 1 v j (nums .u8 (V.bytes g j))) ∧ Hid (Below w2.heap.size w2 wr)) (fun _ i _ => T + 8 - (intOf i).toNat)
      case atStart => exact ⟨0, by omega, rfl, Lib.hid (own_nil w2 w2.heap.size 5 1), Lib.hid (Below.refl _ _)⟩
      case round =>
        obtain ⟨j, hj, rfl, HO3, HB3⟩ := hrel
        by_cases hjl : 8 * j < T
        · go_wp2
          go_loop [12, 13] (fun x i => ∃ k m : Nat, k ≤ 8 ∧ i = .int .i64 ((k : Int) - 1) ∧ x = .int .u8 (m : Int) ∧ Hid (m = V.pack (fun i => g (8 * j + k + i)) (8 - k)) ∧ m < 256) (fun _ i => (intOf i + 1).toNat)
          case atStart => exact ⟨8, 0, by omega, rfl, rfl, Lib.hid rfl, by omega⟩
          case round =>
            obtain ⟨k, m, hk, rfl, rfl, HM, hm8⟩ := hrel
            by_cases hk0 : 0 < k
            · obtain ⟨p, rfl⟩ : ∃ p, k = p + 1 := ⟨k - 1, by omega⟩
              have hm7 : m < 128 := by
                rw [HM.out]
                exact Nat.lt_of_lt_of_le (V.pack_lt _ _) (Nat.pow_le_pow_right (by decide) (by omega : 8 - (p + 1) ≤ 7))
              have HQ := Lib.hid (show V.pack (fun i => g (8 * j + p + i)) (8 - p) = (g (8 * j + p)).toNat + 2 * m by
                rw [show 8 - p = (8 - (p + 1)) + 1 by omega, V.pack_top g _ (8 * j + p), HM.out, show 8 * j + p + 1 = 8 * j + (p + 1) by omega])
              rw [show ((p + 1 : Nat) : Int) - 1 = (p : Int) by omega]
              by_cases ht : 8 * j + p < T
              · obtain ⟨b, hb⟩ : ∃ b, b = (g (8 * j + p)).toNat := ⟨_, rfl⟩
                have hbl : b < 2 := by rw [hb]; cases g (8 * j + p) <;> decide
                have hrd6 : rd (rowl (V.bitv (val xs) s) T) ((8 * j + p : Nat) : Int) = (b : Int) := by
                  rw [rowl_rd _ _ _ ht, ← HG1.out _ ht, hb]
                obtain ⟨ad6, rfl, cx6⟩ := (R6.out.below HB3.out).at_ ((8 * j + p : Nat) : Int) (by omega) (by omega)
                rw [hrd6, Int.toNat_natCast] at cx6
                have HQ2 := Lib.hid (show 2 * m + b = V.pack (fun i => g (8 * j + p + i)) (8 - p) by rw [HQ.out, ← hb]; omega)
                clear hb hrd6
                go_wp2
                go_round
                case rel => exact ⟨p, 2 * m + b, by omega, by go_num, by go_num, HQ2, by omega⟩
                case measure => first | (simp [intOf]; done) | (simp [intOf]; omega)
              · have HQ2 := Lib.hid (show 2 * m = V.pack (fun i => g (8 * j + p + i)) (8 - p) by rw [HQ.out, HG2.out _ ht]; simp)
                go_wp2
                go_round
                case rel => exact ⟨p, 2 * m, by omega, by go_num, by go_num, HQ2, by omega⟩
                case measure => first | (simp [intOf]; done) | (simp [intOf]; omega)
            · obtain rfl : k = 0 := by omega
              have HX := Lib.hid (show V.bytes g j ++ [(m : Int)] = V.bytes g (j + 1) by
                rw [HM.out]; simp [V.bytes, List.range_succ, V.byt8])
              have HL5 := Lib.hid (show (((V.bytes g j).length + 1) * 1 ≤ 140737488355328) by rw [V.bytes_length]; omega)
              have HO5 : Hid (wr.ownsRow w2.heap.size 5 1 _ (V.bytes g j).length (nums .u8 (V.bytes g j))) := Lib.hid (by rw [V.bytes_length]; exact HO3.out)
              go_wp2_with (first
                | (at_builtin; go_loud (refine print_append_num (w0 := w2) w2.heap.size rfl (.tmp 70) (.tmp 72) 22 5 .u8 1 rfl Try.underlying22 S.info_u8 (by decide) _ (V.bytes g j) ((m : Int)) rfl rfl HO5.out HB3.out HB3.out.size HL5.out ?_; intro v1 w5 ho5 hb5 hg5 hat5; rw [HX.out, V.bytes_length] at ho5; have B5 := Lib.hid hb5; have O5 := Lib.hid ho5; clear ho5 hb5 hg5 hat5)))
              go_roundw
              case rel => exact ⟨j + 1, by omega, by go_num, O5, B5⟩
              case measure => simp [intOf]; omega
        · have HF := Lib.hid (show (xs.length * s + 7) / 8 = j by rw [← HT.out]; omega)
          go_wp2
          go_ret2
          exact ⟨.inr ⟨HV.out, _, rfl, by rw [HF.out, ← HG.out]; exact own_lower HO3.out HB.out.size⟩, below_ext HB.out HB3.out⟩
end Go.Proofs.Ytdchcggllcgokaa.U
