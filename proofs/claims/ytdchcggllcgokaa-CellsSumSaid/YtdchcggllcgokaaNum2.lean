/-
  ashlarref01.Put: the walk.
-/
import Derived.Test.YtdchcggllcgokaaNum1
namespace Go.Proofs.Ytdchcggllcgokaa.U
open Go.RowKit Go.Proofs.Ytdchcggllcgokaa.L Go.Proofs.YtdchcggllcgokaaW.PrintWords
set_option linter.unusedVariables false
set_option linter.unusedSimpArgs false

theorem rPut_err (n : Nat) (hn : n < 18446744073709551616) (size : Int) (hs : -9223372036854775808 ≤ size ∧ size ≤ 9223372036854775807) (h : size < 1 ∨ 8 < size) (w : World) :
    Calls Try.prog 43 #[.int .u64 (n : Int), .int .i64 size] w fun e w' => e = .returned (.tuple #[.slice none 0 0, .int .i64 2]) ∧ w = w' := by
  obtain ⟨h1, h2⟩ := hs
  rcases h with h | h
  all_goals
    go_enter Try.func43, Try.ntmps43
    go_wp2
    go_ret2
    exact ⟨rfl, rfl⟩
theorem putb_next (n q : Nat) : putb n q ++ [(byt n q : Int)] = putb n (q + 1) := by
  simp [putb, List.range_succ]
set_option maxHeartbeats 400000 in
theorem rPut_any (n : Nat) (hn : n < 18446744073709551616) (s : Nat) (h1 : 1 ≤ s) (h2 : s ≤ 8) (w : World) :
    Calls Try.prog 43 #[.int .u64 (n : Int), .int .i64 (s : Int)] w fun e w' => ((256 ^ s ≤ n ∧ e = .returned (.tuple #[.slice none 0 0, .int .i64 2])) ∨ (n < 256 ^ s ∧ ∃ v, e = .returned (.tuple #[v, .int .i64 0]) ∧ w'.ownsRow w.heap.size 5 1 v s (nums .u8 (putb n s)))) ∧ Below w.heap.size w w' := by
  have HN := Lib.hid hn
  go_enter Try.func43, Try.ntmps43
  go_wp2
  go_loopw [0, 6, 7] (fun x v i wr => ∃ q m : Nat, q ≤ s ∧ i = .int .i64 (q : Int) ∧ x = .int .u64 (m : Int) ∧ Hid (m = n / 256 ^ q) ∧ m < 18446744073709551616 ∧ Hid (wr.ownsRow w.heap.size 5 1 v q (nums .u8 (putb n q))) ∧ Hid (Below w.heap.size w wr)) (fun _ _ i _ => s - (intOf i).toNat)
  case atStart => exact ⟨0, n, Nat.zero_le _, rfl, rfl, Lib.hid (by simp), hn, Lib.hid (own_nil w w.heap.size 5 1), Lib.hid (Below.refl _ _)⟩
  case round =>
    obtain ⟨q, m, hq, rfl, rfl, HM, hml, HO, HB⟩ := hrel
    by_cases hlt : q < s
    · obtain ⟨b, hb⟩ : ∃ b, b = m % 256 := ⟨_, rfl⟩
      obtain ⟨d, hd⟩ : ∃ d, d = m / 256 := ⟨_, rfl⟩
      have hb1 : (m : Int) % 256 = (b : Int) := by rw [hb]; rfl
      have hd1 : (m : Int) / 256 = (d : Int) := by rw [hd]; rfl
      have hbl : b < 256 := by omega
      have hdl : d < 18446744073709551616 := by omega
      have HX := Lib.hid (show (b : Int) = (byt n q : Int) by rw [hb, HM.out]; rfl)
      have HD := Lib.hid (show d = n / 256 ^ (q + 1) by rw [hd, HM.out, Nat.div_div_eq_div_mul, Nat.pow_succ])
      clear hb hd
      have hl5 : (((putb n q).length + 1) * 1 ≤ 140737488355328) := by rw [putb_length]; omega
      have HL5 := Lib.hid hl5
      have HO5 : Hid (wr.ownsRow w.heap.size 5 1 _ (putb n q).length (nums .u8 (putb n q))) := Lib.hid (by rw [putb_length]; exact HO.out)
      clear hl5
      go_wp2_with (first
        | (at_builtin; go_loud (refine print_append_num (w0 := w) w.heap.size rfl (.tmp 19) (.tmp 23) 22 5 .u8 1 rfl Try.underlying22 S.info_u8 (by decide) _ (putb n q) (b : Int) rfl rfl HO5.out HB.out HB.out.size HL5.out ?_; intro v1 w5 ho5 hb5 hg5 hat5; rw [HX.out, putb_next, putb_length] at ho5; have B5 := Lib.hid hb5; have O5 := Lib.hid ho5; clear ho5 hb5 hg5 hat5)))
      go_roundw
      case rel => exact ⟨q + 1, d, by omega, by go_num, rfl, HD, hdl, O5, B5⟩
      case measure => simp [intOf]; omega
    · obtain rfl : q = s := by omega
      by_cases hm : 0 < m
      · have HE := Lib.hid (show 256 ^ q ≤ n by
          rw [HM.out] at hm
          exact Nat.le_of_not_lt fun h => by rw [Nat.div_eq_of_lt h] at hm; omega)
        go_wp2
        go_ret2
        exact ⟨.inl ⟨HE.out, rfl⟩, HB.out⟩
      · have HE := Lib.hid (show n < 256 ^ q by
          rw [HM.out] at hm
          exact Nat.lt_of_not_le fun h => hm (Nat.div_pos h (Nat.pow_pos (by decide))))
        go_wp2
        go_ret2
        exact ⟨.inr ⟨HE.out, _, rfl, HO.out⟩, HB.out⟩
end Go.Proofs.Ytdchcggllcgokaa.U
