/-
  num.Put: the walk.
-/
import Derived.Test.YtdchcggllcgokaaWide
namespace Go.Proofs.Ytdchcggllcgokaa.U
open Go.RowKit Go.Proofs.Ytdchcggllcgokaa.L Go.Proofs.YtdchcggllcgokaaW.PrintWords
set_option linter.unusedVariables false
set_option linter.unusedSimpArgs false

/-- the i-th byte of a number, the lowest first -/
def byt (n i : Nat) : Nat := n / 256 ^ i % 256
def putb (n size : Nat) : List Int := (List.range size).map fun i => (byt n i : Int)
theorem putb_length (n size : Nat) : (putb n size).length = size := by simp [putb]

theorem sh (n s : Nat) : (n : Int) / 2 ^ (8 * s) = ((n / 256 ^ s : Nat) : Int) := by
  have e : (2 : Int) ^ (8 * s) = ((256 ^ s : Nat) : Int) := by
    show ((2 : Nat) : Int) ^ (8 * s) = _
    rw [← Int.natCast_pow, Nat.pow_mul]
  rw [e]; exact (Int.natCast_ediv _ _).symm

theorem Put_err (n : Nat) (hn : n < 18446744073709551616) (size : Int) (hs : -9223372036854775808 ≤ size ∧ size ≤ 9223372036854775807) (h : size < 1 ∨ 8 < size) (w : World) :
    Calls Try.prog 42 #[.int .u64 (n : Int), .int .i64 size] w fun e w' => e = .returned (.tuple #[.slice none 0 0, .int .i64 2]) ∧ w = w' := by
  obtain ⟨h1, h2⟩ := hs
  rcases h with h | h
  all_goals
    go_enter Try.func42, Try.ntmps42
    go_wp2
    go_ret2
    exact ⟨rfl, rfl⟩
theorem Put_big (n : Nat) (hn : n < 18446744073709551616) (s : Nat) (h1 : 1 ≤ s) (h2 : s < 8) (h : 256 ^ s ≤ n) (w : World) :
    Calls Try.prog 42 #[.int .u64 (n : Int), .int .i64 (s : Int)] w fun e w' => e = .returned (.tuple #[.slice none 0 0, .int .i64 2]) ∧ w = w' := by
  obtain ⟨m, hm⟩ : ∃ m, m = n / 256 ^ s := ⟨_, rfl⟩
  have hd : (n : Int) / 2 ^ (8 * s) = (m : Int) := by rw [hm]; exact sh n s
  have hp : (0 : Int) < (m : Int) := by
    have : 0 < m := by rw [hm]; exact Nat.div_pos h (Nat.pow_pos (by decide))
    omega
  clear hm h
  go_enter Try.func42, Try.ntmps42
  go_wp2
  go_ret2
  exact ⟨rfl, rfl⟩
theorem put_mid (n s q : Nat) (h : q < s) : ((List.range q).map fun i => (byt n i : Int)) ++ List.replicate (s - q) 0 = ((List.range q).map fun i => (byt n i : Int)) ++ 0 :: List.replicate (s - (q + 1)) 0 := by
  rw [show s - q = (s - (q + 1)) + 1 by omega, List.replicate_succ]
def pmid (n s q : Nat) : List Int := ((List.range q).map fun i => (byt n i : Int)) ++ List.replicate (s - q) 0
theorem pmid_set (n s q : Nat) (h : q < s) : (pmid n s q).set q (byt n q : Int) = pmid n s (q + 1) := by
  unfold pmid
  rw [put_mid n s q h, List.set_append_right _ _ (by simp), List.length_map, List.length_range, Nat.sub_self, List.set_cons_zero, List.range_succ, List.map_append]
  simp
theorem pmid_end (n s : Nat) : pmid n s s = putb n s := by simp [pmid, putb]
set_option maxHeartbeats 400000 in
theorem Put_ok (n : Nat) (hn : n < 18446744073709551616) (s : Nat) (h1 : 1 ≤ s) (h2 : s ≤ 8) (h : n < 256 ^ s) (w : World) :
    Calls Try.prog 42 #[.int .u64 (n : Int), .int .i64 (s : Int)] w fun e w' => ∃ g, e = .returned (.tuple #[.slice (some ⟨g, 0, none⟩) s s, .int .i64 0]) ∧ w'.ownsRow w.heap.size 5 1 (.slice (some ⟨g, 0, none⟩) s s) s (nums .u8 (putb n s)) ∧ Below w.heap.size w w' := by
  have hmk := fun W => run_make_row' (P := Try.prog) 22 5 (.int .u8 0) 1 Try.underlying22 S.info_u8 rfl .i64 .i64 s (by omega) (by omega) W
  have h0 : ¬ (0 : Int) < (0 : Int) := by decide
  have hd : (n : Int) / 2 ^ (8 * s) = 0 := by rw [sh n s, Nat.div_eq_of_lt h]; rfl
  clear h
  go_enter Try.func42, Try.ntmps42
  have h8 : (s : Int) < 8 ∨ ¬ (s : Int) < 8 := by omega
  rcases h8 with h8 | h8
  all_goals
    go_wp2
    clear hd
    go_loopw [28] (fun i wr => ∃ q : Nat, q ≤ s ∧ i = .int .i64 (q : Int) ∧ Hid (wr.ownsRow w.heap.size 5 1 (.slice (some ⟨w.heap.size, 0, none⟩) s s) s (nums .u8 (pmid n s q))) ∧ Hid (Below w.heap.size w wr)) (fun i _ => s - (intOf i).toNat)
    case atStart => exact ⟨0, Nat.zero_le _, rfl, Lib.hid (by simpa [pmid] using own_made w w.heap.size 5 .u8 s (Nat.le_refl _) (by omega)), Lib.hid (below_alloc (Below.refl _ _) _)⟩
    case round =>
      obtain ⟨q, hq, rfl, HO, HB⟩ := hrel
      by_cases hlt : q < s
      · obtain ⟨o1, o2⟩ := own_at' HO.out q hlt
        obtain ⟨m, hm⟩ : ∃ m, m = n / 256 ^ q := ⟨_, rfl⟩
        have hd : (n : Int) / 2 ^ (8 * q) = (m : Int) := by rw [hm]; exact sh n q
        have hx := Lib.hid (show ((m : Int) % 256) = (byt n q : Int) by rw [hm, byt]; omega)
        clear hm
        go_wp2
        go_roundw
        case rel =>
          refine ⟨q + 1, by omega, by go_num, Lib.hid ?_, Lib.hid (HB.out.setCell (by simp) _)⟩
          have h := (own_store HO.out (q : Int) (byt n q : Int)).1
          rw [Int.toNat_natCast, pmid_set n s q hlt] at h
          rw [hx.out]
          exact h
        case measure => simp [intOf]; omega
      · obtain rfl : q = s := by omega
        go_wp2
        go_ret2
        exact ⟨_, rfl, by rw [← pmid_end]; exact HO.out, HB.out⟩
end Go.Proofs.Ytdchcggllcgokaa.U
