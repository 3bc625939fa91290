/-
  crc.Of, Zeros, and ashlarref02's.
-/
import Derived.Test.YtjagnodfdniccaaCrc3
namespace Go.Proofs.Ytjagnodfdniccaa.C
open Go.RowKit Go.Proofs.Ytjagnodfdniccaa.L Go.Proofs.YtjagnodfdniccaaW.PrintWords
set_option linter.unusedVariables false

theorem Of_any (A : Option Addr) (cap : Nat) (bs : List (BitVec 8)) (w : World) (hr : ReadsInt w .u8 A bs.length (by8 bs)) (hn : bs.length ≤ 9223372036854775807) :
    Calls Try.prog 24 #[.slice A bs.length cap] w fun e w' => e = .returned (.int .u32 ((more 0#32 bs).toNat : Int)) ∧ Below w.heap.size w w' := by
  have H := Lib.hid (fun W (h : W = w) => More_any 0#32 A cap bs w hr hn)
  clear hr
  go_enter Try.func24, Try.ntmps24
  go_wp2_with (first
    | (go_at_call 22; refine (H.out _ rfl).mono ?_; rintro e w1 ⟨rfl, hb1⟩))
  go_ret
  exact ⟨rfl, hb1⟩

theorem rOf_any (A : Option Addr) (cap : Nat) (bs : List (BitVec 8)) (w : World) (hr : ReadsInt w .u8 A bs.length (by8 bs)) (hn : bs.length ≤ 9223372036854775807) :
    Calls Try.prog 25 #[.slice A bs.length cap] w fun e w' => e = .returned (.int .u32 ((more 0#32 bs).toNat : Int)) ∧ Below w.heap.size w w' := by
  have H := Lib.hid (fun W (h : W = w) => rMore_any 0#32 A cap bs w hr hn)
  clear hr
  go_enter Try.func25, Try.ntmps25
  go_wp2_with (first
    | (go_at_call 23; refine (H.out _ rfl).mono ?_; rintro e w1 ⟨rfl, hb1⟩))
  go_ret
  exact ⟨rfl, hb1⟩

/-- the sum of zeros, and the error -/
theorem Zeros_err (s : BitVec 32) (n : Int) (w : World) (h : n < 0 ∨ 1048576 < n) :
    Calls Try.prog 28 #[.int .u32 (s.toNat : Int), .int .i64 n] w fun e w' => e = .returned (.tuple #[.int .u32 0, .int .i64 2]) ∧ w = w' := by
  have hs := s.isLt
  rcases h with h | h
  all_goals
    go_enter Try.func28, Try.ntmps28
    go_wp2
    go_ret2
    exact ⟨rfl, rfl⟩
set_option maxHeartbeats 400000 in
theorem Zeros_ok (s : BitVec 32) (n : Nat) (w : World) (h : n ≤ 1048576) :
    Calls Try.prog 28 #[.int .u32 (s.toNat : Int), .int .i64 (n : Int)] w fun e w' => e = .returned (.tuple #[.int .u32 ((more s (List.replicate n 0#8)).toNat : Int), .int .i64 0]) ∧ Below w.heap.size w w' := by
  have hs := s.isLt
  obtain ⟨p, hp⟩ : ∃ p, p = ~~~ s := ⟨_, rfl⟩
  have e1 : bits .xor .u32 IntKind.u32.max (s.toNat : Int) = (p.toNat : Int) := by rw [hp]; exact u32_inv s
  have HF := Lib.hid (show ~~~ (fold p (List.replicate n 0#8)) = more s (List.replicate n 0#8) by rw [hp]; rfl)
  have hpl := p.isLt
  clear hp
  go_enter Try.func28, Try.ntmps28
  go_wp2
  go_loopw [6, 16] (fun x i wr => ∃ q : Nat, q ≤ n ∧ i = .int .i64 q ∧ x = .int .u32 ((fold p (List.replicate q 0#8)).toNat : Int) ∧ Hid (Below w.heap.size w wr)) (fun _ i _ => n - (intOf i).toNat)
  case atStart => exact ⟨0, Nat.zero_le _, rfl, rfl, Lib.hid (Below.refl _ _)⟩
  case round =>
    obtain ⟨q, hq, rfl, rfl, HB⟩ := hrel
    obtain ⟨R, hR⟩ : ∃ R, R = fold p (List.replicate q 0#8) := ⟨_, rfl⟩
    rw [← hR]
    have hRl := R.isLt
    by_cases hlt : q < n
    · have HX := Lib.hid (show fold p (List.replicate (q + 1) 0#8) = take R 0#8 by rw [List.replicate_succ', fold_append, ← hR]; rfl)
      clear hR
      go_wp2_with (first
        | (go_at_call 20; refine (Take_any R 0#8 _).mono ?_; rintro e w1 ⟨rfl, hb1⟩; have B1 := Lib.hid (below_ext HB.out hb1); clear hb1))
      go_roundw
      case rel => exact ⟨q + 1, by omega, by go_num, by rw [HX.out], B1⟩
      case measure => simp [intOf]; omega
    · obtain rfl : q = n := by omega
      have e2 : bits .xor .u32 IntKind.u32.max (R.toNat : Int) = ((more s (List.replicate q 0#8)).toNat : Int) := by
        rw [← HF.out, hR]; exact u32_inv _
      clear hR
      go_wp2
      go_ret2
      exact ⟨rfl, HB.out⟩

/-- the sum of zeros, and the error -/
theorem rZeros_err (s : BitVec 32) (n : Int) (w : World) (h : n < 0 ∨ 1048576 < n) :
    Calls Try.prog 29 #[.int .u32 (s.toNat : Int), .int .i64 n] w fun e w' => e = .returned (.tuple #[.int .u32 0, .int .i64 2]) ∧ w = w' := by
  have hs := s.isLt
  rcases h with h | h
  all_goals
    go_enter Try.func29, Try.ntmps29
    go_wp2
    go_ret2
    exact ⟨rfl, rfl⟩
set_option maxHeartbeats 400000 in
theorem rZeros_ok (s : BitVec 32) (n : Nat) (w : World) (h : n ≤ 1048576) :
    Calls Try.prog 29 #[.int .u32 (s.toNat : Int), .int .i64 (n : Int)] w fun e w' => e = .returned (.tuple #[.int .u32 ((more s (List.replicate n 0#8)).toNat : Int), .int .i64 0]) ∧ Below w.heap.size w w' := by
  have hs := s.isLt
  obtain ⟨p, hp⟩ : ∃ p, p = ~~~ s := ⟨_, rfl⟩
  have e1 : bits .xor .u32 IntKind.u32.max (s.toNat : Int) = (p.toNat : Int) := by rw [hp]; exact u32_inv s
  have HF := Lib.hid (show ~~~ (fold p (List.replicate n 0#8)) = more s (List.replicate n 0#8) by rw [hp]; rfl)
  have hpl := p.isLt
  clear hp
  go_enter Try.func29, Try.ntmps29
  go_wp2
  go_loopw [6, 7] (fun x i wr => ∃ q : Nat, q ≤ n ∧ i = .int .i64 q ∧ x = .int .u32 ((fold p (List.replicate q 0#8)).toNat : Int) ∧ Hid (Below w.heap.size w wr)) (fun _ i _ => n - (intOf i).toNat)
  case atStart => exact ⟨0, Nat.zero_le _, rfl, rfl, Lib.hid (Below.refl _ _)⟩
  case round =>
    obtain ⟨q, hq, rfl, rfl, HB⟩ := hrel
    obtain ⟨R, hR⟩ : ∃ R, R = fold p (List.replicate q 0#8) := ⟨_, rfl⟩
    rw [← hR]
    have hRl := R.isLt
    by_cases hlt : q < n
    · have HX := Lib.hid (show fold p (List.replicate (q + 1) 0#8) = take R 0#8 by rw [List.replicate_succ', fold_append, ← hR]; rfl)
      clear hR
      go_wp2_with (first
        | (go_at_call 21; refine (rTake_any R 0#8 _).mono ?_; rintro e w1 ⟨rfl, hb1⟩; subst hb1; have B1 := Lib.hid HB.out))
      go_roundw
      case rel => exact ⟨q + 1, by omega, by go_num, by rw [HX.out], B1⟩
      case measure => simp [intOf]; omega
    · obtain rfl : q = n := by omega
      have e2 : bits .xor .u32 IntKind.u32.max (R.toNat : Int) = ((more s (List.replicate q 0#8)).toNat : Int) := by
        rw [← HF.out, hR]; exact u32_inv _
      clear hR
      go_wp2
      go_ret2
      exact ⟨rfl, HB.out⟩

end Go.Proofs.Ytjagnodfdniccaa.C
