/-
  ashlarlaw02.CrcZeros: the walk.
-/
import Derived.Test.YtjagnodfdniccaaCrcL
namespace Go.Proofs.Ytjagnodfdniccaa.C
open Go.RowKit Go.Proofs.Ytjagnodfdniccaa.L Go.Proofs.YtjagnodfdniccaaW.PrintWords
set_option linter.unusedVariables false

theorem by8_zeros (n : Nat) : by8 (List.replicate n 0#8) = List.replicate n 0 := by
  simp [by8, List.map_replicate]
set_option maxHeartbeats 1000000 in
theorem zeros_any (s : BitVec 32) (n : Int) (hn : (Lit.int .i64 n).wf = true) (w : World) :
    Calls Try.prog 4 #[.int .u32 (s.toNat : Int), .int .i64 n] w fun e w' => e = .returned (.bool true) ∧ Below w.heap.size w w' := by
  have hs := s.isLt
  obtain ⟨hn1, hn2⟩ := bounds_i64 hn
  clear hn
  by_cases hmid : 5000 < n ∧ n ≤ 1048576
  · obtain ⟨hm1, hm2⟩ := hmid
    go_enter Try.func4, Try.ntmps4
    go_wp2_with (first
      | (go_at_call 27; refine (lives_any _).mono ?_; rintro e w1 ⟨rfl, hb1⟩))
    go_ret
    exact ⟨rfl, hb1⟩
  · by_cases hbad : n < 0 ∨ 1048576 < n
    · have hbad' := Lib.hid hbad
      go_enter Try.func4, Try.ntmps4
      rcases hbad with hbad | hbad
      all_goals
        go_wp2_with (first
          | (go_at_call 28; refine (Zeros_err s n _ hbad'.out).mono ?_; rintro e w1 ⟨rfl, rfl⟩)
          | (go_at_call 29; refine (rZeros_err s n _ hbad'.out).mono ?_; rintro e w1 ⟨rfl, rfl⟩)
          | (go_at_call 27; refine (lives_any _).mono ?_; rintro e w1 ⟨rfl, hb1⟩))
        go_ret
        exact ⟨rfl, hb1⟩
    · obtain ⟨m, rfl⟩ : ∃ m : Nat, n = m := ⟨n.toNat, by omega⟩
      have hm : m ≤ 5000 := by omega
      clear hmid hbad
      have HM := Lib.hid hm
      have hmk := fun W => run_make_row' (P := Try.prog) 23 5 (.int .u8 0) 1 Try.underlying23 S.info_u8 rfl .i64 .i64 m (by omega) (by omega) W
      have HR : Hid (∀ W : World, ReadsInt (W.alloc (.cells (madeCells #[.int .u8 0] m) 5)) .u8 (some ⟨W.heap.size, 0, none⟩) (List.replicate m 0#8).length (by8 (List.replicate m 0#8))) := Lib.hid fun W => by
        have h := own_reads' (own_made W W.heap.size 5 .u8 m (Nat.le_refl _) (by omega))
        rw [by8_zeros, List.length_replicate]; exact h
      have HL : Hid ((List.replicate m 0#8).length = m) := Lib.hid (by simp)
      obtain ⟨V, hV⟩ : ∃ V, V = more s (List.replicate m 0#8) := ⟨_, rfl⟩
      have P1 : Hid (∀ w, Calls Try.prog 28 #[.int .u32 (s.toNat : Int), .int .i64 (m : Int)] w fun e w' => e = .returned (.tuple #[.int .u32 (V.toNat : Int), .int .i64 0]) ∧ Below w.heap.size w w') := Lib.hid fun w => by rw [hV]; exact Zeros_ok s m w (by omega)
      have P2 : Hid (∀ w, Calls Try.prog 29 #[.int .u32 (s.toNat : Int), .int .i64 (m : Int)] w fun e w' => e = .returned (.tuple #[.int .u32 (V.toNat : Int), .int .i64 0]) ∧ Below w.heap.size w w') := Lib.hid fun w => by rw [hV]; exact rZeros_ok s m w (by omega)
      have P3 : Hid (∀ W : World, Calls Try.prog 22 #[.int .u32 (s.toNat : Int), .slice (some ⟨W.heap.size, 0, none⟩) m m] (W.alloc (.cells (madeCells #[.int .u8 0] m) 5)) fun e w' => e = .returned (.int .u32 (V.toNat : Int)) ∧ Below (W.alloc (.cells (madeCells #[.int .u8 0] m) 5)).heap.size (W.alloc (.cells (madeCells #[.int .u8 0] m) 5)) w') := Lib.hid fun W => by
        have h := More_any s (some ⟨W.heap.size, 0, none⟩) m (List.replicate m 0#8) _ (HR.out W) (by rw [HL.out]; omega)
        rw [HL.out] at h; rw [hV]; exact h
      clear hV
      go_enter Try.func4, Try.ntmps4
      go_wp2_with (first
        | (go_at_call 28; refine (P1.out _).mono ?_; rintro e w1 ⟨rfl, hb1⟩)
        | (go_at_call 29; refine (P2.out _).mono ?_; rintro e w2 ⟨rfl, hb2⟩)
        | (go_at_call 22; refine (P3.out _).mono ?_; rintro e w3 ⟨rfl, hb3⟩)
        | (go_at_call 27; refine (lives_any _).mono ?_; rintro e w4 ⟨rfl, hb4⟩))
      go_ret
      exact ⟨ret_b (by simp), below_ext hb1 (below_ext hb2 (below_ext (below_1 hb3) hb4))⟩
theorem word32 {x : Int} (h : (Lit.int .u32 x).wf = true) : ∃ r : BitVec 32, x = (r.toNat : Int) := by
  obtain ⟨h1, h2⟩ := bounds_u32 h
  refine ⟨BitVec.ofNat 32 x.toNat, ?_⟩
  rw [BitVec.toNat_ofNat]; omega
theorem zeros_any' (s : Int) (ws : (Lit.int .u32 s).wf = true) (n : Int) (wn : (Lit.int .i64 n).wf = true) (w : World) :
    Calls Try.prog 4 #[.int .u32 s, .int .i64 n] w fun e w' => e = .returned (.bool true) ∧ Below w.heap.size w w' := by
  obtain ⟨s, rfl⟩ := word32 ws
  exact zeros_any s n wn w
end Go.Proofs.Ytjagnodfdniccaa.C
