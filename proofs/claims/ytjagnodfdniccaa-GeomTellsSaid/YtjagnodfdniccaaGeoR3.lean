/-
  ashlarref04.At, Block.
-/
import Derived.Test.YtjagnodfdniccaaGeoR2
namespace Go.Proofs.Ytjagnodfdniccaa.G
open Go.RowKit Go.Proofs.Ytjagnodfdniccaa.L Go.Proofs.YtjagnodfdniccaaW.PrintWords
set_option linter.unusedVariables false

/-- element b of the places -/
theorem plc_cell {w : World} {base e g N cap : Nat} {m : Int} (h : w.ownsRow base e 2 (.slice (some ⟨g, 0, none⟩) N cap) N (plc m N)) {i : Nat} (hi : i < N) :
    w.cell? ⟨g, i * 2, none⟩ = some (.int .i64 ((i : Int) / (m - 1))) ∧ w.cell? ⟨g, i * 2 + 1, none⟩ = some (.int .i64 ((i : Int) % m)) := by
  obtain ⟨h1, h2⟩ := plc_get m hi
  have c1 := h.cells (g := g) rfl _ _ h1
  have c2 := h.cells (g := g) rfl _ _ h2
  rw [add_plain, Nat.mul_comm] at c1
  rw [add_plain, Nat.mul_comm] at c2
  exact ⟨c1, c2⟩

set_option maxHeartbeats 1000000 in
theorem rAt_ok (m s r b : Int) (w : World) (h : may m s r = true) (h0 : 0 ≤ b) (h1 : b < s * (m - 1)) : Calls Try.prog 55 #[.agg #[.int .i64 m, .int .i64 s, .int .i64 r], .int .i64 b] w fun e w' =>
    e = .returned (.tuple #[.agg #[.int .i64 (b / (m - 1)), .int .i64 (b % m)], .int .i64 0]) ∧ Below w.heap.size w w' := by
  obtain ⟨b1, b2, b3, b4, b5, b6⟩ := may_iff.1 h
  obtain ⟨n1, n2⟩ := mul_bd b1 b2 b3 b4
  have A1 := Lib.hid (fun w => rmay_any m s r w)
  have A2 := Lib.hid (fun w => All_ok m s r w h)
  rw [h] at A1
  obtain ⟨n, hn⟩ : ∃ n : Nat, s * (m - 1) = n := ⟨(s * (m - 1)).toNat, by omega⟩
  rw [hn, Int.toNat_natCast] at A2
  rw [hn] at h1 n1 n2
  obtain ⟨i, rfl⟩ : ∃ i : Nat, b = i := ⟨b.toNat, by omega⟩
  have h1' : i < n := by omega
  clear h hn
  go_enter Try.func55, Try.ntmps55
  go_wp2_with (first
    | (go_at_call 51; refine (A1.out _).mono ?_; rintro e w3 ⟨rfl, hb3⟩; obtain ⟨hc, hf⟩ := bcell hb3; have z3 : w.heap.size + 1 < w3.heap.size := (by have := hb3.size; simp at this; omega); have e0 : w3.cell? ⟨w.heap.size, 0, none⟩ = some (.int .i64 m) := (by rw [hc _ _ (by simp <;> omega)]; simp); have e1 : w3.cell? ⟨w.heap.size, 1, none⟩ = some (.int .i64 s) := (by rw [hc _ _ (by simp <;> omega)]; simp); have e2 : w3.cell? ⟨w.heap.size, 2, none⟩ = some (.int .i64 r) := (by rw [hc _ _ (by simp <;> omega)]; simp); have P3 := Lib.hid (show w3.heap[w.heap.size + 1]? = some (.cells #[.int .i64 0, .int .i64 0] 54 (0, 0)) from (by have h9 := blk_below (blk_new (w.alloc _) _) hb3; simpa using h9)); clear hc hf)
    | (go_at_call 65; refine (A2.out _).mono ?_; rintro e w4 ⟨v, rfl, ho, hb4⟩; obtain ⟨gp, cap, rfl, hgb, hgl⟩ := ho.form (by omega); obtain ⟨d0, d1⟩ := plc_cell ho h1'; have P4 := Lib.hid (blk_below P3.out hb4); have p0 := (blk_cell P4.out 0).trans rfl; have p1 := (blk_cell P4.out 1).trans rfl; have f0 := blk_frozen P4.out 0; have f1 := blk_frozen P4.out 1; have B4 := Lib.hid (below_ext (below_2 hb3) hb4); have hne : gp ≠ w.heap.size + 1 := (by omega); clear e0 e1 e2 hb3 hb4 hgb ho))
  refine bodyPost_ret (v := .tuple #[.agg #[.int .i64 ((i : Int) / (m - 1)), .int .i64 ((i : Int) % m)], .int .i64 0]) (by simp [results, Try.results55, go_sem, p0, p1]) rfl ⟨rfl, ?_⟩
  exact (B4.out.setCell (by simp) _).setCell (by simp) _

theorem rAt_err (m s r b : Int) (w : World) (e0 : Int) (h : (may m s r = false ∧ e0 = 2) ∨ (may m s r = true ∧ ¬ (0 ≤ b ∧ b < s * (m - 1)) ∧ e0 = 12)) : Calls Try.prog 55 #[.agg #[.int .i64 m, .int .i64 s, .int .i64 r], .int .i64 b] w fun e w' =>
    e = .returned (.tuple #[.agg #[.int .i64 0, .int .i64 0], .int .i64 e0]) ∧ Below w.heap.size w w' := by
  have A1 := Lib.hid (fun w => rmay_any m s r w)
  rcases h with ⟨h, rfl⟩ | ⟨h, hb, rfl⟩
  · rw [h] at A1
    clear h
    go_enter Try.func55, Try.ntmps55
    go_wp2_with (first
      | (go_at_call 51; refine (A1.out _).mono ?_; rintro e w3 ⟨rfl, hb3⟩; have P3 := Lib.hid (show w3.heap[w.heap.size + 1]? = some (.cells #[.int .i64 0, .int .i64 0] 54 (0, 0)) from (by have h9 := blk_below (blk_new (w.alloc _) _) hb3; simpa using h9)); have p0 := (blk_cell P3.out 0).trans rfl; have p1 := (blk_cell P3.out 1).trans rfl; have f0 := blk_frozen P3.out 0; have f1 := blk_frozen P3.out 1; have B4 := Lib.hid (below_2 hb3); clear hb3))
    refine bodyPost_ret (v := .tuple #[.agg #[.int .i64 0, .int .i64 0], .int .i64 2]) (by simp [results, Try.results55, go_sem, p0, p1]) rfl ⟨rfl, ?_⟩
    exact (B4.out.setCell (by simp) _).setCell (by simp) _
  · have A2 := Lib.hid (fun w => All_ok m s r w h)
    obtain ⟨b1, b2, b3, b4, b5, b6⟩ := may_iff.1 h
    obtain ⟨n1, n2⟩ := mul_bd b1 b2 b3 b4
    have n3 : 1 ≤ s * (m - 1) := by have := Int.mul_le_mul (a := 1) (b := 1) (c := s) (d := m - 1) b3 (by omega) (by omega) (by omega); omega
    rw [h] at A1
    obtain ⟨n, hn⟩ : ∃ n : Nat, s * (m - 1) = n := ⟨(s * (m - 1)).toNat, by omega⟩
    rw [hn, Int.toNat_natCast] at A2
    rw [hn] at hb n1 n2 n3
    have h1 : b < 0 ∨ (n : Int) ≤ b := by omega
    clear h hn hb
    rcases h1 with h1 | h1
    all_goals
      go_enter Try.func55, Try.ntmps55
      go_wp2_with (first
        | (go_at_call 51; refine (A1.out _).mono ?_; rintro e w3 ⟨rfl, hb3⟩; obtain ⟨hc, hf⟩ := bcell hb3; have z3 : w.heap.size + 1 < w3.heap.size := (by have := hb3.size; simp at this; omega); have e0 : w3.cell? ⟨w.heap.size, 0, none⟩ = some (.int .i64 m) := (by rw [hc _ _ (by simp <;> omega)]; simp); have e1 : w3.cell? ⟨w.heap.size, 1, none⟩ = some (.int .i64 s) := (by rw [hc _ _ (by simp <;> omega)]; simp); have e2 : w3.cell? ⟨w.heap.size, 2, none⟩ = some (.int .i64 r) := (by rw [hc _ _ (by simp <;> omega)]; simp); have P3 := Lib.hid (show w3.heap[w.heap.size + 1]? = some (.cells #[.int .i64 0, .int .i64 0] 54 (0, 0)) from (by have h9 := blk_below (blk_new (w.alloc _) _) hb3; simpa using h9)); clear hc hf)
        | (go_at_call 65; refine (A2.out _).mono ?_; rintro e w4 ⟨v, rfl, ho, hb4⟩; obtain ⟨gp, cap, rfl, hgb, hgl⟩ := ho.form (by omega); have P4 := Lib.hid (blk_below P3.out hb4); have p0 := (blk_cell P4.out 0).trans rfl; have p1 := (blk_cell P4.out 1).trans rfl; have f0 := blk_frozen P4.out 0; have f1 := blk_frozen P4.out 1; have B4 := Lib.hid (below_ext (below_2 hb3) hb4); clear e0 e1 e2 hb3 hb4 hgb ho))
      refine bodyPost_ret (v := .tuple #[.agg #[.int .i64 0, .int .i64 0], .int .i64 12]) (by simp [results, Try.results55, go_sem, p0, p1]) rfl ⟨rfl, ?_⟩
      exact (B4.out.setCell (by simp) _).setCell (by simp) _
end Go.Proofs.Ytjagnodfdniccaa.G
