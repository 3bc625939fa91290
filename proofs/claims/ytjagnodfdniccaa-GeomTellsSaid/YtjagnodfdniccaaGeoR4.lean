/-
  ashlarref04.Block.
-/
import Derived.Test.YtjagnodfdniccaaGeoR3
import Derived.Test.YtjagnodfdniccaaGeoLaw1
namespace Go.Proofs.Ytjagnodfdniccaa.G
open Go.RowKit Go.Proofs.Ytjagnodfdniccaa.L Go.Proofs.YtjagnodfdniccaaW.PrintWords
set_option linter.unusedVariables false

theorem rBlock_err (m s r st me : Int) (w : World) (e0 : Int) (h : (may m s r = false ∧ e0 = 2) ∨ (may m s r = true ∧ ¬ (0 ≤ st ∧ st < s ∧ 0 ≤ me ∧ me < m) ∧ e0 = 12)) :
    Calls Try.prog 56 #[.agg #[.int .i64 m, .int .i64 s, .int .i64 r], .agg #[.int .i64 st, .int .i64 me]] w fun e w' =>
    e = .returned (.tuple #[.int .i64 0, .int .i64 e0]) ∧ Below w.heap.size w w' := by
  have A1 := Lib.hid (fun w => rmay_any m s r w)
  rcases h with ⟨h, rfl⟩ | ⟨h, hn, rfl⟩
  · rw [h] at A1
    clear h
    go_enter Try.func56, Try.ntmps56
    go_wp2_with (first
      | (go_at_call 51; refine (A1.out _).mono ?_; rintro e w3 ⟨rfl, hb3⟩; obtain ⟨hc, hf⟩ := bcell hb3; have z3 : w.heap.size + 1 < w3.heap.size := (by have := hb3.size; simp at this; omega); have z0 : w.heap.size < w3.heap.size := (by omega); have c0 : w3.cell? ⟨w.heap.size, 0, none⟩ = some (.int .i64 m) := (by rw [hc _ _ (by simp <;> omega)]; simp); have c1 : w3.cell? ⟨w.heap.size, 1, none⟩ = some (.int .i64 s) := (by rw [hc _ _ (by simp <;> omega)]; simp); have c2 : w3.cell? ⟨w.heap.size, 2, none⟩ = some (.int .i64 r) := (by rw [hc _ _ (by simp <;> omega)]; simp); have c3 : w3.cell? ⟨w.heap.size + 1, 0, none⟩ = some (.int .i64 st) := (by rw [hc _ _ (by simp <;> omega)]; simp); have c4 : w3.cell? ⟨w.heap.size + 1, 1, none⟩ = some (.int .i64 me) := (by rw [hc _ _ (by simp <;> omega)]; simp); have B3 := Lib.hid (below_2 hb3); clear hc hf hb3))
    go_ret2
    exact ⟨rfl, B3.out⟩
  · rw [h] at A1
    clear h
    have h1 : st < 0 ∨ (0 ≤ st ∧ s ≤ st) ∨ (0 ≤ st ∧ st < s ∧ me < 0) ∨ (0 ≤ st ∧ st < s ∧ 0 ≤ me ∧ m ≤ me) := by omega
    clear hn
    rcases h1 with h1 | ⟨h1, h2⟩ | ⟨h1, h2, h3⟩ | ⟨h1, h2, h3, h4⟩
    all_goals
      go_enter Try.func56, Try.ntmps56
      go_wp2_with (first
        | (go_at_call 51; refine (A1.out _).mono ?_; rintro e w3 ⟨rfl, hb3⟩; obtain ⟨hc, hf⟩ := bcell hb3; have z3 : w.heap.size + 1 < w3.heap.size := (by have := hb3.size; simp at this; omega); have z0 : w.heap.size < w3.heap.size := (by omega); have c0 : w3.cell? ⟨w.heap.size, 0, none⟩ = some (.int .i64 m) := (by rw [hc _ _ (by simp <;> omega)]; simp); have c1 : w3.cell? ⟨w.heap.size, 1, none⟩ = some (.int .i64 s) := (by rw [hc _ _ (by simp <;> omega)]; simp); have c2 : w3.cell? ⟨w.heap.size, 2, none⟩ = some (.int .i64 r) := (by rw [hc _ _ (by simp <;> omega)]; simp); have c3 : w3.cell? ⟨w.heap.size + 1, 0, none⟩ = some (.int .i64 st) := (by rw [hc _ _ (by simp <;> omega)]; simp); have c4 : w3.cell? ⟨w.heap.size + 1, 1, none⟩ = some (.int .i64 me) := (by rw [hc _ _ (by simp <;> omega)]; simp); have B3 := Lib.hid (below_2 hb3); clear hc hf hb3))
      go_ret2
      exact ⟨rfl, B3.out⟩

/-- the block that stands at a member of a stripe, and the error -/
def blk (m s r st me : Int) : Int × Int :=
  if may m s r = true then
    if 0 ≤ st ∧ st < s ∧ 0 ≤ me ∧ me < m then
      if me = m - 1 - st % m then (0, 7) else (st * (m - 1) + (me - (m - 1 - st % m) - 1) % m, 0)
    else (0, 12)
  else (0, 2)
/-- A block that stands at a place is that place's block. -/
theorem place_eq {m i st me : Int} (h1 : 3 ≤ m) (h2 : m ≤ 16) (h0 : 0 ≤ i) (e1 : i / (m - 1) = st) (e2 : i % m = me) :
    me ≠ m - 1 - st % m ∧ st * (m - 1) + (me - (m - 1 - st % m) - 1) % m = i := by
  obtain ⟨_, _, _, p4, p5⟩ := place_back (b := i) (st := st) (p := m - 1 - st % m) (me := me) h1 h2 h0 e1.symm rfl (by rw [← e1, mem_eq h1 h0, e2])
  exact ⟨p4, p5⟩
/-- .. and it stands there. -/
theorem place_at {m x y p R : Int} (h1 : 3 ≤ m) (hx : 0 ≤ x) (hp : p = m - 1 - x % m) (hy : 0 ≤ y) (hy2 : y < m) (hne : y ≠ p) (hR : R = (y - p - 1) % m) :
    (x * (m - 1) + R) / (m - 1) = x ∧ (x * (m - 1) + R) % m = y := by
  obtain ⟨r1, r2, r3⟩ := inner_div h1 hx hp hy hy2 hne hR
  refine ⟨r3, ?_⟩
  rw [← mem_eq h1 (by have := Int.mul_nonneg hx (show 0 ≤ m - 1 by omega); omega), r3]
  have e2 : (x * (m - 1) + R) % (m - 1) = R := by
    rw [Int.add_comm, Int.add_mul_emod_self_right]; exact Int.emod_eq_of_lt r1 (by omega)
  rw [e2, ← hp, hR, ← Int.emod_eq_of_lt hy hy2]
  rw [Int.add_emod, Int.emod_emod_of_dvd _ (Int.dvd_refl m), ← Int.add_emod, Int.emod_eq_of_lt hy hy2]
  rw [show p + 1 + (y - p - 1) = y by omega, Int.emod_eq_of_lt hy hy2]

set_option maxRecDepth 100000 in
set_option maxHeartbeats 1000000 in
theorem rBlock_ok (m s r st me : Int) (w : World) (h : may m s r = true) (k1 : 0 ≤ st) (k2 : st < s) (k3 : 0 ≤ me) (k4 : me < m) :
    Calls Try.prog 56 #[.agg #[.int .i64 m, .int .i64 s, .int .i64 r], .agg #[.int .i64 st, .int .i64 me]] w fun e w' =>
    e = .returned (.tuple #[.int .i64 (blk m s r st me).1, .int .i64 (blk m s r st me).2]) ∧ Below w.heap.size w w' := by
  have HX := Lib.hid (show blk m s r st me = if me = m - 1 - st % m then (0, 7) else (st * (m - 1) + (me - (m - 1 - st % m) - 1) % m, 0) by rw [blk, if_pos h, if_pos ⟨k1, k2, k3, k4⟩])
  obtain ⟨b1, b2, b3, b4, b5, b6⟩ := may_iff.1 h
  obtain ⟨n1, n2⟩ := mul_bd b1 b2 b3 b4
  have n3 : 1 ≤ s * (m - 1) := by have := Int.mul_le_mul (a := 1) (b := 1) (c := s) (d := m - 1) b3 (by omega) (by omega) (by omega); omega
  have A1 := Lib.hid (fun w => rmay_any m s r w)
  have A2 := Lib.hid (fun w => All_ok m s r w h)
  rw [h] at A1
  obtain ⟨n, hn⟩ : ∃ n : Nat, s * (m - 1) = n := ⟨(s * (m - 1)).toNat, by omega⟩
  rw [hn, Int.toNat_natCast] at A2
  rw [hn] at n1 n2 n3
  have HN := Lib.hid hn
  clear h hn
  go_enter Try.func56, Try.ntmps56
  go_wp2_with (first
    | (go_at_call 51; refine (A1.out _).mono ?_; rintro e w3 ⟨rfl, hb3⟩; obtain ⟨hc, hf⟩ := bcell hb3; have z3 : w.heap.size + 1 < w3.heap.size := (by have := hb3.size; simp at this; omega); have z0 : w.heap.size < w3.heap.size := (by omega); have c0 : w3.cell? ⟨w.heap.size, 0, none⟩ = some (.int .i64 m) := (by rw [hc _ _ (by simp <;> omega)]; simp); have c1 : w3.cell? ⟨w.heap.size, 1, none⟩ = some (.int .i64 s) := (by rw [hc _ _ (by simp <;> omega)]; simp); have c2 : w3.cell? ⟨w.heap.size, 2, none⟩ = some (.int .i64 r) := (by rw [hc _ _ (by simp <;> omega)]; simp); have c3 : w3.cell? ⟨w.heap.size + 1, 0, none⟩ = some (.int .i64 st) := (by rw [hc _ _ (by simp <;> omega)]; simp); have c4 : w3.cell? ⟨w.heap.size + 1, 1, none⟩ = some (.int .i64 me) := (by rw [hc _ _ (by simp <;> omega)]; simp); have B3 := Lib.hid (below_2 hb3); clear hc hf hb3)
    | (go_at_call 65; refine (A2.out _).mono ?_; rintro e w4 ⟨v, rfl, ho, hb4⟩; obtain ⟨gp, cap, rfl, hgb, hgl⟩ := ho.form (by omega); have HO := Lib.hid ho; have d0 := (hb4.cell (p := ⟨w.heap.size, 0, none⟩) z0).trans c0; have d1 := (hb4.cell (p := ⟨w.heap.size, 1, none⟩) z0).trans c1; have d2 := (hb4.cell (p := ⟨w.heap.size, 2, none⟩) z0).trans c2; have d3 := (hb4.cell (p := ⟨w.heap.size + 1, 0, none⟩) z3).trans c3; have d4 := (hb4.cell (p := ⟨w.heap.size + 1, 1, none⟩) z3).trans c4; have B4 := Lib.hid (below_ext B3.out hb4); clear c0 c1 c2 c3 c4 hb4 hgb ho))
  obtain ⟨w5, rfl⟩ : ∃ w5 : World, w5 = w4 := ⟨_, rfl⟩
  go_loopw [7] (fun i wr => ∃ x : Nat, x ≤ n ∧ i = .int .i64 x ∧ Hid (∀ j : Nat, j < x → ¬ ((j : Int) / (m - 1) = st ∧ (j : Int) % m = me)) ∧ Hid (∃ d, wr = w5.drewN d)) (fun i _ => n - (intOf i).toNat)
  case atStart => exact ⟨0, Nat.zero_le _, rfl, Lib.hid (fun j hj => absurd hj (by omega)), Lib.hid ⟨0, rfl⟩⟩
  case round =>
    obtain ⟨x, hx, rfl, HA, HW⟩ := hrel
    obtain ⟨d, rfl⟩ := HW.out
    clear HW
    by_cases hxl : x < n
    · obtain ⟨p0, p1⟩ := plc_cell HO.out hxl
      have hi0 : (0 : Int) ≤ (x : Int) := by omega
      have hi1 : (x : Int) < (n : Int) := by omega
      by_cases he : (x : Int) / (m - 1) = st ∧ (x : Int) % m = me
      · obtain ⟨g1, g2⟩ := place_eq b1 b2 (by omega) he.1 he.2
        have HE := Lib.hid (show blk m s r st me = ((x : Int), 0) by rw [HX.out, if_neg g1, g2])
        rw [he.1] at p0
        rw [he.2] at p1
        clear he g1 g2
        go_wp2
        go_quiet (fail)
        go_wp2
        go_ret2
        rw [HE.out]
        exact ⟨rfl, below_drewN (below_drewN B4.out _) _⟩
      · have HQ : Hid (∀ j : Nat, j < x + 1 → ¬ ((j : Int) / (m - 1) = st ∧ (j : Int) % m = me)) := Lib.hid (fun j hj => by
          rcases Nat.lt_or_ge j x with h | h
          · exact HA.out j h
          · obtain rfl : j = x := by omega
            exact he)
        by_cases he1 : (x : Int) / (m - 1) = st
        · have he2 : ((x : Int) % m == me) = false := by simp; intro h; exact he ⟨he1, h⟩
          rw [he1] at p0
          obtain ⟨y, hy⟩ : ∃ y, y = (x : Int) % m := ⟨_, rfl⟩
          rw [← hy] at p1 he2
          clear he he1 hy
          go_wp2
          go_quiet (fail)
          go_wp2
          go_roundw
          case rel => exact ⟨x + 1, by omega, by go_num, HQ, Lib.hid ⟨_, rfl⟩⟩
          case measure => simp [intOf]; omega
        · have he2 : ((x : Int) / (m - 1) == st) = false := by simpa using he1
          obtain ⟨y, hy⟩ : ∃ y, y = (x : Int) / (m - 1) := ⟨_, rfl⟩
          obtain ⟨z, hz⟩ : ∃ z, z = (x : Int) % m := ⟨_, rfl⟩
          rw [← hy] at p0 he2
          rw [← hz] at p1
          clear he he1 hy hz
          go_wp2
          go_quiet (fail)
          go_wp2
          go_roundw
          case rel => exact ⟨x + 1, by omega, by go_num, HQ, Lib.hid ⟨_, rfl⟩⟩
          case measure => simp [intOf]; omega
    · have HE := Lib.hid (show blk m s r st me = (0, 7) by
        rw [HX.out]
        by_cases hq : me = m - 1 - st % m
        · rw [if_pos hq]
        · exfalso
          obtain ⟨g1, g2⟩ := place_at (R := (me - (m - 1 - st % m) - 1) % m) b1 k1 rfl k3 k4 hq rfl
          obtain ⟨r1, r2, _⟩ := inner_div b1 k1 rfl k3 k4 hq rfl
          have hb : st * (m - 1) + (me - (m - 1 - st % m) - 1) % m < n := by
            rw [← HN.out]
            have h1 := Int.mul_le_mul_of_nonneg_right (show st + 1 ≤ s by omega) (show 0 ≤ m - 1 by omega)
            rw [Int.add_mul] at h1
            omega
          have h0 := Int.mul_nonneg k1 (show 0 ≤ m - 1 by omega)
          refine HA.out (st * (m - 1) + (me - (m - 1 - st % m) - 1) % m).toNat (by omega) ?_
          rw [Int.toNat_of_nonneg (by omega)]
          exact ⟨g1, g2⟩)
      go_wp2
      go_ret2
      rw [HE.out]
      exact ⟨rfl, below_drewN B4.out _⟩
end Go.Proofs.Ytjagnodfdniccaa.G
