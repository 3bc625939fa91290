/-
  geom and ashlarref04, function by function: what each call answers.
-/
import Derived.Test.YtjagnodfdniccabProg
import Derived.Test.YtjagnodfdniccabLib
namespace Go.Proofs.Ytjagnodfdniccab.G
open Go.RowKit Go.Proofs.Ytjagnodfdniccab.L Go.Proofs.YtjagnodfdniccabW.PrintWords
set_option linter.unusedVariables false

/-- the whole numbers of an int -/
def I64 (n : Int) : Prop := -9223372036854775808 ≤ n ∧ n ≤ 9223372036854775807

def may (m s r : Int) : Bool := (decide (3 ≤ m) && decide (m ≤ 16)) && ((decide (1 ≤ s) && decide (s ≤ 64)) && (decide (40 ≤ r) && decide (r ≤ 256)))
theorem may_iff {m s r : Int} : may m s r = true ↔ 3 ≤ m ∧ m ≤ 16 ∧ 1 ≤ s ∧ s ≤ 64 ∧ 40 ≤ r ∧ r ≤ 256 := by
  simp only [may, Bool.and_eq_true, decide_eq_true_eq]; omega

theorem within_any (n lo hi : Int) (w : World) : Calls Try.prog 6 #[.int .i64 n, .int .i64 lo, .int .i64 hi] w fun e w' => e = .returned (.bool (decide (lo ≤ n) && decide (n ≤ hi))) ∧ w = w' := by
  by_cases h : lo ≤ n
  · go_enter Try.func6, Try.ntmps6
    go_wp2
    go_ret
    exact ⟨ret_b (by simp [h]), rfl⟩
  · go_enter Try.func6, Try.ntmps6
    go_wp2
    go_ret
    exact ⟨ret_b (by have : decide (lo ≤ n) = false := decide_eq_false (by omega)
                     rw [this]; rfl), rfl⟩

theorem gmay_any (m s r : Int) (w : World) : Calls Try.prog 16 #[.agg #[.int .i64 m, .int .i64 s, .int .i64 r]] w fun e w' => e = .returned (.bool (may m s r)) ∧ Below w.heap.size w w' := by
  by_cases h1 : (decide (3 ≤ m) && decide (m ≤ 16)) = true
  · by_cases h2 : (decide (1 ≤ s) && decide (s ≤ 64)) = true
    · go_enter Try.func16, Try.ntmps16
      go_wp2_with (go_at_call 6; refine (within_any _ _ _ _).mono ?_; rintro e w' ⟨rfl, rfl⟩)
      go_ret
      exact ⟨ret_b (by simp only [may, h1, h2, Bool.true_and]), (Below.refl _ _).alloc (Nat.le_refl _) _⟩
    · replace h2 := Bool.eq_false_iff.mpr h2
      go_enter Try.func16, Try.ntmps16
      go_wp2_with (go_at_call 6; refine (within_any _ _ _ _).mono ?_; rintro e w' ⟨rfl, rfl⟩)
      go_ret
      exact ⟨ret_b (by simp only [may, h1, h2, Bool.true_and, Bool.false_and]), (Below.refl _ _).alloc (Nat.le_refl _) _⟩
  · replace h1 := Bool.eq_false_iff.mpr h1
    go_enter Try.func16, Try.ntmps16
    go_wp2_with (go_at_call 6; refine (within_any _ _ _ _).mono ?_; rintro e w' ⟨rfl, rfl⟩)
    go_ret
    exact ⟨ret_b (by simp only [may, h1, Bool.false_and]), (Below.refl _ _).alloc (Nat.le_refl _) _⟩

def blocks (m s r : Int) : Int := if may m s r = true then s * (m - 1) else 0
theorem mul_bd {m s : Int} (h1 : 3 ≤ m) (h2 : m ≤ 16) (h3 : 1 ≤ s) (h4 : s ≤ 64) : 0 ≤ s * (m - 1) ∧ s * (m - 1) ≤ 960 := by
  constructor
  · exact Int.mul_nonneg (by omega) (by omega)
  · have := Int.mul_le_mul (a := s) (b := m - 1) (c := 64) (d := 15) h4 (by omega) (by omega) (by omega)
    omega
theorem blocks_bd (m s r : Int) : 0 ≤ blocks m s r ∧ blocks m s r ≤ 960 := by
  unfold blocks
  split
  · rename_i h
    rw [may_iff] at h
    exact mul_bd h.1 h.2.1 h.2.2.1 h.2.2.2.1
  · omega

theorem blocks_any (m s r : Int) (w : World) : Calls Try.prog 12 #[.agg #[.int .i64 m, .int .i64 s, .int .i64 r]] w fun e w' => e = .returned (.int .i64 (blocks m s r)) ∧ Below w.heap.size w w' := by
  by_cases h : may m s r = true
  · have he : s * (m - 1) = blocks m s r := by rw [blocks, if_pos h]
    have H := Lib.hid he
    clear he
    obtain ⟨b1, b2, b3, b4, b5, b6⟩ := may_iff.1 h
    obtain ⟨m1, m2⟩ := mul_bd b1 b2 b3 b4
    go_enter Try.func12, Try.ntmps12
    go_wp2_with (go_at_call 16; refine (gmay_any _ _ _ _).mono ?_; rintro e w' ⟨rfl, hb⟩; rw [h]; clear h; obtain ⟨hc, hf⟩ := bcell hb)
    go_ret
    exact ⟨ret_i H.out, below_1 hb⟩
  · have he : (0 : Int) = blocks m s r := by rw [blocks, if_neg h]
    have H := Lib.hid he
    clear he
    replace h := Bool.eq_false_iff.mpr h
    go_enter Try.func12, Try.ntmps12
    go_wp2_with (go_at_call 16; refine (gmay_any _ _ _ _).mono ?_; rintro e w' ⟨rfl, hb⟩; rw [h]; clear h)
    go_ret
    exact ⟨ret_i H.out, below_1 hb⟩

theorem mod_bd {k m : Int} (hm : 1 ≤ m) : 0 ≤ k % m ∧ k % m < m := ⟨Int.emod_nonneg _ (by omega), Int.emod_lt_of_pos _ (by omega)⟩
theorem parity_any (m s r k : Int) (w : World) (h1 : 3 ≤ m) (h2 : m ≤ 16) (hk : 0 ≤ k) (hk2 : k ≤ 9223372036854775807) : Calls Try.prog 15 #[.agg #[.int .i64 m, .int .i64 s, .int .i64 r], .int .i64 k] w fun e w' => e = .returned (.int .i64 (m - 1 - k % m)) ∧ Below w.heap.size w w' := by
  obtain ⟨d1, d2⟩ := mod_bd (k := k) (m := m) (by omega)
  go_enter Try.func15, Try.ntmps15
  go_wp2
  go_quiet (fail)
  go_wp2
  go_ret
  exact ⟨rfl, below_drewN ((Below.refl _ _).alloc (Nat.le_refl _) _) _⟩

/-- what each call of a stripe asks -/
def asked (m s r k : Int) : Int := if may m s r = true then (if 0 ≤ k ∧ k < s then 0 else 12) else 2
theorem asked_any (m s r k : Int) (w : World) : Calls Try.prog 14 #[.agg #[.int .i64 m, .int .i64 s, .int .i64 r], .int .i64 k] w fun e w' => e = .returned (.int .i64 (asked m s r k)) ∧ Below w.heap.size w w' := by
  by_cases h : may m s r = true
  · obtain ⟨b1, b2, b3, b4, b5, b6⟩ := may_iff.1 h
    by_cases hk : 0 ≤ k ∧ k < s
    · have H := Lib.hid (show (0 : Int) = asked m s r k by rw [asked, if_pos h, if_pos hk])
      have ht : (decide (0 ≤ k) && decide (k ≤ s - 1)) = true := by simp only [Bool.and_eq_true, decide_eq_true_eq]; omega
      clear hk
      go_enter Try.func14, Try.ntmps14
      go_wp2_with (first | (go_at_call 16; refine (gmay_any _ _ _ _).mono ?_; rintro e w' ⟨rfl, hb⟩; rw [h]; clear h; obtain ⟨hc, hf⟩ := bcell hb) | (go_at_call 6; refine (within_any _ _ _ _).mono ?_; rintro e w' ⟨rfl, rfl⟩; rw [ht]; clear ht))
      go_ret
      exact ⟨ret_i H.out, below_1 hb⟩
    · have H := Lib.hid (show (12 : Int) = asked m s r k by rw [asked, if_pos h, if_neg hk])
      have ht : (decide (0 ≤ k) && decide (k ≤ s - 1)) = false := by simp only [Bool.and_eq_false_iff, decide_eq_false_iff_not]; omega
      clear hk
      go_enter Try.func14, Try.ntmps14
      go_wp2_with (first | (go_at_call 16; refine (gmay_any _ _ _ _).mono ?_; rintro e w' ⟨rfl, hb⟩; rw [h]; clear h; obtain ⟨hc, hf⟩ := bcell hb) | (go_at_call 6; refine (within_any _ _ _ _).mono ?_; rintro e w' ⟨rfl, rfl⟩; rw [ht]; clear ht))
      go_ret
      exact ⟨ret_i H.out, below_1 hb⟩
  · have H := Lib.hid (show (2 : Int) = asked m s r k by rw [asked, if_neg h])
    replace h := Bool.eq_false_iff.mpr h
    go_enter Try.func14, Try.ntmps14
    go_wp2_with (first | (go_at_call 16; refine (gmay_any _ _ _ _).mono ?_; rintro e w' ⟨rfl, hb⟩; rw [h]; clear h; obtain ⟨hc, hf⟩ := bcell hb))
    go_ret
    exact ⟨ret_i H.out, below_1 hb⟩

theorem asked_zero {m s r k : Int} (h : asked m s r k = 0) : (3 ≤ m ∧ m ≤ 16 ∧ 1 ≤ s ∧ s ≤ 64 ∧ 40 ≤ r ∧ r ≤ 256) ∧ 0 ≤ k ∧ k < s := by
  unfold asked at h
  split at h
  · rename_i hm
    split at h
    · rename_i hk
      exact ⟨may_iff.1 hm, hk⟩
    · cases h
  · cases h

/-- the member that has a stripe's parity, and the error -/
def par (m s r k : Int) : Int := if asked m s r k = 0 then m - 1 - k % m else 0
theorem Parity_any (m s r k : Int) (w : World) : Calls Try.prog 7 #[.agg #[.int .i64 m, .int .i64 s, .int .i64 r], .int .i64 k] w fun e w' => e = .returned (.tuple #[.int .i64 (par m s r k), .int .i64 (asked m s r k)]) ∧ Below w.heap.size w w' := by
  by_cases h : asked m s r k = 0
  · have H := Lib.hid (show m - 1 - k % m = par m s r k by rw [par, if_pos h])
    have H2 := Lib.hid h
    obtain ⟨⟨b1, b2, b3, b4, b5, b6⟩, b7, b8⟩ := asked_zero h
    clear h
    go_enter Try.func7, Try.ntmps7
    go_wp2_with (first | (go_at_call 14; refine (asked_any _ _ _ _ _).mono ?_; rintro e w' ⟨rfl, hb⟩; rw [H2.out]; obtain ⟨hc, hf⟩ := bcell hb) | (go_at_call 15; refine (parity_any _ _ _ _ _ (by omega) (by omega) (by omega) (by omega)).mono ?_; rintro e w2 ⟨rfl, hb2⟩))
    go_ret2
    exact ⟨by rw [← H.out, H2.out]; rfl, (below_1 hb).trans (hb2.mono (below_1 hb).size)⟩
  · have H := Lib.hid (show 0 = par m s r k by rw [par, if_neg h])
    obtain ⟨x, hx⟩ : ∃ x, x = asked m s r k := ⟨_, rfl⟩
    rw [← hx] at h ⊢
    have hx0 : (x != 0) = true := by simpa using h
    have hx1 : (x == 0) = false := by simpa using h
    have H2 := Lib.hid hx
    clear h hx
    go_enter Try.func7, Try.ntmps7
    go_wp2_with (first | (go_at_call 14; refine (asked_any _ _ _ _ _).mono ?_; rintro e w' ⟨rfl, hb⟩; rw [← H2.out]; obtain ⟨hc, hf⟩ := bcell hb))
    go_ret2
    exact ⟨by rw [← H.out]; rfl, below_1 hb⟩


/-- the members that have a stripe's data -/
def dataL (m s r k : Int) : List Int := if asked m s r k = 0 then (List.range (m - 1).toNat).map (fun i : Nat => (m - 1 - k % m + 1 + (i : Int)) % m) else []
theorem info_int : (Try.prog.info? 3).map (fun i => (i.zero, i.size, i.bytes)) = some (some (.int .i64 0), 1, 8) := by kernel_rfl

set_option maxHeartbeats 1000000 in
theorem Data_ok (m s r k : Int) (w : World) (h : asked m s r k = 0) : Calls Try.prog 9 #[.agg #[.int .i64 m, .int .i64 s, .int .i64 r], .int .i64 k] w fun e w' =>
    ∃ v, e = .returned (.tuple #[v, .int .i64 0]) ∧ w'.ownsRow w.heap.size 3 1 v (dataL m s r k).length (nums .i64 (dataL m s r k)) ∧ Below w.heap.size w w' := by
  have H := Lib.hid (show dataL m s r k = (List.range (m - 1).toNat).map (fun i : Nat => (m - 1 - k % m + 1 + (i : Int)) % m) by rw [dataL, if_pos h])
  have H2 := Lib.hid h
  obtain ⟨⟨b1, b2, b3, b4, b5, b6⟩, b7, b8⟩ := asked_zero h
  clear h
  obtain ⟨N, hN⟩ : ∃ N : Nat, m = N + 1 := ⟨(m - 1).toNat, by omega⟩
  have HN := Lib.hid hN
  have e1 : m - 1 = (N : Int) := by omega
  clear hN
  have hmk := fun W => run_make_row' (P := Try.prog) 32 3 (.int .i64 0) 8 Try.underlying32 info_int rfl .i64 .i64 N (by omega) (by omega) W
  go_enter Try.func9, Try.ntmps9
  go_wp2_with (first | (go_at_call 14; refine (asked_any _ _ _ _ _).mono ?_; rintro e w' ⟨rfl, hb⟩; rw [H2.out]; obtain ⟨hc, hf⟩ := bcell hb))
  have G := Lib.hid hb
  have hs0 : w.heap.size < w'.heap.size := by have := hb.size; simp at this; omega
  have C0 : w'.cell? ⟨w.heap.size, 0, none⟩ = some (.int .i64 m) := by rw [hc _ _ (by simp <;> omega)]; simp
  have C1 : w'.cell? ⟨w.heap.size, 1, none⟩ = some (.int .i64 s) := by rw [hc _ _ (by simp <;> omega)]; simp
  have C2 : w'.cell? ⟨w.heap.size, 2, none⟩ = some (.int .i64 r) := by rw [hc _ _ (by simp <;> omega)]; simp
  have HB0 := Lib.hid (below_1 hb)
  clear hc hf hb hmk
  go_loopw [21] (fun i wr => ∃ q : Nat, q ≤ N ∧ i = .int .i64 q ∧ Hid (wr.ownsRow w'.heap.size 3 1 (.slice (some ⟨w'.heap.size, 0, none⟩) N N) N (nums .i64 ((List.range q).map (fun i : Nat => ((N : Int) - k % m + 1 + (i : Int)) % m) ++ List.replicate (N - q) 0))) ∧ Hid (Below w'.heap.size w' wr)) (fun i _ => N - (intOf i).toNat)
  case atStart => exact ⟨0, Nat.zero_le _, rfl, Lib.hid (by simpa using own_made w' _ _ _ _ (Nat.le_refl _) (by omega)), Lib.hid <| (Below.refl _ _).alloc (Nat.le_refl _) _⟩
  case round =>
    obtain ⟨q, hq, rfl, HO, HB⟩ := hrel
    by_cases hlt : q < N
    · obtain ⟨o1, o2⟩ := own_at' HO.out q hlt
      have D0 := (HB.out.cell (p := ⟨w.heap.size, 0, none⟩) hs0).trans C0
      have D1 := (HB.out.cell (p := ⟨w.heap.size, 1, none⟩) hs0).trans C1
      have D2 := (HB.out.cell (p := ⟨w.heap.size, 2, none⟩) hs0).trans C2
      obtain ⟨d1, d2⟩ := mod_bd (k := k) (m := m) (by omega)
      have hs1 : w'.heap.size < wr.heap.size := by rcases Nat.lt_or_ge w'.heap.size wr.heap.size with h | h; · exact h
                                                   · simp [World.cell?, Array.getElem?_eq_none h] at o1
      have hs2 : w.heap.size < wr.heap.size := by omega
      go_wp2
      go_region_with (go_at_call 15; refine (parity_any _ _ _ _ _ (by omega) (by omega) (by omega) (by omega)).mono ?_; rintro e w2 ⟨rfl, hb2⟩; have E0 := (hb2.cell (p := ⟨w.heap.size, 0, none⟩) hs2).trans D0; have O1 := (hb2.cell (p := ⟨w'.heap.size, q, none⟩) hs1).trans o1; have F1 := (hb2.frozen (p := ⟨w'.heap.size, q, none⟩) hs1).trans o2)
      all_goals
        go_wp2
        go_roundw
        case rel =>
          exact ⟨q + 1, by omega, by go_num, Lib.hid (fill_step HO.out (below_undrew hb2) rfl hlt), Lib.hid (((HB.out.trans ((below_undrew hb2).mono (Nat.le_of_lt hs1))).setCell (Nat.le_refl _) _))⟩
        case measure => simp [intOf]; omega
    · obtain rfl : q = N := by omega
      go_wp2
      go_ret2
      have H3 : dataL m s r k = (List.range q).map (fun i : Nat => ((q : Int) - k % m + 1 + (i : Int)) % m) := by rw [H.out, e1]; rfl
      rw [H3]
      exact ⟨_, rfl, own_lower (fill_done HO.out) HB0.out.size, HB0.out.trans (HB.out.mono HB0.out.size)⟩
theorem Data_any (m s r k : Int) (w : World) : Calls Try.prog 9 #[.agg #[.int .i64 m, .int .i64 s, .int .i64 r], .int .i64 k] w fun e w' =>
    ∃ v, e = .returned (.tuple #[v, .int .i64 (asked m s r k)]) ∧ w'.ownsRow w.heap.size 3 1 v (dataL m s r k).length (nums .i64 (dataL m s r k)) ∧ Below w.heap.size w w' := by
  by_cases h : asked m s r k = 0
  · rw [h]; exact Data_ok m s r k w h
  · have H := Lib.hid (show dataL m s r k = [] by rw [dataL, if_neg h])
    obtain ⟨x, hx⟩ : ∃ x, x = asked m s r k := ⟨_, rfl⟩
    rw [← hx] at h ⊢
    have hx0 : (x != 0) = true := by simpa using h
    have hx1 : (x == 0) = false := by simpa using h
    have H2 := Lib.hid hx
    clear h hx
    go_enter Try.func9, Try.ntmps9
    go_wp2_with (first | (go_at_call 14; refine (asked_any _ _ _ _ _).mono ?_; rintro e w' ⟨rfl, hb⟩; rw [← H2.out]))
    go_ret2
    rw [H.out]
    exact ⟨_, rfl, World.ownsRow_nil _ _ _ _, below_1 hb⟩

theorem At_ok (m s r b : Int) (w : World) (h : may m s r = true) (h0 : 0 ≤ b) (h1 : b < s * (m - 1)) : Calls Try.prog 10 #[.agg #[.int .i64 m, .int .i64 s, .int .i64 r], .int .i64 b] w fun e w' =>
    e = .returned (.tuple #[.agg #[.int .i64 (b / (m - 1)), .int .i64 ((m - 1 - b / (m - 1) % m + 1 + b % (m - 1)) % m)], .int .i64 0]) ∧ Below w.heap.size w w' := by
  obtain ⟨b1, b2, b3, b4, b5, b6⟩ := may_iff.1 h
  obtain ⟨m1, m2⟩ := mul_bd b1 b2 b3 b4
  have H := Lib.hid (show blocks m s r = s * (m - 1) by rw [blocks, if_pos h])
  have h2 : b ≤ s * (m - 1) - 1 := by omega
  have d0 : 0 ≤ b / (m - 1) := Int.ediv_nonneg h0 (by omega)
  have d1 : b / (m - 1) ≤ b := Int.ediv_le_self _ h0
  obtain ⟨d2, d3⟩ := mod_bd (k := b) (m := m - 1) (by omega)
  obtain ⟨d4, d5⟩ := mod_bd (k := b / (m - 1)) (m := m) (by omega)
  have ht : (decide (0 ≤ b) && decide (b ≤ s * (m - 1) - 1)) = true := by simp only [Bool.and_eq_true, decide_eq_true_eq]; omega
  go_enter Try.func10, Try.ntmps10
  go_wp2_with (first | (go_at_call 16; refine (gmay_any _ _ _ _).mono ?_; rintro e w' ⟨rfl, hb⟩; rw [h]; clear h; obtain ⟨hc, hf⟩ := bcell hb) | (go_at_call 12; refine (blocks_any _ _ _ _).mono ?_; rintro e w2 ⟨rfl, hb2⟩; rw [H.out]; have hz : w.heap.size + 1 < w'.heap.size := (by have := hb.size; simp at this; omega); obtain ⟨hc2, hf2⟩ := bcell hb2) | (go_at_call 6; refine (within_any _ _ _ _).mono ?_; rintro e w' ⟨rfl, rfl⟩; rw [ht]; clear ht))
  have B2 := Lib.hid ((below_2 hb).trans (hb2.mono (below_2 hb).size))
  have c0 : w2.cell? ⟨w.heap.size, 0, none⟩ = some (.int .i64 m) := by rw [hc2 _ _ (by omega), hc _ _ (by simp <;> omega)]; simp
  have c1 : w2.cell? ⟨w.heap.size, 1, none⟩ = some (.int .i64 s) := by rw [hc2 _ _ (by omega), hc _ _ (by simp <;> omega)]; simp
  have c2 : w2.cell? ⟨w.heap.size, 2, none⟩ = some (.int .i64 r) := by rw [hc2 _ _ (by omega), hc _ _ (by simp <;> omega)]; simp
  have c3 : w2.cell? ⟨w.heap.size + 1, 0, none⟩ = some (.int .i64 0) := by rw [hc2 _ _ (by omega), hc _ _ (by simp <;> omega)]; simp
  have c4 : w2.cell? ⟨w.heap.size + 1, 1, none⟩ = some (.int .i64 0) := by rw [hc2 _ _ (by omega), hc _ _ (by simp <;> omega)]; simp
  have f3 : w2.frozen? ⟨w.heap.size + 1, 0, none⟩ = false := by rw [hf2 _ _ (by omega), hf _ _ (by simp <;> omega)]; simp
  have f4 : w2.frozen? ⟨w.heap.size + 1, 1, none⟩ = false := by rw [hf2 _ _ (by omega), hf _ _ (by simp <;> omega)]; simp
  have z1 : w.heap.size + 1 < w2.heap.size := by have := hb2.size; omega
  have z0 : w.heap.size < w2.heap.size := by omega
  clear hb hb2 hc hc2 hf hf2 hz
  have HX := Lib.hid (show (IntKind.i64.wrap (IntKind.i64.wrap (m - 1 - b / (m - 1) % m + 1) + b % (m - 1))).tmod m = (m - 1 - b / (m - 1) % m + 1 + b % (m - 1)) % m by rw [IntWalk.i64_in (m - 1 - b / (m - 1) % m + 1) (by omega), IntWalk.i64_in _ (by omega), Int.tmod_eq_emod_of_nonneg (by omega)])
  have hm0 : ¬ m = 0 := by omega
  have hm9 : ¬ m = 1 := by omega
  go_quiet (fail)
  go_wp2
  go_region_held3 (fun w' => w'.cell? ⟨w.heap.size, 0, none⟩ = some (.int .i64 m) ∧ w'.cell? ⟨w.heap.size, 1, none⟩ = some (.int .i64 s) ∧ w'.cell? ⟨w.heap.size, 2, none⟩ = some (.int .i64 r)) (first | exact ⟨c0, c1, c2⟩ | exact ⟨E0, E1, E2⟩ | (refine ⟨?_, ?_, ?_⟩ <;> go_simp)) ((go_at_call 15; refine (parity_any _ _ _ _ _ (by omega) (by omega) (by omega) (by omega)).mono ?_; rintro e w3 ⟨rfl, hb3⟩; have E0 := (hb3.cell (p := ⟨w.heap.size, 0, none⟩) z0).trans c0; have E1 := (hb3.cell (p := ⟨w.heap.size, 1, none⟩) z0).trans c1; have E2 := (hb3.cell (p := ⟨w.heap.size, 2, none⟩) z0).trans c2; have E3 := (hb3.cell (p := ⟨w.heap.size + 1, 0, none⟩) z1).trans c3; have E4 := (hb3.cell (p := ⟨w.heap.size + 1, 1, none⟩) z1).trans c4; have F3 := (hb3.frozen (p := ⟨w.heap.size + 1, 0, none⟩) z1).trans f3; have F4 := (hb3.frozen (p := ⟨w.heap.size + 1, 1, none⟩) z1).trans f4))
  all_goals
    go_wp2
    refine bodyPost_ret (v := .tuple #[.agg #[.int .i64 (b / (m - 1)), .int .i64 ((m - 1 - b / (m - 1) % m + 1 + b % (m - 1)) % m)], .int .i64 0]) (by simp [results, Try.results10, go_sem, E3, E4, HX.out]) rfl ⟨rfl, ?_⟩
    exact ((B2.out.trans ((below_undrewN hb3).mono B2.out.size)).setCell (by simp) _).setCell (by simp) _
theorem At_err (m s r b : Int) (w : World) (e0 : Int) (h : (may m s r = false ∧ e0 = 2) ∨ (may m s r = true ∧ ¬ (0 ≤ b ∧ b < s * (m - 1)) ∧ e0 = 12)) : Calls Try.prog 10 #[.agg #[.int .i64 m, .int .i64 s, .int .i64 r], .int .i64 b] w fun e w' =>
    e = .returned (.tuple #[.agg #[.int .i64 0, .int .i64 0], .int .i64 e0]) ∧ Below w.heap.size w w' := by
  rcases h with ⟨h, rfl⟩ | ⟨h, hb, rfl⟩
  · go_enter Try.func10, Try.ntmps10
    go_wp2_with (first | (go_at_call 16; refine (gmay_any _ _ _ _).mono ?_; rintro e w' ⟨rfl, hb⟩; rw [h]; clear h; obtain ⟨hc, hf⟩ := bcell hb; have z1 : w.heap.size + 1 < w'.heap.size := (by have := hb.size; simp at this; omega); have c3 : w'.cell? ⟨w.heap.size + 1, 0, none⟩ = some (.int .i64 0) := (by rw [hc _ _ (by simp)]; simp); have c4 : w'.cell? ⟨w.heap.size + 1, 1, none⟩ = some (.int .i64 0) := (by rw [hc _ _ (by simp)]; simp); have f3 : w'.frozen? ⟨w.heap.size + 1, 0, none⟩ = false := (by rw [hf _ _ (by simp)]; simp); have f4 : w'.frozen? ⟨w.heap.size + 1, 1, none⟩ = false := (by rw [hf _ _ (by simp)]; simp); clear hc hf))
    refine bodyPost_ret (v := .tuple #[.agg #[.int .i64 0, .int .i64 0], .int .i64 2]) (by simp [results, Try.results10, go_sem, c3, c4]) rfl ⟨rfl, ?_⟩
    exact ((below_2 hb).setCell (by simp) _).setCell (by simp) _
  · obtain ⟨b1, b2, b3, b4, b5, b6⟩ := may_iff.1 h
    obtain ⟨m1, m2⟩ := mul_bd b1 b2 b3 b4
    have H := Lib.hid (show blocks m s r = s * (m - 1) by rw [blocks, if_pos h])
    have ht : (decide (0 ≤ b) && decide (b ≤ s * (m - 1) - 1)) = false := by simp only [Bool.and_eq_false_iff, decide_eq_false_iff_not]; omega
    clear hb
    go_enter Try.func10, Try.ntmps10
    go_wp2_with (first | (go_at_call 16; refine (gmay_any _ _ _ _).mono ?_; rintro e w' ⟨rfl, hb⟩; rw [h]; clear h; obtain ⟨hc, hf⟩ := bcell hb) | (go_at_call 12; refine (blocks_any _ _ _ _).mono ?_; rintro e w2 ⟨rfl, hb2⟩; rw [H.out]; have hz : w.heap.size + 1 < w'.heap.size := (by have := hb.size; simp at this; omega); obtain ⟨hc2, hf2⟩ := bcell hb2; have B2 := Lib.hid ((below_2 hb).trans (hb2.mono (below_2 hb).size)); have z1 : w.heap.size + 1 < w2.heap.size := (by have := hb2.size; omega); have c3 : w2.cell? ⟨w.heap.size + 1, 0, none⟩ = some (.int .i64 0) := (by rw [hc2 _ _ (by omega), hc _ _ (by simp <;> omega)]; simp); have c4 : w2.cell? ⟨w.heap.size + 1, 1, none⟩ = some (.int .i64 0) := (by rw [hc2 _ _ (by omega), hc _ _ (by simp <;> omega)]; simp); have f3 : w2.frozen? ⟨w.heap.size + 1, 0, none⟩ = false := (by rw [hf2 _ _ (by omega), hf _ _ (by simp <;> omega)]; simp); have f4 : w2.frozen? ⟨w.heap.size + 1, 1, none⟩ = false := (by rw [hf2 _ _ (by omega), hf _ _ (by simp <;> omega)]; simp); clear hb hb2 hc hf hc2 hf2) | (go_at_call 6; refine (within_any _ _ _ _).mono ?_; rintro e w' ⟨rfl, rfl⟩; rw [ht]; clear ht))
    refine bodyPost_ret (v := .tuple #[.agg #[.int .i64 0, .int .i64 0], .int .i64 12]) (by simp [results, Try.results10, go_sem, c3, c4]) rfl ⟨rfl, ?_⟩
    exact (B2.out.setCell (by simp) _).setCell (by simp) _

end Go.Proofs.Ytjagnodfdniccab.G
