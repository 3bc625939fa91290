/-
  ashlarref04, function by function.
-/
import Derived.Test.YtjagnodfdniccaaGeoL
namespace Go.Proofs.Ytjagnodfdniccaa.G
open Go.RowKit Go.Proofs.Ytjagnodfdniccaa.L Go.Proofs.YtjagnodfdniccaaW.PrintWords
set_option linter.unusedVariables false

theorem rmay_any (m s r : Int) (w : World) : Calls Try.prog 51 #[.agg #[.int .i64 m, .int .i64 s, .int .i64 r]] w fun e w' => e = .returned (.bool (may m s r)) ∧ Below w.heap.size w w' := by
  go_enter Try.func51, Try.ntmps51
  go_wp2
  all_goals
    go_ret
    exact ⟨ret_b (by first | (symm; rw [Bool.eq_false_iff]; intro h; have := may_iff.1 h; omega) | (rw [Bool.eq_iff_iff, may_iff, decide_eq_true_eq]; omega)), (Below.refl _ _).alloc (Nat.le_refl _) _⟩

theorem rblocks_any (m s r : Int) (w : World) : Calls Try.prog 52 #[.agg #[.int .i64 m, .int .i64 s, .int .i64 r]] w fun e w' => e = .returned (.int .i64 (blocks m s r)) ∧ Below w.heap.size w w' := by
  by_cases h : may m s r = true
  · have H := Lib.hid (show s * (m - 1) = blocks m s r by rw [blocks, if_pos h])
    obtain ⟨b1, b2, b3, b4, b5, b6⟩ := may_iff.1 h
    obtain ⟨m1, m2⟩ := mul_bd b1 b2 b3 b4
    go_enter Try.func52, Try.ntmps52
    go_wp2_with (go_at_call 51; refine (rmay_any _ _ _ _).mono ?_; rintro e w' ⟨rfl, hb⟩; rw [h]; clear h; obtain ⟨hc, hf⟩ := bcell hb)
    go_ret
    exact ⟨ret_i H.out, below_1 hb⟩
  · have H := Lib.hid (show (0 : Int) = blocks m s r by rw [blocks, if_neg h])
    replace h := Bool.eq_false_iff.mpr h
    go_enter Try.func52, Try.ntmps52
    go_wp2_with (go_at_call 51; refine (rmay_any _ _ _ _).mono ?_; rintro e w' ⟨rfl, hb⟩; rw [h]; clear h)
    go_ret
    exact ⟨ret_i H.out, below_1 hb⟩

theorem rParity_any (m s r k : Int) (w : World) : Calls Try.prog 49 #[.agg #[.int .i64 m, .int .i64 s, .int .i64 r], .int .i64 k] w fun e w' => e = .returned (.tuple #[.int .i64 (par m s r k), .int .i64 (asked m s r k)]) ∧ Below w.heap.size w w' := by
  by_cases h : may m s r = true
  · obtain ⟨b1, b2, b3, b4, b5, b6⟩ := may_iff.1 h
    by_cases hk : 0 ≤ k ∧ k < s
    · have H2 := Lib.hid (show asked m s r k = 0 by rw [asked, if_pos h, if_pos hk])
      have H := Lib.hid (show m - 1 - k % m = par m s r k by rw [par, if_pos H2.out])
      obtain ⟨k1, k2⟩ := hk
      obtain ⟨d1, d2⟩ := mod_bd (k := k) (m := m) (by omega)
      rw [H2.out, ← H.out]
      go_enter Try.func49, Try.ntmps49
      go_wp2_with (go_at_call 51; refine (rmay_any _ _ _ _).mono ?_; rintro e w' ⟨rfl, hb⟩; rw [h]; clear h; obtain ⟨hc, hf⟩ := bcell hb)
      have hm0 : ¬ m = 0 := by omega
      go_quiet (fail)
      go_wp2
      go_ret2
      refine ⟨?_, below_drewN (below_1 hb) _⟩
      first | rfl | (rw [← Int.tmod_eq_emod_of_nonneg k1] at d1 d2 ⊢; rw [← IntWalk.i64_in (m - 1 - k.tmod m) (by omega)]; simp [IntWalk.i64_in _ (show -9223372036854775808 ≤ m - 1 ∧ m - 1 ≤ 9223372036854775807 by omega)])
    · have H2 := Lib.hid (show asked m s r k = 12 by rw [asked, if_pos h, if_neg hk])
      have H := Lib.hid (show (0 : Int) = par m s r k by rw [par, if_neg (by rw [H2.out]; decide)])
      rw [H2.out, ← H.out]
      rcases Int.lt_or_le k 0 with h1 | h1
      · clear hk
        go_enter Try.func49, Try.ntmps49
        go_wp2_with (go_at_call 51; refine (rmay_any _ _ _ _).mono ?_; rintro e w' ⟨rfl, hb⟩; rw [h]; clear h; obtain ⟨hc, hf⟩ := bcell hb)
        go_ret2
        exact ⟨rfl, below_1 hb⟩
      · have h2 : s ≤ k := by omega
        clear hk
        go_enter Try.func49, Try.ntmps49
        go_wp2_with (go_at_call 51; refine (rmay_any _ _ _ _).mono ?_; rintro e w' ⟨rfl, hb⟩; rw [h]; clear h; obtain ⟨hc, hf⟩ := bcell hb)
        go_ret2
        exact ⟨rfl, below_1 hb⟩
  · have H2 := Lib.hid (show asked m s r k = 2 by rw [asked, if_neg h])
    have H := Lib.hid (show (0 : Int) = par m s r k by rw [par, if_neg (by rw [H2.out]; decide)])
    rw [H2.out, ← H.out]
    replace h := Bool.eq_false_iff.mpr h
    go_enter Try.func49, Try.ntmps49
    go_wp2_with (go_at_call 51; refine (rmay_any _ _ _ _).mono ?_; rintro e w' ⟨rfl, hb⟩; rw [h]; clear h; obtain ⟨hc, hf⟩ := bcell hb)
    go_ret2
    exact ⟨rfl, below_1 hb⟩

theorem rSector_any (k : Int) (w : World) : Calls Try.prog 58 #[.int .i64 k] w fun e w' =>
    e = .returned (.tuple #[.int .i64 (if 0 ≤ k ∧ k < 64 then 2 + k else 0), .int .i64 (if 0 ≤ k ∧ k < 64 then 0 else 12)]) ∧ w = w' := by
  by_cases h : 0 ≤ k ∧ k < 64
  · rw [if_pos h, if_pos h]
    obtain ⟨h1, h2⟩ := h
    go_enter Try.func58, Try.ntmps58
    go_wp2
    go_ret2
    exact ⟨rfl, rfl⟩
  · rw [if_neg h, if_neg h]
    rcases Int.lt_or_le k 0 with h1 | h1
    · clear h
      go_enter Try.func58, Try.ntmps58
      go_wp2
      go_ret2
      exact ⟨rfl, rfl⟩
    · have h2 : 64 ≤ k := by omega
      clear h
      go_enter Try.func58, Try.ntmps58
      go_wp2
      go_ret2
      exact ⟨rfl, rfl⟩

/-- the members behind p, going round -/
def dls (p m : Int) (n : Nat) : List Int := (List.range n).map (fun i : Nat => (p + 1 + (i : Int)) % m)

set_option maxHeartbeats 1000000 in
theorem rData_any (m s r k : Int) (w : World) : Calls Try.prog 53 #[.agg #[.int .i64 m, .int .i64 s, .int .i64 r], .int .i64 k] w fun e w' =>
    ∃ v, e = .returned (.tuple #[v, .int .i64 (asked m s r k)]) ∧ w'.ownsRow w.heap.size 3 1 v (dataL m s r k).length (nums .i64 (dataL m s r k)) ∧ Below w.heap.size w w' := by
  by_cases h : asked m s r k = 0
  · have H := Lib.hid (show dataL m s r k = (List.range (m - 1).toNat).map (fun i : Nat => (m - 1 - k % m + 1 + (i : Int)) % m) by rw [dataL, if_pos h])
    have A1 := Lib.hid (fun w => rParity_any m s r k w)
    rw [show par m s r k = m - 1 - k % m by rw [par, if_pos h], h] at A1
    obtain ⟨⟨b1, b2, b3, b4, b5, b6⟩, b7, b8⟩ := asked_zero h
    rw [h]
    clear h
    obtain ⟨p, hp⟩ : ∃ p, p = m - 1 - k % m := ⟨_, rfl⟩
    obtain ⟨d1, d2⟩ := mod_bd (k := k) (m := m) (by omega)
    rw [← hp] at A1 H
    have p1 : 0 ≤ p := by omega
    have p2 : p ≤ m - 1 := by omega
    clear hp d1 d2
    go_enter Try.func53, Try.ntmps53
    go_wp2_with (go_at_call 49; refine (A1.out _).mono ?_; rintro e w1 ⟨rfl, hb1⟩; have BK := Lib.hid (blk_below (blk_new w (.cells #[.int .i64 m, .int .i64 s, .int .i64 r] 50)) hb1); have c0 := (blk_cell BK.out 0).trans rfl; have BB := Lib.hid (below_1 hb1); clear hb1)
    clear c0
    obtain ⟨g, hg⟩ : ∃ g, g = w.heap.size := ⟨_, rfl⟩
    rw [← hg] at BK ⊢
    have HG := Lib.hid hg
    clear hg
    go_loopw [8, 9, 10] (fun lv mv i wr => ∃ q : Nat, (q : Int) ≤ m - 1 ∧ i = .int .i64 q ∧ mv = .int .i64 ((p + (q : Int)) % m) ∧ Hid (wr.ownsRow w.heap.size 3 1 lv (dls p m q).length (nums .i64 (dls p m q))) ∧ Hid (wr.heap[g]? = some (.cells #[.int .i64 m, .int .i64 s, .int .i64 r] 50 (0, 0))) ∧ Hid (Below w.heap.size w wr)) (fun _ _ i _ => m.toNat - (intOf i).toNat)
    case atStart => exact ⟨0, by omega, rfl, by rw [show p + ((0 : Nat) : Int) = p by omega, Int.emod_eq_of_lt p1 (by omega)], Lib.hid (World.ownsRow_nil _ _ _ _), BK, BB⟩
    case round =>
      obtain ⟨q, hq, rfl, rfl, HO, HK, HB⟩ := hrel
      clear BK BB
      have c0 := (blk_cell HK.out 0).trans rfl
      by_cases hlt : (q : Int) < m - 1
      · obtain ⟨x, hx⟩ : ∃ x, x = (p + (q : Int)) % m := ⟨_, rfl⟩
        obtain ⟨x1, x2⟩ := mod_bd (k := p + (q : Int)) (m := m) (by omega)
        have hnx : (p + ((q + 1 : Nat) : Int)) % m = if x + 1 = m then 0 else x + 1 := by
          rw [show p + ((q + 1 : Nat) : Int) = p + (q : Int) + 1 by omega, Int.add_emod, ← hx]
          split
          · rename_i h; rw [show (1 : Int) % m = 1 from Int.emod_eq_of_lt (by omega) (by omega), h]; simp
          · rename_i h; rw [show (1 : Int) % m = 1 from Int.emod_eq_of_lt (by omega) (by omega)]; exact Int.emod_eq_of_lt (by omega) (by omega)
        rw [← hx] at x1 x2 ⊢
        have HX := Lib.hid (show dls p m (q + 1) = dls p m q ++ [(p + ((q + 1 : Nat) : Int)) % m] by
          rw [dls, List.range_succ, List.map_append, ← dls]
          simp only [List.map_cons, List.map_nil]
          rw [show p + 1 + (q : Int) = p + ((q + 1 : Nat) : Int) by omega])
        have hl5 : ((dls p m q).length + 1) * 8 ≤ 140737488355328 := by simp [dls]; omega
        have HN5 := Lib.hid (own_blk_ne HO.out HK.out (by decide))
        clear hx
        by_cases he : x + 1 = m
        · rw [if_pos he] at hnx
          have HNX := Lib.hid hnx
          have t1 : (x + 1 == m) = true := by simpa using he
          clear hnx he
          go_wp2_with (first
            | (at_builtin; refine print_append_num (w0 := w) w.heap.size rfl (.tmp 34) (.tmp 36) 61 3 .i64 8 rfl Try.underlying61 info_int (by decide) _ (dls p m q) 0 rfl rfl HO.out HB.out HB.out.size hl5 ?_; intro v1 w5 ho5 hb5 hg5 hat5; have K5 := Lib.hid (blk_grown HK.out hg5 HN5.out); have B5 := Lib.hid hb5; have O5 := Lib.hid ho5; clear ho5 hb5 hg5 hat5))
          go_roundw
          case rel => exact ⟨q + 1, by omega, by go_num, by rw [HNX.out], by rw [HX.out, HNX.out]; exact O5, K5, B5⟩
          case measure => simp [intOf]; omega
        · rw [if_neg he] at hnx
          have HNX := Lib.hid hnx
          have t1 : (x + 1 == m) = false := by simpa using he
          clear hnx he
          go_wp2_with (first
            | (at_builtin; refine print_append_num (w0 := w) w.heap.size rfl (.tmp 34) (.tmp 36) 61 3 .i64 8 rfl Try.underlying61 info_int (by decide) _ (dls p m q) (x + 1) rfl rfl HO.out HB.out HB.out.size hl5 ?_; intro v1 w5 ho5 hb5 hg5 hat5; have K5 := Lib.hid (blk_grown HK.out hg5 HN5.out); have B5 := Lib.hid hb5; have O5 := Lib.hid ho5; clear ho5 hb5 hg5 hat5))
          go_roundw
          case rel => exact ⟨q + 1, by omega, by go_num, by rw [HNX.out], by rw [HX.out, HNX.out]; exact O5, K5, B5⟩
          case measure => simp [intOf]; omega
      · have HL := Lib.hid (show dataL m s r k = dls p m q by rw [H.out, dls, show (m - 1).toNat = q by omega])
        go_wp2
        go_ret2
        rw [HL.out]
        exact ⟨_, rfl, HO.out, HB.out⟩
  · have H := Lib.hid (show dataL m s r k = [] by rw [dataL, if_neg h])
    have A1 := Lib.hid (fun w => rParity_any m s r k w)
    obtain ⟨x, hx⟩ : ∃ x, x = asked m s r k := ⟨_, rfl⟩
    rw [← hx] at h ⊢ A1
    have hx0 : (x != 0) = true := by simpa using h
    clear h hx
    go_enter Try.func53, Try.ntmps53
    go_wp2_with (go_at_call 49; refine (A1.out _).mono ?_; rintro e w1 ⟨rfl, hb1⟩)
    go_ret2
    rw [H.out]
    exact ⟨_, rfl, World.ownsRow_nil _ _ _ _, below_1 hb1⟩
end Go.Proofs.Ytjagnodfdniccaa.G
