/-
  geom.within, geom.May, ashlarref04.May, roster.count: the walks.
-/
import Derived.Test.YtdchcggllcgokaaRos
import Derived.Test.YtdchcggllcgokaaIdx
namespace Go.Proofs.Ytdchcggllcgokaa.Q
open Go.RowKit Go.Proofs.Ytdchcggllcgokaa.L Go.Proofs.Ytdchcggllcgokaa.R Go.Proofs.YtdchcggllcgokaaW.PrintWords
set_option linter.unusedVariables false
set_option linter.unusedSimpArgs false
theorem ones_geo (m s r : Int) : (#[Value.int .i64 m, .int .i64 s, .int .i64 r] : Array Value).all (·.oneCell') = true := by
  rw [Array.all_eq_true_iff_forall_mem]
  intro v hv
  simp at hv
  rcases hv with rfl | rfl | rfl <;> rfl
theorem size_u8s (w : World) : (sizeOf 5).run Try.prog w = .ok 1 w := by kernel_rfl
def mayG (m s r : Int) : Bool := decide (3 ≤ m ∧ m ≤ 16 ∧ 1 ≤ s ∧ s ≤ 64 ∧ 40 ≤ r ∧ r ≤ 256)
theorem mayG_ok {m s r : Int} (h : mayG m s r = true) : 3 ≤ m ∧ m ≤ 16 ∧ 1 ≤ s ∧ s ≤ 64 ∧ 40 ≤ r ∧ r ≤ 256 := of_decide_eq_true h
theorem within_any (x lo hi : Int) (z : Bool) (hz : decide (lo ≤ x ∧ x ≤ hi) = z) (w : World) : Calls Try.prog 146 #[.int .i64 x, .int .i64 lo, .int .i64 hi] w fun e w' => e = .returned (.bool z) ∧ Below w.heap.size w w' := by
  subst hz
  by_cases h1 : lo ≤ x
  · have g1 : decide (lo ≤ x) = true := by simpa using h1
    go_enter Try.func146, Try.ntmps146
    go_wp2
    go_ret
    exact ⟨ret_b (by simp [h1]), Below.refl _ _⟩
  · have g1 : decide (lo ≤ x) = false := by simpa using h1
    go_enter Try.func146, Try.ntmps146
    go_wp2
    go_ret
    exact ⟨ret_b (by simp [h1]), Below.refl _ _⟩
set_option maxRecDepth 100000 in
set_option maxHeartbeats 2000000 in
theorem gMay_0 (m s r : Int) (z : Bool) (P1 : Hid (∀ w : World, Calls Try.prog 146 #[.int .i64 m, .int .i64 3, .int .i64 16] w fun e w' => e = .returned (.bool false) ∧ Below w.heap.size w w')) (w : World) : Calls Try.prog 126 #[geo m s r] w fun e w' => e = .returned (.bool false) ∧ Below w.heap.size w w' := by
  have HB := Lib.hid (Below.refl w.heap.size w)
  unfold geo
  have tok0 : True := trivial
  have tp0 : True := trivial
  go_enter Try.func126, Try.ntmps126
  go_wp2_with (first
    | (go_skip)
    | (refine F.rowBox 68 (.tmp 0) rfl rfl rfl ?_; intro w1 hk hb1 hz1; replace HB := Lib.hid (below_ext HB.out hb1); have K1 := Lib.hid hk; clear hk hb1)
    | (refine F.rowCell _ (.tmp 3) rfl (K1.out.cell (o := 0) rfl) rfl agg_int rfl ?_)
    | (have _t := tp0; go_at_call 146; refine (P1.out _).mono ?_; rintro e w2 ⟨rfl, hb2⟩; replace K1 := Lib.hid (K1.out.below hb2); replace HB := Lib.hid (below_ext HB.out hb2); have hz2 := hb2.size; clear hb2; have tp1 : True := trivial; clear _t tp0)
    | (refine F.rowCell _ (.tmp 7) rfl (K1.out.cell (o := 1) rfl) rfl agg_int rfl ?_)
    | (have _t := tp1; go_at_call 146; refine (trivial).mono ?_; rintro e w3 ⟨rfl, hb3⟩; replace K1 := Lib.hid (K1.out.below hb3); replace HB := Lib.hid (below_ext HB.out hb3); have hz3 := hb3.size; clear hb3; have tp2 : True := trivial; clear _t tp1)
    | (refine F.rowCell _ (.tmp 12) rfl (K1.out.cell (o := 2) rfl) rfl agg_int rfl ?_)
    | (have _t := tp2; go_at_call 146; refine (trivial).mono ?_; rintro e w4 ⟨rfl, hb4⟩; replace K1 := Lib.hid (K1.out.below hb4); replace HB := Lib.hid (below_ext HB.out hb4); have hz4 := hb4.size; clear hb4; have tp3 : True := trivial; clear _t tp2))
  go_ret
  exact ⟨rfl, HB.out⟩
set_option maxRecDepth 100000 in
set_option maxHeartbeats 2000000 in
theorem gMay_1 (m s r : Int) (z : Bool) (P1 : Hid (∀ w : World, Calls Try.prog 146 #[.int .i64 m, .int .i64 3, .int .i64 16] w fun e w' => e = .returned (.bool true) ∧ Below w.heap.size w w')) (P2 : Hid (∀ w : World, Calls Try.prog 146 #[.int .i64 s, .int .i64 1, .int .i64 64] w fun e w' => e = .returned (.bool false) ∧ Below w.heap.size w w')) (w : World) : Calls Try.prog 126 #[geo m s r] w fun e w' => e = .returned (.bool false) ∧ Below w.heap.size w w' := by
  have HB := Lib.hid (Below.refl w.heap.size w)
  unfold geo
  have tok0 : True := trivial
  have tp0 : True := trivial
  go_enter Try.func126, Try.ntmps126
  go_wp2_with (first
    | (go_skip)
    | (refine F.rowBox 68 (.tmp 0) rfl rfl rfl ?_; intro w1 hk hb1 hz1; replace HB := Lib.hid (below_ext HB.out hb1); have K1 := Lib.hid hk; clear hk hb1)
    | (refine F.rowCell _ (.tmp 3) rfl (K1.out.cell (o := 0) rfl) rfl agg_int rfl ?_)
    | (have _t := tp0; go_at_call 146; refine (P1.out _).mono ?_; rintro e w2 ⟨rfl, hb2⟩; replace K1 := Lib.hid (K1.out.below hb2); replace HB := Lib.hid (below_ext HB.out hb2); have hz2 := hb2.size; clear hb2; have tp1 : True := trivial; clear _t tp0)
    | (refine F.rowCell _ (.tmp 7) rfl (K1.out.cell (o := 1) rfl) rfl agg_int rfl ?_)
    | (have _t := tp1; go_at_call 146; refine (P2.out _).mono ?_; rintro e w3 ⟨rfl, hb3⟩; replace K1 := Lib.hid (K1.out.below hb3); replace HB := Lib.hid (below_ext HB.out hb3); have hz3 := hb3.size; clear hb3; have tp2 : True := trivial; clear _t tp1)
    | (refine F.rowCell _ (.tmp 12) rfl (K1.out.cell (o := 2) rfl) rfl agg_int rfl ?_)
    | (have _t := tp2; go_at_call 146; refine (trivial).mono ?_; rintro e w4 ⟨rfl, hb4⟩; replace K1 := Lib.hid (K1.out.below hb4); replace HB := Lib.hid (below_ext HB.out hb4); have hz4 := hb4.size; clear hb4; have tp3 : True := trivial; clear _t tp2))
  go_ret
  exact ⟨rfl, HB.out⟩
set_option maxRecDepth 100000 in
set_option maxHeartbeats 2000000 in
theorem gMay_2 (m s r : Int) (z : Bool) (P1 : Hid (∀ w : World, Calls Try.prog 146 #[.int .i64 m, .int .i64 3, .int .i64 16] w fun e w' => e = .returned (.bool true) ∧ Below w.heap.size w w')) (P2 : Hid (∀ w : World, Calls Try.prog 146 #[.int .i64 s, .int .i64 1, .int .i64 64] w fun e w' => e = .returned (.bool true) ∧ Below w.heap.size w w')) (P3 : Hid (∀ w : World, Calls Try.prog 146 #[.int .i64 r, .int .i64 40, .int .i64 256] w fun e w' => e = .returned (.bool z) ∧ Below w.heap.size w w')) (w : World) : Calls Try.prog 126 #[geo m s r] w fun e w' => e = .returned (.bool z) ∧ Below w.heap.size w w' := by
  have HB := Lib.hid (Below.refl w.heap.size w)
  unfold geo
  have tok0 : True := trivial
  have tp0 : True := trivial
  go_enter Try.func126, Try.ntmps126
  go_wp2_with (first
    | (go_skip)
    | (refine F.rowBox 68 (.tmp 0) rfl rfl rfl ?_; intro w1 hk hb1 hz1; replace HB := Lib.hid (below_ext HB.out hb1); have K1 := Lib.hid hk; clear hk hb1)
    | (refine F.rowCell _ (.tmp 3) rfl (K1.out.cell (o := 0) rfl) rfl agg_int rfl ?_)
    | (have _t := tp0; go_at_call 146; refine (P1.out _).mono ?_; rintro e w2 ⟨rfl, hb2⟩; replace K1 := Lib.hid (K1.out.below hb2); replace HB := Lib.hid (below_ext HB.out hb2); have hz2 := hb2.size; clear hb2; have tp1 : True := trivial; clear _t tp0)
    | (refine F.rowCell _ (.tmp 7) rfl (K1.out.cell (o := 1) rfl) rfl agg_int rfl ?_)
    | (have _t := tp1; go_at_call 146; refine (P2.out _).mono ?_; rintro e w3 ⟨rfl, hb3⟩; replace K1 := Lib.hid (K1.out.below hb3); replace HB := Lib.hid (below_ext HB.out hb3); have hz3 := hb3.size; clear hb3; have tp2 : True := trivial; clear _t tp1)
    | (refine F.rowCell _ (.tmp 12) rfl (K1.out.cell (o := 2) rfl) rfl agg_int rfl ?_)
    | (have _t := tp2; go_at_call 146; refine (P3.out _).mono ?_; rintro e w4 ⟨rfl, hb4⟩; replace K1 := Lib.hid (K1.out.below hb4); replace HB := Lib.hid (below_ext HB.out hb4); have hz4 := hb4.size; clear hb4; have tp3 : True := trivial; clear _t tp2))
  go_ret
  exact ⟨rfl, HB.out⟩
theorem gMay_any (m s r : Int) (w : World) : Calls Try.prog 126 #[geo m s r] w fun e w' => e = .returned (.bool (mayG m s r)) ∧ Below w.heap.size w w' := by
  by_cases h1 : 3 ≤ m ∧ m ≤ 16
  · by_cases h2 : 1 ≤ s ∧ s ≤ 64
    · have h := gMay_2 m s r (decide (40 ≤ r ∧ r ≤ 256)) (Lib.hid fun w => within_any m 3 16 true (by simpa using h1) w) (Lib.hid fun w => within_any s 1 64 true (by simpa using h2) w) (Lib.hid fun w => within_any r 40 256 _ rfl w) w
      rw [show mayG m s r = decide (40 ≤ r ∧ r ≤ 256) by rw [mayG, Bool.eq_iff_iff]; simp only [decide_eq_true_eq]; omega]
      exact h
    · rw [show mayG m s r = false by rw [mayG, decide_eq_false_iff_not]; omega]
      exact gMay_1 m s r true (Lib.hid fun w => within_any m 3 16 true (by simpa using h1) w) (Lib.hid fun w => within_any s 1 64 false (decide_eq_false h2) w) w
  · rw [show mayG m s r = false by rw [mayG, decide_eq_false_iff_not]; omega]
    exact gMay_0 m s r true (Lib.hid fun w => within_any m 3 16 false (decide_eq_false h1) w) w
set_option maxRecDepth 100000 in
set_option maxHeartbeats 2000000 in
theorem rgMay_any (m s r : Int) (w : World) : Calls Try.prog 149 #[geo m s r] w fun e w' => e = .returned (.bool (mayG m s r)) ∧ Below w.heap.size w w' := by
  unfold geo
  rcases (by omega : (m < 3) ∨ (3 ≤ m ∧ 16 < m) ∨ (3 ≤ m ∧ m ≤ 16 ∧ s < 1) ∨ (3 ≤ m ∧ m ≤ 16 ∧ 1 ≤ s ∧ 64 < s) ∨ (3 ≤ m ∧ m ≤ 16 ∧ 1 ≤ s ∧ s ≤ 64 ∧ r < 40) ∨ (3 ≤ m ∧ m ≤ 16 ∧ 1 ≤ s ∧ s ≤ 64 ∧ 40 ≤ r ∧ 256 < r) ∨ (3 ≤ m ∧ m ≤ 16 ∧ 1 ≤ s ∧ s ≤ 64 ∧ 40 ≤ r ∧ r ≤ 256)) with h1 | ⟨h1, h2⟩ | ⟨h1, h2, h3⟩ | ⟨h1, h2, h3, h4⟩ | ⟨h1, h2, h3, h4, h5⟩ | ⟨h1, h2, h3, h4, h5, h6⟩ | ⟨h1, h2, h3, h4, h5, h6⟩
  all_goals
    go_enter Try.func149, Try.ntmps149
    go_wp2
    go_ret
    exact ⟨ret_b (by rw [Bool.eq_iff_iff]; simp [mayG]; try omega), (Below.refl _ _).alloc (Nat.le_refl _) _⟩
theorem st_at {l : List Int} {q : Nat} (h : q < l.length) : (nums .u8 l).toArray[q]? = some (.int .u8 (rd l (q : Int))) := by
  simp [nums, rd, List.getD_eq_getElem?_getD, List.getElem?_eq_getElem h]
/-- how many of the first q states are v -/
def cnt (l : List Int) (v : Int) (q : Nat) : Nat := ((List.range q).filter fun (i : Nat) => rd l (i : Int) == v).length
theorem cnt_0 (l : List Int) (v : Int) : cnt l v 0 = 0 := rfl
theorem cnt_succ (l : List Int) (v : Int) (q : Nat) : cnt l v (q + 1) = cnt l v q + if rd l (q : Int) = v then 1 else 0 := by
  unfold cnt
  rw [List.range_succ, List.filter_append, List.length_append]
  by_cases h : rd l (q : Int) = v <;> simp [h]
theorem cnt_le (l : List Int) (v : Int) (q : Nat) : cnt l v q ≤ q := by
  unfold cnt
  exact Nat.le_trans (List.length_filter_le _ _) (by simp)
set_option maxRecDepth 100000 in
set_option maxHeartbeats 2000000 in
theorem count_any (x : Ro) (hl : x.st.length = 16) (v : Int) (w : World) : Calls Try.prog 133 #[ros x, .int .u8 v] w fun e w' => e = .returned (.int .i64 (cnt x.st v 16 : Int)) ∧ Below w.heap.size w w' := by
  have HL := Lib.hid hl
  have HB := Lib.hid (Below.refl w.heap.size w)
  go_enter Try.func133, Try.ntmps133
  go_wp2_with (first
    | (refine rosBox (.tmp 0) rfl rfl HL.out rfl ?_; intro w1 hk hb hz1; have K2 := Lib.hid hk; replace HB := Lib.hid (below_ext HB.out hb); clear hk hb)
    | (refine stsLoad (.tmp 8) rfl K2.out rfl rfl ?_))
  go_loopw [5, 10] (fun n i wr => ∃ q : Nat, q ≤ 16 ∧ i = .int .i64 (q : Int) ∧ n = .int .i64 (cnt x.st v q : Int) ∧ Hid (Below w.heap.size w wr)) (fun _ i _ => 16 - (intOf i).toNat)
  case atStart => exact ⟨0, by omega, rfl, rfl, HB⟩
  case round =>
    clear HB K2
    obtain ⟨q, hq, rfl, rfl, HB⟩ := hrel
    have hc := cnt_le x.st v q
    have hs := cnt_succ x.st v q
    by_cases hlt : q < 16
    · by_cases he : rd x.st (q : Int) = v
      · have g1 : (rd x.st (q : Int) == v) = true := by simpa using he
        rw [if_pos he] at hs
        clear he
        go_wp2_with (first
          | (refine F.aggIndex (i := q) (n := 16) 70 (.tmp 9) (.tmp 10) rfl rfl rfl Try.underlying70 hlt R.agg_u8 size_u8s (st_at (by rw [HL.out]; exact hlt)) rfl ?_))
        go_roundw
        case rel => exact ⟨q + 1, by omega, by go_num, by rw [hs]; go_num, HB⟩
        case measure => simp [intOf]; omega
      · have g1 : (rd x.st (q : Int) == v) = false := by simpa using he
        rw [if_neg he] at hs
        clear he
        go_wp2_with (first
          | (refine F.aggIndex (i := q) (n := 16) 70 (.tmp 9) (.tmp 10) rfl rfl rfl Try.underlying70 hlt R.agg_u8 size_u8s (st_at (by rw [HL.out]; exact hlt)) rfl ?_))
        go_roundw
        case rel => exact ⟨q + 1, by omega, by go_num, by rw [hs]; rfl, HB⟩
        case measure => simp [intOf]; omega
    · obtain rfl : q = 16 := by omega
      go_wp2
      go_ret
      exact ⟨rfl, HB.out⟩
end Go.Proofs.Ytdchcggllcgokaa.Q
