/-
  ashlarlaw04.GeomApart: the walk.
-/
import Derived.Test.YtjagnodfdniccaaGeoL
namespace Go.Proofs.Ytjagnodfdniccaa.G
open Go.RowKit Go.Proofs.Ytjagnodfdniccaa.L Go.Proofs.YtjagnodfdniccaaW.PrintWords
set_option linter.unusedVariables false

/-- A block's member is its number's rest. -/
theorem mem_eq {m b : Int} (h1 : 3 ≤ m) (h0 : 0 ≤ b) : (m - 1 - b / (m - 1) % m + 1 + b % (m - 1)) % m = b % m := by
  have e1 : (m - 1) * (b / (m - 1)) + b % (m - 1) = b := Int.mul_ediv_add_emod b (m - 1)
  generalize b / (m - 1) = st at *
  generalize b % (m - 1) = r at *
  have e2 : m * (st / m) + st % m = st := Int.mul_ediv_add_emod st m
  generalize st / m = q at *
  generalize st % m = x at *
  have : m - 1 - x + 1 + r = b + m * (1 + q - st) := by
    rw [← e1, Int.mul_sub, Int.mul_add, Int.sub_mul]
    omega
  rw [this, Int.add_mul_emod_self_left]
theorem mod_ne {m a b : Int} (h1 : 3 ≤ m) (h : a < b) (h2 : b < a + m) : a % m ≠ b % m := by
  intro e
  have e0 : (b - a) % m = 0 := by rw [Int.sub_emod, e]; simp
  rw [Int.emod_eq_of_lt (by omega) (by omega)] at e0
  omega

/-- the members so far -/
def lst (k m : Int) (t : Nat) : List Int := (List.range t).map (fun j : Nat => (k + (j : Int)) % m)

set_option maxRecDepth 100000 in
set_option maxHeartbeats 2000000 in
theorem apart_any (a b c : Int) (w : World) (a0 : 0 ≤ a) (a1 : a ≤ 255) (b0 : 0 ≤ b) (b1 : b ≤ 255) (c0 : 0 ≤ c) (c1 : c ≤ 65535) : Calls Try.prog 13 #[.int .u8 a, .int .u8 b, .int .u16 c] w fun e w' => e = .returned (.bool true) ∧ Below w.heap.size w w' := by
  obtain ⟨m, hm⟩ : ∃ m, m = 3 + a % 14 := ⟨_, rfl⟩
  obtain ⟨s, hs⟩ : ∃ s, s = 1 + b % 64 := ⟨_, rfl⟩
  have m1 : 3 ≤ m := by omega
  have m2 : m ≤ 16 := by omega
  have s1 : 1 ≤ s := by omega
  have s2 : s ≤ 64 := by omega
  have hmay : may m s 40 = true := may_iff.2 ⟨m1, m2, s1, s2, by decide, by decide⟩
  obtain ⟨n1, n2⟩ := mul_bd m1 m2 s1 s2
  have n3 : 1 ≤ s * (m - 1) := by have := Int.mul_le_mul (a := 1) (b := 1) (c := s) (d := m - 1) s1 (by omega) (by omega) (by omega); omega
  have P1 := Lib.hid (fun w => geo_any a b w a0 a1 b0 b1)
  rw [← hm, ← hs] at P1
  have P2 := Lib.hid (fun w => blocks_any m s 40 w)
  rw [show blocks m s 40 = s * (m - 1) by rw [blocks, if_pos hmay]] at P2
  have HM := Lib.hid hmay
  obtain ⟨n, hn⟩ : ∃ n, s * (m - 1) = n := ⟨_, rfl⟩
  rw [hn] at n1 n2 n3 P2
  have HN := Lib.hid hn
  have hn0 : ¬ n = 0 := by omega
  have k0 : 0 ≤ c % n := Int.emod_nonneg _ (by omega)
  have k1 : c % n < n := Int.emod_lt_of_pos _ (by omega)
  clear hmay hm hs hn
  go_enter Try.func13, Try.ntmps13
  go_wp2_with (first
    | (go_at_call 39; refine (P1.out _).mono ?_; rintro e w1 ⟨rfl, hb1⟩)
    | (go_at_call 40; refine (P2.out _).mono ?_; rintro e w2 ⟨rfl, hb2⟩; have BK := Lib.hid (blk_below (blk_new w1 (.cells #[.int .i64 m, .int .i64 s, .int .i64 40] 50)) hb2); have c0 := (blk_cell BK.out 0).trans rfl; have c1 := (blk_cell BK.out 1).trans rfl; have c2 := (blk_cell BK.out 2).trans rfl; have BB := Lib.hid (below_ext hb1 (below_1 hb2)); clear hb1 hb2))
  obtain ⟨g, hg⟩ : ∃ g, g = w1.heap.size := ⟨_, rfl⟩
  rw [← hg] at BK c0 c1 c2 ⊢
  clear hg c0 c1 c2
  go_loopw [10, 11] (fun lv i wr => ∃ q : Nat, c % n ≤ (q : Int) ∧ (q : Int) ≤ n ∧ (q : Int) ≤ c % n + m ∧ i = .int .i64 q ∧ Hid (wr.ownsRow w.heap.size 3 1 lv (lst (c % n) m (q - (c % n).toNat)).length (nums .i64 (lst (c % n) m (q - (c % n).toNat)))) ∧ Hid (wr.heap[g]? = some (.cells #[.int .i64 m, .int .i64 s, .int .i64 40] 50 (0, 0))) ∧ Hid (Below w.heap.size w wr)) (fun _ i _ => n.toNat - (intOf i).toNat)
  case atStart => exact ⟨(c % n).toNat, by omega, by omega, by omega, by rw [Int.toNat_of_nonneg k0], by rw [Nat.sub_self]; exact Lib.hid (World.ownsRow_nil _ _ _ _), BK, BB⟩
  case round =>
    obtain ⟨q, hq1, hq2, hq3, rfl, HO, HK, HB⟩ := hrel
    clear BK BB
    have c0 := (blk_cell HK.out 0).trans rfl
    have c1 := (blk_cell HK.out 1).trans rfl
    have c2 := (blk_cell HK.out 2).trans rfl
    by_cases hlt : (q : Int) < n ∧ (q : Int) < c % n + m
    · obtain ⟨l1, l2⟩ := hlt
      obtain ⟨st, hst⟩ : ∃ st, st = (q : Int) / (m - 1) := ⟨_, rfl⟩
      have A1 := Lib.hid (fun w => At_ok m s 40 q w HM.out (by omega) (by rw [HN.out]; exact l1))
      rw [mem_eq m1 (by omega : (0:Int) ≤ q), ← hst] at A1
      clear hst
      obtain ⟨L, hL⟩ : ∃ L, L = lst (c % n) m (q - (c % n).toNat) := ⟨_, rfl⟩
      have HL := Lib.hid hL
      have hLl : (L.length : Int) = q - c % n := by rw [hL]; simp [lst]; omega
      rw [← hL] at HO
      clear hL
      obtain ⟨A, cap, rfl, hr⟩ := own_reads HO.out
      have HR := Lib.hid hr
      clear hr
      obtain ⟨e1, e2⟩ := mod_bd (k := (q : Int)) (m := m) (by omega)
      go_wp2_with (first
        | (go_at_call 41; refine (A1.out _).mono ?_; rintro e w3 ⟨rfl, hb3⟩; have K3 := Lib.hid (blk_alloc (blk_below HK.out hb3) (.cells #[.int .i64 st, .int .i64 ((q : Int) % m)] 54)); have B3 := Lib.hid (below_alloc (below_ext HB.out hb3) (.cells #[.int .i64 st, .int .i64 ((q : Int) % m)] 54)); have O3 := Lib.hid (own_alloc (pw_own_below HO.out hb3) (.cells #[.int .i64 st, .int .i64 ((q : Int) % m)] 54)); have R3 := Lib.hid ((HR.out.below hb3).below (below_alloc (Below.refl _ _) (.cells #[.int .i64 st, .int .i64 ((q : Int) % m)] 54))); clear hb3))
      have P3 := Lib.hid (blk_new w3 (.cells #[.int .i64 st, .int .i64 ((q : Int) % m)] 54))
      obtain ⟨g2, hg2⟩ : ∃ g2, g2 = w3.heap.size := ⟨_, rfl⟩
      rw [← hg2] at P3 ⊢
      clear hg2
      generalize w3.alloc (Obj.cells #[Value.int IntKind.i64 st, Value.int IntKind.i64 ((q : Int) % m)] 54) = w4 at K3 B3 O3 P3 R3 ⊢
      clear HO HK HB HR c0 c1 c2
      go_loopw [14] (fun i wr => ∃ x : Nat, x ≤ L.length ∧ i = .int .i64 x ∧ Hid (∃ d, wr = w4.drewN d)) (fun i _ => L.length - (intOf i).toNat)
      case atStart => exact ⟨0, Nat.zero_le _, rfl, Lib.hid ⟨0, rfl⟩⟩
      case round =>
        obtain ⟨x, hx, rfl, HW⟩ := hrel
        obtain ⟨d, rfl⟩ := HW.out
        clear HW
        have c3 := (blk_cell P3.out 1).trans rfl
        by_cases hxl : x < L.length
        · obtain ⟨ad, rfl, cx⟩ := R3.out.at_ (x : Int) (by omega) (by omega)
          simp only [Int.toNat_natCast] at cx
          have hi0 : (0 : Int) ≤ (x : Int) := by omega
          have hi1 : (x : Int) < (L.length : Int) := by omega
          obtain ⟨V, hV⟩ : ∃ V, V = rd L x := ⟨_, rfl⟩
          have hV2 : V = (c % n + (x : Int)) % m := by rw [hV, HL.out]; exact rd_map_range (by omega)
          have hne := mod_ne m1 (a := c % n + (x : Int)) (b := (q : Int)) (by omega) (by omega)
          rw [← hV] at cx
          rw [← hV2] at hne
          have t1 : (V == (q : Int) % m) = false := by simpa using hne
          clear hV hV2 hne
          go_wp2
          go_quiet (fail)
          clear t1
          go_wp2
          go_roundw
          case rel => exact ⟨x + 1, by omega, by go_num, Lib.hid ⟨_, rfl⟩⟩
          case measure => simp [intOf]; omega
        · have hq5 : (L.length + 1) * 8 ≤ 140737488355328 := by omega
          have HX := Lib.hid (show lst (c % n) m (q + 1 - (c % n).toNat) = L ++ [(q : Int) % m] by
            rw [show q + 1 - (c % n).toNat = (q - (c % n).toNat) + 1 by omega, lst, List.range_succ, List.map_append, ← lst, ← HL.out]
            simp only [List.map_cons, List.map_nil]
            rw [show c % n + ((q - (c % n).toNat : Nat) : Int) = q by omega])
          have HN5 := Lib.hid (own_blk_ne O3.out K3.out (by decide))
          go_wp2_with (first
            | (at_builtin; refine print_append_num (w0 := w) w.heap.size rfl (.tmp 61) (.tmp 64) 61 3 .i64 8 rfl Try.underlying61 info_int (by decide) _ L ((q : Int) % m) rfl rfl O3.out (below_drewN B3.out _) B3.out.size hq5 ?_; intro v1 w5 ho5 hb5 hg5 hat5; have K5 := Lib.hid (blk_grown (w := w4.drewN d) K3.out hg5 HN5.out); have B5 := Lib.hid hb5; have O5 := Lib.hid ho5; clear ho5 hb5 hg5 hat5))
          go_roundw
          case rel => first | exact ⟨q + 1, by omega, by omega, by omega, by go_num, by rw [HX.out]; exact O5, K5, B5⟩ | ((repeat apply Exists.intro); exact ⟨⟨q + 1, by omega, by omega, by omega, by go_num, by rw [HX.out]; exact O5, K5, B5⟩, rfl⟩)
          case measure => simp [intOf]; omega
    · go_wp2_with (first
        | (go_at_call 44; refine (lives_any _).mono ?_; rintro e w9 ⟨rfl, hb9⟩))
      all_goals
        go_ret
        exact ⟨rfl, below_ext HB.out hb9⟩
theorem apart_any' (a : Int) (ha : (Lit.int .u8 a).wf = true) (b : Int) (hb : (Lit.int .u8 b).wf = true) (c : Int) (hc : (Lit.int .u16 c).wf = true) (w : World) : Calls Try.prog 13 #[.int .u8 a, .int .u8 b, .int .u16 c] w fun e w' => e = .returned (.bool true) ∧ Below w.heap.size w w' :=
  apart_any a b c w (bounds_u8 ha).1 (bounds_u8 ha).2 (bounds_u8 hb).1 (bounds_u8 hb).2 (bounds_u16 hc).1 (bounds_u16 hc).2
end Go.Proofs.Ytjagnodfdniccaa.G
