/-
  ashlarlaw04.GeomBack: the walk.
-/
import Derived.Test.YtjagnodfdniccaaGeoL
namespace Go.Proofs.Ytjagnodfdniccaa.G
open Go.RowKit Go.Proofs.Ytjagnodfdniccaa.L Go.Proofs.YtjagnodfdniccaaW.PrintWords
set_option linter.unusedVariables false

/-- Where a block stands, and back. -/
theorem place_back {m b p st me : Int} (h1 : 3 ≤ m) (h2 : m ≤ 16) (h0 : 0 ≤ b) (hst : st = b / (m - 1)) (hp : p = m - 1 - st % m) (hme : me = (p + 1 + b % (m - 1)) % m) :
    0 ≤ st ∧ 0 ≤ me ∧ me < m ∧ me ≠ p ∧ st * (m - 1) + (me - p - 1) % m = b := by
  obtain ⟨d1, d2⟩ := mod_bd (k := b) (m := m - 1) (by omega)
  obtain ⟨d3, d4⟩ := mod_bd (k := st) (m := m) (by omega)
  obtain ⟨d5, d6⟩ := mod_bd (k := p + 1 + b % (m - 1)) (m := m) (by omega)
  have e1 : (m - 1) * (b / (m - 1)) + b % (m - 1) = b := Int.mul_ediv_add_emod b (m - 1)
  have s0 : 0 ≤ b / (m - 1) := Int.ediv_nonneg h0 (by omega)
  have e2 : m * ((p + 1 + b % (m - 1)) / m) + (p + 1 + b % (m - 1)) % m = p + 1 + b % (m - 1) := Int.mul_ediv_add_emod _ m
  generalize hq : (p + 1 + b % (m - 1)) / m = q at e2
  generalize hr : b % (m - 1) = r at *
  rw [← hme] at d5 d6 e2
  have q0 : q = 0 ∨ q = 1 := by
    have hq0 : 0 ≤ q := by rw [← hq]; exact Int.ediv_nonneg (by omega) (by omega)
    have hq1 : q < 2 := by rw [← hq]; exact Int.ediv_lt_of_lt_mul (by omega) (by omega)
    omega
  have hx : (me - p - 1) % m = r := by
    rcases q0 with rfl | rfl
    · rw [show me - p - 1 = r by omega]; exact Int.emod_eq_of_lt (by omega) (by omega)
    · rw [show me - p - 1 = r - m by omega, Int.sub_emod_right]; exact Int.emod_eq_of_lt (by omega) (by omega)
  refine ⟨by omega, d5, d6, ?_, ?_⟩
  · rcases q0 with rfl | rfl <;> omega
  · rw [hx, hst, Int.mul_comm]; omega

theorem inner_div {m x y p R : Int} (h1 : 3 ≤ m) (hx : 0 ≤ x) (hp : p = m - 1 - x % m) (hy : 0 ≤ y) (hy2 : y < m) (hne : y ≠ p) (hR : R = (y - p - 1) % m) :
    0 ≤ R ∧ R ≤ m - 2 ∧ (x * (m - 1) + R) / (m - 1) = x := by
  obtain ⟨d3, d4⟩ := mod_bd (k := x) (m := m) (by omega)
  have hr : R = if y < p + 1 then y - p - 1 + m else y - p - 1 := by
    rw [hR]
    split
    · rw [← Int.add_emod_right]; exact Int.emod_eq_of_lt (by omega) (by omega)
    · exact Int.emod_eq_of_lt (by omega) (by omega)
  have r1 : 0 ≤ R ∧ R ≤ m - 2 := by split at hr <;> omega
  refine ⟨r1.1, r1.2, ?_⟩
  rw [Int.add_comm, Int.add_mul_ediv_right _ _ (by omega), Int.ediv_eq_zero_of_lt r1.1 (by omega)]
  omega

set_option maxRecDepth 100000 in
set_option maxHeartbeats 2000000 in
theorem back_any (a b : Int) (w : World) (a0 : 0 ≤ a) (a1 : a ≤ 255) (b0 : 0 ≤ b) (b1 : b ≤ 255) : Calls Try.prog 11 #[.int .u8 a, .int .u8 b] w fun e w' => e = .returned (.bool true) ∧ Below w.heap.size w w' := by
  obtain ⟨m, hm⟩ : ∃ m, m = 3 + a % 14 := ⟨_, rfl⟩
  obtain ⟨s, hs⟩ : ∃ s, s = 1 + b % 64 := ⟨_, rfl⟩
  have m1 : 3 ≤ m := by omega
  have m2 : m ≤ 16 := by omega
  have s1 : 1 ≤ s := by omega
  have s2 : s ≤ 64 := by omega
  obtain ⟨n1, n2⟩ := mul_bd m1 m2 s1 s2
  have hmay : may m s 40 = true := may_iff.2 ⟨m1, m2, s1, s2, by decide, by decide⟩
  have P1 := Lib.hid (fun w => geo_any a b w a0 a1 b0 b1)
  rw [← hm, ← hs] at P1
  have P2 := Lib.hid (fun w => blocks_any m s 40 w)
  rw [show blocks m s 40 = s * (m - 1) by rw [blocks, if_pos hmay]] at P2
  have HM := Lib.hid hmay
  obtain ⟨n, hn⟩ : ∃ n, s * (m - 1) = n := ⟨_, rfl⟩
  rw [hn] at n1 n2 P2
  have HN := Lib.hid hn
  clear hmay hm hs
  go_enter Try.func11, Try.ntmps11
  go_wp2_with (first
    | (go_at_call 39; refine (P1.out _).mono ?_; rintro e w1 ⟨rfl, hb1⟩)
    | (go_at_call 40; refine (P2.out _).mono ?_; rintro e w2 ⟨rfl, hb2⟩; have BK := Lib.hid (blk_below (blk_new w1 (.cells #[.int .i64 m, .int .i64 s, .int .i64 40] 50)) hb2); have c0 := (blk_cell BK.out 0).trans rfl; have c1 := (blk_cell BK.out 1).trans rfl; have c2 := (blk_cell BK.out 2).trans rfl; have BB := Lib.hid (below_ext hb1 (below_1 hb2)); clear hb1 hb2)
    )
  obtain ⟨g, hg⟩ : ∃ g, g = w1.heap.size := ⟨_, rfl⟩
  rw [← hg] at BK c0 c1 c2 ⊢
  clear hg c0 c1 c2
  go_loopw [7] (fun i wr => ∃ q : Nat, (q : Int) ≤ n ∧ i = .int .i64 q ∧ Hid (wr.heap[g]? = some (.cells #[.int .i64 m, .int .i64 s, .int .i64 40] 50 (0, 0))) ∧ Hid (Below w.heap.size w wr)) (fun i _ => n.toNat - (intOf i).toNat)
  case atStart => exact ⟨0, by omega, rfl, BK, BB⟩
  case round =>
    obtain ⟨q, hq, rfl, HK, HB⟩ := hrel
    clear BK BB
    have c0 := (blk_cell HK.out 0).trans rfl
    have c1 := (blk_cell HK.out 1).trans rfl
    have c2 := (blk_cell HK.out 2).trans rfl
    by_cases hlt : (q : Int) < n
    · obtain ⟨st, hst⟩ : ∃ st, st = (q : Int) / (m - 1) := ⟨_, rfl⟩
      obtain ⟨me, hme⟩ : ∃ me, me = (m - 1 - st % m + 1 + (q : Int) % (m - 1)) % m := ⟨_, rfl⟩
      obtain ⟨p1, p2, p3, p4, p5⟩ := place_back (b := q) m1 m2 (by omega) hst rfl hme
      have p6 : st < s := by
        rw [hst]; exact Int.ediv_lt_of_lt_mul (by omega) (by rw [HN.out]; exact hlt)
      have A1 := Lib.hid (fun w => At_ok m s 40 q w HM.out (by omega) (by rw [HN.out]; exact hlt))
      rw [← hst, ← hme] at A1
      have A2 := Lib.hid (fun w => Block_ok m s 40 st me w HM.out p1 p6 p2 p3 p4)
      rw [p5] at A2
      clear hst hme p4 p5
      go_wp2_with (first
        | (go_at_call 41; refine (A1.out _).mono ?_; rintro e w3 ⟨rfl, hb3⟩; have K3 := Lib.hid (blk_below HK.out hb3); have z3 := blk_lt K3.out; have d0 := (blk_cell K3.out 0).trans rfl; have d1 := (blk_cell K3.out 1).trans rfl; have d2 := (blk_cell K3.out 2).trans rfl)
        | (go_at_call 42; refine (A2.out _).mono ?_; rintro e w4 ⟨rfl, hb4⟩; have BK3 := Lib.hid (blk_below (blk_alloc (blk_below HK.out hb3) _) hb4); have BB3 := Lib.hid (below_ext HB.out (below_ext hb3 (below_1 hb4))); clear hb3 hb4))
      go_roundw
      case rel => exact ⟨q + 1, by omega, by go_num, BK3, BB3⟩
      case measure => simp [intOf]; omega
    · obtain rfl : n = (q : Int) := by omega
      go_wp2
      obtain ⟨w5, rfl⟩ : ∃ w5 : World, w5 = wr := ⟨_, rfl⟩
      clear c0 c1 c2 hlt HN
      go_loopw [12] (fun i wr => ∃ x : Nat, (x : Int) ≤ s ∧ i = .int .i64 x ∧ Hid (wr.heap[g]? = some (.cells #[.int .i64 m, .int .i64 s, .int .i64 40] 50 (0, 0))) ∧ Hid (Below w.heap.size w wr)) (fun i _ => s.toNat - (intOf i).toNat)
      case atStart => exact ⟨0, by omega, rfl, HK, HB⟩
      case round =>
        obtain ⟨x, hx, rfl, HK2, HB2⟩ := hrel
        clear HK HB
        have c0 := (blk_cell HK2.out 0).trans rfl
        have c1 := (blk_cell HK2.out 1).trans rfl
        have c2 := (blk_cell HK2.out 2).trans rfl
        by_cases hlt : (x : Int) < s
        · obtain ⟨p, hp⟩ : ∃ p, p = m - 1 - (x : Int) % m := ⟨_, rfl⟩
          obtain ⟨d3, d4⟩ := mod_bd (k := (x : Int)) (m := m) (by omega)
          have p1 : 0 ≤ p := by omega
          have p2 : p ≤ m - 1 := by omega
          have HP := Lib.hid hp
          clear hp d3 d4
          go_wp2
          obtain ⟨w6, rfl⟩ : ∃ w6 : World, w6 = wr := ⟨_, rfl⟩
          clear c0 c1 c2
          go_loopw [13, 14] (fun pv i wr => ∃ y : Nat, (y : Int) ≤ m ∧ i = .int .i64 y ∧ pv = .int .i64 (if p < y then 1 else 0) ∧ Hid (wr.heap[g]? = some (.cells #[.int .i64 m, .int .i64 s, .int .i64 40] 50 (0, 0))) ∧ Hid (Below w.heap.size w wr)) (fun _ i _ => m.toNat - (intOf i).toNat)
          case atStart => exact ⟨0, by omega, rfl, by rw [if_neg (by omega)], HK2, HB2⟩
          case round =>
            obtain ⟨y, hy, rfl, rfl, HK3, HB3⟩ := hrel
            clear HK2 HB2
            have c0 := (blk_cell HK3.out 0).trans rfl
            have c1 := (blk_cell HK3.out 1).trans rfl
            have c2 := (blk_cell HK3.out 2).trans rfl
            have z3 := blk_lt HK3.out
            by_cases hl : (y : Int) < m
            · have A2 := Lib.hid (fun w => Parity_any m s 40 x w)
              have ha : asked m s 40 x = 0 := by rw [asked, if_pos HM.out, if_pos ⟨by omega, hlt⟩]
              rw [show par m s 40 x = p by rw [par, if_pos ha, HP.out], ha] at A2
              clear ha
              by_cases hpy : (y : Int) = p
              · have A1 := Lib.hid (fun w => Block_none m s 40 x y w HM.out (by omega) hlt (by omega) hl (by rw [← HP.out]; exact hpy))
                have q1 : (p == (y : Int)) = true := by simp; omega
                have q0 : (if p < (y : Int) then (1 : Int) else 0) = 0 := if_neg (by omega)
                have Q1 := Lib.hid (show (if p < ((y + 1 : Nat) : Int) then (1 : Int) else 0) = 1 from if_pos (by omega))
                clear hpy
                go_wp2_with (first
                  | (go_at_call 42; refine (A1.out _).mono ?_; rintro e w7 ⟨rfl, hb7⟩; have K7 := Lib.hid (blk_below HK3.out hb7); have d0 := (blk_cell K7.out 0).trans rfl; have d1 := (blk_cell K7.out 1).trans rfl; have d2 := (blk_cell K7.out 2).trans rfl)
                  | (go_at_call 43; refine (A2.out _).mono ?_; rintro e w8 ⟨rfl, hb8⟩; have K8 := Lib.hid (blk_below K7.out hb8); have B8 := Lib.hid (below_ext HB3.out (below_ext hb7 hb8)); have e0 := (blk_cell K8.out 0).trans rfl; clear hb7 hb8))
                go_roundw
                case rel => exact ⟨y + 1, by omega, by go_num, by rw [Q1.out], K8, B8⟩
                case measure => simp [intOf]; omega
              · have A1 := Lib.hid (fun w => Block_ok m s 40 x y w HM.out (by omega) hlt (by omega) hl (by rw [← HP.out]; exact hpy))
                obtain ⟨R, hR⟩ : ∃ R, R = ((y : Int) - p - 1) % m := ⟨_, rfl⟩
                obtain ⟨r1, r2, hd⟩ := inner_div m1 (by omega) HP.out (by omega) hl hpy hR
                rw [← HP.out, ← hR] at A1
                obtain ⟨t1, t2⟩ := mul_bd2 (st := (x : Int)) m1 m2 (by omega) hlt s2
                have q1 : (p == (y : Int)) = false := by simp; omega
                have Q1 := Lib.hid (show (if p < (y : Int) then (1 : Int) else 0) = (if p < ((y + 1 : Nat) : Int) then (1 : Int) else 0) by
                  by_cases h : p < (y : Int)
                  · rw [if_pos h, if_pos (by omega)]
                  · rw [if_neg h, if_neg (by omega)])
                obtain ⟨Z, hZ⟩ : ∃ Z, (x : Int) * (m - 1) + R = Z := ⟨_, rfl⟩
                rw [hZ] at hd A1
                have t3 : 0 ≤ Z := by omega
                have t4 : Z ≤ 1000 := by omega
                clear hpy hR hZ t1 t2
                go_wp2_with (first
                  | (go_at_call 42; refine (A1.out _).mono ?_; rintro e w7 ⟨rfl, hb7⟩; have K7 := Lib.hid (blk_below HK3.out hb7); have d0 := (blk_cell K7.out 0).trans rfl; have d1 := (blk_cell K7.out 1).trans rfl; have d2 := (blk_cell K7.out 2).trans rfl)
                  | (go_at_call 43; refine (A2.out _).mono ?_; rintro e w8 ⟨rfl, hb8⟩; have K8 := Lib.hid (blk_below K7.out hb8); have B8 := Lib.hid (below_ext HB3.out (below_ext hb7 hb8)); have e0 := (blk_cell K8.out 0).trans rfl; clear hb7 hb8))
                go_roundw
                case rel => exact ⟨y + 1, by omega, by go_num, by rw [← Q1.out], K8, B8⟩
                case measure => simp [intOf]; omega
            · have q0 : (if p < (y : Int) then (1 : Int) else 0) = 1 := if_pos (by omega)
              go_wp2
              go_roundw
              case rel => exact ⟨x + 1, by omega, by go_num, HK3, HB3⟩
              case measure => simp [intOf]; omega
        · go_wp2_with (first
            | (go_at_call 44; refine (lives_any _).mono ?_; rintro e w9 ⟨rfl, hb9⟩))
          go_ret
          exact ⟨rfl, below_ext HB2.out hb9⟩
theorem back_any' (a : Int) (ha : (Lit.int .u8 a).wf = true) (b : Int) (hb : (Lit.int .u8 b).wf = true) (w : World) : Calls Try.prog 11 #[.int .u8 a, .int .u8 b] w fun e w' => e = .returned (.bool true) ∧ Below w.heap.size w w' :=
  back_any a b w (bounds_u8 ha).1 (bounds_u8 ha).2 (bounds_u8 hb).1 (bounds_u8 hb).2
end Go.Proofs.Ytjagnodfdniccaa.G
