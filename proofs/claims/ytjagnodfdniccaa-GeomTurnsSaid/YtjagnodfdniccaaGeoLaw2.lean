/-
  ashlarlaw04.GeomTurns: the walk.
-/
import Derived.Test.YtjagnodfdniccaaGeoL
namespace Go.Proofs.Ytjagnodfdniccaa.G
open Go.RowKit Go.Proofs.Ytjagnodfdniccaa.L Go.Proofs.YtjagnodfdniccaaW.PrintWords
set_option linter.unusedVariables false

theorem par_ne {m t q p : Int} (h1 : 3 ≤ m) (ht : t < q) (hq : q < t + m) (hp : p = m - 1 - q % m) : m - 1 - t % m ≠ p := by
  intro h
  have e : (q - t) % m = 0 := by rw [Int.sub_emod]; have : q % m = t % m := by omega
                                 rw [this]; simp
  rw [Int.emod_eq_of_lt (by omega) (by omega)] at e
  omega
theorem data_ne {m p i : Int} (h1 : 3 ≤ m) (hp : 0 ≤ p) (hp2 : p ≤ m - 1) (hi : 0 ≤ i) (hi2 : i < m - 1) : (p + 1 + i) % m ≠ p := by
  rcases Int.lt_or_le (p + 1 + i) m with h | h
  · rw [Int.emod_eq_of_lt (by omega) h]; omega
  · rw [← Int.sub_emod_right, Int.emod_eq_of_lt (by omega) (by omega)]; omega

set_option maxRecDepth 100000 in
set_option maxHeartbeats 2000000 in
theorem turns_any (a b c : Int) (w : World) (a0 : 0 ≤ a) (a1 : a ≤ 255) (b0 : 0 ≤ b) (b1 : b ≤ 255) (c0 : 0 ≤ c) (c1 : c ≤ 255) : Calls Try.prog 12 #[.int .u8 a, .int .u8 b, .int .u8 c] w fun e w' => e = .returned (.bool true) ∧ Below w.heap.size w w' := by
  obtain ⟨m, hm⟩ : ∃ m, m = 3 + a % 14 := ⟨_, rfl⟩
  obtain ⟨s, hs⟩ : ∃ s, s = 1 + b % 64 := ⟨_, rfl⟩
  have m1 : 3 ≤ m := by omega
  have m2 : m ≤ 16 := by omega
  have s1 : 1 ≤ s := by omega
  have s2 : s ≤ 64 := by omega
  have hmay : may m s 40 = true := may_iff.2 ⟨m1, m2, s1, s2, by decide, by decide⟩
  have P1 := Lib.hid (fun w => geo_any a b w a0 a1 b0 b1)
  rw [← hm, ← hs] at P1
  have HM := Lib.hid hmay
  have hs0 : ¬ s = 0 := by omega
  have k0 : 0 ≤ c % s := Int.emod_nonneg _ (by omega)
  have k1 : c % s < s := Int.emod_lt_of_pos _ (by omega)
  clear hmay hm hs
  go_enter Try.func12, Try.ntmps12
  go_wp2_with (first
    | (go_at_call 39; refine (P1.out _).mono ?_; rintro e w1 ⟨rfl, hb1⟩))
  have BK := Lib.hid (blk_new w1 (.cells #[.int .i64 m, .int .i64 s, .int .i64 40] 50))
  have BB := Lib.hid (below_alloc hb1 (.cells #[.int .i64 m, .int .i64 s, .int .i64 40] 50))
  obtain ⟨g, hg⟩ : ∃ g, g = w1.heap.size := ⟨_, rfl⟩
  rw [← hg] at BK ⊢
  clear hg hb1
  generalize w1.alloc (Obj.cells #[Value.int IntKind.i64 m, Value.int IntKind.i64 s, Value.int IntKind.i64 40] 50) = w2 at BK BB ⊢
  go_loopw [9] (fun i wr => ∃ q : Nat, (c % s) ≤ (q : Int) ∧ (q : Int) ≤ s ∧ (q : Int) ≤ (c % s) + m ∧ i = .int .i64 q ∧ Hid (wr.heap[g]? = some (.cells #[.int .i64 m, .int .i64 s, .int .i64 40] 50 (0, 0))) ∧ Hid (Below w.heap.size w wr)) (fun i _ => s.toNat - (intOf i).toNat)
  case atStart => exact ⟨(c % s).toNat, by omega, by omega, by omega, by rw [Int.toNat_of_nonneg k0], BK, BB⟩
  case round =>
    obtain ⟨q, hq1, hq2, hq3, rfl, HK, HB⟩ := hrel
    clear BK BB
    have c0 := (blk_cell HK.out 0).trans rfl
    have c1 := (blk_cell HK.out 1).trans rfl
    have c2 := (blk_cell HK.out 2).trans rfl
    by_cases hlt : (q : Int) < s ∧ (q : Int) < (c % s) + m
    · obtain ⟨l1, l2⟩ := hlt
      obtain ⟨p, hp⟩ : ∃ p, p = m - 1 - (q : Int) % m := ⟨_, rfl⟩
      obtain ⟨e1, e2⟩ := mod_bd (k := (q : Int)) (m := m) (by omega)
      have ha : asked m s 40 q = 0 := by rw [asked, if_pos HM.out, if_pos ⟨by omega, l1⟩]
      have A1 := Lib.hid (fun w => Parity_any m s 40 q w)
      have A2 := Lib.hid (fun w => Data_any m s 40 q w)
      obtain ⟨dl, hdl⟩ : ∃ dl, dl = dataL m s 40 q := ⟨_, rfl⟩
      have hlen : (dl.length : Int) = m - 1 := by rw [hdl, dataL, if_pos ha]; simp; omega
      have HD : Hid (∀ i : Nat, (i : Int) < m - 1 → rd dl i = (p + 1 + i) % m) := Lib.hid (fun i hi => by
        rw [hdl, dataL, if_pos ha, hp]
        exact rd_map_range (by omega))
      rw [show par m s 40 q = p by rw [par, if_pos ha, hp], ha] at A1
      rw [← hdl, ha] at A2
      have HP := Lib.hid hp
      have p1 : 0 ≤ p := by omega
      have p2 : p ≤ m - 1 := by omega
      clear hp hdl ha e1 e2
      go_wp2_with (first
        | (go_at_call 43; refine (A1.out _).mono ?_; rintro e w3 ⟨rfl, hb3⟩; have K3 := Lib.hid (blk_below HK.out hb3); have d0 := (blk_cell K3.out 0).trans rfl; have d1 := (blk_cell K3.out 1).trans rfl; have d2 := (blk_cell K3.out 2).trans rfl)
        | (go_at_call 45; refine (A2.out _).mono ?_; rintro e w4 ⟨v, rfl, ho, hb4⟩; have K4 := Lib.hid (blk_below K3.out hb4); have d3 := (blk_cell K4.out 0).trans rfl; have d4 := (blk_cell K4.out 1).trans rfl; have d5 := (blk_cell K4.out 2).trans rfl; have B4 := Lib.hid (below_ext HB.out (below_ext hb3 hb4)); obtain ⟨A, cap, rfl, hr⟩ := own_reads ho; have HR := Lib.hid hr; clear hb3 hb4 ho hr))
      obtain ⟨w5, rfl⟩ : ∃ w5 : World, w5 = w4 := ⟨_, rfl⟩
      clear c0 c1 c2 d0 d1 d2 d3 d4 d5
      go_loopw [14] (fun i wr => ∃ t : Nat, (c % s) ≤ (t : Int) ∧ (t : Int) ≤ q ∧ i = .int .i64 t ∧ Hid (wr.heap[g]? = some (.cells #[.int .i64 m, .int .i64 s, .int .i64 40] 50 (0, 0))) ∧ Hid (Below w.heap.size w wr) ∧ Hid (ReadsInt wr .i64 A dl.length dl)) (fun i _ => q - (intOf i).toNat)
      case atStart => exact ⟨(c % s).toNat, by omega, by omega, by rw [Int.toNat_of_nonneg k0], K4, B4, HR⟩
      case round =>
        obtain ⟨t, ht1, ht2, rfl, HK2, HB2, HR2⟩ := hrel
        clear K4 B4 HR
        have c0 := (blk_cell HK2.out 0).trans rfl
        have c1 := (blk_cell HK2.out 1).trans rfl
        have c2 := (blk_cell HK2.out 2).trans rfl
        by_cases htq : (t : Int) < q
        · have A3 := Lib.hid (fun w => Parity_any m s 40 t w)
          have ha : asked m s 40 t = 0 := by rw [asked, if_pos HM.out, if_pos ⟨by omega, by omega⟩]
          obtain ⟨r, hr⟩ : ∃ r, r = m - 1 - (t : Int) % m := ⟨_, rfl⟩
          rw [show par m s 40 t = r by rw [par, if_pos ha, hr], ha] at A3
          have hne := par_ne m1 htq (by omega) HP.out
          rw [← hr] at hne
          have hq1 : (r == p) = false := by simpa using hne
          clear hne hr ha
          go_wp2_with (first
            | (go_at_call 43; refine (A3.out _).mono ?_; rintro e w6 ⟨rfl, hb6⟩; have K6 := Lib.hid (blk_below HK2.out hb6); have B6 := Lib.hid (below_ext HB2.out hb6); have R6 := Lib.hid (HR2.out.below hb6); clear hb6))
          go_roundw
          case rel => exact ⟨t + 1, by omega, by omega, by go_num, K6, B6, R6⟩
          case measure => simp [intOf]; omega
        · go_wp2
          obtain ⟨w7, rfl⟩ : ∃ w7 : World, w7 = wr := ⟨_, rfl⟩
          clear c0 c1 c2
          go_loopw [17] (fun i wr => ∃ x : Nat, x ≤ dl.length ∧ i = .int .i64 x ∧ Hid (wr.heap[g]? = some (.cells #[.int .i64 m, .int .i64 s, .int .i64 40] 50 (0, 0))) ∧ Hid (Below w.heap.size w wr) ∧ Hid (ReadsInt wr .i64 A dl.length dl)) (fun i _ => dl.length - (intOf i).toNat)
          case atStart => exact ⟨0, Nat.zero_le _, rfl, HK2, HB2, HR2⟩
          case round =>
            obtain ⟨x, hx, rfl, HK3, HB3, HR3⟩ := hrel
            clear HK2 HB2 HR2
            have c0 := (blk_cell HK3.out 0).trans rfl
            have c1 := (blk_cell HK3.out 1).trans rfl
            have c2 := (blk_cell HK3.out 2).trans rfl
            by_cases hxl : x < dl.length
            · obtain ⟨ad, rfl, cx⟩ := HR3.out.at_ (x : Int) (by omega) (by omega)
              simp only [Int.toNat_natCast] at cx
              have hi0 : (0 : Int) ≤ (x : Int) := by omega
              have hi1 : (x : Int) < (dl.length : Int) := by omega
              obtain ⟨V, hV⟩ : ∃ V, V = rd dl x := ⟨_, rfl⟩
              have hV2 := HD.out x (by omega)
              have hne := data_ne m1 p1 p2 (i := (x : Int)) (by omega) (by omega)
              rw [← hV] at cx hV2
              rw [← hV2] at hne
              have hm0 : ¬ m = 0 := by omega
              have t1 : (V == p) = false := by simpa using hne
              have u1 : IntKind.i64.wrap (p + 1) = p + 1 := IntWalk.i64_in _ (by omega)
              have u2 : IntKind.i64.wrap (p + 1 + (x : Int)) = p + 1 + (x : Int) := IntWalk.i64_in _ (by omega)
              have u3 : Int.tmod (p + 1 + (x : Int)) m = V := by rw [Int.tmod_eq_emod_of_nonneg (by omega), hV2]
              clear hV hV2 hne
              go_wp2
              go_quiet (fail)
              clear u1 u2 u3 t1
              go_wp2
              go_roundw
              case rel => exact ⟨x + 1, by omega, by go_num, HK3, below_drewN HB3.out _, HR3⟩
              case measure => simp [intOf]; omega
            · go_wp2
              go_roundw
              case rel => first | exact ⟨q + 1, by omega, by omega, by omega, by go_num, HK3, HB3⟩ | ((repeat apply Exists.intro); exact ⟨⟨q + 1, by omega, by omega, by omega, by go_num, HK3, HB3⟩, rfl⟩)
              case measure => simp [intOf]; omega
    · go_wp2_with (first
        | (go_at_call 44; refine (lives_any _).mono ?_; rintro e w9 ⟨rfl, hb9⟩))
      all_goals
        go_ret
        exact ⟨rfl, below_ext HB.out hb9⟩
theorem turns_any' (a : Int) (ha : (Lit.int .u8 a).wf = true) (b : Int) (hb : (Lit.int .u8 b).wf = true) (c : Int) (hc : (Lit.int .u8 c).wf = true) (w : World) : Calls Try.prog 12 #[.int .u8 a, .int .u8 b, .int .u8 c] w fun e w' => e = .returned (.bool true) ∧ Below w.heap.size w w' :=
  turns_any a b c w (bounds_u8 ha).1 (bounds_u8 ha).2 (bounds_u8 hb).1 (bounds_u8 hb).2 (bounds_u8 hc).1 (bounds_u8 hc).2
end Go.Proofs.Ytjagnodfdniccaa.G
