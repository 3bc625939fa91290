/-
  ashlarlaw10.RosterPlays: the walk.
-/
import Derived.Test.YtdchcggllcgokaaRos28
namespace Go.Proofs.Ytdchcggllcgokaa.Q
open Go.RowKit Go.Proofs.Ytdchcggllcgokaa.L Go.Proofs.Ytdchcggllcgokaa.R Go.Proofs.YtdchcggllcgokaaW.PrintWords
set_option linter.unusedVariables false
set_option linter.unusedSimpArgs false
set_option maxRecDepth 100000 in
set_option maxHeartbeats 8000000 in
theorem Plays_walk (a1 a2 m s : Int) (A : Option Addr) (cap : Nat) (l : List (Int × Int × Bool)) (m1 : 3 ≤ m) (m2 : m ≤ 16) (x0 : Ro) (H0 : Hid (x0.st.length = 16)) (HW : Hid (Wf x0 ∧ mayR x0 = true ∧ x0.m = m))
    (P0 : Hid (∀ w : World, Calls Try.prog 64 #[.int .u8 a1, .int .u8 a2] w fun e w' => e = .returned (geo m s 40) ∧ Below w.heap.size w w'))
    (P1 : Hid (∀ w : World, Calls Try.prog 65 #[geo m s 40] w fun e w' => e = .returned (.tuple #[ros x0, .int .i64 0]) ∧ Below w.heap.size w w'))
    (PA : Hid (∀ x : Ro, Wf x → mayR x = true → x.m = m → ∀ (d k : Int) (g : Bool), ∃ y : Ro, Wf y ∧ mayR y = true ∧ y.m = m ∧ ∀ w : World, Calls Try.prog 102 #[ros x, act d k g] w fun e w' => e = .returned (ros y) ∧ Below w.heap.size w w'))
    (PM : Hid (∀ x : Ro, Wf x → mayR x = true → ∀ w : World, Calls Try.prog 89 #[ros x] w fun e w' => e = .returned (.bool true) ∧ Below w.heap.size w w'))
    (PG : Hid (∀ x : Ro, Wf x → mayR x = true → ∀ w : World, Calls Try.prog 92 #[ros x] w fun e w' => e = .returned (.int .i64 (missR x : Int)) ∧ Below w.heap.size w w'))
    (PS : Hid (∀ x : Ro, Wf x → mayR x = true → ∀ w : World, Calls Try.prog 94 #[ros x] w fun e w' => e = .returned (.int .i64 (stateR x)) ∧ Below w.heap.size w w'))
    (PL : Hid (∀ w : World, Calls Try.prog 71 #[] w fun e w' => e = .returned (.bool true) ∧ Below w.heap.size w w')) (w : World) (HA : Hid (ActsAt w A l)) : Calls Try.prog 25 #[.int .u8 a1, .int .u8 a2, .slice A l.length cap] w fun e w' => e = .returned (.bool true) ∧ Below w.heap.size w w' := by
  have HB := Lib.hid (Below.refl w.heap.size w)
  have tok0 : True := trivial
  have tp0 : True := trivial
  go_enter Try.func25, Try.ntmps25
  go_wp2_with (first
    | (go_skip)
    | (have _t := tp0; go_at_call 64; refine (P0.out _).mono ?_; rintro e w1 ⟨rfl, hb1⟩; replace HB := Lib.hid (below_ext HB.out hb1); have hz1 := hb1.size; clear hb1; have tp1 : True := trivial; clear _t tp0)
    | (have _t := tp1; go_at_call 65; refine (P1.out _).mono ?_; rintro e w2 ⟨rfl, hb2⟩; replace HB := Lib.hid (below_ext HB.out hb2); have hz2 := hb2.size; clear hb2; have tp2 : True := trivial; clear _t tp1)
    | (have _t := tok0; refine rosAlloc rfl rfl ?_; intro w3 hk hb3 hz3; replace HB := Lib.hid (below_ext HB.out hb3); have K7 := Lib.hid hk; clear hk hb3; have tok1 : True := trivial; clear _t tok0)
    | (refine rosStore (.tmp 7) (.tmp 19) rfl K7.out rfl rfl H0.out rfl ?_; intro w4 hk hg; replace HB := Lib.hid (below_at HB.out hg (by omega) K7.out.lt); replace K7 := Lib.hid hk; have hz4 := hg.size; clear hk hg))
  have hll := HA.out.1
  go_loopw [9] (fun i wr => ∃ q : Nat, q ≤ l.length ∧ q ≤ 80 ∧ i = .int .i64 (q : Int) ∧ ∃ x : Ro, Hid (Wf x ∧ mayR x = true ∧ x.m = m) ∧ Hid (Ros wr w2.heap.size x) ∧ Hid (Below w.heap.size w wr)) (fun i _ => 80 - (intOf i).toNat)
  case atStart => exact ⟨0, by omega, by omega, rfl, x0, HW, K7, HB⟩
  case round =>
    clear K7 HB
    obtain ⟨q, hq1, hq2, rfl, x, WX, K7, HB⟩ := hrel
    have l7 := K7.out.lt
    by_cases hlt : q < l.length ∧ q < 80
    · obtain ⟨ha, hb⟩ := hlt
      have gi1 : decide ((q : Int) < (l.length : Int)) = true := by simpa using ha
      have gi2 : decide ((q : Int) < 80) = true := by simp; omega
      have hai : (q : Int) < (l.length : Int) := by omega
      have hq0 : (0 : Int) ≤ (q : Int) := by omega
      obtain ⟨b, o, rfl, hbl, hrow⟩ := (HA.out.below HB.out).2 (by omega)
      obtain ⟨⟨d, k, g⟩, hp⟩ : ∃ p, l[q]? = some p := ⟨l[q], List.getElem?_eq_getElem ha⟩
      have HRW := Lib.hid (hrow q _ hp)
      simp only at HRW
      obtain ⟨y, wy, my, ym, py⟩ := PA.out x WX.out.1 WX.out.2.1 WX.out.2.2 d k g
      have PY := Lib.hid py
      have HYW := Lib.hid wy
      have HYM := Lib.hid my
      have HYm := Lib.hid ym
      have HY := Lib.hid wy.1
      clear hrow hp wy my ym py hbl
      go_wp2
      refine wp_region_still_tail 5 (by kernel_rfl) (by kernel_rfl) ?_
      simp only [List.take_succ_cons, List.take_zero, List.drop_succ_cons, List.drop_zero]
      refine sRosLoad (.tmp 7) rfl (K7.out.below (below_drewN (Below.refl _ _) 1)) rfl rfl ?_
      still_step
      still_step
      still_step
      refine sActLoad (.tmp 36) rfl (fun j v hv => HRW.out j v hv) rfl rfl ?_
      refine wpStill_nil ?_
      have hbd := below_drewN HB.out 1
      replace K7 := Lib.hid (K7.out.below (below_drewN (Below.refl wr.heap.size wr) 1))
      have hzd : wr.heap.size ≤ (wr.drewN 1).heap.size := Nat.le_refl _
      replace HB := Lib.hid hbd
      change wpList _ _ _ _ _ (wr.drewN 1)
      clear hbd
      generalize wr.drewN 1 = w30 at K7 HB hzd ⊢
      go_wp2_with (first
        | (go_skip)
        | (go_at_call 102; refine (PY.out _).mono ?_; rintro e w31 ⟨rfl, hb⟩; replace K7 := Lib.hid (K7.out.below hb); replace HB := Lib.hid (below_ext HB.out hb); have hz31 := hb.size; clear hb)
        | (refine rosStore (.tmp 7) (.tmp 38) rfl K7.out rfl rfl HY.out rfl ?_; intro w32 hk hg; replace HB := Lib.hid (below_at HB.out hg (by omega) K7.out.lt); replace K7 := Lib.hid hk; have hz32 := hg.size; clear hk hg))
      go_loopw [10, 11, 12] (fun n h i wr => ∃ j : Nat, (j : Int) ≤ m ∧ i = .int .i64 (j : Int) ∧ n = .int .i64 ((j - cnt y.st 0 j : Nat) : Int) ∧ h = .int .i64 (cnt y.st 2 j : Int) ∧ Hid (Ros wr w2.heap.size y) ∧ Hid (Below w.heap.size w wr)) (fun _ _ i _ => 16 - (intOf i).toNat)
      case atStart => exact ⟨0, by omega, rfl, by rw [cnt_0]; rfl, by rw [cnt_0]; rfl, K7, HB⟩
      case round =>
        clear K7 HB
        obtain ⟨j, hj, rfl, rfl, rfl, K7, HB⟩ := hrel
        have l7 := K7.out.lt
        by_cases hlj : (j : Int) < m
        · have gl : decide ((j : Int) < y.m) = true := by rw [HYm.out]; simpa using hlj
          have gl2 : decide ((j : Int) < 16) = true := by simp; omega
          have hj0 : (0 : Int) ≤ (j : Int) := by omega
          have hj16 : (j : Int) < 16 := by omega
          have hn16 : j < 16 := by omega
          have hc0 := cnt_le y.st 0 j
          have hc2 := cnt_le y.st 2 j
          have hd : j - cnt y.st 0 j ≤ 16 := by omega
          have hs0 := cnt_succ y.st 0 j
          have hs2 := cnt_succ y.st 2 j
          by_cases e0 : rd y.st (j : Int) = 0
          · rw [if_pos e0] at hs0
            rw [if_neg (by rw [e0]; decide)] at hs2
            have g1 : (rd y.st (j : Int) != 0) = false := by simp; omega
            have g2 : (rd y.st (j : Int) == 2) = false := by simp; omega
            clear e0
            have tok0 : True := trivial
            have ta0 : True := trivial
            go_wp2_with (first
              | (go_skip)
              | (refine F.rowCell _ (.tmp 41) rfl K7.out.cm rfl agg_int rfl ?_)
              | (refine F.rowCell _ (.tmp 52) rfl (K7.out.ci j hn16) rfl R.agg_u8 rfl ?_)
              | (refine F.rowCell _ (.tmp 59) rfl (K7.out.ci j hn16) rfl R.agg_u8 rfl ?_))
            go_roundw
            case rel => exact ⟨j + 1, by omega, by go_num, by rw [hs0, show j + 1 - (cnt y.st 0 j + 1) = j - cnt y.st 0 j by omega], by rw [hs2, Nat.add_zero], K7, HB⟩
            case measure => simp [intOf]; omega
          · rw [if_neg e0] at hs0
            by_cases e2 : rd y.st (j : Int) = 2
            · rw [if_pos e2] at hs2
              have g1 : (rd y.st (j : Int) != 0) = true := by simp; omega
              have g2 : (rd y.st (j : Int) == 2) = true := by simp; omega
              clear e0 e2
              have tok0 : True := trivial
              have tb0 : True := trivial
              go_wp2_with (first
                | (go_skip)
                | (refine F.rowCell _ (.tmp 41) rfl K7.out.cm rfl agg_int rfl ?_)
                | (refine F.rowCell _ (.tmp 52) rfl (K7.out.ci j hn16) rfl R.agg_u8 rfl ?_)
                | (refine F.rowCell _ (.tmp 59) rfl (K7.out.ci j hn16) rfl R.agg_u8 rfl ?_))
              go_roundw
              case rel => exact ⟨j + 1, by omega, by go_num, by rw [hs0, show j + 1 - (cnt y.st 0 j + 0) = (j - cnt y.st 0 j) + 1 by omega]; go_num, by rw [hs2]; go_num, K7, HB⟩
              case measure => simp [intOf]; omega
            · rw [if_neg e2] at hs2
              have g1 : (rd y.st (j : Int) != 0) = true := by simp; omega
              have g2 : (rd y.st (j : Int) == 2) = false := by simp; omega
              clear e0 e2
              have tok0 : True := trivial
              have tc0 : True := trivial
              go_wp2_with (first
                | (go_skip)
                | (refine F.rowCell _ (.tmp 41) rfl K7.out.cm rfl agg_int rfl ?_)
                | (refine F.rowCell _ (.tmp 52) rfl (K7.out.ci j hn16) rfl R.agg_u8 rfl ?_)
                | (refine F.rowCell _ (.tmp 59) rfl (K7.out.ci j hn16) rfl R.agg_u8 rfl ?_))
              go_roundw
              case rel => exact ⟨j + 1, by omega, by go_num, by rw [hs0, show j + 1 - (cnt y.st 0 j + 0) = (j - cnt y.st 0 j) + 1 by omega]; go_num, by rw [hs2, Nat.add_zero], K7, HB⟩
              case measure => simp [intOf]; omega
        · have gl : decide ((j : Int) < y.m) = false := by rw [HYm.out]; simpa using hlj
          obtain ⟨h1, h2⟩ := may_tail HYM.out (j := j) (by rw [HYm.out]; omega)
          have pg := PG.out y HYW.out HYM.out
          have ps := PS.out y HYW.out HYM.out
          have pm := PM.out y HYW.out HYM.out
          rw [stateR_of HYM.out h1 h2] at ps
          rw [h1] at pg
          have hc2 := may_c2 HYM.out
          rw [h2] at hc2
          have hoo : j - cnt y.st 0 j ≤ 16 := by omega
          have hhh : cnt y.st 2 j = 0 ∨ cnt y.st 2 j = 1 := by rcases hc2 with h | h; exact .inr h; exact .inl h.1
          clear h1 h2 hc2
          generalize j - cnt y.st 0 j = o at *
          generalize cnt y.st 2 j = h at *
          have PMy := Lib.hid pm
          clear pm
          have ho3 : 1 < o ∨ o = 1 ∨ o = 0 := by omega
          have hgg : y.go = true ∨ y.go = false := by cases y.go; exact .inr rfl; exact .inl rfl
          rcases ho3 with ho | rfl | rfl
          · rcases hhh with rfl | rfl
            · rw [if_pos ho] at ps
              have gi : decide ((1 : Int) < (o : Int)) = true := by simp; omega
              have gn : decide (1 < o) = true := by simp; omega
              have PSy := Lib.hid ps
              have PGy := Lib.hid pg
              clear ps pg
              have tok0 : True := trivial
              have tq100_0 : True := trivial
              go_wp2_with (first
                | (go_skip)
                | (refine F.rowCell _ (.tmp 41) rfl K7.out.cm rfl agg_int rfl ?_)
                | (refine F.rowCell _ (.tmp 71) rfl K7.out.cgo rfl agg_bool rfl ?_)
                | (refine rosLoad (.tmp 7) rfl K7.out rfl rfl ?_)
                | (have _t := tq100_0; go_at_call 89; refine (PMy.out _).mono ?_; rintro e w101 ⟨rfl, hb101⟩; replace K7 := Lib.hid (K7.out.below hb101); replace HB := Lib.hid (below_ext HB.out hb101); have hz101 := hb101.size; clear hb101; have tq100_1 : True := trivial; clear _t tq100_0)
                | (have _t := tq100_1; go_at_call 92; refine (PGy.out _).mono ?_; rintro e w102 ⟨rfl, hb102⟩; replace K7 := Lib.hid (K7.out.below hb102); replace HB := Lib.hid (below_ext HB.out hb102); have hz102 := hb102.size; clear hb102; have tq100_2 : True := trivial; clear _t tq100_1)
                | (have _t := tq100_2; go_at_call 94; refine (PSy.out _).mono ?_; rintro e w103 ⟨rfl, hb103⟩; replace K7 := Lib.hid (K7.out.below hb103); replace HB := Lib.hid (below_ext HB.out hb103); have hz103 := hb103.size; clear hb103; have tq100_3 : True := trivial; clear _t tq100_2))
              go_roundw
              case rel => exact ⟨q + 1, by omega, by omega, by go_num, y, Lib.hid ⟨HYW.out, HYM.out, HYm.out⟩, K7, HB⟩
              case measure => simp [intOf]; omega
            · rw [if_pos ho] at ps
              have gi : decide ((1 : Int) < (o : Int)) = true := by simp; omega
              have gn : decide (1 < o) = true := by simp; omega
              have PSy := Lib.hid ps
              have PGy := Lib.hid pg
              clear ps pg
              have tok0 : True := trivial
              have tq110_0 : True := trivial
              go_wp2_with (first
                | (go_skip)
                | (refine F.rowCell _ (.tmp 41) rfl K7.out.cm rfl agg_int rfl ?_)
                | (refine F.rowCell _ (.tmp 71) rfl K7.out.cgo rfl agg_bool rfl ?_)
                | (refine rosLoad (.tmp 7) rfl K7.out rfl rfl ?_)
                | (have _t := tq110_0; go_at_call 89; refine (PMy.out _).mono ?_; rintro e w111 ⟨rfl, hb111⟩; replace K7 := Lib.hid (K7.out.below hb111); replace HB := Lib.hid (below_ext HB.out hb111); have hz111 := hb111.size; clear hb111; have tq110_1 : True := trivial; clear _t tq110_0)
                | (have _t := tq110_1; go_at_call 92; refine (PGy.out _).mono ?_; rintro e w112 ⟨rfl, hb112⟩; replace K7 := Lib.hid (K7.out.below hb112); replace HB := Lib.hid (below_ext HB.out hb112); have hz112 := hb112.size; clear hb112; have tq110_2 : True := trivial; clear _t tq110_1)
                | (have _t := tq110_2; go_at_call 94; refine (PSy.out _).mono ?_; rintro e w113 ⟨rfl, hb113⟩; replace K7 := Lib.hid (K7.out.below hb113); replace HB := Lib.hid (below_ext HB.out hb113); have hz113 := hb113.size; clear hb113; have tq110_3 : True := trivial; clear _t tq110_2))
              go_roundw
              case rel => exact ⟨q + 1, by omega, by omega, by go_num, y, Lib.hid ⟨HYW.out, HYM.out, HYm.out⟩, K7, HB⟩
              case measure => simp [intOf]; omega
          · rcases hhh with rfl | rfl
            · rcases hgg with hg | hg
              · rw [if_neg (by decide), if_pos rfl, if_pos hg] at ps
                have HG := Lib.hid hg
                clear hg
                have PSy := Lib.hid ps
                have PGy := Lib.hid pg
                clear ps pg
                have tok0 : True := trivial
                have tq120_0 : True := trivial
                go_wp2_with (first
                  | (go_skip)
                  | (refine F.rowCell _ (.tmp 41) rfl K7.out.cm rfl agg_int rfl ?_)
                  | (refine F.rowCell (v := .bool true) _ (.tmp 71) rfl (by have h9 := K7.out.cgo; rw [HG.out] at h9; exact h9) rfl agg_bool rfl ?_)
                  | (refine rosLoad (.tmp 7) rfl K7.out rfl rfl ?_)
                  | (have _t := tq120_0; go_at_call 89; refine (PMy.out _).mono ?_; rintro e w121 ⟨rfl, hb121⟩; replace K7 := Lib.hid (K7.out.below hb121); replace HB := Lib.hid (below_ext HB.out hb121); have hz121 := hb121.size; clear hb121; have tq120_1 : True := trivial; clear _t tq120_0)
                  | (have _t := tq120_1; go_at_call 92; refine (PGy.out _).mono ?_; rintro e w122 ⟨rfl, hb122⟩; replace K7 := Lib.hid (K7.out.below hb122); replace HB := Lib.hid (below_ext HB.out hb122); have hz122 := hb122.size; clear hb122; have tq120_2 : True := trivial; clear _t tq120_1)
                  | (have _t := tq120_2; go_at_call 94; refine (PSy.out _).mono ?_; rintro e w123 ⟨rfl, hb123⟩; replace K7 := Lib.hid (K7.out.below hb123); replace HB := Lib.hid (below_ext HB.out hb123); have hz123 := hb123.size; clear hb123; have tq120_3 : True := trivial; clear _t tq120_2))
                go_roundw
                case rel => exact ⟨q + 1, by omega, by omega, by go_num, y, Lib.hid ⟨HYW.out, HYM.out, HYm.out⟩, K7, HB⟩
                case measure => simp [intOf]; omega
              · rw [if_neg (by decide), if_pos rfl, if_neg (by rw [hg]; decide), if_pos rfl] at ps
                have HG := Lib.hid hg
                clear hg
                have PSy := Lib.hid ps
                have PGy := Lib.hid pg
                clear ps pg
                have tok0 : True := trivial
                have tq130_0 : True := trivial
                go_wp2_with (first
                  | (go_skip)
                  | (refine F.rowCell _ (.tmp 41) rfl K7.out.cm rfl agg_int rfl ?_)
                  | (refine F.rowCell (v := .bool false) _ (.tmp 71) rfl (by have h9 := K7.out.cgo; rw [HG.out] at h9; exact h9) rfl agg_bool rfl ?_)
                  | (refine F.rowCell (v := .bool false) _ (.tmp 76) rfl (by have h9 := K7.out.cgo; rw [HG.out] at h9; exact h9) rfl agg_bool rfl ?_)
                  | (refine rosLoad (.tmp 7) rfl K7.out rfl rfl ?_)
                  | (have _t := tq130_0; go_at_call 89; refine (PMy.out _).mono ?_; rintro e w131 ⟨rfl, hb131⟩; replace K7 := Lib.hid (K7.out.below hb131); replace HB := Lib.hid (below_ext HB.out hb131); have hz131 := hb131.size; clear hb131; have tq130_1 : True := trivial; clear _t tq130_0)
                  | (have _t := tq130_1; go_at_call 92; refine (PGy.out _).mono ?_; rintro e w132 ⟨rfl, hb132⟩; replace K7 := Lib.hid (K7.out.below hb132); replace HB := Lib.hid (below_ext HB.out hb132); have hz132 := hb132.size; clear hb132; have tq130_2 : True := trivial; clear _t tq130_1)
                  | (have _t := tq130_2; go_at_call 94; refine (PSy.out _).mono ?_; rintro e w133 ⟨rfl, hb133⟩; replace K7 := Lib.hid (K7.out.below hb133); replace HB := Lib.hid (below_ext HB.out hb133); have hz133 := hb133.size; clear hb133; have tq130_3 : True := trivial; clear _t tq130_2))
                go_roundw
                case rel => exact ⟨q + 1, by omega, by omega, by go_num, y, Lib.hid ⟨HYW.out, HYM.out, HYm.out⟩, K7, HB⟩
                case measure => simp [intOf]; omega
            · rcases hgg with hg | hg
              · rw [if_neg (by decide), if_pos rfl, if_pos hg] at ps
                have HG := Lib.hid hg
                clear hg
                have PSy := Lib.hid ps
                have PGy := Lib.hid pg
                clear ps pg
                have tok0 : True := trivial
                have tq140_0 : True := trivial
                go_wp2_with (first
                  | (go_skip)
                  | (refine F.rowCell _ (.tmp 41) rfl K7.out.cm rfl agg_int rfl ?_)
                  | (refine F.rowCell (v := .bool true) _ (.tmp 71) rfl (by have h9 := K7.out.cgo; rw [HG.out] at h9; exact h9) rfl agg_bool rfl ?_)
                  | (refine rosLoad (.tmp 7) rfl K7.out rfl rfl ?_)
                  | (have _t := tq140_0; go_at_call 89; refine (PMy.out _).mono ?_; rintro e w141 ⟨rfl, hb141⟩; replace K7 := Lib.hid (K7.out.below hb141); replace HB := Lib.hid (below_ext HB.out hb141); have hz141 := hb141.size; clear hb141; have tq140_1 : True := trivial; clear _t tq140_0)
                  | (have _t := tq140_1; go_at_call 92; refine (PGy.out _).mono ?_; rintro e w142 ⟨rfl, hb142⟩; replace K7 := Lib.hid (K7.out.below hb142); replace HB := Lib.hid (below_ext HB.out hb142); have hz142 := hb142.size; clear hb142; have tq140_2 : True := trivial; clear _t tq140_1)
                  | (have _t := tq140_2; go_at_call 94; refine (PSy.out _).mono ?_; rintro e w143 ⟨rfl, hb143⟩; replace K7 := Lib.hid (K7.out.below hb143); replace HB := Lib.hid (below_ext HB.out hb143); have hz143 := hb143.size; clear hb143; have tq140_3 : True := trivial; clear _t tq140_2))
                go_roundw
                case rel => exact ⟨q + 1, by omega, by omega, by go_num, y, Lib.hid ⟨HYW.out, HYM.out, HYm.out⟩, K7, HB⟩
                case measure => simp [intOf]; omega
              · rw [if_neg (by decide), if_pos rfl, if_neg (by rw [hg]; decide), if_neg (by decide)] at ps
                have HG := Lib.hid hg
                clear hg
                have PSy := Lib.hid ps
                have PGy := Lib.hid pg
                clear ps pg
                have tok0 : True := trivial
                have tq150_0 : True := trivial
                go_wp2_with (first
                  | (go_skip)
                  | (refine F.rowCell _ (.tmp 41) rfl K7.out.cm rfl agg_int rfl ?_)
                  | (refine F.rowCell (v := .bool false) _ (.tmp 71) rfl (by have h9 := K7.out.cgo; rw [HG.out] at h9; exact h9) rfl agg_bool rfl ?_)
                  | (refine F.rowCell (v := .bool false) _ (.tmp 76) rfl (by have h9 := K7.out.cgo; rw [HG.out] at h9; exact h9) rfl agg_bool rfl ?_)
                  | (refine rosLoad (.tmp 7) rfl K7.out rfl rfl ?_)
                  | (have _t := tq150_0; go_at_call 89; refine (PMy.out _).mono ?_; rintro e w151 ⟨rfl, hb151⟩; replace K7 := Lib.hid (K7.out.below hb151); replace HB := Lib.hid (below_ext HB.out hb151); have hz151 := hb151.size; clear hb151; have tq150_1 : True := trivial; clear _t tq150_0)
                  | (have _t := tq150_1; go_at_call 92; refine (PGy.out _).mono ?_; rintro e w152 ⟨rfl, hb152⟩; replace K7 := Lib.hid (K7.out.below hb152); replace HB := Lib.hid (below_ext HB.out hb152); have hz152 := hb152.size; clear hb152; have tq150_2 : True := trivial; clear _t tq150_1)
                  | (have _t := tq150_2; go_at_call 94; refine (PSy.out _).mono ?_; rintro e w153 ⟨rfl, hb153⟩; replace K7 := Lib.hid (K7.out.below hb153); replace HB := Lib.hid (below_ext HB.out hb153); have hz153 := hb153.size; clear hb153; have tq150_3 : True := trivial; clear _t tq150_2))
                go_roundw
                case rel => exact ⟨q + 1, by omega, by omega, by go_num, y, Lib.hid ⟨HYW.out, HYM.out, HYm.out⟩, K7, HB⟩
                case measure => simp [intOf]; omega
          · rcases hhh with rfl | rfl
            · rcases hgg with hg | hg
              · rw [if_neg (by decide), if_neg (by decide), if_pos hg] at ps
                have HG := Lib.hid hg
                clear hg
                have PSy := Lib.hid ps
                have PGy := Lib.hid pg
                clear ps pg
                have tok0 : True := trivial
                have tq160_0 : True := trivial
                go_wp2_with (first
                  | (go_skip)
                  | (refine F.rowCell _ (.tmp 41) rfl K7.out.cm rfl agg_int rfl ?_)
                  | (refine F.rowCell (v := .bool true) _ (.tmp 71) rfl (by have h9 := K7.out.cgo; rw [HG.out] at h9; exact h9) rfl agg_bool rfl ?_)
                  | (refine F.rowCell (v := .bool true) _ (.tmp 76) rfl (by have h9 := K7.out.cgo; rw [HG.out] at h9; exact h9) rfl agg_bool rfl ?_)
                  | (refine rosLoad (.tmp 7) rfl K7.out rfl rfl ?_)
                  | (have _t := tq160_0; go_at_call 89; refine (PMy.out _).mono ?_; rintro e w161 ⟨rfl, hb161⟩; replace K7 := Lib.hid (K7.out.below hb161); replace HB := Lib.hid (below_ext HB.out hb161); have hz161 := hb161.size; clear hb161; have tq160_1 : True := trivial; clear _t tq160_0)
                  | (have _t := tq160_1; go_at_call 92; refine (PGy.out _).mono ?_; rintro e w162 ⟨rfl, hb162⟩; replace K7 := Lib.hid (K7.out.below hb162); replace HB := Lib.hid (below_ext HB.out hb162); have hz162 := hb162.size; clear hb162; have tq160_2 : True := trivial; clear _t tq160_1)
                  | (have _t := tq160_2; go_at_call 94; refine (PSy.out _).mono ?_; rintro e w163 ⟨rfl, hb163⟩; replace K7 := Lib.hid (K7.out.below hb163); replace HB := Lib.hid (below_ext HB.out hb163); have hz163 := hb163.size; clear hb163; have tq160_3 : True := trivial; clear _t tq160_2))
                go_roundw
                case rel => exact ⟨q + 1, by omega, by omega, by go_num, y, Lib.hid ⟨HYW.out, HYM.out, HYm.out⟩, K7, HB⟩
                case measure => simp [intOf]; omega
              · rw [if_neg (by decide), if_neg (by decide), if_neg (by rw [hg]; decide), if_pos rfl] at ps
                have HG := Lib.hid hg
                clear hg
                have PSy := Lib.hid ps
                have PGy := Lib.hid pg
                clear ps pg
                have tok0 : True := trivial
                have tq170_0 : True := trivial
                go_wp2_with (first
                  | (go_skip)
                  | (refine F.rowCell _ (.tmp 41) rfl K7.out.cm rfl agg_int rfl ?_)
                  | (refine F.rowCell (v := .bool false) _ (.tmp 71) rfl (by have h9 := K7.out.cgo; rw [HG.out] at h9; exact h9) rfl agg_bool rfl ?_)
                  | (refine F.rowCell (v := .bool false) _ (.tmp 76) rfl (by have h9 := K7.out.cgo; rw [HG.out] at h9; exact h9) rfl agg_bool rfl ?_)
                  | (refine rosLoad (.tmp 7) rfl K7.out rfl rfl ?_)
                  | (have _t := tq170_0; go_at_call 89; refine (PMy.out _).mono ?_; rintro e w171 ⟨rfl, hb171⟩; replace K7 := Lib.hid (K7.out.below hb171); replace HB := Lib.hid (below_ext HB.out hb171); have hz171 := hb171.size; clear hb171; have tq170_1 : True := trivial; clear _t tq170_0)
                  | (have _t := tq170_1; go_at_call 92; refine (PGy.out _).mono ?_; rintro e w172 ⟨rfl, hb172⟩; replace K7 := Lib.hid (K7.out.below hb172); replace HB := Lib.hid (below_ext HB.out hb172); have hz172 := hb172.size; clear hb172; have tq170_2 : True := trivial; clear _t tq170_1)
                  | (have _t := tq170_2; go_at_call 94; refine (PSy.out _).mono ?_; rintro e w173 ⟨rfl, hb173⟩; replace K7 := Lib.hid (K7.out.below hb173); replace HB := Lib.hid (below_ext HB.out hb173); have hz173 := hb173.size; clear hb173; have tq170_3 : True := trivial; clear _t tq170_2))
                go_roundw
                case rel => exact ⟨q + 1, by omega, by omega, by go_num, y, Lib.hid ⟨HYW.out, HYM.out, HYm.out⟩, K7, HB⟩
                case measure => simp [intOf]; omega
            · rcases hgg with hg | hg
              · rw [if_neg (by decide), if_neg (by decide), if_pos hg] at ps
                have HG := Lib.hid hg
                clear hg
                have PSy := Lib.hid ps
                have PGy := Lib.hid pg
                clear ps pg
                have tok0 : True := trivial
                have tq180_0 : True := trivial
                go_wp2_with (first
                  | (go_skip)
                  | (refine F.rowCell _ (.tmp 41) rfl K7.out.cm rfl agg_int rfl ?_)
                  | (refine F.rowCell (v := .bool true) _ (.tmp 71) rfl (by have h9 := K7.out.cgo; rw [HG.out] at h9; exact h9) rfl agg_bool rfl ?_)
                  | (refine F.rowCell (v := .bool true) _ (.tmp 76) rfl (by have h9 := K7.out.cgo; rw [HG.out] at h9; exact h9) rfl agg_bool rfl ?_)
                  | (refine rosLoad (.tmp 7) rfl K7.out rfl rfl ?_)
                  | (have _t := tq180_0; go_at_call 89; refine (PMy.out _).mono ?_; rintro e w181 ⟨rfl, hb181⟩; replace K7 := Lib.hid (K7.out.below hb181); replace HB := Lib.hid (below_ext HB.out hb181); have hz181 := hb181.size; clear hb181; have tq180_1 : True := trivial; clear _t tq180_0)
                  | (have _t := tq180_1; go_at_call 92; refine (PGy.out _).mono ?_; rintro e w182 ⟨rfl, hb182⟩; replace K7 := Lib.hid (K7.out.below hb182); replace HB := Lib.hid (below_ext HB.out hb182); have hz182 := hb182.size; clear hb182; have tq180_2 : True := trivial; clear _t tq180_1)
                  | (have _t := tq180_2; go_at_call 94; refine (PSy.out _).mono ?_; rintro e w183 ⟨rfl, hb183⟩; replace K7 := Lib.hid (K7.out.below hb183); replace HB := Lib.hid (below_ext HB.out hb183); have hz183 := hb183.size; clear hb183; have tq180_3 : True := trivial; clear _t tq180_2))
                go_roundw
                case rel => exact ⟨q + 1, by omega, by omega, by go_num, y, Lib.hid ⟨HYW.out, HYM.out, HYm.out⟩, K7, HB⟩
                case measure => simp [intOf]; omega
              · rw [if_neg (by decide), if_neg (by decide), if_neg (by rw [hg]; decide), if_neg (by decide)] at ps
                have HG := Lib.hid hg
                clear hg
                have PSy := Lib.hid ps
                have PGy := Lib.hid pg
                clear ps pg
                have tok0 : True := trivial
                have tq190_0 : True := trivial
                go_wp2_with (first
                  | (go_skip)
                  | (refine F.rowCell _ (.tmp 41) rfl K7.out.cm rfl agg_int rfl ?_)
                  | (refine F.rowCell (v := .bool false) _ (.tmp 71) rfl (by have h9 := K7.out.cgo; rw [HG.out] at h9; exact h9) rfl agg_bool rfl ?_)
                  | (refine F.rowCell (v := .bool false) _ (.tmp 76) rfl (by have h9 := K7.out.cgo; rw [HG.out] at h9; exact h9) rfl agg_bool rfl ?_)
                  | (refine rosLoad (.tmp 7) rfl K7.out rfl rfl ?_)
                  | (have _t := tq190_0; go_at_call 89; refine (PMy.out _).mono ?_; rintro e w191 ⟨rfl, hb191⟩; replace K7 := Lib.hid (K7.out.below hb191); replace HB := Lib.hid (below_ext HB.out hb191); have hz191 := hb191.size; clear hb191; have tq190_1 : True := trivial; clear _t tq190_0)
                  | (have _t := tq190_1; go_at_call 92; refine (PGy.out _).mono ?_; rintro e w192 ⟨rfl, hb192⟩; replace K7 := Lib.hid (K7.out.below hb192); replace HB := Lib.hid (below_ext HB.out hb192); have hz192 := hb192.size; clear hb192; have tq190_2 : True := trivial; clear _t tq190_1)
                  | (have _t := tq190_2; go_at_call 94; refine (PSy.out _).mono ?_; rintro e w193 ⟨rfl, hb193⟩; replace K7 := Lib.hid (K7.out.below hb193); replace HB := Lib.hid (below_ext HB.out hb193); have hz193 := hb193.size; clear hb193; have tq190_3 : True := trivial; clear _t tq190_2))
                go_roundw
                case rel => exact ⟨q + 1, by omega, by omega, by go_num, y, Lib.hid ⟨HYW.out, HYM.out, HYm.out⟩, K7, HB⟩
                case measure => simp [intOf]; omega
    · by_cases hl2 : q < l.length
      · have gi1 : decide ((q : Int) < (l.length : Int)) = true := by simpa using hl2
        have gi2 : decide ((q : Int) < 80) = false := by simp; omega
        have tok0 : True := trivial
        have tx0 : True := trivial
        go_wp2_with (first
          | (go_skip)
          | (have _t := tx0; go_at_call 71; refine (PL.out _).mono ?_; rintro e w301 ⟨rfl, hb301⟩; replace HB := Lib.hid (below_ext HB.out hb301); have hz301 := hb301.size; clear hb301; have tx1 : True := trivial; clear _t tx0))
        go_ret
        exact ⟨rfl, HB.out⟩
      · have gi1 : decide ((q : Int) < (l.length : Int)) = false := by simpa using hl2
        have tok0 : True := trivial
        have ty0 : True := trivial
        go_wp2_with (first
          | (go_skip)
          | (have _t := ty0; go_at_call 71; refine (PL.out _).mono ?_; rintro e w311 ⟨rfl, hb311⟩; replace HB := Lib.hid (below_ext HB.out hb311); have hz311 := hb311.size; clear hb311; have ty1 : True := trivial; clear _t ty0))
        go_ret
        exact ⟨rfl, HB.out⟩
end Go.Proofs.Ytdchcggllcgokaa.Q
