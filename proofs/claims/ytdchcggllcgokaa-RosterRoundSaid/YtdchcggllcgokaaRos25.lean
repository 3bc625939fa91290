/-
  ashlarlaw10.RosterRound: the walk.
-/
import Derived.Test.YtdchcggllcgokaaRos20
namespace Go.Proofs.Ytdchcggllcgokaa.Q
open Go.RowKit Go.Proofs.Ytdchcggllcgokaa.L Go.Proofs.Ytdchcggllcgokaa.R Go.Proofs.YtdchcggllcgokaaW.PrintWords
set_option linter.unusedVariables false
set_option linter.unusedSimpArgs false
set_option maxRecDepth 100000 in
set_option maxHeartbeats 8000000 in
theorem Round_walk (a1 a2 m s o : Int) (m1 : 3 ≤ m) (m2 : m ≤ 16) (s1 : 1 ≤ s) (s2 : s ≤ 64) (o0 : 0 ≤ o) (o1 : o ≤ 255) (x0 x y : Ro) (rx : Nat → Ro) (H0 : Hid (x0.st.length = 16)) (HX : Hid (x.st.length = 16)) (HY : Hid (y.st.length = 16)) (HR : Hid (∀ q, (rx q).st.length = 16)) (HC : Hid (∀ q : Nat, (q : Int) < s → (rx q).cu = q)) (HE : Hid (∀ q : Nat, (q : Int) = s → rx q = x0))
    (P0 : Hid (∀ w : World, Calls Try.prog 64 #[.int .u8 a1, .int .u8 a2] w fun e w' => e = .returned (geo m s 40) ∧ Below w.heap.size w w'))
    (P1 : Hid (∀ w : World, Calls Try.prog 65 #[geo m s 40] w fun e w' => e = .returned (.tuple #[ros x0, .int .i64 0]) ∧ Below w.heap.size w w'))
    (P3 : Hid (∀ w : World, Calls Try.prog 66 #[ros x0, .int .i64 (o % m)] w fun e w' => e = .returned (.tuple #[ros x, .bool true]) ∧ Below w.heap.size w w'))
    (P4 : Hid (∀ w : World, Calls Try.prog 66 #[ros x, .int .i64 (o % m)] w fun e w' => e = .returned (.tuple #[ros y, .bool false]) ∧ Below w.heap.size w w'))
    (P5 : Hid (∀ w : World, Calls Try.prog 67 #[ros x, .int .i64 (o % m)] w fun e w' => e = .returned (.tuple #[ros (rx 0), .int .i64 0]) ∧ Below w.heap.size w w'))
    (PH : Hid (∀ (q : Nat) (_ : (q : Int) < s) (w : World), Calls Try.prog 68 #[ros (rx q)] w fun e w' => e = .returned (.tuple #[.int .i64 (o % m), .bool true]) ∧ Below w.heap.size w w'))
    (PN : Hid (∀ (q : Nat) (_ : (q : Int) < s) (w : World), Calls Try.prog 69 #[ros (rx q)] w fun e w' => e = .returned (.tuple #[ros (rx (q + 1)), .int .i64 0]) ∧ Below w.heap.size w w'))
    (PA : Hid (∀ (q : Nat) (_ : (q : Int) ≤ s) (i : Nat) (_ : (i : Int) < m) (t : Nat) (_ : (t : Int) < s) (w : World), Calls Try.prog 70 #[ros (rx q), .int .i64 (i : Int), .int .i64 (t : Int)] w fun e w' => e = .returned (.bool (decide ((i : Int) ≠ o % m ∨ t < q))) ∧ Below w.heap.size w w'))
    (PL : Hid (∀ w : World, Calls Try.prog 71 #[] w fun e w' => e = .returned (.bool true) ∧ Below w.heap.size w w')) (w : World) : Calls Try.prog 16 #[.int .u8 a1, .int .u8 a2, .int .u8 o] w fun e w' => e = .returned (.bool true) ∧ Below w.heap.size w w' := by
  have HB := Lib.hid (Below.refl w.heap.size w)
  have hm0 : ¬ m = 0 := by omega
  have k0 : 0 ≤ o % m := Int.emod_nonneg _ hm0
  have k1 : o % m < m := Int.emod_lt_of_pos _ (by omega)
  have tok0 : True := trivial
  have tp0 : True := trivial
  go_enter Try.func16, Try.ntmps16
  go_wp2_with (first
    | (go_skip)
    | (have _t := tp0; go_at_call 64; refine (P0.out _).mono ?_; rintro e w1 ⟨rfl, hb1⟩; replace HB := Lib.hid (below_ext HB.out hb1); have hz1 := hb1.size; clear hb1; have tp1 : True := trivial; clear _t tp0)
    | (have _t := tok0; refine F.rowAlloc 68 rfl _ zero_geo rfl ?_; intro w2 hk hb2 hz2; replace HB := Lib.hid (below_ext HB.out hb2); have K7 := Lib.hid hk; have tok1 : True := trivial; clear hk hb2 _t tok0)
    | (refine F.rowStore (cs := #[.int .i64 (m), .int .i64 (s), .int .i64 (40)]) 68 (.tmp 7) (.tmp 24) rfl K7.out rfl rfl info_geo rfl (ones_geo _ _ _) rfl ?_; intro w3 hk hg; replace HB := Lib.hid (below_at HB.out hg (by omega) K7.out.lt); replace K7 := Lib.hid hk; have hz3 := hg.size; clear hk hg)
    | (refine F.rowLoad 68 (.tmp 7) rfl K7.out rfl Try.underlying68 rfl info_geo rfl ?_)
    | (have _t := tp1; go_at_call 65; refine (P1.out _).mono ?_; rintro e w4 ⟨rfl, hb4⟩; replace K7 := Lib.hid (K7.out.below hb4); replace HB := Lib.hid (below_ext HB.out hb4); have hz4 := hb4.size; clear hb4; have tp2 : True := trivial; clear _t tp1)
    | (have _t := tok1; refine rosAlloc rfl rfl ?_; intro w5 hk hb5 hz5; replace K7 := Lib.hid (K7.out.below hb5); replace HB := Lib.hid (below_ext HB.out hb5); have K8 := Lib.hid hk; clear hk hb5; have tok2 : True := trivial; clear _t tok1)
    | (refine rosStore (.tmp 8) (.tmp 28) rfl K8.out rfl rfl H0.out rfl ?_; intro w6 hk hg; replace HB := Lib.hid (below_at HB.out hg (by omega) K8.out.lt); replace K7 := Lib.hid (K7.out.grown hg (by omega)); replace K8 := Lib.hid hk; have hz6 := hg.size; clear hk hg)
    | (refine F.rowCell _ (.tmp 32) rfl (K7.out.cell (o := 0) rfl) rfl agg_int rfl ?_)
    | (refine rosLoad (.tmp 8) rfl K8.out rfl rfl ?_)
    | (have _t := tp2; go_at_call 66; refine (P3.out _).mono ?_; rintro e w7 ⟨rfl, hb7⟩; replace K7 := Lib.hid (K7.out.below hb7); replace K8 := Lib.hid (K8.out.below hb7); replace HB := Lib.hid (below_ext HB.out hb7); have hz7 := hb7.size; clear hb7; have tp3 : True := trivial; clear _t tp2)
    | (have _t := tok2; refine rosAlloc rfl rfl ?_; intro w8 hk hb8 hz8; replace K7 := Lib.hid (K7.out.below hb8); replace K8 := Lib.hid (K8.out.below hb8); replace HB := Lib.hid (below_ext HB.out hb8); have K11 := Lib.hid hk; clear hk hb8; have tok3 : True := trivial; clear _t tok2)
    | (refine rosStore (.tmp 11) (.tmp 39) rfl K11.out rfl rfl HX.out rfl ?_; intro w9 hk hg; replace HB := Lib.hid (below_at HB.out hg (by omega) K11.out.lt); replace K7 := Lib.hid (K7.out.grown hg (by omega)); replace K8 := Lib.hid (K8.out.grown hg (by omega)); replace K11 := Lib.hid hk; have hz9 := hg.size; clear hk hg)
    | (refine rosLoad (.tmp 11) rfl K11.out rfl rfl ?_)
    | (have _t := tp3; go_at_call 66; refine (P4.out _).mono ?_; rintro e w10 ⟨rfl, hb10⟩; replace K7 := Lib.hid (K7.out.below hb10); replace K8 := Lib.hid (K8.out.below hb10); replace K11 := Lib.hid (K11.out.below hb10); replace HB := Lib.hid (below_ext HB.out hb10); have hz10 := hb10.size; clear hb10; have tp4 : True := trivial; clear _t tp3)
    | (have _t := tok3; refine rosAlloc rfl rfl ?_; intro w11 hk hb11 hz11; replace K7 := Lib.hid (K7.out.below hb11); replace K8 := Lib.hid (K8.out.below hb11); replace K11 := Lib.hid (K11.out.below hb11); replace HB := Lib.hid (below_ext HB.out hb11); have K13 := Lib.hid hk; clear hk hb11; have tok4 : True := trivial; clear _t tok3)
    | (refine rosStore (.tmp 13) (.tmp 51) rfl K13.out rfl rfl HY.out rfl ?_; intro w12 hk hg; replace HB := Lib.hid (below_at HB.out hg (by omega) K13.out.lt); replace K7 := Lib.hid (K7.out.grown hg (by omega)); replace K8 := Lib.hid (K8.out.grown hg (by omega)); replace K11 := Lib.hid (K11.out.grown hg (by omega)); replace K13 := Lib.hid hk; have hz12 := hg.size; clear hk hg)
    | (have _t := tp4; go_at_call 67; refine (P5.out _).mono ?_; rintro e w13 ⟨rfl, hb13⟩; replace K7 := Lib.hid (K7.out.below hb13); replace K8 := Lib.hid (K8.out.below hb13); replace K11 := Lib.hid (K11.out.below hb13); replace K13 := Lib.hid (K13.out.below hb13); replace HB := Lib.hid (below_ext HB.out hb13); have hz13 := hb13.size; clear hb13; have tp5 : True := trivial; clear _t tp4)
    | (refine rosStore (.tmp 11) (.tmp 57) rfl K11.out rfl rfl (HR.out 0) rfl ?_; intro w14 hk hg; replace HB := Lib.hid (below_at HB.out hg (by omega) K11.out.lt); replace K7 := Lib.hid (K7.out.grown hg (by omega)); replace K8 := Lib.hid (K8.out.grown hg (by omega)); replace K13 := Lib.hid (K13.out.grown hg (by omega)); replace K11 := Lib.hid hk; have hz14 := hg.size; clear hk hg))
  clear K13
  go_loopw [15] (fun i wr => ∃ q : Nat, (q : Int) ≤ s ∧ i = .int .i64 (q : Int) ∧ Hid (Row 68 wr w1.heap.size #[.int .i64 m, .int .i64 s, .int .i64 40]) ∧ Hid (Ros wr w4.heap.size x0) ∧ Hid (Ros wr w7.heap.size (rx q)) ∧ Hid (Below w.heap.size w wr)) (fun i _ => s.toNat - (intOf i).toNat)
  case atStart => exact ⟨0, by omega, rfl, K7, K8, K11, HB⟩
  case round =>
    clear K7 K8 K11 HB
    obtain ⟨q, hq, rfl, K7, K8, K11, HB⟩ := hrel
    have l7 := K7.out.lt
    have l8 := K8.out.lt
    have l11 := K11.out.lt
    by_cases hlt : (q : Int) < s
    · have gl : decide ((q : Int) < s) = true := by simpa using hlt
      have gcu : ((rx q).cu != (q : Int)) = false := by rw [HC.out q hlt]; simp
      have PHq := Lib.hid fun w => PH.out q hlt w
      have PNq := Lib.hid fun w => PN.out q hlt w
      have tok0 : True := trivial
      have ta0 : True := trivial
      go_wp2_with (first
        | (go_skip)
        | (refine F.rowCell _ (.tmp 65) rfl (K7.out.cell (o := 1) rfl) rfl agg_int rfl ?_)
        | (refine rosLoad (.tmp 11) rfl K11.out rfl rfl ?_)
        | (have _t := ta0; go_at_call 68; refine (PHq.out _).mono ?_; rintro e w21 ⟨rfl, hb21⟩; replace K7 := Lib.hid (K7.out.below hb21); replace K8 := Lib.hid (K8.out.below hb21); replace K11 := Lib.hid (K11.out.below hb21); replace HB := Lib.hid (below_ext HB.out hb21); have hz21 := hb21.size; clear hb21; have ta1 : True := trivial; clear _t ta0)
        | (refine F.rowCell _ (.tmp 83) rfl K11.out.ccu rfl agg_int rfl ?_)
        | (have _t := ta1; go_at_call 69; refine (PNq.out _).mono ?_; rintro e w22 ⟨rfl, hb22⟩; replace K7 := Lib.hid (K7.out.below hb22); replace K8 := Lib.hid (K8.out.below hb22); replace K11 := Lib.hid (K11.out.below hb22); replace HB := Lib.hid (below_ext HB.out hb22); have hz22 := hb22.size; clear hb22; have ta2 : True := trivial; clear _t ta1)
        | (have _t := tok0; refine rosAlloc rfl rfl ?_; intro w23 hk hb23 hz23; replace K7 := Lib.hid (K7.out.below hb23); replace K8 := Lib.hid (K8.out.below hb23); replace K11 := Lib.hid (K11.out.below hb23); replace HB := Lib.hid (below_ext HB.out hb23); have K18 := Lib.hid hk; clear hk hb23; have tok1 : True := trivial; clear _t tok0)
        | (refine rosStore (.tmp 18) (.tmp 91) rfl K18.out rfl rfl (HR.out (q + 1)) rfl ?_; intro w24 hk hg; replace HB := Lib.hid (below_at HB.out hg (by omega) K18.out.lt); replace K7 := Lib.hid (K7.out.grown hg (by omega)); replace K8 := Lib.hid (K8.out.grown hg (by omega)); replace K11 := Lib.hid (K11.out.grown hg (by omega)); replace K18 := Lib.hid hk; have hz24 := hg.size; clear hk hg))
      clear gcu PHq PNq
      go_loopw [20] (fun i wr => ∃ a : Nat, (a : Int) ≤ m ∧ i = .int .i64 (a : Int) ∧ Hid (Row 68 wr w1.heap.size #[.int .i64 m, .int .i64 s, .int .i64 40]) ∧ Hid (Ros wr w4.heap.size x0) ∧ Hid (Ros wr w7.heap.size (rx q)) ∧ Hid (Ros wr w22.heap.size (rx (q + 1))) ∧ Hid (Below w.heap.size w wr)) (fun i _ => m.toNat - (intOf i).toNat)
      case atStart => exact ⟨0, by omega, rfl, K7, K8, K11, K18, HB⟩
      case round =>
        clear K7 K8 K11 K18 HB
        obtain ⟨a, ha, rfl, K7, K8, K11, K18, HB⟩ := hrel
        by_cases hla : (a : Int) < m
        · have gla : decide ((a : Int) < m) = true := by simpa using hla
          have tok0 : True := trivial
          have tb0 : True := trivial
          go_wp2_with (first
            | (go_skip)
            | (refine F.rowCell _ (.tmp 96) rfl (K7.out.cell (o := 0) rfl) rfl agg_int rfl ?_))
          go_loopw [21] (fun i wr => ∃ t : Nat, (t : Int) ≤ s ∧ i = .int .i64 (t : Int) ∧ Hid (Row 68 wr w1.heap.size #[.int .i64 m, .int .i64 s, .int .i64 40]) ∧ Hid (Ros wr w4.heap.size x0) ∧ Hid (Ros wr w7.heap.size (rx q)) ∧ Hid (Ros wr w22.heap.size (rx (q + 1))) ∧ Hid (Below w.heap.size w wr)) (fun i _ => s.toNat - (intOf i).toNat)
          case atStart => exact ⟨0, by omega, rfl, K7, K8, K11, K18, HB⟩
          case round =>
            clear K7 K8 K11 K18 HB
            obtain ⟨t, ht, rfl, K7, K8, K11, K18, HB⟩ := hrel
            by_cases hlt2 : (t : Int) < s
            · have glt : decide ((t : Int) < s) = true := by simpa using hlt2
              have p1 := fun w => PA.out q hq a hla t hlt2 w
              have p2 := fun w => PA.out (q + 1) (by omega) a hla t hlt2 w
              by_cases he : (a : Int) = o % m
              · have ge : ((a : Int) != o % m) = false := by simpa using he
                rcases Nat.lt_trichotomy t q with h | h | h
                · rw [show decide ((a : Int) ≠ o % m ∨ t < q) = true from by exact decide_eq_true (by omega)] at p1
                  rw [show decide ((a : Int) ≠ o % m ∨ t < q + 1) = true from by exact decide_eq_true (by omega)] at p2
                  have PA1 := Lib.hid p1
                  have PA2 := Lib.hid p2
                  clear p1 p2
                  have gn1 : decide (t < q) = true := by simp; omega
                  have gi1 : decide ((t : Int) < (q : Int)) = true := by simp; omega
                  have gn2 : decide (t ≤ q) = true := by simp; omega
                  have gi2 : decide ((t : Int) ≤ (q : Int)) = true := by simp; omega
                  clear he h
                  have tok0 : True := trivial
                  have tc0 : True := trivial
                  go_wp2_with (first
                    | (go_skip)
                    | (refine F.rowCell _ (.tmp 102) rfl (K7.out.cell (o := 1) rfl) rfl agg_int rfl ?_)
                    | (refine rosLoad (.tmp 11) rfl K11.out rfl rfl ?_)
                    | (have _t := tc0; go_at_call 70; refine (PA1.out _).mono ?_; rintro e w41 ⟨rfl, hb41⟩; replace K7 := Lib.hid (K7.out.below hb41); replace K8 := Lib.hid (K8.out.below hb41); replace K11 := Lib.hid (K11.out.below hb41); replace K18 := Lib.hid (K18.out.below hb41); replace HB := Lib.hid (below_ext HB.out hb41); have hz41 := hb41.size; clear hb41; have tc1 : True := trivial; clear _t tc0)
                    | (refine rosLoad (.tmp 18) rfl K18.out rfl rfl ?_)
                    | (have _t := tc1; go_at_call 70; refine (PA2.out _).mono ?_; rintro e w42 ⟨rfl, hb42⟩; replace K7 := Lib.hid (K7.out.below hb42); replace K8 := Lib.hid (K8.out.below hb42); replace K11 := Lib.hid (K11.out.below hb42); replace K18 := Lib.hid (K18.out.below hb42); replace HB := Lib.hid (below_ext HB.out hb42); have hz42 := hb42.size; clear hb42; have tc2 : True := trivial; clear _t tc1))
                  go_roundw
                  case rel => exact ⟨t + 1, by omega, by go_num, K7, K8, K11, K18, HB⟩
                  case measure => simp [intOf]; omega
                · rw [show decide ((a : Int) ≠ o % m ∨ t < q) = false from by exact decide_eq_false (by omega)] at p1
                  rw [show decide ((a : Int) ≠ o % m ∨ t < q + 1) = true from by exact decide_eq_true (by omega)] at p2
                  have PA1 := Lib.hid p1
                  have PA2 := Lib.hid p2
                  clear p1 p2
                  have gn1 : decide (t < q) = false := by simp; omega
                  have gi1 : decide ((t : Int) < (q : Int)) = false := by simp; omega
                  have gn2 : decide (t ≤ q) = true := by simp; omega
                  have gi2 : decide ((t : Int) ≤ (q : Int)) = true := by simp; omega
                  clear he h
                  have tok0 : True := trivial
                  have tc0 : True := trivial
                  go_wp2_with (first
                    | (go_skip)
                    | (refine F.rowCell _ (.tmp 102) rfl (K7.out.cell (o := 1) rfl) rfl agg_int rfl ?_)
                    | (refine rosLoad (.tmp 11) rfl K11.out rfl rfl ?_)
                    | (have _t := tc0; go_at_call 70; refine (PA1.out _).mono ?_; rintro e w41 ⟨rfl, hb41⟩; replace K7 := Lib.hid (K7.out.below hb41); replace K8 := Lib.hid (K8.out.below hb41); replace K11 := Lib.hid (K11.out.below hb41); replace K18 := Lib.hid (K18.out.below hb41); replace HB := Lib.hid (below_ext HB.out hb41); have hz41 := hb41.size; clear hb41; have tc1 : True := trivial; clear _t tc0)
                    | (refine rosLoad (.tmp 18) rfl K18.out rfl rfl ?_)
                    | (have _t := tc1; go_at_call 70; refine (PA2.out _).mono ?_; rintro e w42 ⟨rfl, hb42⟩; replace K7 := Lib.hid (K7.out.below hb42); replace K8 := Lib.hid (K8.out.below hb42); replace K11 := Lib.hid (K11.out.below hb42); replace K18 := Lib.hid (K18.out.below hb42); replace HB := Lib.hid (below_ext HB.out hb42); have hz42 := hb42.size; clear hb42; have tc2 : True := trivial; clear _t tc1))
                  go_roundw
                  case rel => exact ⟨t + 1, by omega, by go_num, K7, K8, K11, K18, HB⟩
                  case measure => simp [intOf]; omega
                · rw [show decide ((a : Int) ≠ o % m ∨ t < q) = false from by exact decide_eq_false (by omega)] at p1
                  rw [show decide ((a : Int) ≠ o % m ∨ t < q + 1) = false from by exact decide_eq_false (by omega)] at p2
                  have PA1 := Lib.hid p1
                  have PA2 := Lib.hid p2
                  clear p1 p2
                  have gn1 : decide (t < q) = false := by simp; omega
                  have gi1 : decide ((t : Int) < (q : Int)) = false := by simp; omega
                  have gn2 : decide (t ≤ q) = false := by simp; omega
                  have gi2 : decide ((t : Int) ≤ (q : Int)) = false := by simp; omega
                  clear he h
                  have tok0 : True := trivial
                  have tc0 : True := trivial
                  go_wp2_with (first
                    | (go_skip)
                    | (refine F.rowCell _ (.tmp 102) rfl (K7.out.cell (o := 1) rfl) rfl agg_int rfl ?_)
                    | (refine rosLoad (.tmp 11) rfl K11.out rfl rfl ?_)
                    | (have _t := tc0; go_at_call 70; refine (PA1.out _).mono ?_; rintro e w41 ⟨rfl, hb41⟩; replace K7 := Lib.hid (K7.out.below hb41); replace K8 := Lib.hid (K8.out.below hb41); replace K11 := Lib.hid (K11.out.below hb41); replace K18 := Lib.hid (K18.out.below hb41); replace HB := Lib.hid (below_ext HB.out hb41); have hz41 := hb41.size; clear hb41; have tc1 : True := trivial; clear _t tc0)
                    | (refine rosLoad (.tmp 18) rfl K18.out rfl rfl ?_)
                    | (have _t := tc1; go_at_call 70; refine (PA2.out _).mono ?_; rintro e w42 ⟨rfl, hb42⟩; replace K7 := Lib.hid (K7.out.below hb42); replace K8 := Lib.hid (K8.out.below hb42); replace K11 := Lib.hid (K11.out.below hb42); replace K18 := Lib.hid (K18.out.below hb42); replace HB := Lib.hid (below_ext HB.out hb42); have hz42 := hb42.size; clear hb42; have tc2 : True := trivial; clear _t tc1))
                  go_roundw
                  case rel => exact ⟨t + 1, by omega, by go_num, K7, K8, K11, K18, HB⟩
                  case measure => simp [intOf]; omega
              · rw [show decide ((a : Int) ≠ o % m ∨ t < q) = true from by exact decide_eq_true (by omega)] at p1
                rw [show decide ((a : Int) ≠ o % m ∨ t < q + 1) = true from by exact decide_eq_true (by omega)] at p2
                have PA1 := Lib.hid p1
                have PA2 := Lib.hid p2
                clear p1 p2
                have ge : ((a : Int) != o % m) = true := by simpa using he
                clear he
                have tok0 : True := trivial
                have tc0 : True := trivial
                go_wp2_with (first
                  | (go_skip)
                  | (refine F.rowCell _ (.tmp 102) rfl (K7.out.cell (o := 1) rfl) rfl agg_int rfl ?_)
                  | (refine rosLoad (.tmp 11) rfl K11.out rfl rfl ?_)
                  | (have _t := tc0; go_at_call 70; refine (PA1.out _).mono ?_; rintro e w41 ⟨rfl, hb41⟩; replace K7 := Lib.hid (K7.out.below hb41); replace K8 := Lib.hid (K8.out.below hb41); replace K11 := Lib.hid (K11.out.below hb41); replace K18 := Lib.hid (K18.out.below hb41); replace HB := Lib.hid (below_ext HB.out hb41); have hz41 := hb41.size; clear hb41; have tc1 : True := trivial; clear _t tc0)
                  | (refine rosLoad (.tmp 18) rfl K18.out rfl rfl ?_)
                  | (have _t := tc1; go_at_call 70; refine (PA2.out _).mono ?_; rintro e w42 ⟨rfl, hb42⟩; replace K7 := Lib.hid (K7.out.below hb42); replace K8 := Lib.hid (K8.out.below hb42); replace K11 := Lib.hid (K11.out.below hb42); replace K18 := Lib.hid (K18.out.below hb42); replace HB := Lib.hid (below_ext HB.out hb42); have hz42 := hb42.size; clear hb42; have tc2 : True := trivial; clear _t tc1))
                go_roundw
                case rel => exact ⟨t + 1, by omega, by go_num, K7, K8, K11, K18, HB⟩
                case measure => simp [intOf]; omega
            · have glt : decide ((t : Int) < s) = false := by simpa using hlt2
              have tok0 : True := trivial
              have td0 : True := trivial
              go_wp2_with (first
                | (go_skip)
                | (refine F.rowCell _ (.tmp 102) rfl (K7.out.cell (o := 1) rfl) rfl agg_int rfl ?_))
              go_roundw
              case rel => exact ⟨a + 1, by omega, by go_num, K7, K8, K11, K18, HB⟩
              case measure => simp [intOf]; omega
        · have gla : decide ((a : Int) < m) = false := by simpa using hla
          have tok0 : True := trivial
          have te0 : True := trivial
          go_wp2_with (first
            | (go_skip)
            | (refine F.rowCell _ (.tmp 96) rfl (K7.out.cell (o := 0) rfl) rfl agg_int rfl ?_)
            | (refine rosLoad (.tmp 18) rfl K18.out rfl rfl ?_)
            | (refine rosStore (.tmp 11) (.tmp 135) rfl K11.out rfl rfl (HR.out (q + 1)) rfl ?_; intro w61 hk hg; replace HB := Lib.hid (below_at HB.out hg (by omega) K11.out.lt); replace K7 := Lib.hid (K7.out.grown hg (by omega)); replace K8 := Lib.hid (K8.out.grown hg (by omega)); replace K18 := Lib.hid (K18.out.grown hg (by omega)); replace K11 := Lib.hid hk; have hz61 := hg.size; clear hk hg))
          go_roundw
          case rel => exact ⟨q + 1, by omega, by go_num, K7, K8, K11, HB⟩
          case measure => simp [intOf]; omega
    · have gl : decide ((q : Int) < s) = false := by simpa using hlt
      rw [HE.out q (by omega)] at K11
      have tok0 : True := trivial
      have tf0 : True := trivial
      go_wp2_with (first
        | (go_skip)
        | (refine F.rowCell _ (.tmp 65) rfl (K7.out.cell (o := 1) rfl) rfl agg_int rfl ?_)
        | (refine rosLoad (.tmp 11) rfl K11.out rfl rfl ?_)
        | (refine rosLoad (.tmp 8) rfl K8.out rfl rfl ?_)
        | (refine rosEqlS (.tmp 136) (.tmp 137) _ rfl rfl rfl H0.out H0.out true (eqR_self x0) rfl ?_)
        | (have _t := tf0; go_at_call 71; refine (PL.out _).mono ?_; rintro e w71 ⟨rfl, hb71⟩; replace K7 := Lib.hid (K7.out.below hb71); replace K8 := Lib.hid (K8.out.below hb71); replace K11 := Lib.hid (K11.out.below hb71); replace HB := Lib.hid (below_ext HB.out hb71); have hz71 := hb71.size; clear hb71; have tf1 : True := trivial; clear _t tf0))
      go_ret
      exact ⟨rfl, HB.out⟩
end Go.Proofs.Ytdchcggllcgokaa.Q
