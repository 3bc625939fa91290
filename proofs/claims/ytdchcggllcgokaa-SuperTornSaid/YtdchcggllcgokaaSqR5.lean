/-
  ashlarref08.Get: walk 5.
-/
import Derived.Test.YtdchcggllcgokaaSqP
import Derived.Deep.RegionHeld3
import Derived.Deep.MidRow
import Derived.StillTail
import Derived.StillTactics
namespace Go.Proofs.Ytdchcggllcgokaa.Q
open Go.RowKit Go.Proofs.Ytdchcggllcgokaa.L Go.Proofs.Ytdchcggllcgokaa.U Go.Proofs.Ytdchcggllcgokaa.E Go.Proofs.Ytdchcggllcgokaa.R Go.Proofs.YtdchcggllcgokaaW.PrintWords
set_option linter.unusedVariables false
set_option linter.unusedSimpArgs false
set_option maxRecDepth 100000 in
set_option maxHeartbeats 8000000 in
theorem rGet_5 (xs : List Int) (HX : Hid (xs.length = 64)) (D l : List Int) (HD : Hid (D.length = 44)) (HLl : Hid (l.length = 16)) (n i m s r se cu gn : Nat) (nl : n < 18446744073709551616) (il : i < 18446744073709551616) (ml : m < 256) (sl : s < 65536) (rl : r < 65536) (el : se < 256) (ul : cu < 65536) (gl : gn < 256) (q : Bool) (hq : ((gn : Int) == 1) = q) (hg20 : Hid (rd D (20 : Nat) = (gn : Int))) (X : List Int) (HXl : Hid (X.length = 64)) (hne : Hid (decide (X = xs) = true))
    (PG : Hid (∀ w : World, Calls Try.prog 60 #[blk xs] w fun e w' => (∃ A k, e = .returned (.tuple #[.int .u64 (n : Int), .slice A 44 k, .int .i64 0]) ∧ Byts w.heap.size w' A k D) ∧ Below w.heap.size w w'))
    (P0 : Hid (AtD 45 0 8 D i)) (P1 : Hid (AtD 45 8 1 D m)) (P2 : Hid (AtD 45 9 2 D s)) (P3 : Hid (AtD 45 11 2 D r)) (P4 : Hid (AtD 45 13 1 D se)) (P5 : Hid (AtD 45 18 2 D cu)) (P6 : Hid (AtD 45 20 1 D gn))
    (PU : Hid (∀ (A : Option Addr) (c : Nat) (w : World), ReadsInt w .u8 A 4 ((D.drop 14).take 4) → Calls Try.prog 37 #[.slice A 4 c, .int .i64 2, .int .i64 16] w fun e w' => (∃ A' c', e = .returned (.tuple #[.slice A' 16 c', .int .i64 0]) ∧ Byts w.heap.size w' A' c' l) ∧ Below w.heap.size w w'))
    (PE : Hid (∀ w : World, Calls Try.prog 140 #[.int .u64 (n : Int)] w fun e w' => e = .returned (.bool true) ∧ Below w.heap.size w w'))
    (PM : Hid (∀ w : World, Calls Try.prog 109 #[sup ⟨i, (se : Int), ⟨(m : Int), (s : Int), (r : Int), l, (cu : Int), q⟩⟩] w fun e w' => e = .returned (.bool true) ∧ Below w.heap.size w w'))
    (B : List Int) (PB : Hid (∀ w : World, Calls Try.prog 141 #[sup ⟨i, (se : Int), ⟨(m : Int), (s : Int), (r : Int), l, (cu : Int), q⟩⟩] w fun e w' => (∃ A k, e = .returned (.slice A B.length k) ∧ Byts w.heap.size w' A k B) ∧ Below w.heap.size w w'))
    (PP : Hid (∀ (A : Option Addr) (c : Nat) (w : World), ReadsInt w .u8 A B.length B → Calls Try.prog 57 #[.int .u64 (n : Int), .slice A B.length c] w fun e w' => e = .returned (.tuple #[blk X, .int .i64 0]) ∧ Below w.heap.size w w')) (w : World) : Calls Try.prog 104 #[blk xs] w fun e w' => e = .returned (.tuple #[.int .u64 (n : Int), sup ⟨i, (se : Int), ⟨(m : Int), (s : Int), (r : Int), l, (cu : Int), q⟩⟩, .int .i64 0]) ∧ Below w.heap.size w w' := by
  have HB := Lib.hid (Below.refl w.heap.size w)
  have HZ := Lib.hid zero16_length
  have tok0 : True := trivial
  have tp0 : True := trivial
  go_enter Try.func104, Try.ntmps104
  go_wp2_with (first
    | (go_skip)
    | (refine F.blkBox (.tmp 0) rfl rfl HX.out rfl ?_; intro w1 hk hb1 hz1; replace HB := Lib.hid (below_ext HB.out hb1); have K1 := Lib.hid hk; clear hk hb1)
    | (have _t := tok0; refine supAlloc rfl rfl ?_; intro w2 hk hb2 hz2; replace K1 := Lib.hid (K1.out.below hb2); replace HB := Lib.hid (below_ext HB.out hb2); have K3 := Lib.hid hk; clear hk hb2; have tok1 : True := trivial; clear _t tok0)
    | (refine F.blkLoad (.tmp 1) rfl K1.out rfl rfl ?_)
    | (have _t := tp0; go_at_call 60; refine (PG.out _).mono ?_; rintro e w3 ⟨⟨A1, c1, rfl, o1⟩, hb3⟩; have O1 := Lib.hid o1; replace K1 := Lib.hid (K1.out.below hb3); replace K3 := Lib.hid (K3.out.below hb3); replace HB := Lib.hid (below_ext HB.out hb3); have hz3 := hb3.size; have c44 : 44 ≤ c1 := (by have h := o1.le; rw [HD.out] at h; exact h); have cm := o1.cap; clear hb3; have tp1 : True := trivial; clear _t tp0)
    | (have _t := tp1; go_at_call 45; refine (P0.out _ _ c44 cm _ (rd44 HD.out O1.out)).mono ?_; rintro e w4 ⟨rfl, hb4⟩; replace K1 := Lib.hid (K1.out.below hb4); replace K3 := Lib.hid (K3.out.below hb4); replace O1 := Lib.hid (O1.out.below hb4); replace HB := Lib.hid (below_ext HB.out hb4); have hz4 := hb4.size; clear hb4; have tp2 : True := trivial; clear _t tp1)
    | (have _t := tp2; go_at_call 139; refine (number_any D 1 13 c1 se A1 (by decide) (by decide) (by omega) c44 cm P4 _ (Lib.hid (rd44 HD.out O1.out))).mono ?_; rintro e w5 ⟨rfl, hb5⟩; replace K1 := Lib.hid (K1.out.below hb5); replace K3 := Lib.hid (K3.out.below hb5); replace O1 := Lib.hid (O1.out.below hb5); replace HB := Lib.hid (below_ext HB.out hb5); have hz5 := hb5.size; clear hb5; have tp3 : True := trivial; clear _t tp2)
    | (refine supBuildIS (.tmp 31) (.tmp 33) rfl rfl rfl rfl ?_)
    | (have _t := tok1; refine supAlloc rfl rfl ?_; intro w6 hk hb6 hz6; replace K1 := Lib.hid (K1.out.below hb6); replace K3 := Lib.hid (K3.out.below hb6); replace O1 := Lib.hid (O1.out.below hb6); replace HB := Lib.hid (below_ext HB.out hb6); have K10 := Lib.hid hk; clear hk hb6; have tok2 : True := trivial; clear _t tok1)
    | (refine supStore (.tmp 10) (.tmp 34) rfl K10.out rfl rfl zero16_length rfl ?_; intro w7 hk hg; replace HB := Lib.hid (below_at HB.out hg (by omega) K10.out.lt); replace K1 := Lib.hid (K1.out.grown hg (by omega)); replace K3 := Lib.hid (K3.out.grown hg (by omega)); replace O1 := Lib.hid (Byts.apart O1.out K10.out.2 hg (by decide)); replace K10 := Lib.hid hk; have hz7 := hg.size; clear hk hg)
    | (have _t := tp3; go_at_call 139; refine (number_any D 1 8 c1 m A1 (by decide) (by decide) (by omega) c44 cm P1 _ (Lib.hid (rd44 HD.out O1.out))).mono ?_; rintro e w8 ⟨rfl, hb8⟩; replace K1 := Lib.hid (K1.out.below hb8); replace K3 := Lib.hid (K3.out.below hb8); replace O1 := Lib.hid (O1.out.below hb8); replace K10 := Lib.hid (K10.out.below hb8); replace HB := Lib.hid (below_ext HB.out hb8); have hz8 := hb8.size; clear hb8; have tp4 : True := trivial; clear _t tp3)
    | (have _t := tp4; go_at_call 139; refine (number_any D 2 9 c1 s A1 (by decide) (by decide) (by omega) c44 cm P2 _ (Lib.hid (rd44 HD.out O1.out))).mono ?_; rintro e w9 ⟨rfl, hb9⟩; replace K1 := Lib.hid (K1.out.below hb9); replace K3 := Lib.hid (K3.out.below hb9); replace O1 := Lib.hid (O1.out.below hb9); replace K10 := Lib.hid (K10.out.below hb9); replace HB := Lib.hid (below_ext HB.out hb9); have hz9 := hb9.size; clear hb9; have tp5 : True := trivial; clear _t tp4)
    | (have _t := tp5; go_at_call 139; refine (number_any D 2 11 c1 r A1 (by decide) (by decide) (by omega) c44 cm P3 _ (Lib.hid (rd44 HD.out O1.out))).mono ?_; rintro e w10 ⟨rfl, hb10⟩; replace K1 := Lib.hid (K1.out.below hb10); replace K3 := Lib.hid (K3.out.below hb10); replace O1 := Lib.hid (O1.out.below hb10); replace K10 := Lib.hid (K10.out.below hb10); replace HB := Lib.hid (below_ext HB.out hb10); have hz10 := hb10.size; clear hb10; have tp6 : True := trivial; clear _t tp5)
    | (refine supSetGeo (.tmp 43) (.tmp 41) rfl K10.out rfl _ _ _ rfl rfl ?_; intro w11 hk hg; replace HB := Lib.hid (below_at HB.out hg (by omega) K10.out.lt); replace K1 := Lib.hid (K1.out.grown hg (by omega)); replace K3 := Lib.hid (K3.out.grown hg (by omega)); replace O1 := Lib.hid (Byts.apart O1.out K10.out.2 hg (by decide)); replace K10 := Lib.hid (show Sup w11 _ ⟨i, (se : Int), ⟨(m : Int), (s : Int), (r : Int), zero16, 0, false⟩⟩ from hk); have hz11 := hg.size; clear hk hg)
    | (have _t := tp6; go_at_call 37; refine (PU.out _ _ _ (by first | exact sub14' c44 (rd44 HD.out O1.out) | exact sub14 c44 (rd44 HD.out O1.out))).mono ?_; rintro e w12 ⟨⟨A2, c2, rfl, o2⟩, hb12⟩; have O2 := Lib.hid o2; replace K1 := Lib.hid (K1.out.below hb12); replace K3 := Lib.hid (K3.out.below hb12); replace O1 := Lib.hid (O1.out.below hb12); replace K10 := Lib.hid (K10.out.below hb12); replace HB := Lib.hid (below_ext HB.out hb12); have hz12 := hb12.size; clear hb12; have tp7 : True := trivial; clear _t tp6))
  obtain ⟨g1, rfl, hg1⟩ := byts_some O1.out (by rw [HD.out]; decide)
  clear hg1
  go_loopw [13] (fun iv wr => ∃ q1 : Nat, q1 ≤ 16 ∧ iv = .int .i64 (q1 : Int) ∧ Hid (Blk wr w.heap.size xs) ∧ Hid (Sup wr w1.heap.size su0) ∧ Hid (Sup wr w5.heap.size ⟨i, (se : Int), ⟨(m : Int), (s : Int), (r : Int), l.take q1 ++ zero16.drop q1, 0, false⟩⟩) ∧ Hid (Below w.heap.size w wr) ∧ Hid (Byts w2.heap.size wr (some ⟨g1, 0, none⟩) c1 D) ∧ Hid (Byts w11.heap.size wr A2 c2 l)) (fun iv _ => 16 - (intOf iv).toNat)
  case atStart => exact ⟨0, by decide, rfl, K1, K3, Lib.hid K10.out, HB, O1, O2⟩
  case round =>
    clear K1 K3 K10 HB O1 O2
    obtain ⟨q1, hq1, rfl, K1, K3, K10, HB, O1, O2⟩ := hrel
    have hi0 : (0 : Int) ≤ (q1 : Int) := by omega
    have lb1 := K1.out.lt
    have lb3 := K3.out.lt
    have lb10 := K10.out.lt
    have lbh := HB.out.size
    by_cases hlt : q1 < 16
    · have HM := Lib.hid (mid16_length q1 hq1 HLl.out HZ.out)
      have HN := Lib.hid (next16 q1 hlt HLl.out HZ.out)
      obtain ⟨ax, rfl, cx⟩ := (rd16 HLl.out O2.out).at_ (q1 : Int) (by omega) (by omega)
      simp only [Int.toNat_natCast] at cx
      go_wp2_with (first
        | (go_skip)
        | (refine supSetSt (.tmp 63) (.tmp 60) rfl K10.out q1 hlt rfl _ rfl rfl ?_; intro w40 hk hg; replace HB := Lib.hid (below_at HB.out hg (by omega) K10.out.lt); replace K1 := Lib.hid (K1.out.grown hg (by omega)); replace K3 := Lib.hid (K3.out.grown hg (by omega)); replace O1 := Lib.hid (Byts.apart O1.out K10.out.2 hg (by decide)); replace O2 := Lib.hid (Byts.apart O2.out K10.out.2 hg (by decide)); replace K10 := Lib.hid hk; clear hk hg))
      go_roundw
      case rel =>
        have KN := K10.out
        simp only [HN.out] at KN
        first
          | exact ⟨q1 + 1, by omega, by go_num, Lib.hid KN⟩
          | exact ⟨q1 + 1, by omega, by go_num, K1, K3, Lib.hid KN, HB, O1, O2⟩
      case measure => simp [intOf]; omega
    · obtain rfl : q1 = 16 := by omega
      replace K10 := Lib.hid (show Sup wr w5.heap.size ⟨i, (se : Int), ⟨(m : Int), (s : Int), (r : Int), l, 0, false⟩⟩ by have h := K10.out; rw [mid16_end HLl.out HZ.out] at h; exact h)
      clear PG P0 P1 P2 P3 P4 PU O2
      have tok0 : True := trivial
      go_wp2_with (first
        | (go_skip)
        | (go_at_call 139; refine (number_any D 2 18 c1 cu _ (by decide) (by decide) (by omega) c44 cm P5 _ (Lib.hid (rd44 HD.out O1.out))).mono ?_; rintro e w51 ⟨rfl, hb51⟩; replace K1 := Lib.hid (K1.out.below hb51); replace K3 := Lib.hid (K3.out.below hb51); replace K10 := Lib.hid (K10.out.below hb51); replace O1 := Lib.hid (O1.out.below hb51); replace HB := Lib.hid (below_ext HB.out hb51); have hz51 := hb51.size; clear hb51)
        | (refine supSetCu (.tmp 67) (.tmp 65) rfl K10.out rfl _ rfl rfl ?_; intro w52 hk hg; replace HB := Lib.hid (below_at HB.out hg (by omega) K10.out.lt); replace K1 := Lib.hid (K1.out.grown hg (by omega)); replace K3 := Lib.hid (K3.out.grown hg (by omega)); replace O1 := Lib.hid (Byts.apart O1.out K10.out.2 hg (by decide)); replace K10 := Lib.hid (show Sup w52 _ ⟨i, (se : Int), ⟨(m : Int), (s : Int), (r : Int), l, (cu : Int), false⟩⟩ from hk); have hz52 := hg.size; clear hk hg)
        | (refine F.rowCell _ (.tmp 69) rfl (by have h := Byts.cellAt O1.out 20 (by rw [HD.out]; decide); rw [hg20.out] at h; exact h) rfl R.agg_u8 rfl ?_)
        | (refine supSetGo (.tmp 73) (.tmp 71) rfl K10.out rfl _ rfl rfl ?_; intro w53 hk hg; replace HB := Lib.hid (below_at HB.out hg (by omega) K10.out.lt); replace K1 := Lib.hid (K1.out.grown hg (by omega)); replace K3 := Lib.hid (K3.out.grown hg (by omega)); replace O1 := Lib.hid (Byts.apart O1.out K10.out.2 hg (by decide)); replace K10 := Lib.hid (show Sup w53 _ ⟨i, (se : Int), ⟨(m : Int), (s : Int), (r : Int), l, (cu : Int), q⟩⟩ from hk); have hz53 := hg.size; clear hk hg)
        | (go_at_call 140; refine (PE.out _).mono ?_; rintro e w54 ⟨rfl, hb54⟩; replace K1 := Lib.hid (K1.out.below hb54); replace K3 := Lib.hid (K3.out.below hb54); replace K10 := Lib.hid (K10.out.below hb54); replace O1 := Lib.hid (O1.out.below hb54); replace HB := Lib.hid (below_ext HB.out hb54); have hz54 := hb54.size; clear hb54)
        | (refine supLoad (.tmp 10) rfl K10.out rfl rfl ?_)
        | (go_at_call 109; refine (PM.out _).mono ?_; rintro e w55 ⟨rfl, hb55⟩; replace K1 := Lib.hid (K1.out.below hb55); replace K3 := Lib.hid (K3.out.below hb55); replace K10 := Lib.hid (K10.out.below hb55); replace O1 := Lib.hid (O1.out.below hb55); replace HB := Lib.hid (below_ext HB.out hb55); have hz55 := hb55.size; clear hb55)
        | (go_at_call 141; refine (PB.out _).mono ?_; rintro e w56 ⟨⟨A5, c5, rfl, o5⟩, hb56⟩; have O5 := Lib.hid o5; replace K1 := Lib.hid (K1.out.below hb56); replace K3 := Lib.hid (K3.out.below hb56); replace K10 := Lib.hid (K10.out.below hb56); replace O1 := Lib.hid (O1.out.below hb56); replace HB := Lib.hid (below_ext HB.out hb56); have hz56 := hb56.size; clear hb56)
        | (go_at_call 57; refine (PP.out _ _ _ O5.out.reads).mono ?_; rintro e w57 ⟨rfl, hb57⟩; replace K1 := Lib.hid (K1.out.below hb57); replace K3 := Lib.hid (K3.out.below hb57); replace K10 := Lib.hid (K10.out.below hb57); replace O1 := Lib.hid (O1.out.below hb57); replace O5 := Lib.hid (O5.out.below hb57); replace HB := Lib.hid (below_ext HB.out hb57); have hz57 := hb57.size; clear hb57)
        | (have _t := tok0; refine F.blkAlloc rfl rfl ?_; intro w58 hk hb58 hz58; replace K1 := Lib.hid (K1.out.below hb58); replace K3 := Lib.hid (K3.out.below hb58); replace K10 := Lib.hid (K10.out.below hb58); replace HB := Lib.hid (below_ext HB.out hb58); have K14 := Lib.hid hk; have tok1 : True := trivial; clear hk hb58 _t tok0)
        | (refine F.blkStore (.tmp 14) (.tmp 88) rfl K14.out rfl rfl HXl.out rfl ?_; intro w59 hk hg; replace HB := Lib.hid (below_at HB.out hg (by omega) K14.out.lt); replace K1 := Lib.hid (K1.out.grown hg (by omega)); replace K3 := Lib.hid (K3.out.grown hg (by omega)); replace K10 := Lib.hid (K10.out.grown hg (by omega)); replace K14 := Lib.hid hk; have hz59 := hg.size; clear hk hg)
        | (refine F.blkLoad (.tmp 14) rfl K14.out rfl rfl ?_)
        | (refine F.blkLoad (.tmp 1) rfl K1.out rfl rfl ?_)
        | (refine F.blkNeq (.tmp 90) (.tmp 91) _ rfl rfl rfl HXl.out HX.out false (by rw [hne.out]; rfl) rfl ?_))
      have LK := K10.out.lt
      refine wp_region_still_tail 3 (by kernel_rfl) (by kernel_rfl) ?_
      simp only [List.take_succ_cons, List.take_zero, List.drop_succ_cons, List.drop_zero]
      still_step
      refine sSupLoad (.tmp 10) rfl (K10.out.below (below_drewN (Below.refl _ _) 1)) rfl rfl ?_
      still_step
      refine wpStill_nil ?_
      have hbd := below_drewN HB.out 1
      have K3d := Lib.hid (K3.out.below (below_drewN (Below.refl w59.heap.size w59) 1))
      change wpList _ _ _ _ _ (w59.drewN 1)
      replace HB := Lib.hid hbd
      have hzd : w59.heap.size ≤ (w59.drewN 1).heap.size := Nat.le_refl _
      clear hbd
      generalize w59.drewN 1 = w30 at K3d HB hzd ⊢
      go_wp2_with (first
        | (go_skip)
        | (refine supStore (.tmp 3) (.tmp 95) rfl K3d.out rfl rfl HLl.out rfl ?_; intro w31 hk hg; replace HB := Lib.hid (below_at HB.out hg (by omega) K3d.out.lt); replace K3d := Lib.hid hk; clear hk hg))
      exact bodyPost_ret (v := .tuple #[.int .u64 (n : Int), sup ⟨i, (se : Int), ⟨(m : Int), (s : Int), (r : Int), l, (cu : Int), q⟩⟩, .int .i64 0]) (ret_sup rfl _ _ K3d.out rfl rfl rfl) rfl ⟨rfl, HB.out⟩
end Go.Proofs.Ytdchcggllcgokaa.Q
