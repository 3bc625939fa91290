/-
  super.Get: walk 6.
-/
import Derived.Test.YtdchcggllcgokaaSqN
import Derived.Deep.RegionHeld3
import Derived.Deep.MidRow
import Derived.StillTail
import Derived.StillTactics
namespace Go.Proofs.Ytdchcggllcgokaa.Q
open Go.RowKit Go.Proofs.Ytdchcggllcgokaa.L Go.Proofs.Ytdchcggllcgokaa.U Go.Proofs.Ytdchcggllcgokaa.E Go.Proofs.Ytdchcggllcgokaa.R Go.Proofs.YtdchcggllcgokaaW.PrintWords
set_option linter.unusedVariables false
set_option linter.unusedSimpArgs false
set_option maxRecDepth 100000 in
set_option maxHeartbeats 8000000 in
theorem sGet_6 (xs : List Int) (HX : Hid (xs.length = 64)) (D l : List Int) (HD : Hid (D.length = 44)) (HLl : Hid (l.length = 16)) (n i m s r se cu gn : Nat) (nl : n < 18446744073709551616) (il : i < 18446744073709551616) (ml : m < 256) (sl : s < 65536) (rl : r < 65536) (el : se < 256) (ul : cu < 65536) (gl : gn < 256) (q lf : Bool) (hq : ((gn : Int) == 1) = q) (hqn : (gn == 1) = q) (h1 : gn ≤ 1) (hlf : lf = false)
    (PG : Hid (∀ w : World, Calls Try.prog 59 #[blk xs] w fun e w' => (∃ A k, e = .returned (.tuple #[.int .u64 (n : Int), .slice A 44 k, .int .i64 0]) ∧ Byts w.heap.size w' A k D) ∧ Below w.heap.size w w'))
    (P0 : Hid (AtD 44 0 8 D i)) (P1 : Hid (AtD 44 8 1 D m)) (P2 : Hid (AtD 44 9 2 D s)) (P3 : Hid (AtD 44 11 2 D r)) (P4 : Hid (AtD 44 13 1 D se)) (P5 : Hid (AtD 44 18 2 D cu)) (P6 : Hid (AtD 44 20 1 D gn))
    (PU : Hid (∀ (A : Option Addr) (c : Nat) (w : World), ReadsInt w .u8 A 30 (D.drop 14) → Calls Try.prog 36 #[.slice A 30 c, .int .i64 2, .int .i64 16] w fun e w' => (∃ A' c', e = .returned (.tuple #[.slice A' 16 c', .int .i64 0]) ∧ Byts w.heap.size w' A' c' l) ∧ Below w.heap.size w w'))
    (PF : Hid (∀ (A : Option Addr) (c : Nat) (w : World), ReadsInt w .u8 A 23 (D.drop 21) → Calls Try.prog 136 #[.slice A 23 c, .func (.func 137) #[] #[]] w fun e w' => e = .returned (.bool lf) ∧ Below w.heap.size w w'))
    (PE : Hid (∀ w : World, Calls Try.prog 138 #[.int .u64 (n : Int)] w fun e w' => e = .returned (.bool true) ∧ Below w.heap.size w w'))
    (PM : Hid (∀ w : World, Calls Try.prog 107 #[sup ⟨i, (se : Int), ⟨(m : Int), (s : Int), (r : Int), l, (cu : Int), q⟩⟩] w fun e w' => e = .returned (.bool true) ∧ Below w.heap.size w w')) (w : World) : Calls Try.prog 103 #[blk xs] w fun e w' => e = .returned (.tuple #[.int .u64 (n : Int), sup ⟨i, (se : Int), ⟨(m : Int), (s : Int), (r : Int), l, (cu : Int), q⟩⟩, .int .i64 0]) ∧ Below w.heap.size w w' := by
  have HB := Lib.hid (Below.refl w.heap.size w)
  subst hlf
  have g1 : decide (1 < gn) = false := by simp; omega
  have g2 : decide ((1 : Int) < (gn : Int)) = false := by simp; omega
  have tok0 : True := trivial
  go_enter Try.func103, Try.ntmps103
  go_wp2_with (first
    | (go_skip)
    | (refine F.blkBox (.tmp 0) rfl rfl HX.out rfl ?_; intro w1 hk hb hz1; have K1 := Lib.hid hk; replace HB := Lib.hid (below_ext HB.out hb); clear hk hb)
    | (have _t := tok0; refine supAlloc rfl rfl ?_; intro w2 hk hb hz2; replace K1 := Lib.hid (K1.out.below hb); have K3 := Lib.hid hk; replace HB := Lib.hid (below_ext HB.out hb); have tok1 : True := trivial; clear hk hb _t tok0)
    | (refine F.blkLoad (.tmp 1) rfl K1.out rfl rfl ?_)
    | (go_at_call 59; refine (PG.out _).mono ?_; rintro e w3 ⟨⟨A1, c1, rfl, o1⟩, hb⟩; have c44 : 44 ≤ c1 := (by have h := o1.le; rw [HD.out] at h; exact h); have cm := o1.cap; have O1 := Lib.hid o1; replace K3 := Lib.hid (K3.out.below hb); replace HB := Lib.hid (below_ext HB.out hb); have hz3 := hb.size; clear hb o1 K1)
    | (refine F.rowBox TR (.tmp 25) rfl rfl rfl ?_; intro w4 hk hb hz4; replace K3 := Lib.hid (K3.out.below hb); replace O1 := Lib.hid (O1.out.below hb); replace HB := Lib.hid (below_ext HB.out hb); have KR := Lib.hid (show Row TR w4 w3.heap.size (rdr A1 c1 0) from hk); have tp0 : True := trivial; clear hk hb)
    | (have _t := tp0; go_at_call 135; refine (take_any D _ 8 0 c1 i A1 (by decide) (by decide) c44 cm P0 _ KR (Lib.hid (rd44 HD.out O1.out))).mono ?_; rintro e w5 ⟨rfl, hk, hg⟩; have l5 := KR.out.lt; replace HB := Lib.hid (below_at HB.out hg (by omega) KR.out.lt); replace K3 := Lib.hid (K3.out.grown hg (by omega)); replace O1 := Lib.hid (Byts.apart O1.out KR.out hg (by decide)); replace KR := Lib.hid hk; have hz5 := hg.size; have tp1 : True := trivial; clear hk hg _t tp0 l5)
    | (refine supBuildI (.tmp 28) rfl rfl rfl ?_)
    | (have _t := tok1; refine supAlloc rfl rfl ?_; intro w6 hk hb hz6; replace K3 := Lib.hid (K3.out.below hb); replace KR := Lib.hid (KR.out.below hb); replace O1 := Lib.hid (O1.out.below hb); replace HB := Lib.hid (below_ext HB.out hb); have K9 := Lib.hid hk; clear hk hb _t tok1)
    | (refine supStore (.tmp 9) (.tmp 29) rfl K9.out rfl rfl zero16_length rfl ?_; intro w7 hk hg; replace HB := Lib.hid (below_at HB.out hg (by omega) K9.out.lt); replace K3 := Lib.hid (K3.out.grown hg (by omega)); replace KR := Lib.hid (KR.out.grown hg (by omega)); replace O1 := Lib.hid (Byts.apart O1.out K9.out.2 hg (by decide)); replace K9 := Lib.hid (show Sup w7 w5.heap.size ⟨i, 0, ⟨0, 0, 0, zero16, 0, false⟩⟩ from hk); have hz7 := hg.size; clear hk hg)
    | (have _t := tp1; go_at_call 135; refine (take_any D _ 1 8 c1 m A1 (by decide) (by decide) c44 cm P1 _ KR (Lib.hid (rd44 HD.out O1.out))).mono ?_; rintro e w8 ⟨rfl, hk, hg⟩; have l8 := KR.out.lt; replace HB := Lib.hid (below_at HB.out hg (by omega) KR.out.lt); replace K3 := Lib.hid (K3.out.grown hg (by omega)); replace K9 := Lib.hid (K9.out.grown hg (by omega)); replace O1 := Lib.hid (Byts.apart O1.out KR.out hg (by decide)); replace KR := Lib.hid hk; have hz8 := hg.size; have tp2 : True := trivial; clear hk hg _t tp1 l8)
    | (have _t := tp2; go_at_call 135; refine (take_any D _ 2 9 c1 s A1 (by decide) (by decide) c44 cm P2 _ KR (Lib.hid (rd44 HD.out O1.out))).mono ?_; rintro e w9 ⟨rfl, hk, hg⟩; have l9 := KR.out.lt; replace HB := Lib.hid (below_at HB.out hg (by omega) KR.out.lt); replace K3 := Lib.hid (K3.out.grown hg (by omega)); replace K9 := Lib.hid (K9.out.grown hg (by omega)); replace O1 := Lib.hid (Byts.apart O1.out KR.out hg (by decide)); replace KR := Lib.hid hk; have hz9 := hg.size; have tp3 : True := trivial; clear hk hg _t tp2 l9)
    | (have _t := tp3; go_at_call 135; refine (take_any D _ 2 11 c1 r A1 (by decide) (by decide) c44 cm P3 _ KR (Lib.hid (rd44 HD.out O1.out))).mono ?_; rintro e w10 ⟨rfl, hk, hg⟩; have l10 := KR.out.lt; replace HB := Lib.hid (below_at HB.out hg (by omega) KR.out.lt); replace K3 := Lib.hid (K3.out.grown hg (by omega)); replace K9 := Lib.hid (K9.out.grown hg (by omega)); replace O1 := Lib.hid (Byts.apart O1.out KR.out hg (by decide)); replace KR := Lib.hid hk; have hz10 := hg.size; have tp4 : True := trivial; clear hk hg _t tp3 l10)
    | (refine supSetGeo (.tmp 41) (.tmp 39) rfl K9.out rfl _ _ _ rfl rfl ?_; intro w11 hk hg; replace HB := Lib.hid (below_at HB.out hg (by omega) K9.out.lt); replace K3 := Lib.hid (K3.out.grown hg (by omega)); replace KR := Lib.hid (KR.out.grown hg (by omega)); replace O1 := Lib.hid (Byts.apart O1.out K9.out.2 hg (by decide)); replace K9 := Lib.hid (show Sup w11 w5.heap.size ⟨i, 0, ⟨(m : Int), (s : Int), (r : Int), zero16, 0, false⟩⟩ from hk); have hz11 := hg.size; clear hk hg)
    | (have _t := tp4; go_at_call 135; refine (take_any D _ 1 13 c1 se A1 (by decide) (by decide) c44 cm P4 _ KR (Lib.hid (rd44 HD.out O1.out))).mono ?_; rintro e w12 ⟨rfl, hk, hg⟩; have l12 := KR.out.lt; replace HB := Lib.hid (below_at HB.out hg (by omega) KR.out.lt); replace K3 := Lib.hid (K3.out.grown hg (by omega)); replace K9 := Lib.hid (K9.out.grown hg (by omega)); replace O1 := Lib.hid (Byts.apart O1.out KR.out hg (by decide)); replace KR := Lib.hid hk; have hz12 := hg.size; have tp5 : True := trivial; clear hk hg _t tp4 l12)
    | (refine supSetSelf (.tmp 45) (.tmp 44) rfl K9.out rfl _ rfl rfl ?_; intro w13 hk hg; replace HB := Lib.hid (below_at HB.out hg (by omega) K9.out.lt); replace K3 := Lib.hid (K3.out.grown hg (by omega)); replace KR := Lib.hid (KR.out.grown hg (by omega)); replace O1 := Lib.hid (Byts.apart O1.out K9.out.2 hg (by decide)); replace K9 := Lib.hid (show Sup w13 w5.heap.size ⟨i, (se : Int), ⟨(m : Int), (s : Int), (r : Int), zero16, 0, false⟩⟩ from hk); have hz13 := hg.size; clear hk hg))
  have c0 := KR.out.cell (o := 0) rfl
  have c1_ := KR.out.cell (o := 1) rfl
  have rD : Hid (ReadsInt w13.drew .u8 A1 44 D) := Lib.hid (rd44 HD.out O1.out)
  have lR := KR.out.lt
  have bn : w13.heap.size ≤ w13.drew.heap.size := Nat.le_refl _
  have HG := Lib.hid lR
  go_region_held3 (fun w' => w'.cell? ⟨w3.heap.size, 0, none⟩ = some (.slice A1 44 c1) ∧ w'.cell? ⟨w3.heap.size, 1, none⟩ = some (.int .i64 14) ∧ Hid (ReadsInt w' .u8 A1 44 D) ∧ w13.heap.size ≤ w'.heap.size)
    (first | exact S8_end KR.out (rd44 HD.out O1.out) hb14 | go_keep_ranges | go_keep)
    (first
      | (go_at_call 36; refine (PU.out _ _ _ (rd_drop14 (by assumption) c44)).mono ?_; rintro e w14 ⟨⟨A2, c2, rfl, o2⟩, hb14⟩; have O2 := Lib.hid o2; clear o2))
  have hb2 : Below w13.heap.size w13 w14 := below_ext (below_drewN (Below.refl _ _) 1) hb14
  have hz14 := hb2.size
  replace O2 := Lib.hid (own_lower O2.out (show w13.heap.size ≤ _ from Nat.le_refl _))
  replace K3 := Lib.hid (K3.out.below hb2)
  replace KR := Lib.hid (KR.out.below hb2)
  replace K9 := Lib.hid (K9.out.below hb2)
  replace O1 := Lib.hid (O1.out.below hb2)
  replace HB := Lib.hid (below_ext HB.out hb2)
  clear hb2 hb14 c0 c1_ rD lR bn HG PU

  go_wp2_with (first
    | (go_skip)
    | (refine stsAll (.tmp 60) rfl rfl rfl ?_)
    | (refine supCopy (.tmp 61) (.tmp 62) rfl K9.out rfl (rd16 HLl.out O2.out) rfl rfl ?_; intro w15 hk hg; replace HB := Lib.hid (below_at HB.out hg (by omega) K9.out.lt); replace K3 := Lib.hid (K3.out.grown hg (by omega)); replace KR := Lib.hid (KR.out.grown hg (by omega)); replace O1 := Lib.hid (Byts.apart O1.out K9.out.2 hg (by decide)); replace K9 := Lib.hid (show Sup w15 w5.heap.size ⟨i, (se : Int), ⟨(m : Int), (s : Int), (r : Int), l, 0, false⟩⟩ from hk); have hz15 := hg.size; clear hk hg O2)
    | (refine F.rowCell _ (.tmp 66) rfl (KR.out.cell (o := 1) rfl) rfl agg_int rfl ?_)
    | (refine F.rowSet _ (.tmp 74) (.tmp 72) rfl KR.out 1 (show 1 < 2 by decide) rfl _ rfl rfl rfl info_int rfl ?_; intro w16 hk hg; have l16 := KR.out.lt; replace HB := Lib.hid (below_at HB.out hg (by omega) KR.out.lt); replace K3 := Lib.hid (K3.out.grown hg (by omega)); replace K9 := Lib.hid (K9.out.grown hg (by omega)); replace O1 := Lib.hid (Byts.apart O1.out KR.out hg (by decide)); replace KR := Lib.hid (show Row TR w16 w3.heap.size (rdr A1 c1 18) from hk); have hz16 := hg.size; clear hk hg l16)
    | (have _t := tp5; go_at_call 135; refine (take_any D _ 2 18 c1 cu A1 (by decide) (by decide) c44 cm P5 _ KR (Lib.hid (rd44 HD.out O1.out))).mono ?_; rintro e w17 ⟨rfl, hk, hg⟩; have l17 := KR.out.lt; replace HB := Lib.hid (below_at HB.out hg (by omega) KR.out.lt); replace K3 := Lib.hid (K3.out.grown hg (by omega)); replace K9 := Lib.hid (K9.out.grown hg (by omega)); replace O1 := Lib.hid (Byts.apart O1.out KR.out hg (by decide)); replace KR := Lib.hid hk; have hz17 := hg.size; have tp6 : True := trivial; clear hk hg _t tp5 l17)
    | (refine supSetCu (.tmp 79) (.tmp 77) rfl K9.out rfl _ rfl rfl ?_; intro w18 hk hg; replace HB := Lib.hid (below_at HB.out hg (by omega) K9.out.lt); replace K3 := Lib.hid (K3.out.grown hg (by omega)); replace KR := Lib.hid (KR.out.grown hg (by omega)); replace O1 := Lib.hid (Byts.apart O1.out K9.out.2 hg (by decide)); replace K9 := Lib.hid (show Sup w18 w5.heap.size ⟨i, (se : Int), ⟨(m : Int), (s : Int), (r : Int), l, (cu : Int), false⟩⟩ from hk); have hz18 := hg.size; clear hk hg)
    | (have _t := tp6; go_at_call 135; refine (take_any D _ 1 20 c1 gn A1 (by decide) (by decide) c44 cm P6 _ KR (Lib.hid (rd44 HD.out O1.out))).mono ?_; rintro e w19 ⟨rfl, hk, hg⟩; have l19 := KR.out.lt; replace HB := Lib.hid (below_at HB.out hg (by omega) KR.out.lt); replace K3 := Lib.hid (K3.out.grown hg (by omega)); replace K9 := Lib.hid (K9.out.grown hg (by omega)); replace O1 := Lib.hid (Byts.apart O1.out KR.out hg (by decide)); replace KR := Lib.hid hk; have hz19 := hg.size; have tp7 : True := trivial; clear hk hg _t tp6 l19)
    | (refine supSetGo (.tmp 85) (.tmp 83) rfl K9.out rfl q rfl rfl ?_; intro w20 hk hg; replace HB := Lib.hid (below_at HB.out hg (by omega) K9.out.lt); replace K3 := Lib.hid (K3.out.grown hg (by omega)); replace KR := Lib.hid (KR.out.grown hg (by omega)); replace O1 := Lib.hid (Byts.apart O1.out K9.out.2 hg (by decide)); replace K9 := Lib.hid (show Sup w20 w5.heap.size ⟨i, (se : Int), ⟨(m : Int), (s : Int), (r : Int), l, (cu : Int), q⟩⟩ from hk); have hz20 := hg.size; clear hk hg))
  simp only [Act.put]
  replace KR := Lib.hid (show Row TR w20 w3.heap.size (rdr A1 c1 21) from KR.out)
  have HRd : ∀ x : Later w20, ReadsInt x.w .u8 (if c1 = 21 then A1 else A1.map (·.add 21)) 23 (D.drop 21) := fun x => ((rd44 HD.out O1.out).below x.b).drop_ 21 (by decide) c44
  have HRe : ∀ x : Later w20, ReadsInt x.w .u8 (A1.map (·.add 21)) 23 (D.drop 21) := fun x => by
    have h := HRd x
    rw [if_neg (by omega)] at h
    exact h
  have qKR := KR.out.later
  have tq0 : True := trivial
  refine wp_region_cls (fun w9 => ∃ x : Later w20, w9 = x.w) (by kernel_rfl) (by kernel_rfl) (Later.drew _) ?_
  repeat (first
    | go_big_quiet_skip
    | (refine qRowCell rfl _ (.tmp 88) rfl (o := 0) qKR rfl rfl agg_sl ?_; simp only [Act.put, List.setIfInBounds_toArray, List.set_cons_zero, List.set_cons_succ])
    | (refine qRowCell rfl _ (.tmp 92) rfl (o := 1) qKR rfl rfl agg_int ?_; simp only [Act.put, List.setIfInBounds_toArray, List.set_cons_zero, List.set_cons_succ])
    | (have _t := tq0; refine qAt 136 rfl ?_; go_big_quiet_want; go_big_quiet_op; apply Exists.intro; refine ⟨fun x => ?_, ?_⟩; (· refine (PF.out _ _ x.w (by first | exact HRe x | exact HRd x)).mono ?_; rintro e x2 ⟨rfl, hb⟩; exact ⟨rfl, x.ext hb⟩); go_big_quiet_on; have tq1 : True := trivial; clear _t tq0)
    | (go_big_quiet_want; go_big_quiet_op; go_big_quiet_on))
  refine wpQuiet_nil ?_
  rintro w9 ⟨⟨x9, h9⟩, rfl⟩
  have hb9 := below_ext HB.out h9
  replace K3 := Lib.hid (K3.out.below h9)
  replace K9 := Lib.hid (K9.out.below h9)
  replace HB := Lib.hid hb9
  have hz21 := h9.size
  clear h9 hb9 qKR KR HRd HRe O1
  go_wp2_with (first
    | (go_skip)
    | (go_at_call 138; refine (PE.out _).mono ?_; rintro e w22 ⟨rfl, hb⟩; replace K3 := Lib.hid (K3.out.below hb); replace K9 := Lib.hid (K9.out.below hb); replace HB := Lib.hid (below_ext HB.out hb); have hz22 := hb.size; clear hb)
    | (refine supLoad (.tmp 9) rfl K9.out rfl rfl ?_)
    | (go_at_call 107; refine (PM.out _).mono ?_; rintro e w23 ⟨rfl, hb⟩; replace K3 := Lib.hid (K3.out.below hb); replace K9 := Lib.hid (K9.out.below hb); replace HB := Lib.hid (below_ext HB.out hb); have hz23 := hb.size; clear hb))
  have LK := K9.out.lt
  refine wp_region_still_tail 3 (by kernel_rfl) (by kernel_rfl) ?_
  simp only [List.take_succ_cons, List.take_zero, List.drop_succ_cons, List.drop_zero]
  still_step
  refine sSupLoad (.tmp 9) rfl (K9.out.below (below_drewN (Below.refl _ _) 1)) rfl rfl ?_
  still_step
  refine wpStill_nil ?_
  have hbd := below_drewN HB.out 1
  have K3d := Lib.hid (K3.out.below (below_drewN (Below.refl w23.heap.size w23) 1))
  change wpList _ _ _ _ _ (w23.drewN 1)
  replace HB := Lib.hid hbd
  have hzd : w23.heap.size ≤ (w23.drewN 1).heap.size := Nat.le_refl _
  clear hbd
  generalize w23.drewN 1 = w30 at K3d HB hzd ⊢
  go_wp2_with (first
    | (go_skip)
    | (refine supStore (.tmp 3) (.tmp 113) rfl K3d.out rfl rfl HLl.out rfl ?_; intro w31 hk hg; replace HB := Lib.hid (below_at HB.out hg (by omega) K3d.out.lt); replace K3d := Lib.hid hk; clear hk hg))
  exact bodyPost_ret (v := .tuple #[.int .u64 (n : Int), sup ⟨i, (se : Int), ⟨(m : Int), (s : Int), (r : Int), l, (cu : Int), q⟩⟩, .int .i64 0]) (ret_sup rfl _ _ K3d.out rfl rfl rfl) rfl ⟨rfl, HB.out⟩
end Go.Proofs.Ytdchcggllcgokaa.Q
